/- Written by wip/pr.py of this session, for the law FnSets: Lean functions with the answers of the program's, and the proofs of that; where the kit's print has no word, by hand. -/
import Derived.Test.YthincjdobjccfaaHFnSetsx0
import Derived.Test.YthincjdobjccfaaHFnSetsx1
import Derived.Test.YthincjdobjccfaaHFnSetsx4
import Derived.Test.YthincjdobjccfaaHFnSetsx5
import Derived.Test.YthincjdobjccfaaHFnSetsx8
import Derived.Test.YthincjdobjccfaaHFnSetsx9
import Derived.Test.YthincjdobjccfaaHFnSetsx10
import Derived.Test.YthincjdobjccfaaHFnSetsx12
import Derived.Test.YthincjdobjccfaaHFnSetsx13
import Derived.Test.YthincjdobjccfaaHFnSetsx14
import Derived.Test.YthincjdobjccfaaHFnSetsx15
import Derived.Test.YthincjdobjccfaaHFnSetsx16
namespace Go.Proofs.Ythincjdobjccfaa.HFnSets
open Go.RowKit Go.Proofs.YthincjdobjccfaaW.PrintWords Go.Proofs.YthincjdobjccfaaW.PrintLast Go.Proofs.YthincjdobjccfaaW.PrintMore
attribute [local go_sem] max2_int min2_int max_two min_two max_three min_three max_four min_four   -- for this text's walks alone
set_option linter.unusedVariables false
set_option linter.unusedSimpArgs false

/-! ### laws_FnSets: function 7 -/
mutual
def laws_FnSets.j0 : Nat → List Int → List Int → List Int → List Int → Bool → List Int → Bool → List Int → Bool → Bool → Option (Bool)
  | 0, _, _, _, _, _, _, _, _, _, _ => none
  | k + 1, x1, x5, x6, x7, x8, x11, x12, x15, x16, x125 => if x125 = true then (some false) else ((spec_DrawInSet.f k x1).bind fun bt498 => ((impl_InSet.f k x5 bt498.2).bind fun bt502 => ((impl_InSet.f k x6 bt498.2).bind fun bt504 => (if bt502.2 = true then (laws_FnSets.j1 k x1 x5 x7 x8 x11 x12 x15 x16 bt498.2 bt502.1 bt504.1 bt504.2) else (laws_FnSets.j1 k x1 x5 x7 x8 x11 x12 x15 x16 bt498.2 bt502.1 bt504.1 false)))))
def laws_FnSets.j1 : Nat → List Int → List Int → List Int → Bool → List Int → Bool → List Int → Bool → Int → Bool → Bool → Bool → Option (Bool)
  | 0, _, _, _, _, _, _, _, _, _, _, _, _ => none
  | k + 1, x1, x5, x7, x8, x11, x12, x15, x16, x20, x21, x23, x146 => if x146 = true then ((impl_InSet.f k x7 x20).bind fun bt506 => ((impl_InSet.f k x11 x20).bind fun bt508 => (if x8 = true then (if bt506.2 = true then (if x21 = true then (if (bt506.1 != true) = true then (some false) else (if x12 = true then (if bt508.2 = true then (if (bt508.1 != x23) = true then (some false) else (laws_FnSets.j2 k x1 x5 x15 x16)) else (some false)) else (laws_FnSets.j2 k x1 x5 x15 x16))) else (if (bt506.1 != x23) = true then (some false) else (if x12 = true then (if bt508.2 = true then (if (bt508.1 != false) = true then (some false) else (laws_FnSets.j2 k x1 x5 x15 x16)) else (some false)) else (laws_FnSets.j2 k x1 x5 x15 x16)))) else (some false)) else (if x12 = true then (if bt508.2 = true then (if x21 = true then (if (bt508.1 != x23) = true then (some false) else (laws_FnSets.j2 k x1 x5 x15 x16)) else (if (bt508.1 != false) = true then (some false) else (laws_FnSets.j2 k x1 x5 x15 x16))) else (some false)) else (laws_FnSets.j2 k x1 x5 x15 x16))))) else (laws_FnSets.j2 k x1 x5 x15 x16)
def laws_FnSets.j2 : Nat → List Int → List Int → List Int → Bool → Option (Bool)
  | 0, _, _, _, _ => none
  | k + 1, x1, x5, x15, x16 => if x16 = true then ((impl_NotSet.f k x15).bind fun bt510 => ((impl_CountSet.f k x5).bind fun bt514 => ((impl_CountSet.f k x15).bind fun bt516 => (if bt510.2 = true then ((laws_sameInts.f k bt510.1 x5).bind fun t518 => (if t518 = true then (if bt514.2 = true then (if bt516.2 = true then (if (wrap64 (bt514.1 + bt516.1)) = 1114112 then (laws_FnSets.j3 k x1) else (some false)) else (some false)) else (some false)) else (some false))) else (if bt514.2 = true then (if bt516.2 = true then (if (wrap64 (bt514.1 + bt516.1)) = 1114112 then (laws_FnSets.j3 k x1) else (some false)) else (some false)) else (some false)))))) else (laws_FnSets.j3 k x1)
def laws_FnSets.j3 : Nat → List Int → Option (Bool)
  | 0, _ => none
  | k + 1, x1 => (spec_DrawInSet.f k x1).bind fun bt519 => ((impl_InSet.f k bt519.1 bt519.2).bind fun bt523 => ((spec_InSet.f k bt519.1 bt519.2).bind fun bt525 => ((spec_DrawCountSet.f k x1).bind fun t527 => ((impl_CountSet.f k t527).bind fun bt530 => ((spec_CountSet.f k t527).bind fun bt532 => (if (bt523.2 == bt525.2) = true then (if (bt523.1 == bt525.1) = true then (if (bt530.2 == bt532.2) = true then (some (bt530.1 == bt532.1)) else (some false)) else (some false)) else (some false)))))))
end
def laws_FnSets.f (k : Nat) (l0 : List Int) (l1 : List Int) : Option (Bool) := (laws_big.f l0 l1).bind fun t462 => (if t462 = true then (some true) else ((spec_DrawUnionSet.f k l0).bind fun bt463 => ((impl_UnionSet.f k bt463.1 bt463.2).bind fun bt469 => ((spec_UnionSet.f k bt463.1 bt463.2).bind fun bt473 => ((impl_MeetSet.f k bt463.1 bt463.2).bind fun bt477 => ((spec_MeetSet.f k bt463.1 bt463.2).bind fun bt481 => ((impl_NotSet.f k bt463.1).bind fun bt485 => ((spec_NotSet.f k bt463.1).bind fun bt489 => (if (bt469.2 != bt473.2) = true then (laws_FnSets.j0 k l1 bt463.1 bt463.2 bt469.1 bt469.2 bt477.1 bt477.2 bt485.1 bt485.2 true) else ((laws_sameInts.f k bt469.1 bt473.1).bind fun t493 => (if t493 = true then (if (bt477.2 != bt481.2) = true then (laws_FnSets.j0 k l1 bt463.1 bt463.2 bt469.1 bt469.2 bt477.1 bt477.2 bt485.1 bt485.2 true) else ((laws_sameInts.f k bt477.1 bt481.1).bind fun t494 => (if t494 = true then (if (bt485.2 != bt489.2) = true then (laws_FnSets.j0 k l1 bt463.1 bt463.2 bt469.1 bt469.2 bt477.1 bt477.2 bt485.1 bt485.2 true) else ((laws_sameInts.f k bt485.1 bt489.1).bind fun t495 => (if t495 = true then ((impl_GoodSet.f k bt463.1).bind fun t496 => ((spec_GoodSet.f k bt463.1).bind fun t497 => (laws_FnSets.j0 k l1 bt463.1 bt463.2 bt469.1 bt469.2 bt477.1 bt477.2 bt485.1 bt485.2 (t496 != t497)))) else (laws_FnSets.j0 k l1 bt463.1 bt463.2 bt469.1 bt469.2 bt477.1 bt477.2 bt485.1 bt485.2 true)))) else (laws_FnSets.j0 k l1 bt463.1 bt463.2 bt469.1 bt469.2 bt477.1 bt477.2 bt485.1 bt485.2 true)))) else (laws_FnSets.j0 k l1 bt463.1 bt463.2 bt469.1 bt469.2 bt477.1 bt477.2 bt485.1 bt485.2 true))))))))))))
theorem laws_FnSets.mono_l : ∀ k, (∀ y0 y1 y2 y3 y4 y5 y6 y7 y8 y9, LeO (laws_FnSets.j0 k y0 y1 y2 y3 y4 y5 y6 y7 y8 y9) (laws_FnSets.j0 (k + 1) y0 y1 y2 y3 y4 y5 y6 y7 y8 y9)) ∧ (∀ y0 y1 y2 y3 y4 y5 y6 y7 y8 y9 y10 y11, LeO (laws_FnSets.j1 k y0 y1 y2 y3 y4 y5 y6 y7 y8 y9 y10 y11) (laws_FnSets.j1 (k + 1) y0 y1 y2 y3 y4 y5 y6 y7 y8 y9 y10 y11)) ∧ (∀ y0 y1 y2 y3, LeO (laws_FnSets.j2 k y0 y1 y2 y3) (laws_FnSets.j2 (k + 1) y0 y1 y2 y3)) ∧ (∀ y0, LeO (laws_FnSets.j3 k y0) (laws_FnSets.j3 (k + 1) y0))
  | 0 => ⟨fun _ _ _ _ _ _ _ _ _ _ r h => by simp [laws_FnSets.j0] at h, fun _ _ _ _ _ _ _ _ _ _ _ _ r h => by simp [laws_FnSets.j1] at h, fun _ _ _ _ r h => by simp [laws_FnSets.j2] at h, fun _ r h => by simp [laws_FnSets.j3] at h⟩
  | k + 1 => by
    obtain ⟨ih0, ih1, ih2, ih3⟩ := laws_FnSets.mono_l k
    refine ⟨?_, ?_, ?_, ?_⟩
    · intro y0 y1 y2 y3 y4 y5 y6 y7 y8 y9
      unfold laws_FnSets.j0
      repeat' first
      | (with_reducible exact ih0 _ _ _ _ _ _ _ _ _ _)
      | (with_reducible exact ih1 _ _ _ _ _ _ _ _ _ _ _ _)
      | (with_reducible exact ih2 _ _ _ _)
      | (with_reducible exact ih3 _)
      | (with_reducible exact impl_CountSet.mono _ _)
      | (with_reducible exact impl_GoodSet.mono _ _)
      | (with_reducible exact impl_InSet.mono _ _ _)
      | (with_reducible exact impl_MeetSet.mono _ _ _)
      | (with_reducible exact impl_NotSet.mono _ _)
      | (with_reducible exact impl_UnionSet.mono _ _ _)
      | (with_reducible exact laws_sameInts.mono _ _ _)
      | (with_reducible exact spec_CountSet.mono _ _)
      | (with_reducible exact spec_DrawCountSet.mono _ _)
      | (with_reducible exact spec_DrawInSet.mono _ _)
      | (with_reducible exact spec_DrawUnionSet.mono _ _)
      | (with_reducible exact spec_GoodSet.mono _ _)
      | (with_reducible exact spec_InSet.mono _ _ _)
      | (with_reducible exact spec_MeetSet.mono _ _ _)
      | (with_reducible exact spec_NotSet.mono _ _)
      | (with_reducible exact spec_UnionSet.mono _ _ _)
      | (with_reducible exact LeO.refl _)
      | (with_reducible exact LeO.none _)
      | (with_reducible refine LeO.ite ?_ ?_)
      | (with_reducible refine LeO.bind ?_ (fun _ => ?_))
      | exact ih0 _ _ _ _ _ _ _ _ _ _
      | exact ih1 _ _ _ _ _ _ _ _ _ _ _ _
      | exact ih2 _ _ _ _
      | exact ih3 _
      | exact impl_CountSet.mono _ _
      | exact impl_GoodSet.mono _ _
      | exact impl_InSet.mono _ _ _
      | exact impl_MeetSet.mono _ _ _
      | exact impl_NotSet.mono _ _
      | exact impl_UnionSet.mono _ _ _
      | exact laws_sameInts.mono _ _ _
      | exact spec_CountSet.mono _ _
      | exact spec_DrawCountSet.mono _ _
      | exact spec_DrawInSet.mono _ _
      | exact spec_DrawUnionSet.mono _ _
      | exact spec_GoodSet.mono _ _
      | exact spec_InSet.mono _ _ _
      | exact spec_MeetSet.mono _ _ _
      | exact spec_NotSet.mono _ _
      | exact spec_UnionSet.mono _ _ _
      | exact LeO.none _
      | refine LeO.ite ?_ ?_
      | refine LeO.bind ?_ (fun _ => ?_)
    · intro y0 y1 y2 y3 y4 y5 y6 y7 y8 y9 y10 y11
      unfold laws_FnSets.j1
      repeat' first
      | (with_reducible exact ih0 _ _ _ _ _ _ _ _ _ _)
      | (with_reducible exact ih1 _ _ _ _ _ _ _ _ _ _ _ _)
      | (with_reducible exact ih2 _ _ _ _)
      | (with_reducible exact ih3 _)
      | (with_reducible exact impl_CountSet.mono _ _)
      | (with_reducible exact impl_GoodSet.mono _ _)
      | (with_reducible exact impl_InSet.mono _ _ _)
      | (with_reducible exact impl_MeetSet.mono _ _ _)
      | (with_reducible exact impl_NotSet.mono _ _)
      | (with_reducible exact impl_UnionSet.mono _ _ _)
      | (with_reducible exact laws_sameInts.mono _ _ _)
      | (with_reducible exact spec_CountSet.mono _ _)
      | (with_reducible exact spec_DrawCountSet.mono _ _)
      | (with_reducible exact spec_DrawInSet.mono _ _)
      | (with_reducible exact spec_DrawUnionSet.mono _ _)
      | (with_reducible exact spec_GoodSet.mono _ _)
      | (with_reducible exact spec_InSet.mono _ _ _)
      | (with_reducible exact spec_MeetSet.mono _ _ _)
      | (with_reducible exact spec_NotSet.mono _ _)
      | (with_reducible exact spec_UnionSet.mono _ _ _)
      | (with_reducible exact LeO.refl _)
      | (with_reducible exact LeO.none _)
      | (with_reducible refine LeO.ite ?_ ?_)
      | (with_reducible refine LeO.bind ?_ (fun _ => ?_))
      | exact ih0 _ _ _ _ _ _ _ _ _ _
      | exact ih1 _ _ _ _ _ _ _ _ _ _ _ _
      | exact ih2 _ _ _ _
      | exact ih3 _
      | exact impl_CountSet.mono _ _
      | exact impl_GoodSet.mono _ _
      | exact impl_InSet.mono _ _ _
      | exact impl_MeetSet.mono _ _ _
      | exact impl_NotSet.mono _ _
      | exact impl_UnionSet.mono _ _ _
      | exact laws_sameInts.mono _ _ _
      | exact spec_CountSet.mono _ _
      | exact spec_DrawCountSet.mono _ _
      | exact spec_DrawInSet.mono _ _
      | exact spec_DrawUnionSet.mono _ _
      | exact spec_GoodSet.mono _ _
      | exact spec_InSet.mono _ _ _
      | exact spec_MeetSet.mono _ _ _
      | exact spec_NotSet.mono _ _
      | exact spec_UnionSet.mono _ _ _
      | exact LeO.none _
      | refine LeO.ite ?_ ?_
      | refine LeO.bind ?_ (fun _ => ?_)
    · intro y0 y1 y2 y3
      unfold laws_FnSets.j2
      repeat' first
      | (with_reducible exact ih0 _ _ _ _ _ _ _ _ _ _)
      | (with_reducible exact ih1 _ _ _ _ _ _ _ _ _ _ _ _)
      | (with_reducible exact ih2 _ _ _ _)
      | (with_reducible exact ih3 _)
      | (with_reducible exact impl_CountSet.mono _ _)
      | (with_reducible exact impl_GoodSet.mono _ _)
      | (with_reducible exact impl_InSet.mono _ _ _)
      | (with_reducible exact impl_MeetSet.mono _ _ _)
      | (with_reducible exact impl_NotSet.mono _ _)
      | (with_reducible exact impl_UnionSet.mono _ _ _)
      | (with_reducible exact laws_sameInts.mono _ _ _)
      | (with_reducible exact spec_CountSet.mono _ _)
      | (with_reducible exact spec_DrawCountSet.mono _ _)
      | (with_reducible exact spec_DrawInSet.mono _ _)
      | (with_reducible exact spec_DrawUnionSet.mono _ _)
      | (with_reducible exact spec_GoodSet.mono _ _)
      | (with_reducible exact spec_InSet.mono _ _ _)
      | (with_reducible exact spec_MeetSet.mono _ _ _)
      | (with_reducible exact spec_NotSet.mono _ _)
      | (with_reducible exact spec_UnionSet.mono _ _ _)
      | (with_reducible exact LeO.refl _)
      | (with_reducible exact LeO.none _)
      | (with_reducible refine LeO.ite ?_ ?_)
      | (with_reducible refine LeO.bind ?_ (fun _ => ?_))
      | exact ih0 _ _ _ _ _ _ _ _ _ _
      | exact ih1 _ _ _ _ _ _ _ _ _ _ _ _
      | exact ih2 _ _ _ _
      | exact ih3 _
      | exact impl_CountSet.mono _ _
      | exact impl_GoodSet.mono _ _
      | exact impl_InSet.mono _ _ _
      | exact impl_MeetSet.mono _ _ _
      | exact impl_NotSet.mono _ _
      | exact impl_UnionSet.mono _ _ _
      | exact laws_sameInts.mono _ _ _
      | exact spec_CountSet.mono _ _
      | exact spec_DrawCountSet.mono _ _
      | exact spec_DrawInSet.mono _ _
      | exact spec_DrawUnionSet.mono _ _
      | exact spec_GoodSet.mono _ _
      | exact spec_InSet.mono _ _ _
      | exact spec_MeetSet.mono _ _ _
      | exact spec_NotSet.mono _ _
      | exact spec_UnionSet.mono _ _ _
      | exact LeO.none _
      | refine LeO.ite ?_ ?_
      | refine LeO.bind ?_ (fun _ => ?_)
    · intro y0
      unfold laws_FnSets.j3
      repeat' first
      | (with_reducible exact ih0 _ _ _ _ _ _ _ _ _ _)
      | (with_reducible exact ih1 _ _ _ _ _ _ _ _ _ _ _ _)
      | (with_reducible exact ih2 _ _ _ _)
      | (with_reducible exact ih3 _)
      | (with_reducible exact impl_CountSet.mono _ _)
      | (with_reducible exact impl_GoodSet.mono _ _)
      | (with_reducible exact impl_InSet.mono _ _ _)
      | (with_reducible exact impl_MeetSet.mono _ _ _)
      | (with_reducible exact impl_NotSet.mono _ _)
      | (with_reducible exact impl_UnionSet.mono _ _ _)
      | (with_reducible exact laws_sameInts.mono _ _ _)
      | (with_reducible exact spec_CountSet.mono _ _)
      | (with_reducible exact spec_DrawCountSet.mono _ _)
      | (with_reducible exact spec_DrawInSet.mono _ _)
      | (with_reducible exact spec_DrawUnionSet.mono _ _)
      | (with_reducible exact spec_GoodSet.mono _ _)
      | (with_reducible exact spec_InSet.mono _ _ _)
      | (with_reducible exact spec_MeetSet.mono _ _ _)
      | (with_reducible exact spec_NotSet.mono _ _)
      | (with_reducible exact spec_UnionSet.mono _ _ _)
      | (with_reducible exact LeO.refl _)
      | (with_reducible exact LeO.none _)
      | (with_reducible refine LeO.ite ?_ ?_)
      | (with_reducible refine LeO.bind ?_ (fun _ => ?_))
      | exact ih0 _ _ _ _ _ _ _ _ _ _
      | exact ih1 _ _ _ _ _ _ _ _ _ _ _ _
      | exact ih2 _ _ _ _
      | exact ih3 _
      | exact impl_CountSet.mono _ _
      | exact impl_GoodSet.mono _ _
      | exact impl_InSet.mono _ _ _
      | exact impl_MeetSet.mono _ _ _
      | exact impl_NotSet.mono _ _
      | exact impl_UnionSet.mono _ _ _
      | exact laws_sameInts.mono _ _ _
      | exact spec_CountSet.mono _ _
      | exact spec_DrawCountSet.mono _ _
      | exact spec_DrawInSet.mono _ _
      | exact spec_DrawUnionSet.mono _ _
      | exact spec_GoodSet.mono _ _
      | exact spec_InSet.mono _ _ _
      | exact spec_MeetSet.mono _ _ _
      | exact spec_NotSet.mono _ _
      | exact spec_UnionSet.mono _ _ _
      | exact LeO.none _
      | refine LeO.ite ?_ ?_
      | refine LeO.bind ?_ (fun _ => ?_)
theorem laws_FnSets.mono : ∀ a0 a1 k, LeO (laws_FnSets.f k a0 a1) (laws_FnSets.f (k + 1) a0 a1) := by
  intro a0 a1 k
  obtain ⟨ih0, ih1, ih2, ih3⟩ := laws_FnSets.mono_l k
  unfold laws_FnSets.f
  repeat' first
      | (with_reducible exact ih0 _ _ _ _ _ _ _ _ _ _)
      | (with_reducible exact ih1 _ _ _ _ _ _ _ _ _ _ _ _)
      | (with_reducible exact ih2 _ _ _ _)
      | (with_reducible exact ih3 _)
      | (with_reducible exact impl_CountSet.mono _ _)
      | (with_reducible exact impl_GoodSet.mono _ _)
      | (with_reducible exact impl_InSet.mono _ _ _)
      | (with_reducible exact impl_MeetSet.mono _ _ _)
      | (with_reducible exact impl_NotSet.mono _ _)
      | (with_reducible exact impl_UnionSet.mono _ _ _)
      | (with_reducible exact laws_sameInts.mono _ _ _)
      | (with_reducible exact spec_CountSet.mono _ _)
      | (with_reducible exact spec_DrawCountSet.mono _ _)
      | (with_reducible exact spec_DrawInSet.mono _ _)
      | (with_reducible exact spec_DrawUnionSet.mono _ _)
      | (with_reducible exact spec_GoodSet.mono _ _)
      | (with_reducible exact spec_InSet.mono _ _ _)
      | (with_reducible exact spec_MeetSet.mono _ _ _)
      | (with_reducible exact spec_NotSet.mono _ _)
      | (with_reducible exact spec_UnionSet.mono _ _ _)
      | (with_reducible exact LeO.refl _)
      | (with_reducible exact LeO.none _)
      | (with_reducible refine LeO.ite ?_ ?_)
      | (with_reducible refine LeO.bind ?_ (fun _ => ?_))
      | exact ih0 _ _ _ _ _ _ _ _ _ _
      | exact ih1 _ _ _ _ _ _ _ _ _ _ _ _
      | exact ih2 _ _ _ _
      | exact ih3 _
      | exact impl_CountSet.mono _ _
      | exact impl_GoodSet.mono _ _
      | exact impl_InSet.mono _ _ _
      | exact impl_MeetSet.mono _ _ _
      | exact impl_NotSet.mono _ _
      | exact impl_UnionSet.mono _ _ _
      | exact laws_sameInts.mono _ _ _
      | exact spec_CountSet.mono _ _
      | exact spec_DrawCountSet.mono _ _
      | exact spec_DrawInSet.mono _ _
      | exact spec_DrawUnionSet.mono _ _
      | exact spec_GoodSet.mono _ _
      | exact spec_InSet.mono _ _ _
      | exact spec_MeetSet.mono _ _ _
      | exact spec_NotSet.mono _ _
      | exact spec_UnionSet.mono _ _ _
      | exact LeO.none _
      | refine LeO.ite ?_ ?_
      | refine LeO.bind ?_ (fun _ => ?_)
set_option maxHeartbeats 8000000 in
set_option maxRecDepth 100000 in
theorem laws_FnSets.calls (k : Nat) (A0 : Option Addr) (c0 : Nat) (l0 : List Int) (A1 : Option Addr) (c1 : Nat) (l1 : List Int) (r : Bool) (w : World) (hr0 : Kd.C (Kd.int .u8) w A0 l0.length l0) (hc0 : l0.length ≤ c0) (hr1 : Kd.C (Kd.int .u8) w A1 l1.length l1) (hc1 : l1.length ≤ c1) (h : laws_FnSets.f k l0 l1 = some r) (hr_ : r = true) :
    Calls Try.prog 7 #[.slice A0 l0.length c0, .slice A1 l1.length c1] w fun e w' => e = .returned (.bool r) ∧ Below w.heap.size w w' := by
  have HR0 := Aside0.mk hr0
  have HC0 := Aside0.mk hc0
  clear hr0 hc0
  have HR1 := Aside0.mk hr1
  have HC1 := Aside0.mk hc1
  clear hr1 hc1
  have HB := Aside0.mk (Below.refl w.heap.size w)
  have H : ((laws_big.f l0 l1).bind fun t462 => (if t462 = true then (some true) else ((spec_DrawUnionSet.f k l0).bind fun bt463 => ((impl_UnionSet.f k bt463.1 bt463.2).bind fun bt469 => ((spec_UnionSet.f k bt463.1 bt463.2).bind fun bt473 => ((impl_MeetSet.f k bt463.1 bt463.2).bind fun bt477 => ((spec_MeetSet.f k bt463.1 bt463.2).bind fun bt481 => ((impl_NotSet.f k bt463.1).bind fun bt485 => ((spec_NotSet.f k bt463.1).bind fun bt489 => (if (bt469.2 != bt473.2) = true then (laws_FnSets.j0 k l1 bt463.1 bt463.2 bt469.1 bt469.2 bt477.1 bt477.2 bt485.1 bt485.2 true) else ((laws_sameInts.f k bt469.1 bt473.1).bind fun t493 => (if t493 = true then (if (bt477.2 != bt481.2) = true then (laws_FnSets.j0 k l1 bt463.1 bt463.2 bt469.1 bt469.2 bt477.1 bt477.2 bt485.1 bt485.2 true) else ((laws_sameInts.f k bt477.1 bt481.1).bind fun t494 => (if t494 = true then (if (bt485.2 != bt489.2) = true then (laws_FnSets.j0 k l1 bt463.1 bt463.2 bt469.1 bt469.2 bt477.1 bt477.2 bt485.1 bt485.2 true) else ((laws_sameInts.f k bt485.1 bt489.1).bind fun t495 => (if t495 = true then ((impl_GoodSet.f k bt463.1).bind fun t496 => ((spec_GoodSet.f k bt463.1).bind fun t497 => (laws_FnSets.j0 k l1 bt463.1 bt463.2 bt469.1 bt469.2 bt477.1 bt477.2 bt485.1 bt485.2 (t496 != t497)))) else (laws_FnSets.j0 k l1 bt463.1 bt463.2 bt469.1 bt469.2 bt477.1 bt477.2 bt485.1 bt485.2 true)))) else (laws_FnSets.j0 k l1 bt463.1 bt463.2 bt469.1 bt469.2 bt477.1 bt477.2 bt485.1 bt485.2 true)))) else (laws_FnSets.j0 k l1 bt463.1 bt463.2 bt469.1 bt469.2 bt477.1 bt477.2 bt485.1 bt485.2 true))))))))))))) = some r := h
  clear h
  replace H := Option.bind_eq_some_iff.mp H
  obtain ⟨t462, A30, H⟩ := H
  replace H : (if t462 = true then (some true) else ((spec_DrawUnionSet.f k l0).bind fun bt463 => ((impl_UnionSet.f k bt463.1 bt463.2).bind fun bt469 => ((spec_UnionSet.f k bt463.1 bt463.2).bind fun bt473 => ((impl_MeetSet.f k bt463.1 bt463.2).bind fun bt477 => ((spec_MeetSet.f k bt463.1 bt463.2).bind fun bt481 => ((impl_NotSet.f k bt463.1).bind fun bt485 => ((spec_NotSet.f k bt463.1).bind fun bt489 => (if (bt469.2 != bt473.2) = true then (laws_FnSets.j0 k l1 bt463.1 bt463.2 bt469.1 bt469.2 bt477.1 bt477.2 bt485.1 bt485.2 true) else ((laws_sameInts.f k bt469.1 bt473.1).bind fun t493 => (if t493 = true then (if (bt477.2 != bt481.2) = true then (laws_FnSets.j0 k l1 bt463.1 bt463.2 bt469.1 bt469.2 bt477.1 bt477.2 bt485.1 bt485.2 true) else ((laws_sameInts.f k bt477.1 bt481.1).bind fun t494 => (if t494 = true then (if (bt485.2 != bt489.2) = true then (laws_FnSets.j0 k l1 bt463.1 bt463.2 bt469.1 bt469.2 bt477.1 bt477.2 bt485.1 bt485.2 true) else ((laws_sameInts.f k bt485.1 bt489.1).bind fun t495 => (if t495 = true then ((impl_GoodSet.f k bt463.1).bind fun t496 => ((spec_GoodSet.f k bt463.1).bind fun t497 => (laws_FnSets.j0 k l1 bt463.1 bt463.2 bt469.1 bt469.2 bt477.1 bt477.2 bt485.1 bt485.2 (t496 != t497)))) else (laws_FnSets.j0 k l1 bt463.1 bt463.2 bt469.1 bt469.2 bt477.1 bt477.2 bt485.1 bt485.2 true)))) else (laws_FnSets.j0 k l1 bt463.1 bt463.2 bt469.1 bt469.2 bt477.1 bt477.2 bt485.1 bt485.2 true)))) else (laws_FnSets.j0 k l1 bt463.1 bt463.2 bt469.1 bt469.2 bt477.1 bt477.2 bt485.1 bt485.2 true)))))))))))) = some r := H
  have A3 := Aside0.mk A30
  clear A30
  by_cases c4 : t462 = true
  · subst c4
    have H1 : (some true) = some r := by rw [if_pos rfl] at H; exact H
    clear H
    have H := H1
    clear H1
    obtain rfl := Option.some.inj H
    (first | exact absurd hr_ (by decide) | skip)
    all_goals (go_enter Try.func7, Try.ntmps7)
    all_goals (go_wp2_with (first | ((with_reducible refine gate_callee (f := 21) rfl ?_); refine goesL_ (some 48) rfl rfl Try.func21 (by kernel_rfl) rfl #[.slice A0 l0.length c0, .slice A1 l1.length c1] rfl (by (try simp only [List.map_toArray, List.map_cons, List.map_nil]); first | done | rfl | (simp only [List.length_drop, List.length_take]; rfl)) ?_; (with_reducible refine (laws_big.calls _ _ l0 _ _ l1 true _ ?side1 ?side2 ?side3 ?side4 A3.out).mono ?_); (case side1 => repeat (first | exact HR0.out | (with_reducible refine Kd.C_alloc ?_ _) | (with_reducible refine Kd.C_drewN ?_ _) | (with_reducible refine Kd.C_drew ?_))); (case side2 => exact HC0.out); (case side3 => repeat (first | exact HR1.out | (with_reducible refine Kd.C_alloc ?_ _) | (with_reducible refine Kd.C_drewN ?_ _) | (with_reducible refine Kd.C_drew ?_))); (case side4 => exact HC1.out); rintro e w' ⟨rfl, ⟨nd, rfl⟩⟩; refine ⟨_, rfl, ?_⟩)))
    all_goals (go_ret)
    all_goals (exact ⟨by first | rfl | (simp [errW_none, errW_some] <;> rfl) | (simp [*, errW_none, errW_some] <;> rfl), by repeat (first | (with_reducible first | exact HB.out | apply below_alloc | apply pw_below_drewN | apply below_drew1) | exact HB.out)⟩)
  · replace c4 := Bool.eq_false_iff.mpr c4
    subst c4
    have H1 : ((spec_DrawUnionSet.f k l0).bind fun bt463 => ((impl_UnionSet.f k bt463.1 bt463.2).bind fun bt469 => ((spec_UnionSet.f k bt463.1 bt463.2).bind fun bt473 => ((impl_MeetSet.f k bt463.1 bt463.2).bind fun bt477 => ((spec_MeetSet.f k bt463.1 bt463.2).bind fun bt481 => ((impl_NotSet.f k bt463.1).bind fun bt485 => ((spec_NotSet.f k bt463.1).bind fun bt489 => (if (bt469.2 != bt473.2) = true then (laws_FnSets.j0 k l1 bt463.1 bt463.2 bt469.1 bt469.2 bt477.1 bt477.2 bt485.1 bt485.2 true) else ((laws_sameInts.f k bt469.1 bt473.1).bind fun t493 => (if t493 = true then (if (bt477.2 != bt481.2) = true then (laws_FnSets.j0 k l1 bt463.1 bt463.2 bt469.1 bt469.2 bt477.1 bt477.2 bt485.1 bt485.2 true) else ((laws_sameInts.f k bt477.1 bt481.1).bind fun t494 => (if t494 = true then (if (bt485.2 != bt489.2) = true then (laws_FnSets.j0 k l1 bt463.1 bt463.2 bt469.1 bt469.2 bt477.1 bt477.2 bt485.1 bt485.2 true) else ((laws_sameInts.f k bt485.1 bt489.1).bind fun t495 => (if t495 = true then ((impl_GoodSet.f k bt463.1).bind fun t496 => ((spec_GoodSet.f k bt463.1).bind fun t497 => (laws_FnSets.j0 k l1 bt463.1 bt463.2 bt469.1 bt469.2 bt477.1 bt477.2 bt485.1 bt485.2 (t496 != t497)))) else (laws_FnSets.j0 k l1 bt463.1 bt463.2 bt469.1 bt469.2 bt477.1 bt477.2 bt485.1 bt485.2 true)))) else (laws_FnSets.j0 k l1 bt463.1 bt463.2 bt469.1 bt469.2 bt477.1 bt477.2 bt485.1 bt485.2 true)))) else (laws_FnSets.j0 k l1 bt463.1 bt463.2 bt469.1 bt469.2 bt477.1 bt477.2 bt485.1 bt485.2 true))))))))))) = some r := by rw [if_neg (show ¬ (false = true) by decide)] at H; exact H
    clear H
    have H := H1
    clear H1
    replace H := Option.bind_eq_some_iff.mp H
    obtain ⟨⟨t463, t464⟩, A50, H⟩ := H
    replace H : ((impl_UnionSet.f k t463 t464).bind fun bt469 => ((spec_UnionSet.f k t463 t464).bind fun bt473 => ((impl_MeetSet.f k t463 t464).bind fun bt477 => ((spec_MeetSet.f k t463 t464).bind fun bt481 => ((impl_NotSet.f k t463).bind fun bt485 => ((spec_NotSet.f k t463).bind fun bt489 => (if (bt469.2 != bt473.2) = true then (laws_FnSets.j0 k l1 t463 t464 bt469.1 bt469.2 bt477.1 bt477.2 bt485.1 bt485.2 true) else ((laws_sameInts.f k bt469.1 bt473.1).bind fun t493 => (if t493 = true then (if (bt477.2 != bt481.2) = true then (laws_FnSets.j0 k l1 t463 t464 bt469.1 bt469.2 bt477.1 bt477.2 bt485.1 bt485.2 true) else ((laws_sameInts.f k bt477.1 bt481.1).bind fun t494 => (if t494 = true then (if (bt485.2 != bt489.2) = true then (laws_FnSets.j0 k l1 t463 t464 bt469.1 bt469.2 bt477.1 bt477.2 bt485.1 bt485.2 true) else ((laws_sameInts.f k bt485.1 bt489.1).bind fun t495 => (if t495 = true then ((impl_GoodSet.f k t463).bind fun t496 => ((spec_GoodSet.f k t463).bind fun t497 => (laws_FnSets.j0 k l1 t463 t464 bt469.1 bt469.2 bt477.1 bt477.2 bt485.1 bt485.2 (t496 != t497)))) else (laws_FnSets.j0 k l1 t463 t464 bt469.1 bt469.2 bt477.1 bt477.2 bt485.1 bt485.2 true)))) else (laws_FnSets.j0 k l1 t463 t464 bt469.1 bt469.2 bt477.1 bt477.2 bt485.1 bt485.2 true)))) else (laws_FnSets.j0 k l1 t463 t464 bt469.1 bt469.2 bt477.1 bt477.2 bt485.1 bt485.2 true)))))))))) = some r := H
    have A5 := Aside0.mk A50
    clear A50
    replace H := Option.bind_eq_some_iff.mp H
    obtain ⟨⟨t469, t470⟩, A60, H⟩ := H
    replace H : ((spec_UnionSet.f k t463 t464).bind fun bt473 => ((impl_MeetSet.f k t463 t464).bind fun bt477 => ((spec_MeetSet.f k t463 t464).bind fun bt481 => ((impl_NotSet.f k t463).bind fun bt485 => ((spec_NotSet.f k t463).bind fun bt489 => (if (t470 != bt473.2) = true then (laws_FnSets.j0 k l1 t463 t464 t469 t470 bt477.1 bt477.2 bt485.1 bt485.2 true) else ((laws_sameInts.f k t469 bt473.1).bind fun t493 => (if t493 = true then (if (bt477.2 != bt481.2) = true then (laws_FnSets.j0 k l1 t463 t464 t469 t470 bt477.1 bt477.2 bt485.1 bt485.2 true) else ((laws_sameInts.f k bt477.1 bt481.1).bind fun t494 => (if t494 = true then (if (bt485.2 != bt489.2) = true then (laws_FnSets.j0 k l1 t463 t464 t469 t470 bt477.1 bt477.2 bt485.1 bt485.2 true) else ((laws_sameInts.f k bt485.1 bt489.1).bind fun t495 => (if t495 = true then ((impl_GoodSet.f k t463).bind fun t496 => ((spec_GoodSet.f k t463).bind fun t497 => (laws_FnSets.j0 k l1 t463 t464 t469 t470 bt477.1 bt477.2 bt485.1 bt485.2 (t496 != t497)))) else (laws_FnSets.j0 k l1 t463 t464 t469 t470 bt477.1 bt477.2 bt485.1 bt485.2 true)))) else (laws_FnSets.j0 k l1 t463 t464 t469 t470 bt477.1 bt477.2 bt485.1 bt485.2 true)))) else (laws_FnSets.j0 k l1 t463 t464 t469 t470 bt477.1 bt477.2 bt485.1 bt485.2 true))))))))) = some r := H
    have A6 := Aside0.mk A60
    clear A60
    replace H := Option.bind_eq_some_iff.mp H
    obtain ⟨⟨t473, t474⟩, A70, H⟩ := H
    replace H : ((impl_MeetSet.f k t463 t464).bind fun bt477 => ((spec_MeetSet.f k t463 t464).bind fun bt481 => ((impl_NotSet.f k t463).bind fun bt485 => ((spec_NotSet.f k t463).bind fun bt489 => (if (t470 != t474) = true then (laws_FnSets.j0 k l1 t463 t464 t469 t470 bt477.1 bt477.2 bt485.1 bt485.2 true) else ((laws_sameInts.f k t469 t473).bind fun t493 => (if t493 = true then (if (bt477.2 != bt481.2) = true then (laws_FnSets.j0 k l1 t463 t464 t469 t470 bt477.1 bt477.2 bt485.1 bt485.2 true) else ((laws_sameInts.f k bt477.1 bt481.1).bind fun t494 => (if t494 = true then (if (bt485.2 != bt489.2) = true then (laws_FnSets.j0 k l1 t463 t464 t469 t470 bt477.1 bt477.2 bt485.1 bt485.2 true) else ((laws_sameInts.f k bt485.1 bt489.1).bind fun t495 => (if t495 = true then ((impl_GoodSet.f k t463).bind fun t496 => ((spec_GoodSet.f k t463).bind fun t497 => (laws_FnSets.j0 k l1 t463 t464 t469 t470 bt477.1 bt477.2 bt485.1 bt485.2 (t496 != t497)))) else (laws_FnSets.j0 k l1 t463 t464 t469 t470 bt477.1 bt477.2 bt485.1 bt485.2 true)))) else (laws_FnSets.j0 k l1 t463 t464 t469 t470 bt477.1 bt477.2 bt485.1 bt485.2 true)))) else (laws_FnSets.j0 k l1 t463 t464 t469 t470 bt477.1 bt477.2 bt485.1 bt485.2 true)))))))) = some r := H
    have A7 := Aside0.mk A70
    clear A70
    replace H := Option.bind_eq_some_iff.mp H
    obtain ⟨⟨t477, t478⟩, A80, H⟩ := H
    replace H : ((spec_MeetSet.f k t463 t464).bind fun bt481 => ((impl_NotSet.f k t463).bind fun bt485 => ((spec_NotSet.f k t463).bind fun bt489 => (if (t470 != t474) = true then (laws_FnSets.j0 k l1 t463 t464 t469 t470 t477 t478 bt485.1 bt485.2 true) else ((laws_sameInts.f k t469 t473).bind fun t493 => (if t493 = true then (if (t478 != bt481.2) = true then (laws_FnSets.j0 k l1 t463 t464 t469 t470 t477 t478 bt485.1 bt485.2 true) else ((laws_sameInts.f k t477 bt481.1).bind fun t494 => (if t494 = true then (if (bt485.2 != bt489.2) = true then (laws_FnSets.j0 k l1 t463 t464 t469 t470 t477 t478 bt485.1 bt485.2 true) else ((laws_sameInts.f k bt485.1 bt489.1).bind fun t495 => (if t495 = true then ((impl_GoodSet.f k t463).bind fun t496 => ((spec_GoodSet.f k t463).bind fun t497 => (laws_FnSets.j0 k l1 t463 t464 t469 t470 t477 t478 bt485.1 bt485.2 (t496 != t497)))) else (laws_FnSets.j0 k l1 t463 t464 t469 t470 t477 t478 bt485.1 bt485.2 true)))) else (laws_FnSets.j0 k l1 t463 t464 t469 t470 t477 t478 bt485.1 bt485.2 true)))) else (laws_FnSets.j0 k l1 t463 t464 t469 t470 t477 t478 bt485.1 bt485.2 true))))))) = some r := H
    have A8 := Aside0.mk A80
    clear A80
    replace H := Option.bind_eq_some_iff.mp H
    obtain ⟨⟨t481, t482⟩, A90, H⟩ := H
    replace H : ((impl_NotSet.f k t463).bind fun bt485 => ((spec_NotSet.f k t463).bind fun bt489 => (if (t470 != t474) = true then (laws_FnSets.j0 k l1 t463 t464 t469 t470 t477 t478 bt485.1 bt485.2 true) else ((laws_sameInts.f k t469 t473).bind fun t493 => (if t493 = true then (if (t478 != t482) = true then (laws_FnSets.j0 k l1 t463 t464 t469 t470 t477 t478 bt485.1 bt485.2 true) else ((laws_sameInts.f k t477 t481).bind fun t494 => (if t494 = true then (if (bt485.2 != bt489.2) = true then (laws_FnSets.j0 k l1 t463 t464 t469 t470 t477 t478 bt485.1 bt485.2 true) else ((laws_sameInts.f k bt485.1 bt489.1).bind fun t495 => (if t495 = true then ((impl_GoodSet.f k t463).bind fun t496 => ((spec_GoodSet.f k t463).bind fun t497 => (laws_FnSets.j0 k l1 t463 t464 t469 t470 t477 t478 bt485.1 bt485.2 (t496 != t497)))) else (laws_FnSets.j0 k l1 t463 t464 t469 t470 t477 t478 bt485.1 bt485.2 true)))) else (laws_FnSets.j0 k l1 t463 t464 t469 t470 t477 t478 bt485.1 bt485.2 true)))) else (laws_FnSets.j0 k l1 t463 t464 t469 t470 t477 t478 bt485.1 bt485.2 true)))))) = some r := H
    have A9 := Aside0.mk A90
    clear A90
    replace H := Option.bind_eq_some_iff.mp H
    obtain ⟨⟨t485, t486⟩, A100, H⟩ := H
    replace H : ((spec_NotSet.f k t463).bind fun bt489 => (if (t470 != t474) = true then (laws_FnSets.j0 k l1 t463 t464 t469 t470 t477 t478 t485 t486 true) else ((laws_sameInts.f k t469 t473).bind fun t493 => (if t493 = true then (if (t478 != t482) = true then (laws_FnSets.j0 k l1 t463 t464 t469 t470 t477 t478 t485 t486 true) else ((laws_sameInts.f k t477 t481).bind fun t494 => (if t494 = true then (if (t486 != bt489.2) = true then (laws_FnSets.j0 k l1 t463 t464 t469 t470 t477 t478 t485 t486 true) else ((laws_sameInts.f k t485 bt489.1).bind fun t495 => (if t495 = true then ((impl_GoodSet.f k t463).bind fun t496 => ((spec_GoodSet.f k t463).bind fun t497 => (laws_FnSets.j0 k l1 t463 t464 t469 t470 t477 t478 t485 t486 (t496 != t497)))) else (laws_FnSets.j0 k l1 t463 t464 t469 t470 t477 t478 t485 t486 true)))) else (laws_FnSets.j0 k l1 t463 t464 t469 t470 t477 t478 t485 t486 true)))) else (laws_FnSets.j0 k l1 t463 t464 t469 t470 t477 t478 t485 t486 true))))) = some r := H
    have A10 := Aside0.mk A100
    clear A100
    replace H := Option.bind_eq_some_iff.mp H
    obtain ⟨⟨t489, t490⟩, A110, H⟩ := H
    replace H : (if (t470 != t474) = true then (laws_FnSets.j0 k l1 t463 t464 t469 t470 t477 t478 t485 t486 true) else ((laws_sameInts.f k t469 t473).bind fun t493 => (if t493 = true then (if (t478 != t482) = true then (laws_FnSets.j0 k l1 t463 t464 t469 t470 t477 t478 t485 t486 true) else ((laws_sameInts.f k t477 t481).bind fun t494 => (if t494 = true then (if (t486 != t490) = true then (laws_FnSets.j0 k l1 t463 t464 t469 t470 t477 t478 t485 t486 true) else ((laws_sameInts.f k t485 t489).bind fun t495 => (if t495 = true then ((impl_GoodSet.f k t463).bind fun t496 => ((spec_GoodSet.f k t463).bind fun t497 => (laws_FnSets.j0 k l1 t463 t464 t469 t470 t477 t478 t485 t486 (t496 != t497)))) else (laws_FnSets.j0 k l1 t463 t464 t469 t470 t477 t478 t485 t486 true)))) else (laws_FnSets.j0 k l1 t463 t464 t469 t470 t477 t478 t485 t486 true)))) else (laws_FnSets.j0 k l1 t463 t464 t469 t470 t477 t478 t485 t486 true)))) = some r := H
    have A11 := Aside0.mk A110
    clear A110
    have HC12 := Aside0.mk H
    clear H
    go_enter Try.func7, Try.ntmps7
    go_upto_region 10 with (first | ((with_reducible refine gate_callee (f := 21) rfl ?_); refine goesL_ (some 48) rfl rfl Try.func21 (by kernel_rfl) rfl #[.slice A0 l0.length c0, .slice A1 l1.length c1] rfl (by (try simp only [List.map_toArray, List.map_cons, List.map_nil]); first | done | rfl | (simp only [List.length_drop, List.length_take]; rfl)) ?_; (with_reducible refine (laws_big.calls _ _ l0 _ _ l1 false _ ?side1 ?side2 ?side3 ?side4 A3.out).mono ?_); (case side1 => repeat (first | exact HR0.out | (with_reducible refine Kd.C_alloc ?_ _) | (with_reducible refine Kd.C_drewN ?_ _) | (with_reducible refine Kd.C_drew ?_))); (case side2 => exact HC0.out); (case side3 => repeat (first | exact HR1.out | (with_reducible refine Kd.C_alloc ?_ _) | (with_reducible refine Kd.C_drewN ?_ _) | (with_reducible refine Kd.C_drew ?_))); (case side4 => exact HC1.out); rintro e w' ⟨rfl, ⟨nd, rfl⟩⟩; refine ⟨_, rfl, ?_⟩) | ((with_reducible refine gate_callee (f := 22) rfl ?_); refine goesL_ (some 51) rfl rfl Try.func22 (by kernel_rfl) rfl #[.slice A0 l0.length c0] rfl (by (try simp only [List.map_toArray, List.map_cons, List.map_nil]); first | done | rfl | (simp only [List.length_drop, List.length_take]; rfl)) ?_; (with_reducible refine (spec_DrawUnionSet.calls k _ _ l0 t463 t464 _ ?side1 ?side2 A5.out).mono ?_); (case side1 => repeat (first | exact HR0.out | (with_reducible refine Kd.C_alloc ?_ _) | (with_reducible refine Kd.C_drewN ?_ _) | (with_reducible refine Kd.C_drew ?_))); (case side2 => exact HC0.out); rintro e w13 ⟨v465, v467, rfl, ho0, ho1, hb⟩; refine ⟨_, rfl, ?_⟩; have n0_ := Aside0.mk (Kd.R_lower ho0 (below_size (by repeat (first | (with_reducible first | exact HB.out | apply below_alloc | apply pw_below_drewN | apply below_drew1) | exact HB.out)))); have n1_ := Aside0.mk (Kd.R_lower ho1 (below_size (by repeat (first | (with_reducible first | exact HB.out | apply below_alloc | apply pw_below_drewN | apply below_drew1) | exact HB.out)))); have n2_ := Aside0.mk (below_step (by repeat (first | (with_reducible first | exact HB.out | apply below_alloc | apply pw_below_drewN | apply below_drew1) | exact HB.out)) hb); clear HB; have HO466 := n0_; have HO468 := n1_; have HB := n2_; clear n0_ n1_ n2_; (try clear hb); (try clear ho0); (try clear ho1); obtain ⟨Ao14, co14, eo14⟩ := Kd.R_slice HO466.out; subst eo14; obtain ⟨Ao15, co15, eo15⟩ := Kd.R_slice HO468.out; subst eo15) | ((with_reducible refine gate_callee (f := 11) rfl ?_); refine goesL_ (some 57) rfl rfl Try.func11 (by kernel_rfl) rfl #[.slice Ao14 t463.length co14, .slice Ao15 t464.length co15] rfl (by (try simp only [List.map_toArray, List.map_cons, List.map_nil]); first | done | rfl | (simp only [List.length_drop, List.length_take]; rfl)) ?_; (with_reducible refine (impl_UnionSet.calls k _ _ t463 _ _ t464 t469 t470 _ ?side1 ?side2 ?side3 ?side4 A6.out).mono ?_); (case side1 => repeat (first | exact (Kd.R_reads' HO466.out).2.2 | (with_reducible refine Kd.C_alloc ?_ _) | (with_reducible refine Kd.C_drewN ?_ _) | (with_reducible refine Kd.C_drew ?_))); (case side2 => exact (Kd.R_reads' HO466.out).2.1); (case side3 => repeat (first | exact (Kd.R_reads' HO468.out).2.2 | (with_reducible refine Kd.C_alloc ?_ _) | (with_reducible refine Kd.C_drewN ?_ _) | (with_reducible refine Kd.C_drew ?_))); (case side4 => exact (Kd.R_reads' HO468.out).2.1); rintro e w16 ⟨v471, rfl, ho0, hb⟩; refine ⟨_, rfl, ?_⟩; have n0_ := Aside0.mk (Kd.R_elder' (by (with_reducible repeat (first | apply Kd.R_alloc | apply Kd.R_drewN | apply Kd.R_drew)); exact HO466.out) (Kd.R_base ho0) hb); have n1_ := Aside0.mk (Kd.R_elder' (by (with_reducible repeat (first | apply Kd.R_alloc | apply Kd.R_drewN | apply Kd.R_drew)); exact HO468.out) (Kd.R_base ho0) hb); have n2_ := Aside0.mk (Kd.R_lower (Kd.R_new' (Kd.R_new' ho0 (Kd.R_lt (by (with_reducible repeat (first | apply Kd.R_alloc | apply Kd.R_drewN | apply Kd.R_drew)); exact HO466.out))) (Kd.R_lt (by (with_reducible repeat (first | apply Kd.R_alloc | apply Kd.R_drewN | apply Kd.R_drew)); exact HO468.out))) (below_size (by repeat (first | (with_reducible first | exact HB.out | apply below_alloc | apply pw_below_drewN | apply below_drew1) | exact HB.out)))); have n3_ := Aside0.mk (below_step (by repeat (first | (with_reducible first | exact HB.out | apply below_alloc | apply pw_below_drewN | apply below_drew1) | exact HB.out)) hb); clear HO466; clear HO468; clear HB; have HO466 := n0_; have HO468 := n1_; have HO472 := n2_; have HB := n3_; clear n0_ n1_ n2_ n3_; (try clear hb); (try clear ho0)) | ((with_reducible refine gate_callee (f := 9) rfl ?_); refine goesL_ (some 63) rfl rfl Try.func9 (by kernel_rfl) rfl #[.slice Ao14 t463.length co14, .slice Ao15 t464.length co15] rfl (by (try simp only [List.map_toArray, List.map_cons, List.map_nil]); first | done | rfl | (simp only [List.length_drop, List.length_take]; rfl)) ?_; (with_reducible refine (spec_UnionSet.calls k _ _ t463 _ _ t464 t473 t474 _ ?side1 ?side2 ?side3 ?side4 A7.out).mono ?_); (case side1 => repeat (first | exact (Kd.R_reads' HO466.out).2.2 | (with_reducible refine Kd.C_alloc ?_ _) | (with_reducible refine Kd.C_drewN ?_ _) | (with_reducible refine Kd.C_drew ?_))); (case side2 => exact (Kd.R_reads' HO466.out).2.1); (case side3 => repeat (first | exact (Kd.R_reads' HO468.out).2.2 | (with_reducible refine Kd.C_alloc ?_ _) | (with_reducible refine Kd.C_drewN ?_ _) | (with_reducible refine Kd.C_drew ?_))); (case side4 => exact (Kd.R_reads' HO468.out).2.1); rintro e w17 ⟨v475, rfl, ho0, hb⟩; refine ⟨_, rfl, ?_⟩; have n0_ := Aside0.mk (Kd.R_elder' (by (with_reducible repeat (first | apply Kd.R_alloc | apply Kd.R_drewN | apply Kd.R_drew)); exact HO466.out) (Kd.R_base ho0) hb); have n1_ := Aside0.mk (Kd.R_elder' (by (with_reducible repeat (first | apply Kd.R_alloc | apply Kd.R_drewN | apply Kd.R_drew)); exact HO468.out) (Kd.R_base ho0) hb); have n2_ := Aside0.mk (Kd.R_elder' (by (with_reducible repeat (first | apply Kd.R_alloc | apply Kd.R_drewN | apply Kd.R_drew)); exact HO472.out) (Kd.R_base ho0) hb); have n3_ := Aside0.mk (Kd.R_lower (Kd.R_new' (Kd.R_new' (Kd.R_new' ho0 (Kd.R_lt (by (with_reducible repeat (first | apply Kd.R_alloc | apply Kd.R_drewN | apply Kd.R_drew)); exact HO466.out))) (Kd.R_lt (by (with_reducible repeat (first | apply Kd.R_alloc | apply Kd.R_drewN | apply Kd.R_drew)); exact HO468.out))) (Kd.R_lt (by (with_reducible repeat (first | apply Kd.R_alloc | apply Kd.R_drewN | apply Kd.R_drew)); exact HO472.out))) (below_size (by repeat (first | (with_reducible first | exact HB.out | apply below_alloc | apply pw_below_drewN | apply below_drew1) | exact HB.out)))); have n4_ := Aside0.mk (below_step (by repeat (first | (with_reducible first | exact HB.out | apply below_alloc | apply pw_below_drewN | apply below_drew1) | exact HB.out)) hb); clear HO466; clear HO468; clear HO472; clear HB; have HO466 := n0_; have HO468 := n1_; have HO472 := n2_; have HO476 := n3_; have HB := n4_; clear n0_ n1_ n2_ n3_ n4_; (try clear hb); (try clear ho0)) | ((with_reducible refine gate_callee (f := 16) rfl ?_); refine goesL_ (some 69) rfl rfl Try.func16 (by kernel_rfl) rfl #[.slice Ao14 t463.length co14, .slice Ao15 t464.length co15] rfl (by (try simp only [List.map_toArray, List.map_cons, List.map_nil]); first | done | rfl | (simp only [List.length_drop, List.length_take]; rfl)) ?_; (with_reducible refine (impl_MeetSet.calls k _ _ t463 _ _ t464 t477 t478 _ ?side1 ?side2 ?side3 ?side4 A8.out).mono ?_); (case side1 => repeat (first | exact (Kd.R_reads' HO466.out).2.2 | (with_reducible refine Kd.C_alloc ?_ _) | (with_reducible refine Kd.C_drewN ?_ _) | (with_reducible refine Kd.C_drew ?_))); (case side2 => exact (Kd.R_reads' HO466.out).2.1); (case side3 => repeat (first | exact (Kd.R_reads' HO468.out).2.2 | (with_reducible refine Kd.C_alloc ?_ _) | (with_reducible refine Kd.C_drewN ?_ _) | (with_reducible refine Kd.C_drew ?_))); (case side4 => exact (Kd.R_reads' HO468.out).2.1); rintro e w18 ⟨v479, rfl, ho0, hb⟩; refine ⟨_, rfl, ?_⟩; have n0_ := Aside0.mk (Kd.R_elder' (by (with_reducible repeat (first | apply Kd.R_alloc | apply Kd.R_drewN | apply Kd.R_drew)); exact HO466.out) (Kd.R_base ho0) hb); have n1_ := Aside0.mk (Kd.R_elder' (by (with_reducible repeat (first | apply Kd.R_alloc | apply Kd.R_drewN | apply Kd.R_drew)); exact HO468.out) (Kd.R_base ho0) hb); have n2_ := Aside0.mk (Kd.R_elder' (by (with_reducible repeat (first | apply Kd.R_alloc | apply Kd.R_drewN | apply Kd.R_drew)); exact HO472.out) (Kd.R_base ho0) hb); have n3_ := Aside0.mk (Kd.R_elder' (by (with_reducible repeat (first | apply Kd.R_alloc | apply Kd.R_drewN | apply Kd.R_drew)); exact HO476.out) (Kd.R_base ho0) hb); have n4_ := Aside0.mk (Kd.R_lower (Kd.R_new' (Kd.R_new' (Kd.R_new' (Kd.R_new' ho0 (Kd.R_lt (by (with_reducible repeat (first | apply Kd.R_alloc | apply Kd.R_drewN | apply Kd.R_drew)); exact HO466.out))) (Kd.R_lt (by (with_reducible repeat (first | apply Kd.R_alloc | apply Kd.R_drewN | apply Kd.R_drew)); exact HO468.out))) (Kd.R_lt (by (with_reducible repeat (first | apply Kd.R_alloc | apply Kd.R_drewN | apply Kd.R_drew)); exact HO472.out))) (Kd.R_lt (by (with_reducible repeat (first | apply Kd.R_alloc | apply Kd.R_drewN | apply Kd.R_drew)); exact HO476.out))) (below_size (by repeat (first | (with_reducible first | exact HB.out | apply below_alloc | apply pw_below_drewN | apply below_drew1) | exact HB.out)))); have n5_ := Aside0.mk (below_step (by repeat (first | (with_reducible first | exact HB.out | apply below_alloc | apply pw_below_drewN | apply below_drew1) | exact HB.out)) hb); clear HO466; clear HO468; clear HO472; clear HO476; clear HB; have HO466 := n0_; have HO468 := n1_; have HO472 := n2_; have HO476 := n3_; have HO480 := n4_; have HB := n5_; clear n0_ n1_ n2_ n3_ n4_ n5_; (try clear hb); (try clear ho0)) | ((with_reducible refine gate_callee (f := 15) rfl ?_); refine goesL_ (some 75) rfl rfl Try.func15 (by kernel_rfl) rfl #[.slice Ao14 t463.length co14, .slice Ao15 t464.length co15] rfl (by (try simp only [List.map_toArray, List.map_cons, List.map_nil]); first | done | rfl | (simp only [List.length_drop, List.length_take]; rfl)) ?_; (with_reducible refine (spec_MeetSet.calls k _ _ t463 _ _ t464 t481 t482 _ ?side1 ?side2 ?side3 ?side4 A9.out).mono ?_); (case side1 => repeat (first | exact (Kd.R_reads' HO466.out).2.2 | (with_reducible refine Kd.C_alloc ?_ _) | (with_reducible refine Kd.C_drewN ?_ _) | (with_reducible refine Kd.C_drew ?_))); (case side2 => exact (Kd.R_reads' HO466.out).2.1); (case side3 => repeat (first | exact (Kd.R_reads' HO468.out).2.2 | (with_reducible refine Kd.C_alloc ?_ _) | (with_reducible refine Kd.C_drewN ?_ _) | (with_reducible refine Kd.C_drew ?_))); (case side4 => exact (Kd.R_reads' HO468.out).2.1); rintro e w19 ⟨v483, rfl, ho0, hb⟩; refine ⟨_, rfl, ?_⟩; have n0_ := Aside0.mk (Kd.R_elder' (by (with_reducible repeat (first | apply Kd.R_alloc | apply Kd.R_drewN | apply Kd.R_drew)); exact HO466.out) (Kd.R_base ho0) hb); have n1_ := Aside0.mk (Kd.R_elder' (by (with_reducible repeat (first | apply Kd.R_alloc | apply Kd.R_drewN | apply Kd.R_drew)); exact HO468.out) (Kd.R_base ho0) hb); have n2_ := Aside0.mk (Kd.R_elder' (by (with_reducible repeat (first | apply Kd.R_alloc | apply Kd.R_drewN | apply Kd.R_drew)); exact HO472.out) (Kd.R_base ho0) hb); have n3_ := Aside0.mk (Kd.R_elder' (by (with_reducible repeat (first | apply Kd.R_alloc | apply Kd.R_drewN | apply Kd.R_drew)); exact HO476.out) (Kd.R_base ho0) hb); have n4_ := Aside0.mk (Kd.R_elder' (by (with_reducible repeat (first | apply Kd.R_alloc | apply Kd.R_drewN | apply Kd.R_drew)); exact HO480.out) (Kd.R_base ho0) hb); have n5_ := Aside0.mk (Kd.R_lower (Kd.R_new' (Kd.R_new' (Kd.R_new' (Kd.R_new' (Kd.R_new' ho0 (Kd.R_lt (by (with_reducible repeat (first | apply Kd.R_alloc | apply Kd.R_drewN | apply Kd.R_drew)); exact HO466.out))) (Kd.R_lt (by (with_reducible repeat (first | apply Kd.R_alloc | apply Kd.R_drewN | apply Kd.R_drew)); exact HO468.out))) (Kd.R_lt (by (with_reducible repeat (first | apply Kd.R_alloc | apply Kd.R_drewN | apply Kd.R_drew)); exact HO472.out))) (Kd.R_lt (by (with_reducible repeat (first | apply Kd.R_alloc | apply Kd.R_drewN | apply Kd.R_drew)); exact HO476.out))) (Kd.R_lt (by (with_reducible repeat (first | apply Kd.R_alloc | apply Kd.R_drewN | apply Kd.R_drew)); exact HO480.out))) (below_size (by repeat (first | (with_reducible first | exact HB.out | apply below_alloc | apply pw_below_drewN | apply below_drew1) | exact HB.out)))); have n6_ := Aside0.mk (below_step (by repeat (first | (with_reducible first | exact HB.out | apply below_alloc | apply pw_below_drewN | apply below_drew1) | exact HB.out)) hb); clear HO466; clear HO468; clear HO472; clear HO476; clear HO480; clear HB; have HO466 := n0_; have HO468 := n1_; have HO472 := n2_; have HO476 := n3_; have HO480 := n4_; have HO484 := n5_; have HB := n6_; clear n0_ n1_ n2_ n3_ n4_ n5_ n6_; (try clear hb); (try clear ho0)) | ((with_reducible refine gate_callee (f := 23) rfl ?_); refine goesL_ (some 80) rfl rfl Try.func23 (by kernel_rfl) rfl #[.slice Ao14 t463.length co14] rfl (by (try simp only [List.map_toArray, List.map_cons, List.map_nil]); first | done | rfl | (simp only [List.length_drop, List.length_take]; rfl)) ?_; (with_reducible refine (impl_NotSet.calls k _ _ t463 t485 t486 _ ?side1 ?side2 A10.out).mono ?_); (case side1 => repeat (first | exact (Kd.R_reads' HO466.out).2.2 | (with_reducible refine Kd.C_alloc ?_ _) | (with_reducible refine Kd.C_drewN ?_ _) | (with_reducible refine Kd.C_drew ?_))); (case side2 => exact (Kd.R_reads' HO466.out).2.1); rintro e w20 ⟨v487, rfl, ho0, hb⟩; refine ⟨_, rfl, ?_⟩; have n0_ := Aside0.mk (Kd.R_elder' (by (with_reducible repeat (first | apply Kd.R_alloc | apply Kd.R_drewN | apply Kd.R_drew)); exact HO466.out) (Kd.R_base ho0) hb); have n1_ := Aside0.mk (Kd.R_elder' (by (with_reducible repeat (first | apply Kd.R_alloc | apply Kd.R_drewN | apply Kd.R_drew)); exact HO468.out) (Kd.R_base ho0) hb); have n2_ := Aside0.mk (Kd.R_elder' (by (with_reducible repeat (first | apply Kd.R_alloc | apply Kd.R_drewN | apply Kd.R_drew)); exact HO472.out) (Kd.R_base ho0) hb); have n3_ := Aside0.mk (Kd.R_elder' (by (with_reducible repeat (first | apply Kd.R_alloc | apply Kd.R_drewN | apply Kd.R_drew)); exact HO476.out) (Kd.R_base ho0) hb); have n4_ := Aside0.mk (Kd.R_elder' (by (with_reducible repeat (first | apply Kd.R_alloc | apply Kd.R_drewN | apply Kd.R_drew)); exact HO480.out) (Kd.R_base ho0) hb); have n5_ := Aside0.mk (Kd.R_elder' (by (with_reducible repeat (first | apply Kd.R_alloc | apply Kd.R_drewN | apply Kd.R_drew)); exact HO484.out) (Kd.R_base ho0) hb); have n6_ := Aside0.mk (Kd.R_lower (Kd.R_new' (Kd.R_new' (Kd.R_new' (Kd.R_new' (Kd.R_new' (Kd.R_new' ho0 (Kd.R_lt (by (with_reducible repeat (first | apply Kd.R_alloc | apply Kd.R_drewN | apply Kd.R_drew)); exact HO466.out))) (Kd.R_lt (by (with_reducible repeat (first | apply Kd.R_alloc | apply Kd.R_drewN | apply Kd.R_drew)); exact HO468.out))) (Kd.R_lt (by (with_reducible repeat (first | apply Kd.R_alloc | apply Kd.R_drewN | apply Kd.R_drew)); exact HO472.out))) (Kd.R_lt (by (with_reducible repeat (first | apply Kd.R_alloc | apply Kd.R_drewN | apply Kd.R_drew)); exact HO476.out))) (Kd.R_lt (by (with_reducible repeat (first | apply Kd.R_alloc | apply Kd.R_drewN | apply Kd.R_drew)); exact HO480.out))) (Kd.R_lt (by (with_reducible repeat (first | apply Kd.R_alloc | apply Kd.R_drewN | apply Kd.R_drew)); exact HO484.out))) (below_size (by repeat (first | (with_reducible first | exact HB.out | apply below_alloc | apply pw_below_drewN | apply below_drew1) | exact HB.out)))); have n7_ := Aside0.mk (below_step (by repeat (first | (with_reducible first | exact HB.out | apply below_alloc | apply pw_below_drewN | apply below_drew1) | exact HB.out)) hb); clear HO466; clear HO468; clear HO472; clear HO476; clear HO480; clear HO484; clear HB; have HO466 := n0_; have HO468 := n1_; have HO472 := n2_; have HO476 := n3_; have HO480 := n4_; have HO484 := n5_; have HO488 := n6_; have HB := n7_; clear n0_ n1_ n2_ n3_ n4_ n5_ n6_ n7_; (try clear hb); (try clear ho0)) | ((with_reducible refine gate_callee (f := 24) rfl ?_); refine goesL_ (some 85) rfl rfl Try.func24 (by kernel_rfl) rfl #[.slice Ao14 t463.length co14] rfl (by (try simp only [List.map_toArray, List.map_cons, List.map_nil]); first | done | rfl | (simp only [List.length_drop, List.length_take]; rfl)) ?_; (with_reducible refine (spec_NotSet.calls k _ _ t463 t489 t490 _ ?side1 ?side2 A11.out).mono ?_); (case side1 => repeat (first | exact (Kd.R_reads' HO466.out).2.2 | (with_reducible refine Kd.C_alloc ?_ _) | (with_reducible refine Kd.C_drewN ?_ _) | (with_reducible refine Kd.C_drew ?_))); (case side2 => exact (Kd.R_reads' HO466.out).2.1); rintro e w21 ⟨v491, rfl, ho0, hb⟩; refine ⟨_, rfl, ?_⟩; have n0_ := Aside0.mk (Kd.R_elder' (by (with_reducible repeat (first | apply Kd.R_alloc | apply Kd.R_drewN | apply Kd.R_drew)); exact HO466.out) (Kd.R_base ho0) hb); have n1_ := Aside0.mk (Kd.R_elder' (by (with_reducible repeat (first | apply Kd.R_alloc | apply Kd.R_drewN | apply Kd.R_drew)); exact HO468.out) (Kd.R_base ho0) hb); have n2_ := Aside0.mk (Kd.R_elder' (by (with_reducible repeat (first | apply Kd.R_alloc | apply Kd.R_drewN | apply Kd.R_drew)); exact HO472.out) (Kd.R_base ho0) hb); have n3_ := Aside0.mk (Kd.R_elder' (by (with_reducible repeat (first | apply Kd.R_alloc | apply Kd.R_drewN | apply Kd.R_drew)); exact HO476.out) (Kd.R_base ho0) hb); have n4_ := Aside0.mk (Kd.R_elder' (by (with_reducible repeat (first | apply Kd.R_alloc | apply Kd.R_drewN | apply Kd.R_drew)); exact HO480.out) (Kd.R_base ho0) hb); have n5_ := Aside0.mk (Kd.R_elder' (by (with_reducible repeat (first | apply Kd.R_alloc | apply Kd.R_drewN | apply Kd.R_drew)); exact HO484.out) (Kd.R_base ho0) hb); have n6_ := Aside0.mk (Kd.R_elder' (by (with_reducible repeat (first | apply Kd.R_alloc | apply Kd.R_drewN | apply Kd.R_drew)); exact HO488.out) (Kd.R_base ho0) hb); have n7_ := Aside0.mk (Kd.R_lower (Kd.R_new' (Kd.R_new' (Kd.R_new' (Kd.R_new' (Kd.R_new' (Kd.R_new' (Kd.R_new' ho0 (Kd.R_lt (by (with_reducible repeat (first | apply Kd.R_alloc | apply Kd.R_drewN | apply Kd.R_drew)); exact HO466.out))) (Kd.R_lt (by (with_reducible repeat (first | apply Kd.R_alloc | apply Kd.R_drewN | apply Kd.R_drew)); exact HO468.out))) (Kd.R_lt (by (with_reducible repeat (first | apply Kd.R_alloc | apply Kd.R_drewN | apply Kd.R_drew)); exact HO472.out))) (Kd.R_lt (by (with_reducible repeat (first | apply Kd.R_alloc | apply Kd.R_drewN | apply Kd.R_drew)); exact HO476.out))) (Kd.R_lt (by (with_reducible repeat (first | apply Kd.R_alloc | apply Kd.R_drewN | apply Kd.R_drew)); exact HO480.out))) (Kd.R_lt (by (with_reducible repeat (first | apply Kd.R_alloc | apply Kd.R_drewN | apply Kd.R_drew)); exact HO484.out))) (Kd.R_lt (by (with_reducible repeat (first | apply Kd.R_alloc | apply Kd.R_drewN | apply Kd.R_drew)); exact HO488.out))) (below_size (by repeat (first | (with_reducible first | exact HB.out | apply below_alloc | apply pw_below_drewN | apply below_drew1) | exact HB.out)))); have n8_ := Aside0.mk (below_step (by repeat (first | (with_reducible first | exact HB.out | apply below_alloc | apply pw_below_drewN | apply below_drew1) | exact HB.out)) hb); clear HO466; clear HO468; clear HO472; clear HO476; clear HO480; clear HO484; clear HO488; clear HB; have HO466 := n0_; have HO468 := n1_; have HO472 := n2_; have HO476 := n3_; have HO480 := n4_; have HO484 := n5_; have HO488 := n6_; have HO492 := n7_; have HB := n8_; clear n0_ n1_ n2_ n3_ n4_ n5_ n6_ n7_ n8_; (try clear hb); (try clear ho0)))
    (try simp only [Act.put, List.setIfInBounds_toArray, List.set_cons_zero, List.set_cons_succ])
    go_cut [125] (fun v125 wc => ∃ (kq : Nat) (x125_11 : Bool), v125 = .bool x125_11 ∧ Aside0 (laws_FnSets.j0 kq l1 t463 t464 t469 t470 t477 t478 t485 t486 x125_11 = some r) ∧ Aside0 (kq ≤ k) ∧ Aside0 (Kd.R (Kd.int .i64) 3 wc w.heap.size (fun k_ => some k_ ≠ ((.slice Ao15 t464.length co15) : Value).ownBlock ∧ some k_ ≠ (v471 : Value).ownBlock ∧ some k_ ≠ (v479 : Value).ownBlock ∧ some k_ ≠ (v487 : Value).ownBlock) (.slice Ao14 t463.length co14) t463) ∧ Aside0 (Kd.R (Kd.int .i64) 3 wc w.heap.size (fun k_ => some k_ ≠ ((.slice Ao14 t463.length co14) : Value).ownBlock ∧ some k_ ≠ (v471 : Value).ownBlock ∧ some k_ ≠ (v479 : Value).ownBlock ∧ some k_ ≠ (v487 : Value).ownBlock) (.slice Ao15 t464.length co15) t464) ∧ Aside0 (Kd.R (Kd.int .i64) 3 wc w.heap.size (fun k_ => some k_ ≠ ((.slice Ao14 t463.length co14) : Value).ownBlock ∧ some k_ ≠ ((.slice Ao15 t464.length co15) : Value).ownBlock ∧ some k_ ≠ (v479 : Value).ownBlock ∧ some k_ ≠ (v487 : Value).ownBlock) v471 t469) ∧ Aside0 (Kd.R (Kd.int .i64) 3 wc w.heap.size (fun k_ => some k_ ≠ ((.slice Ao14 t463.length co14) : Value).ownBlock ∧ some k_ ≠ ((.slice Ao15 t464.length co15) : Value).ownBlock ∧ some k_ ≠ (v471 : Value).ownBlock ∧ some k_ ≠ (v487 : Value).ownBlock) v479 t477) ∧ Aside0 (Kd.R (Kd.int .i64) 3 wc w.heap.size (fun k_ => some k_ ≠ ((.slice Ao14 t463.length co14) : Value).ownBlock ∧ some k_ ≠ ((.slice Ao15 t464.length co15) : Value).ownBlock ∧ some k_ ≠ (v471 : Value).ownBlock ∧ some k_ ≠ (v479 : Value).ownBlock) v487 t485) ∧ Aside0 (Below w.heap.size w wc))
    case first => as_aux_lemma =>
      have H := HC12.out
      clear HC12
      by_cases c22 : (t470 != t474) = true
      · rw [if_pos c22] at H
        have c22b0 : (t470 != t474) = true := c22
        (try (have c22b1 : decide (t470 = t474) = false := by simpa using c22))
        (try (have c22b2 : (t470 == t474) = false := by simpa using c22))
        (try (have c22b3 : ¬ (t470 = t474) := by simpa using c22))
        clear c22
        (first | rw [c22b0] | (simp only [i64_w, i32_w]; rw [c22b0]) | skip)
        have H' := Aside0.mk H
        clear H
        go_wp2
        go_meet
        case rel => exact ⟨_, (true), (by first | rfl | (simp; done) | (simp [*]; done)), H', ⟨by first | omega | exact Nat.le_refl _⟩, ⟨by (with_reducible repeat (first | apply Kd.R_alloc | apply Kd.R_drewN | apply Kd.R_drew)); exact Kd.R_mono HO466.out (fun _ hk => ⟨hk.1.1.1.1.1.1, ⟨hk.1.1.1.1.1.2, ⟨hk.1.1.1.2, hk.1.2⟩⟩⟩)⟩, ⟨by (with_reducible repeat (first | apply Kd.R_alloc | apply Kd.R_drewN | apply Kd.R_drew)); exact Kd.R_mono HO468.out (fun _ hk => ⟨hk.1.1.1.1.1.1, ⟨hk.1.1.1.1.1.2, ⟨hk.1.1.1.2, hk.1.2⟩⟩⟩)⟩, ⟨by (with_reducible repeat (first | apply Kd.R_alloc | apply Kd.R_drewN | apply Kd.R_drew)); exact Kd.R_mono HO472.out (fun _ hk => ⟨hk.1.1.1.1.1.1.2, ⟨hk.1.1.1.1.1.2, ⟨hk.1.1.1.2, hk.1.2⟩⟩⟩)⟩, ⟨by (with_reducible repeat (first | apply Kd.R_alloc | apply Kd.R_drewN | apply Kd.R_drew)); exact Kd.R_mono HO480.out (fun _ hk => ⟨hk.1.1.1.1.1.1.2, ⟨hk.1.1.1.1.1.2, ⟨hk.1.1.1.1.2, hk.1.2⟩⟩⟩)⟩, ⟨by (with_reducible repeat (first | apply Kd.R_alloc | apply Kd.R_drewN | apply Kd.R_drew)); exact Kd.R_mono HO488.out (fun _ hk => ⟨hk.1.1.1.1.1.1.2, ⟨hk.1.1.1.1.1.2, ⟨hk.1.1.1.1.2, hk.1.1.2⟩⟩⟩)⟩, ⟨by repeat (first | (with_reducible first | exact HB.out | apply below_alloc | apply pw_below_drewN | apply below_drew1) | exact HB.out)⟩⟩
      · rw [if_neg c22] at H
        have c22b0 : (t470 != t474) = false := by simpa using c22
        (try (have c22b1 : decide (t470 = t474) = true := by simpa using c22))
        (try (have c22b2 : (t470 == t474) = true := by simpa using c22))
        clear c22
        (first | rw [c22b0] | (simp only [i64_w, i32_w]; rw [c22b0]) | skip)
        replace H := Option.bind_eq_some_iff.mp H
        obtain ⟨t493, A230, H⟩ := H
        replace H : (if t493 = true then (if (t478 != t482) = true then (laws_FnSets.j0 k l1 t463 t464 t469 t470 t477 t478 t485 t486 true) else ((laws_sameInts.f k t477 t481).bind fun t494 => (if t494 = true then (if (t486 != t490) = true then (laws_FnSets.j0 k l1 t463 t464 t469 t470 t477 t478 t485 t486 true) else ((laws_sameInts.f k t485 t489).bind fun t495 => (if t495 = true then ((impl_GoodSet.f k t463).bind fun t496 => ((spec_GoodSet.f k t463).bind fun t497 => (laws_FnSets.j0 k l1 t463 t464 t469 t470 t477 t478 t485 t486 (t496 != t497)))) else (laws_FnSets.j0 k l1 t463 t464 t469 t470 t477 t478 t485 t486 true)))) else (laws_FnSets.j0 k l1 t463 t464 t469 t470 t477 t478 t485 t486 true)))) else (laws_FnSets.j0 k l1 t463 t464 t469 t470 t477 t478 t485 t486 true)) = some r := H
        have A23 := Aside0.mk A230
        clear A230
        by_cases c24 : t493 = true
        · subst c24
          have H1 : (if (t478 != t482) = true then (laws_FnSets.j0 k l1 t463 t464 t469 t470 t477 t478 t485 t486 true) else ((laws_sameInts.f k t477 t481).bind fun t494 => (if t494 = true then (if (t486 != t490) = true then (laws_FnSets.j0 k l1 t463 t464 t469 t470 t477 t478 t485 t486 true) else ((laws_sameInts.f k t485 t489).bind fun t495 => (if t495 = true then ((impl_GoodSet.f k t463).bind fun t496 => ((spec_GoodSet.f k t463).bind fun t497 => (laws_FnSets.j0 k l1 t463 t464 t469 t470 t477 t478 t485 t486 (t496 != t497)))) else (laws_FnSets.j0 k l1 t463 t464 t469 t470 t477 t478 t485 t486 true)))) else (laws_FnSets.j0 k l1 t463 t464 t469 t470 t477 t478 t485 t486 true)))) = some r := by rw [if_pos rfl] at H; exact H
          clear H
          have H := H1
          clear H1
          by_cases c25 : (t478 != t482) = true
          · rw [if_pos c25] at H
            have c25b0 : (t478 != t482) = true := c25
            (try (have c25b1 : decide (t478 = t482) = false := by simpa using c25))
            (try (have c25b2 : (t478 == t482) = false := by simpa using c25))
            (try (have c25b3 : ¬ (t478 = t482) := by simpa using c25))
            clear c25
            have H' := Aside0.mk H
            clear H
            obtain ⟨Ao26, co26, eo26⟩ := Kd.R_slice HO472.out
            subst eo26
            obtain ⟨Ao27, co27, eo27⟩ := Kd.R_slice HO476.out
            subst eo27
            go_wp2_with (first | (go_at_call 25; (with_reducible refine (laws_sameInts.calls k _ _ t469 _ _ t473 true _ ?side1 ?side2 ?side3 ?side4 A23.out).mono ?_); (case side1 => repeat (first | exact (Kd.R_reads' HO472.out).2.2 | (with_reducible refine Kd.C_alloc ?_ _) | (with_reducible refine Kd.C_drewN ?_ _) | (with_reducible refine Kd.C_drew ?_))); (case side2 => exact (Kd.R_reads' HO472.out).2.1); (case side3 => repeat (first | exact (Kd.R_reads' HO476.out).2.2 | (with_reducible refine Kd.C_alloc ?_ _) | (with_reducible refine Kd.C_drewN ?_ _) | (with_reducible refine Kd.C_drew ?_))); (case side4 => exact (Kd.R_reads' HO476.out).2.1); rintro e w' ⟨rfl, ⟨nd, rfl⟩⟩))
            go_meet
            case rel => exact ⟨_, (true), (by first | rfl | (simp; done) | (simp [*]; done)), H', ⟨by first | omega | exact Nat.le_refl _⟩, ⟨by (with_reducible repeat (first | apply Kd.R_alloc | apply Kd.R_drewN | apply Kd.R_drew)); exact Kd.R_mono HO466.out (fun _ hk => ⟨hk.1.1.1.1.1.1, ⟨hk.1.1.1.1.1.2, ⟨hk.1.1.1.2, hk.1.2⟩⟩⟩)⟩, ⟨by (with_reducible repeat (first | apply Kd.R_alloc | apply Kd.R_drewN | apply Kd.R_drew)); exact Kd.R_mono HO468.out (fun _ hk => ⟨hk.1.1.1.1.1.1, ⟨hk.1.1.1.1.1.2, ⟨hk.1.1.1.2, hk.1.2⟩⟩⟩)⟩, ⟨by (with_reducible repeat (first | apply Kd.R_alloc | apply Kd.R_drewN | apply Kd.R_drew)); exact Kd.R_mono HO472.out (fun _ hk => ⟨hk.1.1.1.1.1.1.2, ⟨hk.1.1.1.1.1.2, ⟨hk.1.1.1.2, hk.1.2⟩⟩⟩)⟩, ⟨by (with_reducible repeat (first | apply Kd.R_alloc | apply Kd.R_drewN | apply Kd.R_drew)); exact Kd.R_mono HO480.out (fun _ hk => ⟨hk.1.1.1.1.1.1.2, ⟨hk.1.1.1.1.1.2, ⟨hk.1.1.1.1.2, hk.1.2⟩⟩⟩)⟩, ⟨by (with_reducible repeat (first | apply Kd.R_alloc | apply Kd.R_drewN | apply Kd.R_drew)); exact Kd.R_mono HO488.out (fun _ hk => ⟨hk.1.1.1.1.1.1.2, ⟨hk.1.1.1.1.1.2, ⟨hk.1.1.1.1.2, hk.1.1.2⟩⟩⟩)⟩, ⟨by repeat (first | (with_reducible first | exact HB.out | apply below_alloc | apply pw_below_drewN | apply below_drew1) | exact HB.out)⟩⟩
          · rw [if_neg c25] at H
            have c25b0 : (t478 != t482) = false := by simpa using c25
            (try (have c25b1 : decide (t478 = t482) = true := by simpa using c25))
            (try (have c25b2 : (t478 == t482) = true := by simpa using c25))
            clear c25
            replace H := Option.bind_eq_some_iff.mp H
            obtain ⟨t494, A280, H⟩ := H
            replace H : (if t494 = true then (if (t486 != t490) = true then (laws_FnSets.j0 k l1 t463 t464 t469 t470 t477 t478 t485 t486 true) else ((laws_sameInts.f k t485 t489).bind fun t495 => (if t495 = true then ((impl_GoodSet.f k t463).bind fun t496 => ((spec_GoodSet.f k t463).bind fun t497 => (laws_FnSets.j0 k l1 t463 t464 t469 t470 t477 t478 t485 t486 (t496 != t497)))) else (laws_FnSets.j0 k l1 t463 t464 t469 t470 t477 t478 t485 t486 true)))) else (laws_FnSets.j0 k l1 t463 t464 t469 t470 t477 t478 t485 t486 true)) = some r := H
            have A28 := Aside0.mk A280
            clear A280
            by_cases c29 : t494 = true
            · subst c29
              have H1 : (if (t486 != t490) = true then (laws_FnSets.j0 k l1 t463 t464 t469 t470 t477 t478 t485 t486 true) else ((laws_sameInts.f k t485 t489).bind fun t495 => (if t495 = true then ((impl_GoodSet.f k t463).bind fun t496 => ((spec_GoodSet.f k t463).bind fun t497 => (laws_FnSets.j0 k l1 t463 t464 t469 t470 t477 t478 t485 t486 (t496 != t497)))) else (laws_FnSets.j0 k l1 t463 t464 t469 t470 t477 t478 t485 t486 true)))) = some r := by rw [if_pos rfl] at H; exact H
              clear H
              have H := H1
              clear H1
              by_cases c30 : (t486 != t490) = true
              · rw [if_pos c30] at H
                have c30b0 : (t486 != t490) = true := c30
                (try (have c30b1 : decide (t486 = t490) = false := by simpa using c30))
                (try (have c30b2 : (t486 == t490) = false := by simpa using c30))
                (try (have c30b3 : ¬ (t486 = t490) := by simpa using c30))
                clear c30
                have H' := Aside0.mk H
                clear H
                obtain ⟨Ao31, co31, eo31⟩ := Kd.R_slice HO472.out
                subst eo31
                obtain ⟨Ao32, co32, eo32⟩ := Kd.R_slice HO476.out
                subst eo32
                go_wp2_with (first | (go_at_call 25; (with_reducible refine (laws_sameInts.calls k _ _ t469 _ _ t473 true _ ?side1 ?side2 ?side3 ?side4 A23.out).mono ?_); (case side1 => repeat (first | exact (Kd.R_reads' HO472.out).2.2 | (with_reducible refine Kd.C_alloc ?_ _) | (with_reducible refine Kd.C_drewN ?_ _) | (with_reducible refine Kd.C_drew ?_))); (case side2 => exact (Kd.R_reads' HO472.out).2.1); (case side3 => repeat (first | exact (Kd.R_reads' HO476.out).2.2 | (with_reducible refine Kd.C_alloc ?_ _) | (with_reducible refine Kd.C_drewN ?_ _) | (with_reducible refine Kd.C_drew ?_))); (case side4 => exact (Kd.R_reads' HO476.out).2.1); rintro e w' ⟨rfl, ⟨nd, rfl⟩⟩; obtain ⟨Ao33, co33, eo33⟩ := Kd.R_slice HO480.out; subst eo33; obtain ⟨Ao34, co34, eo34⟩ := Kd.R_slice HO484.out; subst eo34) | (go_at_call 25; (with_reducible refine (laws_sameInts.calls k _ _ t477 _ _ t481 true _ ?side1 ?side2 ?side3 ?side4 A28.out).mono ?_); (case side1 => repeat (first | exact (Kd.R_reads' HO480.out).2.2 | (with_reducible refine Kd.C_alloc ?_ _) | (with_reducible refine Kd.C_drewN ?_ _) | (with_reducible refine Kd.C_drew ?_))); (case side2 => exact (Kd.R_reads' HO480.out).2.1); (case side3 => repeat (first | exact (Kd.R_reads' HO484.out).2.2 | (with_reducible refine Kd.C_alloc ?_ _) | (with_reducible refine Kd.C_drewN ?_ _) | (with_reducible refine Kd.C_drew ?_))); (case side4 => exact (Kd.R_reads' HO484.out).2.1); rintro e w' ⟨rfl, ⟨nd, rfl⟩⟩))
                go_meet
                case rel => exact ⟨_, (true), (by first | rfl | (simp; done) | (simp [*]; done)), H', ⟨by first | omega | exact Nat.le_refl _⟩, ⟨by (with_reducible repeat (first | apply Kd.R_alloc | apply Kd.R_drewN | apply Kd.R_drew)); exact Kd.R_mono HO466.out (fun _ hk => ⟨hk.1.1.1.1.1.1, ⟨hk.1.1.1.1.1.2, ⟨hk.1.1.1.2, hk.1.2⟩⟩⟩)⟩, ⟨by (with_reducible repeat (first | apply Kd.R_alloc | apply Kd.R_drewN | apply Kd.R_drew)); exact Kd.R_mono HO468.out (fun _ hk => ⟨hk.1.1.1.1.1.1, ⟨hk.1.1.1.1.1.2, ⟨hk.1.1.1.2, hk.1.2⟩⟩⟩)⟩, ⟨by (with_reducible repeat (first | apply Kd.R_alloc | apply Kd.R_drewN | apply Kd.R_drew)); exact Kd.R_mono HO472.out (fun _ hk => ⟨hk.1.1.1.1.1.1.2, ⟨hk.1.1.1.1.1.2, ⟨hk.1.1.1.2, hk.1.2⟩⟩⟩)⟩, ⟨by (with_reducible repeat (first | apply Kd.R_alloc | apply Kd.R_drewN | apply Kd.R_drew)); exact Kd.R_mono HO480.out (fun _ hk => ⟨hk.1.1.1.1.1.1.2, ⟨hk.1.1.1.1.1.2, ⟨hk.1.1.1.1.2, hk.1.2⟩⟩⟩)⟩, ⟨by (with_reducible repeat (first | apply Kd.R_alloc | apply Kd.R_drewN | apply Kd.R_drew)); exact Kd.R_mono HO488.out (fun _ hk => ⟨hk.1.1.1.1.1.1.2, ⟨hk.1.1.1.1.1.2, ⟨hk.1.1.1.1.2, hk.1.1.2⟩⟩⟩)⟩, ⟨by repeat (first | (with_reducible first | exact HB.out | apply below_alloc | apply pw_below_drewN | apply below_drew1) | exact HB.out)⟩⟩
              · rw [if_neg c30] at H
                have c30b0 : (t486 != t490) = false := by simpa using c30
                (try (have c30b1 : decide (t486 = t490) = true := by simpa using c30))
                (try (have c30b2 : (t486 == t490) = true := by simpa using c30))
                clear c30
                replace H := Option.bind_eq_some_iff.mp H
                obtain ⟨t495, A350, H⟩ := H
                replace H : (if t495 = true then ((impl_GoodSet.f k t463).bind fun t496 => ((spec_GoodSet.f k t463).bind fun t497 => (laws_FnSets.j0 k l1 t463 t464 t469 t470 t477 t478 t485 t486 (t496 != t497)))) else (laws_FnSets.j0 k l1 t463 t464 t469 t470 t477 t478 t485 t486 true)) = some r := H
                have A35 := Aside0.mk A350
                clear A350
                by_cases c36 : t495 = true
                · subst c36
                  have H1 : ((impl_GoodSet.f k t463).bind fun t496 => ((spec_GoodSet.f k t463).bind fun t497 => (laws_FnSets.j0 k l1 t463 t464 t469 t470 t477 t478 t485 t486 (t496 != t497)))) = some r := by rw [if_pos rfl] at H; exact H
                  clear H
                  have H := H1
                  clear H1
                  replace H := Option.bind_eq_some_iff.mp H
                  obtain ⟨t496, A370, H⟩ := H
                  replace H : ((spec_GoodSet.f k t463).bind fun t497 => (laws_FnSets.j0 k l1 t463 t464 t469 t470 t477 t478 t485 t486 (t496 != t497))) = some r := H
                  have A37 := Aside0.mk A370
                  clear A370
                  replace H := Option.bind_eq_some_iff.mp H
                  obtain ⟨t497, A380, H⟩ := H
                  replace H : (laws_FnSets.j0 k l1 t463 t464 t469 t470 t477 t478 t485 t486 (t496 != t497)) = some r := H
                  have A38 := Aside0.mk A380
                  clear A380
                  have H' := Aside0.mk H
                  clear H
                  obtain ⟨Ao39, co39, eo39⟩ := Kd.R_slice HO472.out
                  subst eo39
                  obtain ⟨Ao40, co40, eo40⟩ := Kd.R_slice HO476.out
                  subst eo40
                  go_wp2_with (first | (go_at_call 25; (with_reducible refine (laws_sameInts.calls k _ _ t469 _ _ t473 true _ ?side1 ?side2 ?side3 ?side4 A23.out).mono ?_); (case side1 => repeat (first | exact (Kd.R_reads' HO472.out).2.2 | (with_reducible refine Kd.C_alloc ?_ _) | (with_reducible refine Kd.C_drewN ?_ _) | (with_reducible refine Kd.C_drew ?_))); (case side2 => exact (Kd.R_reads' HO472.out).2.1); (case side3 => repeat (first | exact (Kd.R_reads' HO476.out).2.2 | (with_reducible refine Kd.C_alloc ?_ _) | (with_reducible refine Kd.C_drewN ?_ _) | (with_reducible refine Kd.C_drew ?_))); (case side4 => exact (Kd.R_reads' HO476.out).2.1); rintro e w' ⟨rfl, ⟨nd, rfl⟩⟩; obtain ⟨Ao41, co41, eo41⟩ := Kd.R_slice HO480.out; subst eo41; obtain ⟨Ao42, co42, eo42⟩ := Kd.R_slice HO484.out; subst eo42) | (go_at_call 25; (with_reducible refine (laws_sameInts.calls k _ _ t477 _ _ t481 true _ ?side1 ?side2 ?side3 ?side4 A28.out).mono ?_); (case side1 => repeat (first | exact (Kd.R_reads' HO480.out).2.2 | (with_reducible refine Kd.C_alloc ?_ _) | (with_reducible refine Kd.C_drewN ?_ _) | (with_reducible refine Kd.C_drew ?_))); (case side2 => exact (Kd.R_reads' HO480.out).2.1); (case side3 => repeat (first | exact (Kd.R_reads' HO484.out).2.2 | (with_reducible refine Kd.C_alloc ?_ _) | (with_reducible refine Kd.C_drewN ?_ _) | (with_reducible refine Kd.C_drew ?_))); (case side4 => exact (Kd.R_reads' HO484.out).2.1); rintro e w' ⟨rfl, ⟨nd, rfl⟩⟩; obtain ⟨Ao43, co43, eo43⟩ := Kd.R_slice HO488.out; subst eo43; obtain ⟨Ao44, co44, eo44⟩ := Kd.R_slice HO492.out; subst eo44) | (go_at_call 25; (with_reducible refine (laws_sameInts.calls k _ _ t485 _ _ t489 true _ ?side1 ?side2 ?side3 ?side4 A35.out).mono ?_); (case side1 => repeat (first | exact (Kd.R_reads' HO488.out).2.2 | (with_reducible refine Kd.C_alloc ?_ _) | (with_reducible refine Kd.C_drewN ?_ _) | (with_reducible refine Kd.C_drew ?_))); (case side2 => exact (Kd.R_reads' HO488.out).2.1); (case side3 => repeat (first | exact (Kd.R_reads' HO492.out).2.2 | (with_reducible refine Kd.C_alloc ?_ _) | (with_reducible refine Kd.C_drewN ?_ _) | (with_reducible refine Kd.C_drew ?_))); (case side4 => exact (Kd.R_reads' HO492.out).2.1); rintro e w' ⟨rfl, ⟨nd, rfl⟩⟩) | (go_at_call 26; (with_reducible refine (impl_GoodSet.calls k _ _ t463 t496 _ ?side1 ?side2 A37.out).mono ?_); (case side1 => repeat (first | exact (Kd.R_reads' HO466.out).2.2 | (with_reducible refine Kd.C_alloc ?_ _) | (with_reducible refine Kd.C_drewN ?_ _) | (with_reducible refine Kd.C_drew ?_))); (case side2 => exact (Kd.R_reads' HO466.out).2.1); rintro e w' ⟨rfl, ⟨nd, rfl⟩⟩) | (go_at_call 27; (with_reducible refine (spec_GoodSet.calls k _ _ t463 t497 _ ?side1 ?side2 A38.out).mono ?_); (case side1 => repeat (first | exact (Kd.R_reads' HO466.out).2.2 | (with_reducible refine Kd.C_alloc ?_ _) | (with_reducible refine Kd.C_drewN ?_ _) | (with_reducible refine Kd.C_drew ?_))); (case side2 => exact (Kd.R_reads' HO466.out).2.1); rintro e w' ⟨rfl, ⟨nd, rfl⟩⟩))
                  go_meet
                  case rel => exact ⟨_, ((t496 != t497)), (by first | rfl | (simp; done) | (simp [*]; done)), H', ⟨by first | omega | exact Nat.le_refl _⟩, ⟨by (with_reducible repeat (first | apply Kd.R_alloc | apply Kd.R_drewN | apply Kd.R_drew)); exact Kd.R_mono HO466.out (fun _ hk => ⟨hk.1.1.1.1.1.1, ⟨hk.1.1.1.1.1.2, ⟨hk.1.1.1.2, hk.1.2⟩⟩⟩)⟩, ⟨by (with_reducible repeat (first | apply Kd.R_alloc | apply Kd.R_drewN | apply Kd.R_drew)); exact Kd.R_mono HO468.out (fun _ hk => ⟨hk.1.1.1.1.1.1, ⟨hk.1.1.1.1.1.2, ⟨hk.1.1.1.2, hk.1.2⟩⟩⟩)⟩, ⟨by (with_reducible repeat (first | apply Kd.R_alloc | apply Kd.R_drewN | apply Kd.R_drew)); exact Kd.R_mono HO472.out (fun _ hk => ⟨hk.1.1.1.1.1.1.2, ⟨hk.1.1.1.1.1.2, ⟨hk.1.1.1.2, hk.1.2⟩⟩⟩)⟩, ⟨by (with_reducible repeat (first | apply Kd.R_alloc | apply Kd.R_drewN | apply Kd.R_drew)); exact Kd.R_mono HO480.out (fun _ hk => ⟨hk.1.1.1.1.1.1.2, ⟨hk.1.1.1.1.1.2, ⟨hk.1.1.1.1.2, hk.1.2⟩⟩⟩)⟩, ⟨by (with_reducible repeat (first | apply Kd.R_alloc | apply Kd.R_drewN | apply Kd.R_drew)); exact Kd.R_mono HO488.out (fun _ hk => ⟨hk.1.1.1.1.1.1.2, ⟨hk.1.1.1.1.1.2, ⟨hk.1.1.1.1.2, hk.1.1.2⟩⟩⟩)⟩, ⟨by repeat (first | (with_reducible first | exact HB.out | apply below_alloc | apply pw_below_drewN | apply below_drew1) | exact HB.out)⟩⟩
                · replace c36 := Bool.eq_false_iff.mpr c36
                  subst c36
                  have H1 : (laws_FnSets.j0 k l1 t463 t464 t469 t470 t477 t478 t485 t486 true) = some r := by rw [if_neg (show ¬ (false = true) by decide)] at H; exact H
                  clear H
                  have H := H1
                  clear H1
                  have H' := Aside0.mk H
                  clear H
                  obtain ⟨Ao45, co45, eo45⟩ := Kd.R_slice HO472.out
                  subst eo45
                  obtain ⟨Ao46, co46, eo46⟩ := Kd.R_slice HO476.out
                  subst eo46
                  go_wp2_with (first | (go_at_call 25; (with_reducible refine (laws_sameInts.calls k _ _ t469 _ _ t473 true _ ?side1 ?side2 ?side3 ?side4 A23.out).mono ?_); (case side1 => repeat (first | exact (Kd.R_reads' HO472.out).2.2 | (with_reducible refine Kd.C_alloc ?_ _) | (with_reducible refine Kd.C_drewN ?_ _) | (with_reducible refine Kd.C_drew ?_))); (case side2 => exact (Kd.R_reads' HO472.out).2.1); (case side3 => repeat (first | exact (Kd.R_reads' HO476.out).2.2 | (with_reducible refine Kd.C_alloc ?_ _) | (with_reducible refine Kd.C_drewN ?_ _) | (with_reducible refine Kd.C_drew ?_))); (case side4 => exact (Kd.R_reads' HO476.out).2.1); rintro e w' ⟨rfl, ⟨nd, rfl⟩⟩; obtain ⟨Ao47, co47, eo47⟩ := Kd.R_slice HO480.out; subst eo47; obtain ⟨Ao48, co48, eo48⟩ := Kd.R_slice HO484.out; subst eo48) | (go_at_call 25; (with_reducible refine (laws_sameInts.calls k _ _ t477 _ _ t481 true _ ?side1 ?side2 ?side3 ?side4 A28.out).mono ?_); (case side1 => repeat (first | exact (Kd.R_reads' HO480.out).2.2 | (with_reducible refine Kd.C_alloc ?_ _) | (with_reducible refine Kd.C_drewN ?_ _) | (with_reducible refine Kd.C_drew ?_))); (case side2 => exact (Kd.R_reads' HO480.out).2.1); (case side3 => repeat (first | exact (Kd.R_reads' HO484.out).2.2 | (with_reducible refine Kd.C_alloc ?_ _) | (with_reducible refine Kd.C_drewN ?_ _) | (with_reducible refine Kd.C_drew ?_))); (case side4 => exact (Kd.R_reads' HO484.out).2.1); rintro e w' ⟨rfl, ⟨nd, rfl⟩⟩; obtain ⟨Ao49, co49, eo49⟩ := Kd.R_slice HO488.out; subst eo49; obtain ⟨Ao50, co50, eo50⟩ := Kd.R_slice HO492.out; subst eo50) | (go_at_call 25; (with_reducible refine (laws_sameInts.calls k _ _ t485 _ _ t489 false _ ?side1 ?side2 ?side3 ?side4 A35.out).mono ?_); (case side1 => repeat (first | exact (Kd.R_reads' HO488.out).2.2 | (with_reducible refine Kd.C_alloc ?_ _) | (with_reducible refine Kd.C_drewN ?_ _) | (with_reducible refine Kd.C_drew ?_))); (case side2 => exact (Kd.R_reads' HO488.out).2.1); (case side3 => repeat (first | exact (Kd.R_reads' HO492.out).2.2 | (with_reducible refine Kd.C_alloc ?_ _) | (with_reducible refine Kd.C_drewN ?_ _) | (with_reducible refine Kd.C_drew ?_))); (case side4 => exact (Kd.R_reads' HO492.out).2.1); rintro e w' ⟨rfl, ⟨nd, rfl⟩⟩))
                  go_meet
                  case rel => exact ⟨_, (true), (by first | rfl | (simp; done) | (simp [*]; done)), H', ⟨by first | omega | exact Nat.le_refl _⟩, ⟨by (with_reducible repeat (first | apply Kd.R_alloc | apply Kd.R_drewN | apply Kd.R_drew)); exact Kd.R_mono HO466.out (fun _ hk => ⟨hk.1.1.1.1.1.1, ⟨hk.1.1.1.1.1.2, ⟨hk.1.1.1.2, hk.1.2⟩⟩⟩)⟩, ⟨by (with_reducible repeat (first | apply Kd.R_alloc | apply Kd.R_drewN | apply Kd.R_drew)); exact Kd.R_mono HO468.out (fun _ hk => ⟨hk.1.1.1.1.1.1, ⟨hk.1.1.1.1.1.2, ⟨hk.1.1.1.2, hk.1.2⟩⟩⟩)⟩, ⟨by (with_reducible repeat (first | apply Kd.R_alloc | apply Kd.R_drewN | apply Kd.R_drew)); exact Kd.R_mono HO472.out (fun _ hk => ⟨hk.1.1.1.1.1.1.2, ⟨hk.1.1.1.1.1.2, ⟨hk.1.1.1.2, hk.1.2⟩⟩⟩)⟩, ⟨by (with_reducible repeat (first | apply Kd.R_alloc | apply Kd.R_drewN | apply Kd.R_drew)); exact Kd.R_mono HO480.out (fun _ hk => ⟨hk.1.1.1.1.1.1.2, ⟨hk.1.1.1.1.1.2, ⟨hk.1.1.1.1.2, hk.1.2⟩⟩⟩)⟩, ⟨by (with_reducible repeat (first | apply Kd.R_alloc | apply Kd.R_drewN | apply Kd.R_drew)); exact Kd.R_mono HO488.out (fun _ hk => ⟨hk.1.1.1.1.1.1.2, ⟨hk.1.1.1.1.1.2, ⟨hk.1.1.1.1.2, hk.1.1.2⟩⟩⟩)⟩, ⟨by repeat (first | (with_reducible first | exact HB.out | apply below_alloc | apply pw_below_drewN | apply below_drew1) | exact HB.out)⟩⟩
            · replace c29 := Bool.eq_false_iff.mpr c29
              subst c29
              have H1 : (laws_FnSets.j0 k l1 t463 t464 t469 t470 t477 t478 t485 t486 true) = some r := by rw [if_neg (show ¬ (false = true) by decide)] at H; exact H
              clear H
              have H := H1
              clear H1
              have H' := Aside0.mk H
              clear H
              obtain ⟨Ao51, co51, eo51⟩ := Kd.R_slice HO472.out
              subst eo51
              obtain ⟨Ao52, co52, eo52⟩ := Kd.R_slice HO476.out
              subst eo52
              go_wp2_with (first | (go_at_call 25; (with_reducible refine (laws_sameInts.calls k _ _ t469 _ _ t473 true _ ?side1 ?side2 ?side3 ?side4 A23.out).mono ?_); (case side1 => repeat (first | exact (Kd.R_reads' HO472.out).2.2 | (with_reducible refine Kd.C_alloc ?_ _) | (with_reducible refine Kd.C_drewN ?_ _) | (with_reducible refine Kd.C_drew ?_))); (case side2 => exact (Kd.R_reads' HO472.out).2.1); (case side3 => repeat (first | exact (Kd.R_reads' HO476.out).2.2 | (with_reducible refine Kd.C_alloc ?_ _) | (with_reducible refine Kd.C_drewN ?_ _) | (with_reducible refine Kd.C_drew ?_))); (case side4 => exact (Kd.R_reads' HO476.out).2.1); rintro e w' ⟨rfl, ⟨nd, rfl⟩⟩; obtain ⟨Ao53, co53, eo53⟩ := Kd.R_slice HO480.out; subst eo53; obtain ⟨Ao54, co54, eo54⟩ := Kd.R_slice HO484.out; subst eo54) | (go_at_call 25; (with_reducible refine (laws_sameInts.calls k _ _ t477 _ _ t481 false _ ?side1 ?side2 ?side3 ?side4 A28.out).mono ?_); (case side1 => repeat (first | exact (Kd.R_reads' HO480.out).2.2 | (with_reducible refine Kd.C_alloc ?_ _) | (with_reducible refine Kd.C_drewN ?_ _) | (with_reducible refine Kd.C_drew ?_))); (case side2 => exact (Kd.R_reads' HO480.out).2.1); (case side3 => repeat (first | exact (Kd.R_reads' HO484.out).2.2 | (with_reducible refine Kd.C_alloc ?_ _) | (with_reducible refine Kd.C_drewN ?_ _) | (with_reducible refine Kd.C_drew ?_))); (case side4 => exact (Kd.R_reads' HO484.out).2.1); rintro e w' ⟨rfl, ⟨nd, rfl⟩⟩))
              go_meet
              case rel => exact ⟨_, (true), (by first | rfl | (simp; done) | (simp [*]; done)), H', ⟨by first | omega | exact Nat.le_refl _⟩, ⟨by (with_reducible repeat (first | apply Kd.R_alloc | apply Kd.R_drewN | apply Kd.R_drew)); exact Kd.R_mono HO466.out (fun _ hk => ⟨hk.1.1.1.1.1.1, ⟨hk.1.1.1.1.1.2, ⟨hk.1.1.1.2, hk.1.2⟩⟩⟩)⟩, ⟨by (with_reducible repeat (first | apply Kd.R_alloc | apply Kd.R_drewN | apply Kd.R_drew)); exact Kd.R_mono HO468.out (fun _ hk => ⟨hk.1.1.1.1.1.1, ⟨hk.1.1.1.1.1.2, ⟨hk.1.1.1.2, hk.1.2⟩⟩⟩)⟩, ⟨by (with_reducible repeat (first | apply Kd.R_alloc | apply Kd.R_drewN | apply Kd.R_drew)); exact Kd.R_mono HO472.out (fun _ hk => ⟨hk.1.1.1.1.1.1.2, ⟨hk.1.1.1.1.1.2, ⟨hk.1.1.1.2, hk.1.2⟩⟩⟩)⟩, ⟨by (with_reducible repeat (first | apply Kd.R_alloc | apply Kd.R_drewN | apply Kd.R_drew)); exact Kd.R_mono HO480.out (fun _ hk => ⟨hk.1.1.1.1.1.1.2, ⟨hk.1.1.1.1.1.2, ⟨hk.1.1.1.1.2, hk.1.2⟩⟩⟩)⟩, ⟨by (with_reducible repeat (first | apply Kd.R_alloc | apply Kd.R_drewN | apply Kd.R_drew)); exact Kd.R_mono HO488.out (fun _ hk => ⟨hk.1.1.1.1.1.1.2, ⟨hk.1.1.1.1.1.2, ⟨hk.1.1.1.1.2, hk.1.1.2⟩⟩⟩)⟩, ⟨by repeat (first | (with_reducible first | exact HB.out | apply below_alloc | apply pw_below_drewN | apply below_drew1) | exact HB.out)⟩⟩
        · replace c24 := Bool.eq_false_iff.mpr c24
          subst c24
          have H1 : (laws_FnSets.j0 k l1 t463 t464 t469 t470 t477 t478 t485 t486 true) = some r := by rw [if_neg (show ¬ (false = true) by decide)] at H; exact H
          clear H
          have H := H1
          clear H1
          have H' := Aside0.mk H
          clear H
          obtain ⟨Ao55, co55, eo55⟩ := Kd.R_slice HO472.out
          subst eo55
          obtain ⟨Ao56, co56, eo56⟩ := Kd.R_slice HO476.out
          subst eo56
          go_wp2_with (first | (go_at_call 25; (with_reducible refine (laws_sameInts.calls k _ _ t469 _ _ t473 false _ ?side1 ?side2 ?side3 ?side4 A23.out).mono ?_); (case side1 => repeat (first | exact (Kd.R_reads' HO472.out).2.2 | (with_reducible refine Kd.C_alloc ?_ _) | (with_reducible refine Kd.C_drewN ?_ _) | (with_reducible refine Kd.C_drew ?_))); (case side2 => exact (Kd.R_reads' HO472.out).2.1); (case side3 => repeat (first | exact (Kd.R_reads' HO476.out).2.2 | (with_reducible refine Kd.C_alloc ?_ _) | (with_reducible refine Kd.C_drewN ?_ _) | (with_reducible refine Kd.C_drew ?_))); (case side4 => exact (Kd.R_reads' HO476.out).2.1); rintro e w' ⟨rfl, ⟨nd, rfl⟩⟩))
          go_meet
          case rel => exact ⟨_, (true), (by first | rfl | (simp; done) | (simp [*]; done)), H', ⟨by first | omega | exact Nat.le_refl _⟩, ⟨by (with_reducible repeat (first | apply Kd.R_alloc | apply Kd.R_drewN | apply Kd.R_drew)); exact Kd.R_mono HO466.out (fun _ hk => ⟨hk.1.1.1.1.1.1, ⟨hk.1.1.1.1.1.2, ⟨hk.1.1.1.2, hk.1.2⟩⟩⟩)⟩, ⟨by (with_reducible repeat (first | apply Kd.R_alloc | apply Kd.R_drewN | apply Kd.R_drew)); exact Kd.R_mono HO468.out (fun _ hk => ⟨hk.1.1.1.1.1.1, ⟨hk.1.1.1.1.1.2, ⟨hk.1.1.1.2, hk.1.2⟩⟩⟩)⟩, ⟨by (with_reducible repeat (first | apply Kd.R_alloc | apply Kd.R_drewN | apply Kd.R_drew)); exact Kd.R_mono HO472.out (fun _ hk => ⟨hk.1.1.1.1.1.1.2, ⟨hk.1.1.1.1.1.2, ⟨hk.1.1.1.2, hk.1.2⟩⟩⟩)⟩, ⟨by (with_reducible repeat (first | apply Kd.R_alloc | apply Kd.R_drewN | apply Kd.R_drew)); exact Kd.R_mono HO480.out (fun _ hk => ⟨hk.1.1.1.1.1.1.2, ⟨hk.1.1.1.1.1.2, ⟨hk.1.1.1.1.2, hk.1.2⟩⟩⟩)⟩, ⟨by (with_reducible repeat (first | apply Kd.R_alloc | apply Kd.R_drewN | apply Kd.R_drew)); exact Kd.R_mono HO488.out (fun _ hk => ⟨hk.1.1.1.1.1.1.2, ⟨hk.1.1.1.1.1.2, ⟨hk.1.1.1.1.2, hk.1.1.2⟩⟩⟩)⟩, ⟨by repeat (first | (with_reducible first | exact HB.out | apply below_alloc | apply pw_below_drewN | apply below_drew1) | exact HB.out)⟩⟩
    case rest => as_aux_lemma =>
      clear HC12
      try clear c1
      try clear c2
      try clear p2
      try clear c3
      try clear c4
      try clear c7
      try clear c9
      try clear c11
      try clear c15
      try clear c16
      try clear c21
      try clear c22
      try clear c22b0
      try clear c22b1
      try clear c22b2
      try clear c23
      try clear c24
      try clear c25
      try clear c25b0
      try clear c25b1
      try clear c25b2
      try clear c29
      try clear c30
      try clear c30b0
      try clear c30b1
      try clear c30b2
      try clear c36
      obtain ⟨kq, x125_11, rfl, HA, HJ11, HO_5, HO_6, HO_7, HO_11, HO_15, HB⟩ := hcut
      cases kq with
      | zero => exact absurd HA.out (by simp [laws_FnSets.j0])
      | succ kj11 =>
        have H := HA.out
        clear HA
        simp only [laws_FnSets.j0] at H
        by_cases c57 : x125_11 = true
        · subst c57
          have H1 : (some false) = some r := by rw [if_pos rfl] at H; exact H
          clear H
          have H := H1
          clear H1
          obtain rfl := Option.some.inj H
          (first | exact absurd hr_ (by decide) | skip)
          all_goals (go_wp2)
          all_goals (go_ret)
          all_goals (exact ⟨by first | rfl | (simp [errW_none, errW_some] <;> rfl) | (simp [*, errW_none, errW_some] <;> rfl), by repeat (first | (with_reducible first | exact HB.out | apply below_alloc | apply pw_below_drewN | apply below_drew1) | exact HB.out)⟩)
        · replace c57 := Bool.eq_false_iff.mpr c57
          subst c57
          have H1 : ((spec_DrawInSet.f kj11 l1).bind fun bt498 => ((impl_InSet.f kj11 t463 bt498.2).bind fun bt502 => ((impl_InSet.f kj11 t464 bt498.2).bind fun bt504 => (if bt502.2 = true then (laws_FnSets.j1 kj11 l1 t463 t469 t470 t477 t478 t485 t486 bt498.2 bt502.1 bt504.1 bt504.2) else (laws_FnSets.j1 kj11 l1 t463 t469 t470 t477 t478 t485 t486 bt498.2 bt502.1 bt504.1 false))))) = some r := by rw [if_neg (show ¬ (false = true) by decide)] at H; exact H
          clear H
          have H := H1
          clear H1
          replace H := Option.bind_eq_some_iff.mp H
          obtain ⟨⟨t498, t499⟩, A580, H⟩ := H
          replace H : ((impl_InSet.f kj11 t463 t499).bind fun bt502 => ((impl_InSet.f kj11 t464 t499).bind fun bt504 => (if bt502.2 = true then (laws_FnSets.j1 kj11 l1 t463 t469 t470 t477 t478 t485 t486 t499 bt502.1 bt504.1 bt504.2) else (laws_FnSets.j1 kj11 l1 t463 t469 t470 t477 t478 t485 t486 t499 bt502.1 bt504.1 false)))) = some r := H
          have A58 := Aside0.mk A580
          clear A580
          replace H := Option.bind_eq_some_iff.mp H
          obtain ⟨⟨t502, t503⟩, A590, H⟩ := H
          replace H : ((impl_InSet.f kj11 t464 t499).bind fun bt504 => (if t503 = true then (laws_FnSets.j1 kj11 l1 t463 t469 t470 t477 t478 t485 t486 t499 t502 bt504.1 bt504.2) else (laws_FnSets.j1 kj11 l1 t463 t469 t470 t477 t478 t485 t486 t499 t502 bt504.1 false))) = some r := H
          have A59 := Aside0.mk A590
          clear A590
          replace H := Option.bind_eq_some_iff.mp H
          obtain ⟨⟨t504, t505⟩, A600, H⟩ := H
          replace H : (if t503 = true then (laws_FnSets.j1 kj11 l1 t463 t469 t470 t477 t478 t485 t486 t499 t502 t504 t505) else (laws_FnSets.j1 kj11 l1 t463 t469 t470 t477 t478 t485 t486 t499 t502 t504 false)) = some r := H
          have A60 := Aside0.mk A600
          clear A600
          have HC61 := Aside0.mk H
          clear H
          go_upto_region 15 with (first | ((with_reducible refine gate_callee (f := 28) rfl ?_); refine goesL_ (some 128) rfl rfl Try.func28 (by kernel_rfl) rfl #[.slice A1 l1.length c1] rfl (by (try simp only [List.map_toArray, List.map_cons, List.map_nil]); first | done | rfl | (simp only [List.length_drop, List.length_take]; rfl)) ?_; (with_reducible refine (spec_DrawInSet.calls kj11 _ _ l1 t498 t499 _ ?side1 ?side2 A58.out).mono ?_); (case side1 => repeat (first | exact (Kd.C_below HR1.out HB.out) | (with_reducible refine Kd.C_alloc ?_ _) | (with_reducible refine Kd.C_drewN ?_ _) | (with_reducible refine Kd.C_drew ?_))); (case side2 => exact HC1.out); rintro e w62 ⟨v500, rfl, ho0, hb⟩; refine ⟨_, rfl, ?_⟩; have n0_ := Aside0.mk (Kd.R_elder' (by (with_reducible repeat (first | apply Kd.R_alloc | apply Kd.R_drewN | apply Kd.R_drew)); exact HO_5.out) (Kd.R_base ho0) hb); have n1_ := Aside0.mk (Kd.R_elder' (by (with_reducible repeat (first | apply Kd.R_alloc | apply Kd.R_drewN | apply Kd.R_drew)); exact HO_6.out) (Kd.R_base ho0) hb); have n2_ := Aside0.mk (Kd.R_elder' (by (with_reducible repeat (first | apply Kd.R_alloc | apply Kd.R_drewN | apply Kd.R_drew)); exact HO_7.out) (Kd.R_base ho0) hb); have n3_ := Aside0.mk (Kd.R_elder' (by (with_reducible repeat (first | apply Kd.R_alloc | apply Kd.R_drewN | apply Kd.R_drew)); exact HO_11.out) (Kd.R_base ho0) hb); have n4_ := Aside0.mk (Kd.R_elder' (by (with_reducible repeat (first | apply Kd.R_alloc | apply Kd.R_drewN | apply Kd.R_drew)); exact HO_15.out) (Kd.R_base ho0) hb); have n5_ := Aside0.mk (Kd.R_lower (Kd.R_new' (Kd.R_new' (Kd.R_new' (Kd.R_new' (Kd.R_new' ho0 (Kd.R_lt (by (with_reducible repeat (first | apply Kd.R_alloc | apply Kd.R_drewN | apply Kd.R_drew)); exact HO_5.out))) (Kd.R_lt (by (with_reducible repeat (first | apply Kd.R_alloc | apply Kd.R_drewN | apply Kd.R_drew)); exact HO_6.out))) (Kd.R_lt (by (with_reducible repeat (first | apply Kd.R_alloc | apply Kd.R_drewN | apply Kd.R_drew)); exact HO_7.out))) (Kd.R_lt (by (with_reducible repeat (first | apply Kd.R_alloc | apply Kd.R_drewN | apply Kd.R_drew)); exact HO_11.out))) (Kd.R_lt (by (with_reducible repeat (first | apply Kd.R_alloc | apply Kd.R_drewN | apply Kd.R_drew)); exact HO_15.out))) (below_size (by repeat (first | (with_reducible first | exact HB.out | apply below_alloc | apply pw_below_drewN | apply below_drew1) | exact HB.out)))); have n6_ := Aside0.mk (below_step (by repeat (first | (with_reducible first | exact HB.out | apply below_alloc | apply pw_below_drewN | apply below_drew1) | exact HB.out)) hb); clear HO_5; clear HO_6; clear HO_7; clear HO_11; clear HO_15; clear HB; have HO_5 := n0_; have HO_6 := n1_; have HO_7 := n2_; have HO_11 := n3_; have HO_15 := n4_; have HO501 := n5_; have HB := n6_; clear n0_ n1_ n2_ n3_ n4_ n5_ n6_; (try clear hb); (try clear ho0)) | ((with_reducible refine gate_callee (f := 29) rfl ?_); refine goesL_ (some 134) rfl rfl Try.func29 (by kernel_rfl) rfl #[.slice Ao14 t463.length co14, .int .i64 t499] rfl (by (try simp only [List.map_toArray, List.map_cons, List.map_nil]); first | done | rfl | (simp only [List.length_drop, List.length_take]; rfl)) ?_; (with_reducible refine (impl_InSet.calls kj11 _ _ t463 t499 t502 t503 _ ?side1 ?side2 A59.out).mono ?_); (case side1 => repeat (first | exact (Kd.R_reads' HO_5.out).2.2 | (with_reducible refine Kd.C_alloc ?_ _) | (with_reducible refine Kd.C_drewN ?_ _) | (with_reducible refine Kd.C_drew ?_))); (case side2 => exact (Kd.R_reads' HO_5.out).2.1); rintro e w63 ⟨rfl, hb⟩; refine ⟨_, rfl, ?_⟩; have n0_ := Aside0.mk (Kd.R_below (by (with_reducible repeat (first | apply Kd.R_alloc | apply Kd.R_drewN | apply Kd.R_drew)); exact HO_5.out) hb); have n1_ := Aside0.mk (Kd.R_below (by (with_reducible repeat (first | apply Kd.R_alloc | apply Kd.R_drewN | apply Kd.R_drew)); exact HO_6.out) hb); have n2_ := Aside0.mk (Kd.R_below (by (with_reducible repeat (first | apply Kd.R_alloc | apply Kd.R_drewN | apply Kd.R_drew)); exact HO_7.out) hb); have n3_ := Aside0.mk (Kd.R_below (by (with_reducible repeat (first | apply Kd.R_alloc | apply Kd.R_drewN | apply Kd.R_drew)); exact HO_11.out) hb); have n4_ := Aside0.mk (Kd.R_below (by (with_reducible repeat (first | apply Kd.R_alloc | apply Kd.R_drewN | apply Kd.R_drew)); exact HO_15.out) hb); have n5_ := Aside0.mk (Kd.R_below (by (with_reducible repeat (first | apply Kd.R_alloc | apply Kd.R_drewN | apply Kd.R_drew)); exact HO501.out) hb); have n6_ := Aside0.mk (below_step (by repeat (first | (with_reducible first | exact HB.out | apply below_alloc | apply pw_below_drewN | apply below_drew1) | exact HB.out)) hb); clear HO_5; clear HO_6; clear HO_7; clear HO_11; clear HO_15; clear HO501; clear HB; have HO_5 := n0_; have HO_6 := n1_; have HO_7 := n2_; have HO_11 := n3_; have HO_15 := n4_; have HO501 := n5_; have HB := n6_; clear n0_ n1_ n2_ n3_ n4_ n5_ n6_; (try clear hb); ) | ((with_reducible refine gate_callee (f := 29) rfl ?_); refine goesL_ (some 140) rfl rfl Try.func29 (by kernel_rfl) rfl #[.slice Ao15 t464.length co15, .int .i64 t499] rfl (by (try simp only [List.map_toArray, List.map_cons, List.map_nil]); first | done | rfl | (simp only [List.length_drop, List.length_take]; rfl)) ?_; (with_reducible refine (impl_InSet.calls kj11 _ _ t464 t499 t504 t505 _ ?side1 ?side2 A60.out).mono ?_); (case side1 => repeat (first | exact (Kd.R_reads' HO_6.out).2.2 | (with_reducible refine Kd.C_alloc ?_ _) | (with_reducible refine Kd.C_drewN ?_ _) | (with_reducible refine Kd.C_drew ?_))); (case side2 => exact (Kd.R_reads' HO_6.out).2.1); rintro e w64 ⟨rfl, hb⟩; refine ⟨_, rfl, ?_⟩; have n0_ := Aside0.mk (Kd.R_below (by (with_reducible repeat (first | apply Kd.R_alloc | apply Kd.R_drewN | apply Kd.R_drew)); exact HO_5.out) hb); have n1_ := Aside0.mk (Kd.R_below (by (with_reducible repeat (first | apply Kd.R_alloc | apply Kd.R_drewN | apply Kd.R_drew)); exact HO_6.out) hb); have n2_ := Aside0.mk (Kd.R_below (by (with_reducible repeat (first | apply Kd.R_alloc | apply Kd.R_drewN | apply Kd.R_drew)); exact HO_7.out) hb); have n3_ := Aside0.mk (Kd.R_below (by (with_reducible repeat (first | apply Kd.R_alloc | apply Kd.R_drewN | apply Kd.R_drew)); exact HO_11.out) hb); have n4_ := Aside0.mk (Kd.R_below (by (with_reducible repeat (first | apply Kd.R_alloc | apply Kd.R_drewN | apply Kd.R_drew)); exact HO_15.out) hb); have n5_ := Aside0.mk (Kd.R_below (by (with_reducible repeat (first | apply Kd.R_alloc | apply Kd.R_drewN | apply Kd.R_drew)); exact HO501.out) hb); have n6_ := Aside0.mk (below_step (by repeat (first | (with_reducible first | exact HB.out | apply below_alloc | apply pw_below_drewN | apply below_drew1) | exact HB.out)) hb); clear HO_5; clear HO_6; clear HO_7; clear HO_11; clear HO_15; clear HO501; clear HB; have HO_5 := n0_; have HO_6 := n1_; have HO_7 := n2_; have HO_11 := n3_; have HO_15 := n4_; have HO501 := n5_; have HB := n6_; clear n0_ n1_ n2_ n3_ n4_ n5_ n6_; (try clear hb); ))
          (try simp only [Act.put, List.setIfInBounds_toArray, List.set_cons_zero, List.set_cons_succ])
          go_cut [146] (fun v146 wc => ∃ (kq : Nat) (x146_60 : Bool), v146 = .bool x146_60 ∧ Aside0 (laws_FnSets.j1 kq l1 t463 t469 t470 t477 t478 t485 t486 t499 t502 t504 x146_60 = some r) ∧ Aside0 (kq ≤ kj11) ∧ Aside0 (Kd.R (Kd.int .i64) 3 wc w.heap.size (fun k_ => some k_ ≠ (v471 : Value).ownBlock ∧ some k_ ≠ (v479 : Value).ownBlock ∧ some k_ ≠ (v487 : Value).ownBlock) (.slice Ao14 t463.length co14) t463) ∧ Aside0 (Kd.R (Kd.int .i64) 3 wc w.heap.size (fun k_ => some k_ ≠ ((.slice Ao14 t463.length co14) : Value).ownBlock ∧ some k_ ≠ (v479 : Value).ownBlock ∧ some k_ ≠ (v487 : Value).ownBlock) v471 t469) ∧ Aside0 (Kd.R (Kd.int .i64) 3 wc w.heap.size (fun k_ => some k_ ≠ ((.slice Ao14 t463.length co14) : Value).ownBlock ∧ some k_ ≠ (v471 : Value).ownBlock ∧ some k_ ≠ (v487 : Value).ownBlock) v479 t477) ∧ Aside0 (Kd.R (Kd.int .i64) 3 wc w.heap.size (fun k_ => some k_ ≠ ((.slice Ao14 t463.length co14) : Value).ownBlock ∧ some k_ ≠ (v471 : Value).ownBlock ∧ some k_ ≠ (v479 : Value).ownBlock) v487 t485) ∧ Aside0 (Below w.heap.size w wc))
          case first => as_aux_lemma =>
            have H := HC61.out
            clear HC61
            by_cases c65 : t503 = true
            · subst c65
              have H1 : (laws_FnSets.j1 kj11 l1 t463 t469 t470 t477 t478 t485 t486 t499 t502 t504 t505) = some r := by rw [if_pos rfl] at H; exact H
              clear H
              have H := H1
              clear H1
              have H' := Aside0.mk H
              clear H
              go_wp2
              go_meet
              case rel => exact ⟨_, (t505), (by first | rfl | (simp; done) | (simp [*]; done)), H', ⟨by have := HJ11.out; first | omega | exact Nat.le_refl _⟩, ⟨by (with_reducible repeat (first | apply Kd.R_alloc | apply Kd.R_drewN | apply Kd.R_drew)); exact Kd.R_mono HO_5.out (fun _ hk => ⟨hk.1.2.1, ⟨hk.1.2.2.1, hk.1.2.2.2⟩⟩)⟩, ⟨by (with_reducible repeat (first | apply Kd.R_alloc | apply Kd.R_drewN | apply Kd.R_drew)); exact Kd.R_mono HO_7.out (fun _ hk => ⟨hk.1.1, ⟨hk.1.2.2.1, hk.1.2.2.2⟩⟩)⟩, ⟨by (with_reducible repeat (first | apply Kd.R_alloc | apply Kd.R_drewN | apply Kd.R_drew)); exact Kd.R_mono HO_11.out (fun _ hk => ⟨hk.1.1, ⟨hk.1.2.2.1, hk.1.2.2.2⟩⟩)⟩, ⟨by (with_reducible repeat (first | apply Kd.R_alloc | apply Kd.R_drewN | apply Kd.R_drew)); exact Kd.R_mono HO_15.out (fun _ hk => ⟨hk.1.1, ⟨hk.1.2.2.1, hk.1.2.2.2⟩⟩)⟩, ⟨by repeat (first | (with_reducible first | exact HB.out | apply below_alloc | apply pw_below_drewN | apply below_drew1) | exact HB.out)⟩⟩
            · replace c65 := Bool.eq_false_iff.mpr c65
              subst c65
              have H1 : (laws_FnSets.j1 kj11 l1 t463 t469 t470 t477 t478 t485 t486 t499 t502 t504 false) = some r := by rw [if_neg (show ¬ (false = true) by decide)] at H; exact H
              clear H
              have H := H1
              clear H1
              have H' := Aside0.mk H
              clear H
              go_wp2
              go_meet
              case rel => exact ⟨_, (false), (by first | rfl | (simp; done) | (simp [*]; done)), H', ⟨by have := HJ11.out; first | omega | exact Nat.le_refl _⟩, ⟨by (with_reducible repeat (first | apply Kd.R_alloc | apply Kd.R_drewN | apply Kd.R_drew)); exact Kd.R_mono HO_5.out (fun _ hk => ⟨hk.1.2.1, ⟨hk.1.2.2.1, hk.1.2.2.2⟩⟩)⟩, ⟨by (with_reducible repeat (first | apply Kd.R_alloc | apply Kd.R_drewN | apply Kd.R_drew)); exact Kd.R_mono HO_7.out (fun _ hk => ⟨hk.1.1, ⟨hk.1.2.2.1, hk.1.2.2.2⟩⟩)⟩, ⟨by (with_reducible repeat (first | apply Kd.R_alloc | apply Kd.R_drewN | apply Kd.R_drew)); exact Kd.R_mono HO_11.out (fun _ hk => ⟨hk.1.1, ⟨hk.1.2.2.1, hk.1.2.2.2⟩⟩)⟩, ⟨by (with_reducible repeat (first | apply Kd.R_alloc | apply Kd.R_drewN | apply Kd.R_drew)); exact Kd.R_mono HO_15.out (fun _ hk => ⟨hk.1.1, ⟨hk.1.2.2.1, hk.1.2.2.2⟩⟩)⟩, ⟨by repeat (first | (with_reducible first | exact HB.out | apply below_alloc | apply pw_below_drewN | apply below_drew1) | exact HB.out)⟩⟩
          case rest => as_aux_lemma =>
            clear HC61
            try clear c1
            try clear c2
            try clear p2
            try clear c3
            try clear c4
            try clear c5
            try clear c6
            try clear c7
            try clear c9
            try clear c11
            try clear c15
            try clear c16
            try clear c21
            try clear c22
            try clear c22b0
            try clear c22b1
            try clear c22b2
            try clear c23
            try clear c24
            try clear c25
            try clear c25b0
            try clear c25b1
            try clear c25b2
            try clear c28
            try clear c29
            try clear c30
            try clear c30b0
            try clear c30b1
            try clear c30b2
            try clear c36
            try clear c57
            try clear c65
            try clear p2
            obtain ⟨kq, x146_60, rfl, HA, HJ60, HO_5, HO_7, HO_11, HO_15, HB⟩ := hcut
            cases kq with
            | zero => exact absurd HA.out (by simp [laws_FnSets.j1])
            | succ kj60 =>
              have H := HA.out
              clear HA
              simp only [laws_FnSets.j1] at H
              have HC66 := Aside0.mk H
              clear H
              go_upto_if 146 with (fail)
              go_cut [] (fun wc => ∃ (kq : Nat), Aside0 (laws_FnSets.j2 kq l1 t463 t485 t486 = some r) ∧ Aside0 (kq ≤ kj60) ∧ Aside0 (Kd.R (Kd.int .i64) 3 wc w.heap.size (fun k_ => some k_ ≠ (v487 : Value).ownBlock) (.slice Ao14 t463.length co14) t463) ∧ Aside0 (Kd.R (Kd.int .i64) 3 wc w.heap.size (fun k_ => some k_ ≠ ((.slice Ao14 t463.length co14) : Value).ownBlock) v487 t485) ∧ Aside0 (Below w.heap.size w wc))
              case first => as_aux_lemma =>
                have H := HC66.out
                clear HC66
                by_cases c67 : x146_60 = true
                · subst c67
                  have H1 : ((impl_InSet.f kj60 t469 t499).bind fun bt506 => ((impl_InSet.f kj60 t477 t499).bind fun bt508 => (if t470 = true then (if bt506.2 = true then (if t502 = true then (if (bt506.1 != true) = true then (some false) else (if t478 = true then (if bt508.2 = true then (if (bt508.1 != t504) = true then (some false) else (laws_FnSets.j2 kj60 l1 t463 t485 t486)) else (some false)) else (laws_FnSets.j2 kj60 l1 t463 t485 t486))) else (if (bt506.1 != t504) = true then (some false) else (if t478 = true then (if bt508.2 = true then (if (bt508.1 != false) = true then (some false) else (laws_FnSets.j2 kj60 l1 t463 t485 t486)) else (some false)) else (laws_FnSets.j2 kj60 l1 t463 t485 t486)))) else (some false)) else (if t478 = true then (if bt508.2 = true then (if t502 = true then (if (bt508.1 != t504) = true then (some false) else (laws_FnSets.j2 kj60 l1 t463 t485 t486)) else (if (bt508.1 != false) = true then (some false) else (laws_FnSets.j2 kj60 l1 t463 t485 t486))) else (some false)) else (laws_FnSets.j2 kj60 l1 t463 t485 t486))))) = some r := by rw [if_pos rfl] at H; exact H
                  clear H
                  have H := H1
                  clear H1
                  replace H := Option.bind_eq_some_iff.mp H
                  obtain ⟨⟨t506, t507⟩, A680, H⟩ := H
                  replace H : ((impl_InSet.f kj60 t477 t499).bind fun bt508 => (if t470 = true then (if t507 = true then (if t502 = true then (if (t506 != true) = true then (some false) else (if t478 = true then (if bt508.2 = true then (if (bt508.1 != t504) = true then (some false) else (laws_FnSets.j2 kj60 l1 t463 t485 t486)) else (some false)) else (laws_FnSets.j2 kj60 l1 t463 t485 t486))) else (if (t506 != t504) = true then (some false) else (if t478 = true then (if bt508.2 = true then (if (bt508.1 != false) = true then (some false) else (laws_FnSets.j2 kj60 l1 t463 t485 t486)) else (some false)) else (laws_FnSets.j2 kj60 l1 t463 t485 t486)))) else (some false)) else (if t478 = true then (if bt508.2 = true then (if t502 = true then (if (bt508.1 != t504) = true then (some false) else (laws_FnSets.j2 kj60 l1 t463 t485 t486)) else (if (bt508.1 != false) = true then (some false) else (laws_FnSets.j2 kj60 l1 t463 t485 t486))) else (some false)) else (laws_FnSets.j2 kj60 l1 t463 t485 t486)))) = some r := H
                  have A68 := Aside0.mk A680
                  clear A680
                  replace H := Option.bind_eq_some_iff.mp H
                  obtain ⟨⟨t508, t509⟩, A690, H⟩ := H
                  replace H : (if t470 = true then (if t507 = true then (if t502 = true then (if (t506 != true) = true then (some false) else (if t478 = true then (if t509 = true then (if (t508 != t504) = true then (some false) else (laws_FnSets.j2 kj60 l1 t463 t485 t486)) else (some false)) else (laws_FnSets.j2 kj60 l1 t463 t485 t486))) else (if (t506 != t504) = true then (some false) else (if t478 = true then (if t509 = true then (if (t508 != false) = true then (some false) else (laws_FnSets.j2 kj60 l1 t463 t485 t486)) else (some false)) else (laws_FnSets.j2 kj60 l1 t463 t485 t486)))) else (some false)) else (if t478 = true then (if t509 = true then (if t502 = true then (if (t508 != t504) = true then (some false) else (laws_FnSets.j2 kj60 l1 t463 t485 t486)) else (if (t508 != false) = true then (some false) else (laws_FnSets.j2 kj60 l1 t463 t485 t486))) else (some false)) else (laws_FnSets.j2 kj60 l1 t463 t485 t486))) = some r := H
                  have A69 := Aside0.mk A690
                  clear A690
                  by_cases c70 : t470 = true
                  · subst c70
                    have H1 : (if t507 = true then (if t502 = true then (if (t506 != true) = true then (some false) else (if t478 = true then (if t509 = true then (if (t508 != t504) = true then (some false) else (laws_FnSets.j2 kj60 l1 t463 t485 t486)) else (some false)) else (laws_FnSets.j2 kj60 l1 t463 t485 t486))) else (if (t506 != t504) = true then (some false) else (if t478 = true then (if t509 = true then (if (t508 != false) = true then (some false) else (laws_FnSets.j2 kj60 l1 t463 t485 t486)) else (some false)) else (laws_FnSets.j2 kj60 l1 t463 t485 t486)))) else (some false)) = some r := by rw [if_pos rfl] at H; exact H
                    clear H
                    have H := H1
                    clear H1
                    by_cases c71 : t507 = true
                    · subst c71
                      have H1 : (if t502 = true then (if (t506 != true) = true then (some false) else (if t478 = true then (if t509 = true then (if (t508 != t504) = true then (some false) else (laws_FnSets.j2 kj60 l1 t463 t485 t486)) else (some false)) else (laws_FnSets.j2 kj60 l1 t463 t485 t486))) else (if (t506 != t504) = true then (some false) else (if t478 = true then (if t509 = true then (if (t508 != false) = true then (some false) else (laws_FnSets.j2 kj60 l1 t463 t485 t486)) else (some false)) else (laws_FnSets.j2 kj60 l1 t463 t485 t486)))) = some r := by rw [if_pos rfl] at H; exact H
                      clear H
                      have H := H1
                      clear H1
                      by_cases c72 : t502 = true
                      · subst c72
                        have H1 : (if (t506 != true) = true then (some false) else (if t478 = true then (if t509 = true then (if (t508 != t504) = true then (some false) else (laws_FnSets.j2 kj60 l1 t463 t485 t486)) else (some false)) else (laws_FnSets.j2 kj60 l1 t463 t485 t486))) = some r := by rw [if_pos rfl] at H; exact H
                        clear H
                        have H := H1
                        clear H1
                        by_cases c73 : (t506 != true) = true
                        · rw [if_pos c73] at H
                          have c73b0 : (t506 != true) = true := c73
                          (try (have c73b1 : decide (t506 = true) = false := by simpa using c73))
                          (try (have c73b2 : (t506 == true) = false := by simpa using c73))
                          (try (have c73b3 : ¬ (t506 = true) := by simpa using c73))
                          clear c73
                          (first | rw [c73b0] | (simp only [i64_w, i32_w]; rw [c73b0]) | skip)
                          obtain rfl := Option.some.inj H
                          (first | exact absurd hr_ (by decide) | skip)
                          all_goals (obtain ⟨Ao74, co74, eo74⟩ := Kd.R_slice HO_7.out)
                          all_goals (subst eo74)
                          all_goals (go_wp2_with (first | ((with_reducible refine gate_callee (f := 29) rfl ?_); refine goesL_ (some 150) rfl rfl Try.func29 (by kernel_rfl) rfl #[.slice Ao74 t469.length co74, .int .i64 t499] rfl (by (try simp only [List.map_toArray, List.map_cons, List.map_nil]); first | done | rfl | (simp only [List.length_drop, List.length_take]; rfl)) ?_; (with_reducible refine (impl_InSet.calls kj60 _ _ t469 t499 t506 true _ ?side1 ?side2 A68.out).mono ?_); (case side1 => repeat (first | exact (Kd.R_reads' HO_7.out).2.2 | (with_reducible refine Kd.C_alloc ?_ _) | (with_reducible refine Kd.C_drewN ?_ _) | (with_reducible refine Kd.C_drew ?_))); (case side2 => exact (Kd.R_reads' HO_7.out).2.1); rintro e w75 ⟨rfl, hb⟩; refine ⟨_, rfl, ?_⟩; have n0_ := Aside0.mk (Kd.R_below (by (with_reducible repeat (first | apply Kd.R_alloc | apply Kd.R_drewN | apply Kd.R_drew)); exact HO_5.out) hb); have n1_ := Aside0.mk (Kd.R_below (by (with_reducible repeat (first | apply Kd.R_alloc | apply Kd.R_drewN | apply Kd.R_drew)); exact HO_7.out) hb); have n2_ := Aside0.mk (Kd.R_below (by (with_reducible repeat (first | apply Kd.R_alloc | apply Kd.R_drewN | apply Kd.R_drew)); exact HO_11.out) hb); have n3_ := Aside0.mk (Kd.R_below (by (with_reducible repeat (first | apply Kd.R_alloc | apply Kd.R_drewN | apply Kd.R_drew)); exact HO_15.out) hb); have n4_ := Aside0.mk (below_step (by repeat (first | (with_reducible first | exact HB.out | apply below_alloc | apply pw_below_drewN | apply below_drew1) | exact HB.out)) hb); clear HO_5; clear HO_7; clear HO_11; clear HO_15; clear HB; have HO_5 := n0_; have HO_7 := n1_; have HO_11 := n2_; have HO_15 := n3_; have HB := n4_; clear n0_ n1_ n2_ n3_ n4_; (try clear hb); obtain ⟨Ao76, co76, eo76⟩ := Kd.R_slice HO_11.out; subst eo76) | ((with_reducible refine gate_callee (f := 29) rfl ?_); refine goesL_ (some 156) rfl rfl Try.func29 (by kernel_rfl) rfl #[.slice Ao76 t477.length co76, .int .i64 t499] rfl (by (try simp only [List.map_toArray, List.map_cons, List.map_nil]); first | done | rfl | (simp only [List.length_drop, List.length_take]; rfl)) ?_; (with_reducible refine (impl_InSet.calls kj60 _ _ t477 t499 t508 t509 _ ?side1 ?side2 A69.out).mono ?_); (case side1 => repeat (first | exact (Kd.R_reads' HO_11.out).2.2 | (with_reducible refine Kd.C_alloc ?_ _) | (with_reducible refine Kd.C_drewN ?_ _) | (with_reducible refine Kd.C_drew ?_))); (case side2 => exact (Kd.R_reads' HO_11.out).2.1); rintro e w77 ⟨rfl, hb⟩; refine ⟨_, rfl, ?_⟩; have n0_ := Aside0.mk (Kd.R_below (by (with_reducible repeat (first | apply Kd.R_alloc | apply Kd.R_drewN | apply Kd.R_drew)); exact HO_5.out) hb); have n1_ := Aside0.mk (Kd.R_below (by (with_reducible repeat (first | apply Kd.R_alloc | apply Kd.R_drewN | apply Kd.R_drew)); exact HO_7.out) hb); have n2_ := Aside0.mk (Kd.R_below (by (with_reducible repeat (first | apply Kd.R_alloc | apply Kd.R_drewN | apply Kd.R_drew)); exact HO_11.out) hb); have n3_ := Aside0.mk (Kd.R_below (by (with_reducible repeat (first | apply Kd.R_alloc | apply Kd.R_drewN | apply Kd.R_drew)); exact HO_15.out) hb); have n4_ := Aside0.mk (below_step (by repeat (first | (with_reducible first | exact HB.out | apply below_alloc | apply pw_below_drewN | apply below_drew1) | exact HB.out)) hb); clear HO_5; clear HO_7; clear HO_11; clear HO_15; clear HB; have HO_5 := n0_; have HO_7 := n1_; have HO_11 := n2_; have HO_15 := n3_; have HB := n4_; clear n0_ n1_ n2_ n3_ n4_; (try clear hb); )))
                          all_goals (go_ret)
                          all_goals (exact ⟨by first | rfl | (simp [errW_none, errW_some] <;> rfl) | (simp [*, errW_none, errW_some] <;> rfl), by repeat (first | (with_reducible first | exact HB.out | apply below_alloc | apply pw_below_drewN | apply below_drew1) | exact HB.out)⟩)
                        · rw [if_neg c73] at H
                          have c73b0 : (t506 != true) = false := by simpa using c73
                          (try (have c73b1 : decide (t506 = true) = true := by simpa using c73))
                          (try (have c73b2 : (t506 == true) = true := by simpa using c73))
                          clear c73
                          (first | rw [c73b0] | (simp only [i64_w, i32_w]; rw [c73b0]) | skip)
                          by_cases c78 : t478 = true
                          · subst c78
                            have H1 : (if t509 = true then (if (t508 != t504) = true then (some false) else (laws_FnSets.j2 kj60 l1 t463 t485 t486)) else (some false)) = some r := by rw [if_pos rfl] at H; exact H
                            clear H
                            have H := H1
                            clear H1
                            by_cases c79 : t509 = true
                            · subst c79
                              have H1 : (if (t508 != t504) = true then (some false) else (laws_FnSets.j2 kj60 l1 t463 t485 t486)) = some r := by rw [if_pos rfl] at H; exact H
                              clear H
                              have H := H1
                              clear H1
                              by_cases c80 : (t508 != t504) = true
                              · rw [if_pos c80] at H
                                have c80b0 : (t508 != t504) = true := c80
                                (try (have c80b1 : decide (t508 = t504) = false := by simpa using c80))
                                (try (have c80b2 : (t508 == t504) = false := by simpa using c80))
                                (try (have c80b3 : ¬ (t508 = t504) := by simpa using c80))
                                clear c80
                                obtain rfl := Option.some.inj H
                                (first | exact absurd hr_ (by decide) | skip)
                                all_goals (obtain ⟨Ao81, co81, eo81⟩ := Kd.R_slice HO_7.out)
                                all_goals (subst eo81)
                                all_goals (go_wp2_with (first | ((with_reducible refine gate_callee (f := 29) rfl ?_); refine goesL_ (some 150) rfl rfl Try.func29 (by kernel_rfl) rfl #[.slice Ao81 t469.length co81, .int .i64 t499] rfl (by (try simp only [List.map_toArray, List.map_cons, List.map_nil]); first | done | rfl | (simp only [List.length_drop, List.length_take]; rfl)) ?_; (with_reducible refine (impl_InSet.calls kj60 _ _ t469 t499 t506 true _ ?side1 ?side2 A68.out).mono ?_); (case side1 => repeat (first | exact (Kd.R_reads' HO_7.out).2.2 | (with_reducible refine Kd.C_alloc ?_ _) | (with_reducible refine Kd.C_drewN ?_ _) | (with_reducible refine Kd.C_drew ?_))); (case side2 => exact (Kd.R_reads' HO_7.out).2.1); rintro e w82 ⟨rfl, hb⟩; refine ⟨_, rfl, ?_⟩; have n0_ := Aside0.mk (Kd.R_below (by (with_reducible repeat (first | apply Kd.R_alloc | apply Kd.R_drewN | apply Kd.R_drew)); exact HO_5.out) hb); have n1_ := Aside0.mk (Kd.R_below (by (with_reducible repeat (first | apply Kd.R_alloc | apply Kd.R_drewN | apply Kd.R_drew)); exact HO_7.out) hb); have n2_ := Aside0.mk (Kd.R_below (by (with_reducible repeat (first | apply Kd.R_alloc | apply Kd.R_drewN | apply Kd.R_drew)); exact HO_11.out) hb); have n3_ := Aside0.mk (Kd.R_below (by (with_reducible repeat (first | apply Kd.R_alloc | apply Kd.R_drewN | apply Kd.R_drew)); exact HO_15.out) hb); have n4_ := Aside0.mk (below_step (by repeat (first | (with_reducible first | exact HB.out | apply below_alloc | apply pw_below_drewN | apply below_drew1) | exact HB.out)) hb); clear HO_5; clear HO_7; clear HO_11; clear HO_15; clear HB; have HO_5 := n0_; have HO_7 := n1_; have HO_11 := n2_; have HO_15 := n3_; have HB := n4_; clear n0_ n1_ n2_ n3_ n4_; (try clear hb); obtain ⟨Ao83, co83, eo83⟩ := Kd.R_slice HO_11.out; subst eo83) | ((with_reducible refine gate_callee (f := 29) rfl ?_); refine goesL_ (some 156) rfl rfl Try.func29 (by kernel_rfl) rfl #[.slice Ao83 t477.length co83, .int .i64 t499] rfl (by (try simp only [List.map_toArray, List.map_cons, List.map_nil]); first | done | rfl | (simp only [List.length_drop, List.length_take]; rfl)) ?_; (with_reducible refine (impl_InSet.calls kj60 _ _ t477 t499 t508 true _ ?side1 ?side2 A69.out).mono ?_); (case side1 => repeat (first | exact (Kd.R_reads' HO_11.out).2.2 | (with_reducible refine Kd.C_alloc ?_ _) | (with_reducible refine Kd.C_drewN ?_ _) | (with_reducible refine Kd.C_drew ?_))); (case side2 => exact (Kd.R_reads' HO_11.out).2.1); rintro e w84 ⟨rfl, hb⟩; refine ⟨_, rfl, ?_⟩; have n0_ := Aside0.mk (Kd.R_below (by (with_reducible repeat (first | apply Kd.R_alloc | apply Kd.R_drewN | apply Kd.R_drew)); exact HO_5.out) hb); have n1_ := Aside0.mk (Kd.R_below (by (with_reducible repeat (first | apply Kd.R_alloc | apply Kd.R_drewN | apply Kd.R_drew)); exact HO_7.out) hb); have n2_ := Aside0.mk (Kd.R_below (by (with_reducible repeat (first | apply Kd.R_alloc | apply Kd.R_drewN | apply Kd.R_drew)); exact HO_11.out) hb); have n3_ := Aside0.mk (Kd.R_below (by (with_reducible repeat (first | apply Kd.R_alloc | apply Kd.R_drewN | apply Kd.R_drew)); exact HO_15.out) hb); have n4_ := Aside0.mk (below_step (by repeat (first | (with_reducible first | exact HB.out | apply below_alloc | apply pw_below_drewN | apply below_drew1) | exact HB.out)) hb); clear HO_5; clear HO_7; clear HO_11; clear HO_15; clear HB; have HO_5 := n0_; have HO_7 := n1_; have HO_11 := n2_; have HO_15 := n3_; have HB := n4_; clear n0_ n1_ n2_ n3_ n4_; (try clear hb); )))
                                all_goals (go_ret)
                                all_goals (exact ⟨by first | rfl | (simp [errW_none, errW_some] <;> rfl) | (simp [*, errW_none, errW_some] <;> rfl), by repeat (first | (with_reducible first | exact HB.out | apply below_alloc | apply pw_below_drewN | apply below_drew1) | exact HB.out)⟩)
                              · rw [if_neg c80] at H
                                have c80b0 : (t508 != t504) = false := by simpa using c80
                                (try (have c80b1 : decide (t508 = t504) = true := by simpa using c80))
                                (try (have c80b2 : (t508 == t504) = true := by simpa using c80))
                                clear c80
                                have H' := Aside0.mk H
                                clear H
                                obtain ⟨Ao85, co85, eo85⟩ := Kd.R_slice HO_7.out
                                subst eo85
                                go_wp2_with (first | ((with_reducible refine gate_callee (f := 29) rfl ?_); refine goesL_ (some 150) rfl rfl Try.func29 (by kernel_rfl) rfl #[.slice Ao85 t469.length co85, .int .i64 t499] rfl (by (try simp only [List.map_toArray, List.map_cons, List.map_nil]); first | done | rfl | (simp only [List.length_drop, List.length_take]; rfl)) ?_; (with_reducible refine (impl_InSet.calls kj60 _ _ t469 t499 t506 true _ ?side1 ?side2 A68.out).mono ?_); (case side1 => repeat (first | exact (Kd.R_reads' HO_7.out).2.2 | (with_reducible refine Kd.C_alloc ?_ _) | (with_reducible refine Kd.C_drewN ?_ _) | (with_reducible refine Kd.C_drew ?_))); (case side2 => exact (Kd.R_reads' HO_7.out).2.1); rintro e w86 ⟨rfl, hb⟩; refine ⟨_, rfl, ?_⟩; have n0_ := Aside0.mk (Kd.R_below (by (with_reducible repeat (first | apply Kd.R_alloc | apply Kd.R_drewN | apply Kd.R_drew)); exact HO_5.out) hb); have n1_ := Aside0.mk (Kd.R_below (by (with_reducible repeat (first | apply Kd.R_alloc | apply Kd.R_drewN | apply Kd.R_drew)); exact HO_7.out) hb); have n2_ := Aside0.mk (Kd.R_below (by (with_reducible repeat (first | apply Kd.R_alloc | apply Kd.R_drewN | apply Kd.R_drew)); exact HO_11.out) hb); have n3_ := Aside0.mk (Kd.R_below (by (with_reducible repeat (first | apply Kd.R_alloc | apply Kd.R_drewN | apply Kd.R_drew)); exact HO_15.out) hb); have n4_ := Aside0.mk (below_step (by repeat (first | (with_reducible first | exact HB.out | apply below_alloc | apply pw_below_drewN | apply below_drew1) | exact HB.out)) hb); clear HO_5; clear HO_7; clear HO_11; clear HO_15; clear HB; have HO_5 := n0_; have HO_7 := n1_; have HO_11 := n2_; have HO_15 := n3_; have HB := n4_; clear n0_ n1_ n2_ n3_ n4_; (try clear hb); obtain ⟨Ao87, co87, eo87⟩ := Kd.R_slice HO_11.out; subst eo87) | ((with_reducible refine gate_callee (f := 29) rfl ?_); refine goesL_ (some 156) rfl rfl Try.func29 (by kernel_rfl) rfl #[.slice Ao87 t477.length co87, .int .i64 t499] rfl (by (try simp only [List.map_toArray, List.map_cons, List.map_nil]); first | done | rfl | (simp only [List.length_drop, List.length_take]; rfl)) ?_; (with_reducible refine (impl_InSet.calls kj60 _ _ t477 t499 t508 true _ ?side1 ?side2 A69.out).mono ?_); (case side1 => repeat (first | exact (Kd.R_reads' HO_11.out).2.2 | (with_reducible refine Kd.C_alloc ?_ _) | (with_reducible refine Kd.C_drewN ?_ _) | (with_reducible refine Kd.C_drew ?_))); (case side2 => exact (Kd.R_reads' HO_11.out).2.1); rintro e w88 ⟨rfl, hb⟩; refine ⟨_, rfl, ?_⟩; have n0_ := Aside0.mk (Kd.R_below (by (with_reducible repeat (first | apply Kd.R_alloc | apply Kd.R_drewN | apply Kd.R_drew)); exact HO_5.out) hb); have n1_ := Aside0.mk (Kd.R_below (by (with_reducible repeat (first | apply Kd.R_alloc | apply Kd.R_drewN | apply Kd.R_drew)); exact HO_7.out) hb); have n2_ := Aside0.mk (Kd.R_below (by (with_reducible repeat (first | apply Kd.R_alloc | apply Kd.R_drewN | apply Kd.R_drew)); exact HO_11.out) hb); have n3_ := Aside0.mk (Kd.R_below (by (with_reducible repeat (first | apply Kd.R_alloc | apply Kd.R_drewN | apply Kd.R_drew)); exact HO_15.out) hb); have n4_ := Aside0.mk (below_step (by repeat (first | (with_reducible first | exact HB.out | apply below_alloc | apply pw_below_drewN | apply below_drew1) | exact HB.out)) hb); clear HO_5; clear HO_7; clear HO_11; clear HO_15; clear HB; have HO_5 := n0_; have HO_7 := n1_; have HO_11 := n2_; have HO_15 := n3_; have HB := n4_; clear n0_ n1_ n2_ n3_ n4_; (try clear hb); ))
                                go_meet
                                case rel => exact ⟨_, H', ⟨by have := HJ11.out; have := HJ60.out; first | omega | exact Nat.le_refl _⟩, ⟨by (with_reducible repeat (first | apply Kd.R_alloc | apply Kd.R_drewN | apply Kd.R_drew)); exact Kd.R_mono HO_5.out (fun _ hk => hk.2.2)⟩, ⟨by (with_reducible repeat (first | apply Kd.R_alloc | apply Kd.R_drewN | apply Kd.R_drew)); exact Kd.R_mono HO_15.out (fun _ hk => hk.1)⟩, ⟨by repeat (first | (with_reducible first | exact HB.out | apply below_alloc | apply pw_below_drewN | apply below_drew1) | exact HB.out)⟩⟩
                            · replace c79 := Bool.eq_false_iff.mpr c79
                              subst c79
                              have H1 : (some false) = some r := by rw [if_neg (show ¬ (false = true) by decide)] at H; exact H
                              clear H
                              have H := H1
                              clear H1
                              obtain rfl := Option.some.inj H
                              (first | exact absurd hr_ (by decide) | skip)
                              all_goals (obtain ⟨Ao89, co89, eo89⟩ := Kd.R_slice HO_7.out)
                              all_goals (subst eo89)
                              all_goals (go_wp2_with (first | ((with_reducible refine gate_callee (f := 29) rfl ?_); refine goesL_ (some 150) rfl rfl Try.func29 (by kernel_rfl) rfl #[.slice Ao89 t469.length co89, .int .i64 t499] rfl (by (try simp only [List.map_toArray, List.map_cons, List.map_nil]); first | done | rfl | (simp only [List.length_drop, List.length_take]; rfl)) ?_; (with_reducible refine (impl_InSet.calls kj60 _ _ t469 t499 t506 true _ ?side1 ?side2 A68.out).mono ?_); (case side1 => repeat (first | exact (Kd.R_reads' HO_7.out).2.2 | (with_reducible refine Kd.C_alloc ?_ _) | (with_reducible refine Kd.C_drewN ?_ _) | (with_reducible refine Kd.C_drew ?_))); (case side2 => exact (Kd.R_reads' HO_7.out).2.1); rintro e w90 ⟨rfl, hb⟩; refine ⟨_, rfl, ?_⟩; have n0_ := Aside0.mk (Kd.R_below (by (with_reducible repeat (first | apply Kd.R_alloc | apply Kd.R_drewN | apply Kd.R_drew)); exact HO_5.out) hb); have n1_ := Aside0.mk (Kd.R_below (by (with_reducible repeat (first | apply Kd.R_alloc | apply Kd.R_drewN | apply Kd.R_drew)); exact HO_7.out) hb); have n2_ := Aside0.mk (Kd.R_below (by (with_reducible repeat (first | apply Kd.R_alloc | apply Kd.R_drewN | apply Kd.R_drew)); exact HO_11.out) hb); have n3_ := Aside0.mk (Kd.R_below (by (with_reducible repeat (first | apply Kd.R_alloc | apply Kd.R_drewN | apply Kd.R_drew)); exact HO_15.out) hb); have n4_ := Aside0.mk (below_step (by repeat (first | (with_reducible first | exact HB.out | apply below_alloc | apply pw_below_drewN | apply below_drew1) | exact HB.out)) hb); clear HO_5; clear HO_7; clear HO_11; clear HO_15; clear HB; have HO_5 := n0_; have HO_7 := n1_; have HO_11 := n2_; have HO_15 := n3_; have HB := n4_; clear n0_ n1_ n2_ n3_ n4_; (try clear hb); obtain ⟨Ao91, co91, eo91⟩ := Kd.R_slice HO_11.out; subst eo91) | ((with_reducible refine gate_callee (f := 29) rfl ?_); refine goesL_ (some 156) rfl rfl Try.func29 (by kernel_rfl) rfl #[.slice Ao91 t477.length co91, .int .i64 t499] rfl (by (try simp only [List.map_toArray, List.map_cons, List.map_nil]); first | done | rfl | (simp only [List.length_drop, List.length_take]; rfl)) ?_; (with_reducible refine (impl_InSet.calls kj60 _ _ t477 t499 t508 false _ ?side1 ?side2 A69.out).mono ?_); (case side1 => repeat (first | exact (Kd.R_reads' HO_11.out).2.2 | (with_reducible refine Kd.C_alloc ?_ _) | (with_reducible refine Kd.C_drewN ?_ _) | (with_reducible refine Kd.C_drew ?_))); (case side2 => exact (Kd.R_reads' HO_11.out).2.1); rintro e w92 ⟨rfl, hb⟩; refine ⟨_, rfl, ?_⟩; have n0_ := Aside0.mk (Kd.R_below (by (with_reducible repeat (first | apply Kd.R_alloc | apply Kd.R_drewN | apply Kd.R_drew)); exact HO_5.out) hb); have n1_ := Aside0.mk (Kd.R_below (by (with_reducible repeat (first | apply Kd.R_alloc | apply Kd.R_drewN | apply Kd.R_drew)); exact HO_7.out) hb); have n2_ := Aside0.mk (Kd.R_below (by (with_reducible repeat (first | apply Kd.R_alloc | apply Kd.R_drewN | apply Kd.R_drew)); exact HO_11.out) hb); have n3_ := Aside0.mk (Kd.R_below (by (with_reducible repeat (first | apply Kd.R_alloc | apply Kd.R_drewN | apply Kd.R_drew)); exact HO_15.out) hb); have n4_ := Aside0.mk (below_step (by repeat (first | (with_reducible first | exact HB.out | apply below_alloc | apply pw_below_drewN | apply below_drew1) | exact HB.out)) hb); clear HO_5; clear HO_7; clear HO_11; clear HO_15; clear HB; have HO_5 := n0_; have HO_7 := n1_; have HO_11 := n2_; have HO_15 := n3_; have HB := n4_; clear n0_ n1_ n2_ n3_ n4_; (try clear hb); )))
                              all_goals (go_ret)
                              all_goals (exact ⟨by first | rfl | (simp [errW_none, errW_some] <;> rfl) | (simp [*, errW_none, errW_some] <;> rfl), by repeat (first | (with_reducible first | exact HB.out | apply below_alloc | apply pw_below_drewN | apply below_drew1) | exact HB.out)⟩)
                          · replace c78 := Bool.eq_false_iff.mpr c78
                            subst c78
                            have H1 : (laws_FnSets.j2 kj60 l1 t463 t485 t486) = some r := by rw [if_neg (show ¬ (false = true) by decide)] at H; exact H
                            clear H
                            have H := H1
                            clear H1
                            have H' := Aside0.mk H
                            clear H
                            obtain ⟨Ao93, co93, eo93⟩ := Kd.R_slice HO_7.out
                            subst eo93
                            go_wp2_with (first | ((with_reducible refine gate_callee (f := 29) rfl ?_); refine goesL_ (some 150) rfl rfl Try.func29 (by kernel_rfl) rfl #[.slice Ao93 t469.length co93, .int .i64 t499] rfl (by (try simp only [List.map_toArray, List.map_cons, List.map_nil]); first | done | rfl | (simp only [List.length_drop, List.length_take]; rfl)) ?_; (with_reducible refine (impl_InSet.calls kj60 _ _ t469 t499 t506 true _ ?side1 ?side2 A68.out).mono ?_); (case side1 => repeat (first | exact (Kd.R_reads' HO_7.out).2.2 | (with_reducible refine Kd.C_alloc ?_ _) | (with_reducible refine Kd.C_drewN ?_ _) | (with_reducible refine Kd.C_drew ?_))); (case side2 => exact (Kd.R_reads' HO_7.out).2.1); rintro e w94 ⟨rfl, hb⟩; refine ⟨_, rfl, ?_⟩; have n0_ := Aside0.mk (Kd.R_below (by (with_reducible repeat (first | apply Kd.R_alloc | apply Kd.R_drewN | apply Kd.R_drew)); exact HO_5.out) hb); have n1_ := Aside0.mk (Kd.R_below (by (with_reducible repeat (first | apply Kd.R_alloc | apply Kd.R_drewN | apply Kd.R_drew)); exact HO_7.out) hb); have n2_ := Aside0.mk (Kd.R_below (by (with_reducible repeat (first | apply Kd.R_alloc | apply Kd.R_drewN | apply Kd.R_drew)); exact HO_11.out) hb); have n3_ := Aside0.mk (Kd.R_below (by (with_reducible repeat (first | apply Kd.R_alloc | apply Kd.R_drewN | apply Kd.R_drew)); exact HO_15.out) hb); have n4_ := Aside0.mk (below_step (by repeat (first | (with_reducible first | exact HB.out | apply below_alloc | apply pw_below_drewN | apply below_drew1) | exact HB.out)) hb); clear HO_5; clear HO_7; clear HO_11; clear HO_15; clear HB; have HO_5 := n0_; have HO_7 := n1_; have HO_11 := n2_; have HO_15 := n3_; have HB := n4_; clear n0_ n1_ n2_ n3_ n4_; (try clear hb); obtain ⟨Ao95, co95, eo95⟩ := Kd.R_slice HO_11.out; subst eo95) | ((with_reducible refine gate_callee (f := 29) rfl ?_); refine goesL_ (some 156) rfl rfl Try.func29 (by kernel_rfl) rfl #[.slice Ao95 t477.length co95, .int .i64 t499] rfl (by (try simp only [List.map_toArray, List.map_cons, List.map_nil]); first | done | rfl | (simp only [List.length_drop, List.length_take]; rfl)) ?_; (with_reducible refine (impl_InSet.calls kj60 _ _ t477 t499 t508 t509 _ ?side1 ?side2 A69.out).mono ?_); (case side1 => repeat (first | exact (Kd.R_reads' HO_11.out).2.2 | (with_reducible refine Kd.C_alloc ?_ _) | (with_reducible refine Kd.C_drewN ?_ _) | (with_reducible refine Kd.C_drew ?_))); (case side2 => exact (Kd.R_reads' HO_11.out).2.1); rintro e w96 ⟨rfl, hb⟩; refine ⟨_, rfl, ?_⟩; have n0_ := Aside0.mk (Kd.R_below (by (with_reducible repeat (first | apply Kd.R_alloc | apply Kd.R_drewN | apply Kd.R_drew)); exact HO_5.out) hb); have n1_ := Aside0.mk (Kd.R_below (by (with_reducible repeat (first | apply Kd.R_alloc | apply Kd.R_drewN | apply Kd.R_drew)); exact HO_7.out) hb); have n2_ := Aside0.mk (Kd.R_below (by (with_reducible repeat (first | apply Kd.R_alloc | apply Kd.R_drewN | apply Kd.R_drew)); exact HO_11.out) hb); have n3_ := Aside0.mk (Kd.R_below (by (with_reducible repeat (first | apply Kd.R_alloc | apply Kd.R_drewN | apply Kd.R_drew)); exact HO_15.out) hb); have n4_ := Aside0.mk (below_step (by repeat (first | (with_reducible first | exact HB.out | apply below_alloc | apply pw_below_drewN | apply below_drew1) | exact HB.out)) hb); clear HO_5; clear HO_7; clear HO_11; clear HO_15; clear HB; have HO_5 := n0_; have HO_7 := n1_; have HO_11 := n2_; have HO_15 := n3_; have HB := n4_; clear n0_ n1_ n2_ n3_ n4_; (try clear hb); ))
                            go_meet
                            case rel => exact ⟨_, H', ⟨by have := HJ11.out; have := HJ60.out; first | omega | exact Nat.le_refl _⟩, ⟨by (with_reducible repeat (first | apply Kd.R_alloc | apply Kd.R_drewN | apply Kd.R_drew)); exact Kd.R_mono HO_5.out (fun _ hk => hk.2.2)⟩, ⟨by (with_reducible repeat (first | apply Kd.R_alloc | apply Kd.R_drewN | apply Kd.R_drew)); exact Kd.R_mono HO_15.out (fun _ hk => hk.1)⟩, ⟨by repeat (first | (with_reducible first | exact HB.out | apply below_alloc | apply pw_below_drewN | apply below_drew1) | exact HB.out)⟩⟩
                      · replace c72 := Bool.eq_false_iff.mpr c72
                        subst c72
                        have H1 : (if (t506 != t504) = true then (some false) else (if t478 = true then (if t509 = true then (if (t508 != false) = true then (some false) else (laws_FnSets.j2 kj60 l1 t463 t485 t486)) else (some false)) else (laws_FnSets.j2 kj60 l1 t463 t485 t486))) = some r := by rw [if_neg (show ¬ (false = true) by decide)] at H; exact H
                        clear H
                        have H := H1
                        clear H1
                        by_cases c97 : (t506 != t504) = true
                        · rw [if_pos c97] at H
                          have c97b0 : (t506 != t504) = true := c97
                          (try (have c97b1 : decide (t506 = t504) = false := by simpa using c97))
                          (try (have c97b2 : (t506 == t504) = false := by simpa using c97))
                          (try (have c97b3 : ¬ (t506 = t504) := by simpa using c97))
                          clear c97
                          obtain rfl := Option.some.inj H
                          (first | exact absurd hr_ (by decide) | skip)
                          all_goals (obtain ⟨Ao98, co98, eo98⟩ := Kd.R_slice HO_7.out)
                          all_goals (subst eo98)
                          all_goals (go_wp2_with (first | ((with_reducible refine gate_callee (f := 29) rfl ?_); refine goesL_ (some 150) rfl rfl Try.func29 (by kernel_rfl) rfl #[.slice Ao98 t469.length co98, .int .i64 t499] rfl (by (try simp only [List.map_toArray, List.map_cons, List.map_nil]); first | done | rfl | (simp only [List.length_drop, List.length_take]; rfl)) ?_; (with_reducible refine (impl_InSet.calls kj60 _ _ t469 t499 t506 true _ ?side1 ?side2 A68.out).mono ?_); (case side1 => repeat (first | exact (Kd.R_reads' HO_7.out).2.2 | (with_reducible refine Kd.C_alloc ?_ _) | (with_reducible refine Kd.C_drewN ?_ _) | (with_reducible refine Kd.C_drew ?_))); (case side2 => exact (Kd.R_reads' HO_7.out).2.1); rintro e w99 ⟨rfl, hb⟩; refine ⟨_, rfl, ?_⟩; have n0_ := Aside0.mk (Kd.R_below (by (with_reducible repeat (first | apply Kd.R_alloc | apply Kd.R_drewN | apply Kd.R_drew)); exact HO_5.out) hb); have n1_ := Aside0.mk (Kd.R_below (by (with_reducible repeat (first | apply Kd.R_alloc | apply Kd.R_drewN | apply Kd.R_drew)); exact HO_7.out) hb); have n2_ := Aside0.mk (Kd.R_below (by (with_reducible repeat (first | apply Kd.R_alloc | apply Kd.R_drewN | apply Kd.R_drew)); exact HO_11.out) hb); have n3_ := Aside0.mk (Kd.R_below (by (with_reducible repeat (first | apply Kd.R_alloc | apply Kd.R_drewN | apply Kd.R_drew)); exact HO_15.out) hb); have n4_ := Aside0.mk (below_step (by repeat (first | (with_reducible first | exact HB.out | apply below_alloc | apply pw_below_drewN | apply below_drew1) | exact HB.out)) hb); clear HO_5; clear HO_7; clear HO_11; clear HO_15; clear HB; have HO_5 := n0_; have HO_7 := n1_; have HO_11 := n2_; have HO_15 := n3_; have HB := n4_; clear n0_ n1_ n2_ n3_ n4_; (try clear hb); obtain ⟨Ao100, co100, eo100⟩ := Kd.R_slice HO_11.out; subst eo100) | ((with_reducible refine gate_callee (f := 29) rfl ?_); refine goesL_ (some 156) rfl rfl Try.func29 (by kernel_rfl) rfl #[.slice Ao100 t477.length co100, .int .i64 t499] rfl (by (try simp only [List.map_toArray, List.map_cons, List.map_nil]); first | done | rfl | (simp only [List.length_drop, List.length_take]; rfl)) ?_; (with_reducible refine (impl_InSet.calls kj60 _ _ t477 t499 t508 t509 _ ?side1 ?side2 A69.out).mono ?_); (case side1 => repeat (first | exact (Kd.R_reads' HO_11.out).2.2 | (with_reducible refine Kd.C_alloc ?_ _) | (with_reducible refine Kd.C_drewN ?_ _) | (with_reducible refine Kd.C_drew ?_))); (case side2 => exact (Kd.R_reads' HO_11.out).2.1); rintro e w101 ⟨rfl, hb⟩; refine ⟨_, rfl, ?_⟩; have n0_ := Aside0.mk (Kd.R_below (by (with_reducible repeat (first | apply Kd.R_alloc | apply Kd.R_drewN | apply Kd.R_drew)); exact HO_5.out) hb); have n1_ := Aside0.mk (Kd.R_below (by (with_reducible repeat (first | apply Kd.R_alloc | apply Kd.R_drewN | apply Kd.R_drew)); exact HO_7.out) hb); have n2_ := Aside0.mk (Kd.R_below (by (with_reducible repeat (first | apply Kd.R_alloc | apply Kd.R_drewN | apply Kd.R_drew)); exact HO_11.out) hb); have n3_ := Aside0.mk (Kd.R_below (by (with_reducible repeat (first | apply Kd.R_alloc | apply Kd.R_drewN | apply Kd.R_drew)); exact HO_15.out) hb); have n4_ := Aside0.mk (below_step (by repeat (first | (with_reducible first | exact HB.out | apply below_alloc | apply pw_below_drewN | apply below_drew1) | exact HB.out)) hb); clear HO_5; clear HO_7; clear HO_11; clear HO_15; clear HB; have HO_5 := n0_; have HO_7 := n1_; have HO_11 := n2_; have HO_15 := n3_; have HB := n4_; clear n0_ n1_ n2_ n3_ n4_; (try clear hb); )))
                          all_goals (go_ret)
                          all_goals (exact ⟨by first | rfl | (simp [errW_none, errW_some] <;> rfl) | (simp [*, errW_none, errW_some] <;> rfl), by repeat (first | (with_reducible first | exact HB.out | apply below_alloc | apply pw_below_drewN | apply below_drew1) | exact HB.out)⟩)
                        · rw [if_neg c97] at H
                          have c97b0 : (t506 != t504) = false := by simpa using c97
                          (try (have c97b1 : decide (t506 = t504) = true := by simpa using c97))
                          (try (have c97b2 : (t506 == t504) = true := by simpa using c97))
                          clear c97
                          by_cases c102 : t478 = true
                          · subst c102
                            have H1 : (if t509 = true then (if (t508 != false) = true then (some false) else (laws_FnSets.j2 kj60 l1 t463 t485 t486)) else (some false)) = some r := by rw [if_pos rfl] at H; exact H
                            clear H
                            have H := H1
                            clear H1
                            by_cases c103 : t509 = true
                            · subst c103
                              have H1 : (if (t508 != false) = true then (some false) else (laws_FnSets.j2 kj60 l1 t463 t485 t486)) = some r := by rw [if_pos rfl] at H; exact H
                              clear H
                              have H := H1
                              clear H1
                              by_cases c104 : (t508 != false) = true
                              · rw [if_pos c104] at H
                                have c104b0 : (t508 != false) = true := c104
                                (try (have c104b1 : decide (t508 = false) = false := by simpa using c104))
                                (try (have c104b2 : (t508 == false) = false := by simpa using c104))
                                (try (have c104b3 : ¬ (t508 = false) := by simpa using c104))
                                clear c104
                                obtain rfl := Option.some.inj H
                                (first | exact absurd hr_ (by decide) | skip)
                                all_goals (obtain ⟨Ao105, co105, eo105⟩ := Kd.R_slice HO_7.out)
                                all_goals (subst eo105)
                                all_goals (go_wp2_with (first | ((with_reducible refine gate_callee (f := 29) rfl ?_); refine goesL_ (some 150) rfl rfl Try.func29 (by kernel_rfl) rfl #[.slice Ao105 t469.length co105, .int .i64 t499] rfl (by (try simp only [List.map_toArray, List.map_cons, List.map_nil]); first | done | rfl | (simp only [List.length_drop, List.length_take]; rfl)) ?_; (with_reducible refine (impl_InSet.calls kj60 _ _ t469 t499 t506 true _ ?side1 ?side2 A68.out).mono ?_); (case side1 => repeat (first | exact (Kd.R_reads' HO_7.out).2.2 | (with_reducible refine Kd.C_alloc ?_ _) | (with_reducible refine Kd.C_drewN ?_ _) | (with_reducible refine Kd.C_drew ?_))); (case side2 => exact (Kd.R_reads' HO_7.out).2.1); rintro e w106 ⟨rfl, hb⟩; refine ⟨_, rfl, ?_⟩; have n0_ := Aside0.mk (Kd.R_below (by (with_reducible repeat (first | apply Kd.R_alloc | apply Kd.R_drewN | apply Kd.R_drew)); exact HO_5.out) hb); have n1_ := Aside0.mk (Kd.R_below (by (with_reducible repeat (first | apply Kd.R_alloc | apply Kd.R_drewN | apply Kd.R_drew)); exact HO_7.out) hb); have n2_ := Aside0.mk (Kd.R_below (by (with_reducible repeat (first | apply Kd.R_alloc | apply Kd.R_drewN | apply Kd.R_drew)); exact HO_11.out) hb); have n3_ := Aside0.mk (Kd.R_below (by (with_reducible repeat (first | apply Kd.R_alloc | apply Kd.R_drewN | apply Kd.R_drew)); exact HO_15.out) hb); have n4_ := Aside0.mk (below_step (by repeat (first | (with_reducible first | exact HB.out | apply below_alloc | apply pw_below_drewN | apply below_drew1) | exact HB.out)) hb); clear HO_5; clear HO_7; clear HO_11; clear HO_15; clear HB; have HO_5 := n0_; have HO_7 := n1_; have HO_11 := n2_; have HO_15 := n3_; have HB := n4_; clear n0_ n1_ n2_ n3_ n4_; (try clear hb); obtain ⟨Ao107, co107, eo107⟩ := Kd.R_slice HO_11.out; subst eo107) | ((with_reducible refine gate_callee (f := 29) rfl ?_); refine goesL_ (some 156) rfl rfl Try.func29 (by kernel_rfl) rfl #[.slice Ao107 t477.length co107, .int .i64 t499] rfl (by (try simp only [List.map_toArray, List.map_cons, List.map_nil]); first | done | rfl | (simp only [List.length_drop, List.length_take]; rfl)) ?_; (with_reducible refine (impl_InSet.calls kj60 _ _ t477 t499 t508 true _ ?side1 ?side2 A69.out).mono ?_); (case side1 => repeat (first | exact (Kd.R_reads' HO_11.out).2.2 | (with_reducible refine Kd.C_alloc ?_ _) | (with_reducible refine Kd.C_drewN ?_ _) | (with_reducible refine Kd.C_drew ?_))); (case side2 => exact (Kd.R_reads' HO_11.out).2.1); rintro e w108 ⟨rfl, hb⟩; refine ⟨_, rfl, ?_⟩; have n0_ := Aside0.mk (Kd.R_below (by (with_reducible repeat (first | apply Kd.R_alloc | apply Kd.R_drewN | apply Kd.R_drew)); exact HO_5.out) hb); have n1_ := Aside0.mk (Kd.R_below (by (with_reducible repeat (first | apply Kd.R_alloc | apply Kd.R_drewN | apply Kd.R_drew)); exact HO_7.out) hb); have n2_ := Aside0.mk (Kd.R_below (by (with_reducible repeat (first | apply Kd.R_alloc | apply Kd.R_drewN | apply Kd.R_drew)); exact HO_11.out) hb); have n3_ := Aside0.mk (Kd.R_below (by (with_reducible repeat (first | apply Kd.R_alloc | apply Kd.R_drewN | apply Kd.R_drew)); exact HO_15.out) hb); have n4_ := Aside0.mk (below_step (by repeat (first | (with_reducible first | exact HB.out | apply below_alloc | apply pw_below_drewN | apply below_drew1) | exact HB.out)) hb); clear HO_5; clear HO_7; clear HO_11; clear HO_15; clear HB; have HO_5 := n0_; have HO_7 := n1_; have HO_11 := n2_; have HO_15 := n3_; have HB := n4_; clear n0_ n1_ n2_ n3_ n4_; (try clear hb); )))
                                all_goals (go_ret)
                                all_goals (exact ⟨by first | rfl | (simp [errW_none, errW_some] <;> rfl) | (simp [*, errW_none, errW_some] <;> rfl), by repeat (first | (with_reducible first | exact HB.out | apply below_alloc | apply pw_below_drewN | apply below_drew1) | exact HB.out)⟩)
                              · rw [if_neg c104] at H
                                have c104b0 : (t508 != false) = false := by simpa using c104
                                (try (have c104b1 : decide (t508 = false) = true := by simpa using c104))
                                (try (have c104b2 : (t508 == false) = true := by simpa using c104))
                                clear c104
                                have H' := Aside0.mk H
                                clear H
                                obtain ⟨Ao109, co109, eo109⟩ := Kd.R_slice HO_7.out
                                subst eo109
                                go_wp2_with (first | ((with_reducible refine gate_callee (f := 29) rfl ?_); refine goesL_ (some 150) rfl rfl Try.func29 (by kernel_rfl) rfl #[.slice Ao109 t469.length co109, .int .i64 t499] rfl (by (try simp only [List.map_toArray, List.map_cons, List.map_nil]); first | done | rfl | (simp only [List.length_drop, List.length_take]; rfl)) ?_; (with_reducible refine (impl_InSet.calls kj60 _ _ t469 t499 t506 true _ ?side1 ?side2 A68.out).mono ?_); (case side1 => repeat (first | exact (Kd.R_reads' HO_7.out).2.2 | (with_reducible refine Kd.C_alloc ?_ _) | (with_reducible refine Kd.C_drewN ?_ _) | (with_reducible refine Kd.C_drew ?_))); (case side2 => exact (Kd.R_reads' HO_7.out).2.1); rintro e w110 ⟨rfl, hb⟩; refine ⟨_, rfl, ?_⟩; have n0_ := Aside0.mk (Kd.R_below (by (with_reducible repeat (first | apply Kd.R_alloc | apply Kd.R_drewN | apply Kd.R_drew)); exact HO_5.out) hb); have n1_ := Aside0.mk (Kd.R_below (by (with_reducible repeat (first | apply Kd.R_alloc | apply Kd.R_drewN | apply Kd.R_drew)); exact HO_7.out) hb); have n2_ := Aside0.mk (Kd.R_below (by (with_reducible repeat (first | apply Kd.R_alloc | apply Kd.R_drewN | apply Kd.R_drew)); exact HO_11.out) hb); have n3_ := Aside0.mk (Kd.R_below (by (with_reducible repeat (first | apply Kd.R_alloc | apply Kd.R_drewN | apply Kd.R_drew)); exact HO_15.out) hb); have n4_ := Aside0.mk (below_step (by repeat (first | (with_reducible first | exact HB.out | apply below_alloc | apply pw_below_drewN | apply below_drew1) | exact HB.out)) hb); clear HO_5; clear HO_7; clear HO_11; clear HO_15; clear HB; have HO_5 := n0_; have HO_7 := n1_; have HO_11 := n2_; have HO_15 := n3_; have HB := n4_; clear n0_ n1_ n2_ n3_ n4_; (try clear hb); obtain ⟨Ao111, co111, eo111⟩ := Kd.R_slice HO_11.out; subst eo111) | ((with_reducible refine gate_callee (f := 29) rfl ?_); refine goesL_ (some 156) rfl rfl Try.func29 (by kernel_rfl) rfl #[.slice Ao111 t477.length co111, .int .i64 t499] rfl (by (try simp only [List.map_toArray, List.map_cons, List.map_nil]); first | done | rfl | (simp only [List.length_drop, List.length_take]; rfl)) ?_; (with_reducible refine (impl_InSet.calls kj60 _ _ t477 t499 t508 true _ ?side1 ?side2 A69.out).mono ?_); (case side1 => repeat (first | exact (Kd.R_reads' HO_11.out).2.2 | (with_reducible refine Kd.C_alloc ?_ _) | (with_reducible refine Kd.C_drewN ?_ _) | (with_reducible refine Kd.C_drew ?_))); (case side2 => exact (Kd.R_reads' HO_11.out).2.1); rintro e w112 ⟨rfl, hb⟩; refine ⟨_, rfl, ?_⟩; have n0_ := Aside0.mk (Kd.R_below (by (with_reducible repeat (first | apply Kd.R_alloc | apply Kd.R_drewN | apply Kd.R_drew)); exact HO_5.out) hb); have n1_ := Aside0.mk (Kd.R_below (by (with_reducible repeat (first | apply Kd.R_alloc | apply Kd.R_drewN | apply Kd.R_drew)); exact HO_7.out) hb); have n2_ := Aside0.mk (Kd.R_below (by (with_reducible repeat (first | apply Kd.R_alloc | apply Kd.R_drewN | apply Kd.R_drew)); exact HO_11.out) hb); have n3_ := Aside0.mk (Kd.R_below (by (with_reducible repeat (first | apply Kd.R_alloc | apply Kd.R_drewN | apply Kd.R_drew)); exact HO_15.out) hb); have n4_ := Aside0.mk (below_step (by repeat (first | (with_reducible first | exact HB.out | apply below_alloc | apply pw_below_drewN | apply below_drew1) | exact HB.out)) hb); clear HO_5; clear HO_7; clear HO_11; clear HO_15; clear HB; have HO_5 := n0_; have HO_7 := n1_; have HO_11 := n2_; have HO_15 := n3_; have HB := n4_; clear n0_ n1_ n2_ n3_ n4_; (try clear hb); ))
                                go_meet
                                case rel => exact ⟨_, H', ⟨by have := HJ11.out; have := HJ60.out; first | omega | exact Nat.le_refl _⟩, ⟨by (with_reducible repeat (first | apply Kd.R_alloc | apply Kd.R_drewN | apply Kd.R_drew)); exact Kd.R_mono HO_5.out (fun _ hk => hk.2.2)⟩, ⟨by (with_reducible repeat (first | apply Kd.R_alloc | apply Kd.R_drewN | apply Kd.R_drew)); exact Kd.R_mono HO_15.out (fun _ hk => hk.1)⟩, ⟨by repeat (first | (with_reducible first | exact HB.out | apply below_alloc | apply pw_below_drewN | apply below_drew1) | exact HB.out)⟩⟩
                            · replace c103 := Bool.eq_false_iff.mpr c103
                              subst c103
                              have H1 : (some false) = some r := by rw [if_neg (show ¬ (false = true) by decide)] at H; exact H
                              clear H
                              have H := H1
                              clear H1
                              obtain rfl := Option.some.inj H
                              (first | exact absurd hr_ (by decide) | skip)
                              all_goals (obtain ⟨Ao113, co113, eo113⟩ := Kd.R_slice HO_7.out)
                              all_goals (subst eo113)
                              all_goals (go_wp2_with (first | ((with_reducible refine gate_callee (f := 29) rfl ?_); refine goesL_ (some 150) rfl rfl Try.func29 (by kernel_rfl) rfl #[.slice Ao113 t469.length co113, .int .i64 t499] rfl (by (try simp only [List.map_toArray, List.map_cons, List.map_nil]); first | done | rfl | (simp only [List.length_drop, List.length_take]; rfl)) ?_; (with_reducible refine (impl_InSet.calls kj60 _ _ t469 t499 t506 true _ ?side1 ?side2 A68.out).mono ?_); (case side1 => repeat (first | exact (Kd.R_reads' HO_7.out).2.2 | (with_reducible refine Kd.C_alloc ?_ _) | (with_reducible refine Kd.C_drewN ?_ _) | (with_reducible refine Kd.C_drew ?_))); (case side2 => exact (Kd.R_reads' HO_7.out).2.1); rintro e w114 ⟨rfl, hb⟩; refine ⟨_, rfl, ?_⟩; have n0_ := Aside0.mk (Kd.R_below (by (with_reducible repeat (first | apply Kd.R_alloc | apply Kd.R_drewN | apply Kd.R_drew)); exact HO_5.out) hb); have n1_ := Aside0.mk (Kd.R_below (by (with_reducible repeat (first | apply Kd.R_alloc | apply Kd.R_drewN | apply Kd.R_drew)); exact HO_7.out) hb); have n2_ := Aside0.mk (Kd.R_below (by (with_reducible repeat (first | apply Kd.R_alloc | apply Kd.R_drewN | apply Kd.R_drew)); exact HO_11.out) hb); have n3_ := Aside0.mk (Kd.R_below (by (with_reducible repeat (first | apply Kd.R_alloc | apply Kd.R_drewN | apply Kd.R_drew)); exact HO_15.out) hb); have n4_ := Aside0.mk (below_step (by repeat (first | (with_reducible first | exact HB.out | apply below_alloc | apply pw_below_drewN | apply below_drew1) | exact HB.out)) hb); clear HO_5; clear HO_7; clear HO_11; clear HO_15; clear HB; have HO_5 := n0_; have HO_7 := n1_; have HO_11 := n2_; have HO_15 := n3_; have HB := n4_; clear n0_ n1_ n2_ n3_ n4_; (try clear hb); obtain ⟨Ao115, co115, eo115⟩ := Kd.R_slice HO_11.out; subst eo115) | ((with_reducible refine gate_callee (f := 29) rfl ?_); refine goesL_ (some 156) rfl rfl Try.func29 (by kernel_rfl) rfl #[.slice Ao115 t477.length co115, .int .i64 t499] rfl (by (try simp only [List.map_toArray, List.map_cons, List.map_nil]); first | done | rfl | (simp only [List.length_drop, List.length_take]; rfl)) ?_; (with_reducible refine (impl_InSet.calls kj60 _ _ t477 t499 t508 false _ ?side1 ?side2 A69.out).mono ?_); (case side1 => repeat (first | exact (Kd.R_reads' HO_11.out).2.2 | (with_reducible refine Kd.C_alloc ?_ _) | (with_reducible refine Kd.C_drewN ?_ _) | (with_reducible refine Kd.C_drew ?_))); (case side2 => exact (Kd.R_reads' HO_11.out).2.1); rintro e w116 ⟨rfl, hb⟩; refine ⟨_, rfl, ?_⟩; have n0_ := Aside0.mk (Kd.R_below (by (with_reducible repeat (first | apply Kd.R_alloc | apply Kd.R_drewN | apply Kd.R_drew)); exact HO_5.out) hb); have n1_ := Aside0.mk (Kd.R_below (by (with_reducible repeat (first | apply Kd.R_alloc | apply Kd.R_drewN | apply Kd.R_drew)); exact HO_7.out) hb); have n2_ := Aside0.mk (Kd.R_below (by (with_reducible repeat (first | apply Kd.R_alloc | apply Kd.R_drewN | apply Kd.R_drew)); exact HO_11.out) hb); have n3_ := Aside0.mk (Kd.R_below (by (with_reducible repeat (first | apply Kd.R_alloc | apply Kd.R_drewN | apply Kd.R_drew)); exact HO_15.out) hb); have n4_ := Aside0.mk (below_step (by repeat (first | (with_reducible first | exact HB.out | apply below_alloc | apply pw_below_drewN | apply below_drew1) | exact HB.out)) hb); clear HO_5; clear HO_7; clear HO_11; clear HO_15; clear HB; have HO_5 := n0_; have HO_7 := n1_; have HO_11 := n2_; have HO_15 := n3_; have HB := n4_; clear n0_ n1_ n2_ n3_ n4_; (try clear hb); )))
                              all_goals (go_ret)
                              all_goals (exact ⟨by first | rfl | (simp [errW_none, errW_some] <;> rfl) | (simp [*, errW_none, errW_some] <;> rfl), by repeat (first | (with_reducible first | exact HB.out | apply below_alloc | apply pw_below_drewN | apply below_drew1) | exact HB.out)⟩)
                          · replace c102 := Bool.eq_false_iff.mpr c102
                            subst c102
                            have H1 : (laws_FnSets.j2 kj60 l1 t463 t485 t486) = some r := by rw [if_neg (show ¬ (false = true) by decide)] at H; exact H
                            clear H
                            have H := H1
                            clear H1
                            have H' := Aside0.mk H
                            clear H
                            obtain ⟨Ao117, co117, eo117⟩ := Kd.R_slice HO_7.out
                            subst eo117
                            go_wp2_with (first | ((with_reducible refine gate_callee (f := 29) rfl ?_); refine goesL_ (some 150) rfl rfl Try.func29 (by kernel_rfl) rfl #[.slice Ao117 t469.length co117, .int .i64 t499] rfl (by (try simp only [List.map_toArray, List.map_cons, List.map_nil]); first | done | rfl | (simp only [List.length_drop, List.length_take]; rfl)) ?_; (with_reducible refine (impl_InSet.calls kj60 _ _ t469 t499 t506 true _ ?side1 ?side2 A68.out).mono ?_); (case side1 => repeat (first | exact (Kd.R_reads' HO_7.out).2.2 | (with_reducible refine Kd.C_alloc ?_ _) | (with_reducible refine Kd.C_drewN ?_ _) | (with_reducible refine Kd.C_drew ?_))); (case side2 => exact (Kd.R_reads' HO_7.out).2.1); rintro e w118 ⟨rfl, hb⟩; refine ⟨_, rfl, ?_⟩; have n0_ := Aside0.mk (Kd.R_below (by (with_reducible repeat (first | apply Kd.R_alloc | apply Kd.R_drewN | apply Kd.R_drew)); exact HO_5.out) hb); have n1_ := Aside0.mk (Kd.R_below (by (with_reducible repeat (first | apply Kd.R_alloc | apply Kd.R_drewN | apply Kd.R_drew)); exact HO_7.out) hb); have n2_ := Aside0.mk (Kd.R_below (by (with_reducible repeat (first | apply Kd.R_alloc | apply Kd.R_drewN | apply Kd.R_drew)); exact HO_11.out) hb); have n3_ := Aside0.mk (Kd.R_below (by (with_reducible repeat (first | apply Kd.R_alloc | apply Kd.R_drewN | apply Kd.R_drew)); exact HO_15.out) hb); have n4_ := Aside0.mk (below_step (by repeat (first | (with_reducible first | exact HB.out | apply below_alloc | apply pw_below_drewN | apply below_drew1) | exact HB.out)) hb); clear HO_5; clear HO_7; clear HO_11; clear HO_15; clear HB; have HO_5 := n0_; have HO_7 := n1_; have HO_11 := n2_; have HO_15 := n3_; have HB := n4_; clear n0_ n1_ n2_ n3_ n4_; (try clear hb); obtain ⟨Ao119, co119, eo119⟩ := Kd.R_slice HO_11.out; subst eo119) | ((with_reducible refine gate_callee (f := 29) rfl ?_); refine goesL_ (some 156) rfl rfl Try.func29 (by kernel_rfl) rfl #[.slice Ao119 t477.length co119, .int .i64 t499] rfl (by (try simp only [List.map_toArray, List.map_cons, List.map_nil]); first | done | rfl | (simp only [List.length_drop, List.length_take]; rfl)) ?_; (with_reducible refine (impl_InSet.calls kj60 _ _ t477 t499 t508 t509 _ ?side1 ?side2 A69.out).mono ?_); (case side1 => repeat (first | exact (Kd.R_reads' HO_11.out).2.2 | (with_reducible refine Kd.C_alloc ?_ _) | (with_reducible refine Kd.C_drewN ?_ _) | (with_reducible refine Kd.C_drew ?_))); (case side2 => exact (Kd.R_reads' HO_11.out).2.1); rintro e w120 ⟨rfl, hb⟩; refine ⟨_, rfl, ?_⟩; have n0_ := Aside0.mk (Kd.R_below (by (with_reducible repeat (first | apply Kd.R_alloc | apply Kd.R_drewN | apply Kd.R_drew)); exact HO_5.out) hb); have n1_ := Aside0.mk (Kd.R_below (by (with_reducible repeat (first | apply Kd.R_alloc | apply Kd.R_drewN | apply Kd.R_drew)); exact HO_7.out) hb); have n2_ := Aside0.mk (Kd.R_below (by (with_reducible repeat (first | apply Kd.R_alloc | apply Kd.R_drewN | apply Kd.R_drew)); exact HO_11.out) hb); have n3_ := Aside0.mk (Kd.R_below (by (with_reducible repeat (first | apply Kd.R_alloc | apply Kd.R_drewN | apply Kd.R_drew)); exact HO_15.out) hb); have n4_ := Aside0.mk (below_step (by repeat (first | (with_reducible first | exact HB.out | apply below_alloc | apply pw_below_drewN | apply below_drew1) | exact HB.out)) hb); clear HO_5; clear HO_7; clear HO_11; clear HO_15; clear HB; have HO_5 := n0_; have HO_7 := n1_; have HO_11 := n2_; have HO_15 := n3_; have HB := n4_; clear n0_ n1_ n2_ n3_ n4_; (try clear hb); ))
                            go_meet
                            case rel => exact ⟨_, H', ⟨by have := HJ11.out; have := HJ60.out; first | omega | exact Nat.le_refl _⟩, ⟨by (with_reducible repeat (first | apply Kd.R_alloc | apply Kd.R_drewN | apply Kd.R_drew)); exact Kd.R_mono HO_5.out (fun _ hk => hk.2.2)⟩, ⟨by (with_reducible repeat (first | apply Kd.R_alloc | apply Kd.R_drewN | apply Kd.R_drew)); exact Kd.R_mono HO_15.out (fun _ hk => hk.1)⟩, ⟨by repeat (first | (with_reducible first | exact HB.out | apply below_alloc | apply pw_below_drewN | apply below_drew1) | exact HB.out)⟩⟩
                    · replace c71 := Bool.eq_false_iff.mpr c71
                      subst c71
                      have H1 : (some false) = some r := by rw [if_neg (show ¬ (false = true) by decide)] at H; exact H
                      clear H
                      have H := H1
                      clear H1
                      obtain rfl := Option.some.inj H
                      (first | exact absurd hr_ (by decide) | skip)
                      all_goals (obtain ⟨Ao121, co121, eo121⟩ := Kd.R_slice HO_7.out)
                      all_goals (subst eo121)
                      all_goals (go_wp2_with (first | ((with_reducible refine gate_callee (f := 29) rfl ?_); refine goesL_ (some 150) rfl rfl Try.func29 (by kernel_rfl) rfl #[.slice Ao121 t469.length co121, .int .i64 t499] rfl (by (try simp only [List.map_toArray, List.map_cons, List.map_nil]); first | done | rfl | (simp only [List.length_drop, List.length_take]; rfl)) ?_; (with_reducible refine (impl_InSet.calls kj60 _ _ t469 t499 t506 false _ ?side1 ?side2 A68.out).mono ?_); (case side1 => repeat (first | exact (Kd.R_reads' HO_7.out).2.2 | (with_reducible refine Kd.C_alloc ?_ _) | (with_reducible refine Kd.C_drewN ?_ _) | (with_reducible refine Kd.C_drew ?_))); (case side2 => exact (Kd.R_reads' HO_7.out).2.1); rintro e w122 ⟨rfl, hb⟩; refine ⟨_, rfl, ?_⟩; have n0_ := Aside0.mk (Kd.R_below (by (with_reducible repeat (first | apply Kd.R_alloc | apply Kd.R_drewN | apply Kd.R_drew)); exact HO_5.out) hb); have n1_ := Aside0.mk (Kd.R_below (by (with_reducible repeat (first | apply Kd.R_alloc | apply Kd.R_drewN | apply Kd.R_drew)); exact HO_7.out) hb); have n2_ := Aside0.mk (Kd.R_below (by (with_reducible repeat (first | apply Kd.R_alloc | apply Kd.R_drewN | apply Kd.R_drew)); exact HO_11.out) hb); have n3_ := Aside0.mk (Kd.R_below (by (with_reducible repeat (first | apply Kd.R_alloc | apply Kd.R_drewN | apply Kd.R_drew)); exact HO_15.out) hb); have n4_ := Aside0.mk (below_step (by repeat (first | (with_reducible first | exact HB.out | apply below_alloc | apply pw_below_drewN | apply below_drew1) | exact HB.out)) hb); clear HO_5; clear HO_7; clear HO_11; clear HO_15; clear HB; have HO_5 := n0_; have HO_7 := n1_; have HO_11 := n2_; have HO_15 := n3_; have HB := n4_; clear n0_ n1_ n2_ n3_ n4_; (try clear hb); obtain ⟨Ao123, co123, eo123⟩ := Kd.R_slice HO_11.out; subst eo123) | ((with_reducible refine gate_callee (f := 29) rfl ?_); refine goesL_ (some 156) rfl rfl Try.func29 (by kernel_rfl) rfl #[.slice Ao123 t477.length co123, .int .i64 t499] rfl (by (try simp only [List.map_toArray, List.map_cons, List.map_nil]); first | done | rfl | (simp only [List.length_drop, List.length_take]; rfl)) ?_; (with_reducible refine (impl_InSet.calls kj60 _ _ t477 t499 t508 t509 _ ?side1 ?side2 A69.out).mono ?_); (case side1 => repeat (first | exact (Kd.R_reads' HO_11.out).2.2 | (with_reducible refine Kd.C_alloc ?_ _) | (with_reducible refine Kd.C_drewN ?_ _) | (with_reducible refine Kd.C_drew ?_))); (case side2 => exact (Kd.R_reads' HO_11.out).2.1); rintro e w124 ⟨rfl, hb⟩; refine ⟨_, rfl, ?_⟩; have n0_ := Aside0.mk (Kd.R_below (by (with_reducible repeat (first | apply Kd.R_alloc | apply Kd.R_drewN | apply Kd.R_drew)); exact HO_5.out) hb); have n1_ := Aside0.mk (Kd.R_below (by (with_reducible repeat (first | apply Kd.R_alloc | apply Kd.R_drewN | apply Kd.R_drew)); exact HO_7.out) hb); have n2_ := Aside0.mk (Kd.R_below (by (with_reducible repeat (first | apply Kd.R_alloc | apply Kd.R_drewN | apply Kd.R_drew)); exact HO_11.out) hb); have n3_ := Aside0.mk (Kd.R_below (by (with_reducible repeat (first | apply Kd.R_alloc | apply Kd.R_drewN | apply Kd.R_drew)); exact HO_15.out) hb); have n4_ := Aside0.mk (below_step (by repeat (first | (with_reducible first | exact HB.out | apply below_alloc | apply pw_below_drewN | apply below_drew1) | exact HB.out)) hb); clear HO_5; clear HO_7; clear HO_11; clear HO_15; clear HB; have HO_5 := n0_; have HO_7 := n1_; have HO_11 := n2_; have HO_15 := n3_; have HB := n4_; clear n0_ n1_ n2_ n3_ n4_; (try clear hb); )))
                      all_goals (go_ret)
                      all_goals (exact ⟨by first | rfl | (simp [errW_none, errW_some] <;> rfl) | (simp [*, errW_none, errW_some] <;> rfl), by repeat (first | (with_reducible first | exact HB.out | apply below_alloc | apply pw_below_drewN | apply below_drew1) | exact HB.out)⟩)
                  · replace c70 := Bool.eq_false_iff.mpr c70
                    subst c70
                    have H1 : (if t478 = true then (if t509 = true then (if t502 = true then (if (t508 != t504) = true then (some false) else (laws_FnSets.j2 kj60 l1 t463 t485 t486)) else (if (t508 != false) = true then (some false) else (laws_FnSets.j2 kj60 l1 t463 t485 t486))) else (some false)) else (laws_FnSets.j2 kj60 l1 t463 t485 t486)) = some r := by rw [if_neg (show ¬ (false = true) by decide)] at H; exact H
                    clear H
                    have H := H1
                    clear H1
                    by_cases c125 : t478 = true
                    · subst c125
                      have H1 : (if t509 = true then (if t502 = true then (if (t508 != t504) = true then (some false) else (laws_FnSets.j2 kj60 l1 t463 t485 t486)) else (if (t508 != false) = true then (some false) else (laws_FnSets.j2 kj60 l1 t463 t485 t486))) else (some false)) = some r := by rw [if_pos rfl] at H; exact H
                      clear H
                      have H := H1
                      clear H1
                      by_cases c126 : t509 = true
                      · subst c126
                        have H1 : (if t502 = true then (if (t508 != t504) = true then (some false) else (laws_FnSets.j2 kj60 l1 t463 t485 t486)) else (if (t508 != false) = true then (some false) else (laws_FnSets.j2 kj60 l1 t463 t485 t486))) = some r := by rw [if_pos rfl] at H; exact H
                        clear H
                        have H := H1
                        clear H1
                        by_cases c127 : t502 = true
                        · subst c127
                          have H1 : (if (t508 != t504) = true then (some false) else (laws_FnSets.j2 kj60 l1 t463 t485 t486)) = some r := by rw [if_pos rfl] at H; exact H
                          clear H
                          have H := H1
                          clear H1
                          by_cases c128 : (t508 != t504) = true
                          · rw [if_pos c128] at H
                            have c128b0 : (t508 != t504) = true := c128
                            (try (have c128b1 : decide (t508 = t504) = false := by simpa using c128))
                            (try (have c128b2 : (t508 == t504) = false := by simpa using c128))
                            (try (have c128b3 : ¬ (t508 = t504) := by simpa using c128))
                            clear c128
                            obtain rfl := Option.some.inj H
                            (first | exact absurd hr_ (by decide) | skip)
                            all_goals (obtain ⟨Ao129, co129, eo129⟩ := Kd.R_slice HO_7.out)
                            all_goals (subst eo129)
                            all_goals (go_wp2_with (first | ((with_reducible refine gate_callee (f := 29) rfl ?_); refine goesL_ (some 150) rfl rfl Try.func29 (by kernel_rfl) rfl #[.slice Ao129 t469.length co129, .int .i64 t499] rfl (by (try simp only [List.map_toArray, List.map_cons, List.map_nil]); first | done | rfl | (simp only [List.length_drop, List.length_take]; rfl)) ?_; (with_reducible refine (impl_InSet.calls kj60 _ _ t469 t499 t506 t507 _ ?side1 ?side2 A68.out).mono ?_); (case side1 => repeat (first | exact (Kd.R_reads' HO_7.out).2.2 | (with_reducible refine Kd.C_alloc ?_ _) | (with_reducible refine Kd.C_drewN ?_ _) | (with_reducible refine Kd.C_drew ?_))); (case side2 => exact (Kd.R_reads' HO_7.out).2.1); rintro e w130 ⟨rfl, hb⟩; refine ⟨_, rfl, ?_⟩; have n0_ := Aside0.mk (Kd.R_below (by (with_reducible repeat (first | apply Kd.R_alloc | apply Kd.R_drewN | apply Kd.R_drew)); exact HO_5.out) hb); have n1_ := Aside0.mk (Kd.R_below (by (with_reducible repeat (first | apply Kd.R_alloc | apply Kd.R_drewN | apply Kd.R_drew)); exact HO_7.out) hb); have n2_ := Aside0.mk (Kd.R_below (by (with_reducible repeat (first | apply Kd.R_alloc | apply Kd.R_drewN | apply Kd.R_drew)); exact HO_11.out) hb); have n3_ := Aside0.mk (Kd.R_below (by (with_reducible repeat (first | apply Kd.R_alloc | apply Kd.R_drewN | apply Kd.R_drew)); exact HO_15.out) hb); have n4_ := Aside0.mk (below_step (by repeat (first | (with_reducible first | exact HB.out | apply below_alloc | apply pw_below_drewN | apply below_drew1) | exact HB.out)) hb); clear HO_5; clear HO_7; clear HO_11; clear HO_15; clear HB; have HO_5 := n0_; have HO_7 := n1_; have HO_11 := n2_; have HO_15 := n3_; have HB := n4_; clear n0_ n1_ n2_ n3_ n4_; (try clear hb); obtain ⟨Ao131, co131, eo131⟩ := Kd.R_slice HO_11.out; subst eo131) | ((with_reducible refine gate_callee (f := 29) rfl ?_); refine goesL_ (some 156) rfl rfl Try.func29 (by kernel_rfl) rfl #[.slice Ao131 t477.length co131, .int .i64 t499] rfl (by (try simp only [List.map_toArray, List.map_cons, List.map_nil]); first | done | rfl | (simp only [List.length_drop, List.length_take]; rfl)) ?_; (with_reducible refine (impl_InSet.calls kj60 _ _ t477 t499 t508 true _ ?side1 ?side2 A69.out).mono ?_); (case side1 => repeat (first | exact (Kd.R_reads' HO_11.out).2.2 | (with_reducible refine Kd.C_alloc ?_ _) | (with_reducible refine Kd.C_drewN ?_ _) | (with_reducible refine Kd.C_drew ?_))); (case side2 => exact (Kd.R_reads' HO_11.out).2.1); rintro e w132 ⟨rfl, hb⟩; refine ⟨_, rfl, ?_⟩; have n0_ := Aside0.mk (Kd.R_below (by (with_reducible repeat (first | apply Kd.R_alloc | apply Kd.R_drewN | apply Kd.R_drew)); exact HO_5.out) hb); have n1_ := Aside0.mk (Kd.R_below (by (with_reducible repeat (first | apply Kd.R_alloc | apply Kd.R_drewN | apply Kd.R_drew)); exact HO_7.out) hb); have n2_ := Aside0.mk (Kd.R_below (by (with_reducible repeat (first | apply Kd.R_alloc | apply Kd.R_drewN | apply Kd.R_drew)); exact HO_11.out) hb); have n3_ := Aside0.mk (Kd.R_below (by (with_reducible repeat (first | apply Kd.R_alloc | apply Kd.R_drewN | apply Kd.R_drew)); exact HO_15.out) hb); have n4_ := Aside0.mk (below_step (by repeat (first | (with_reducible first | exact HB.out | apply below_alloc | apply pw_below_drewN | apply below_drew1) | exact HB.out)) hb); clear HO_5; clear HO_7; clear HO_11; clear HO_15; clear HB; have HO_5 := n0_; have HO_7 := n1_; have HO_11 := n2_; have HO_15 := n3_; have HB := n4_; clear n0_ n1_ n2_ n3_ n4_; (try clear hb); )))
                            all_goals (go_ret)
                            all_goals (exact ⟨by first | rfl | (simp [errW_none, errW_some] <;> rfl) | (simp [*, errW_none, errW_some] <;> rfl), by repeat (first | (with_reducible first | exact HB.out | apply below_alloc | apply pw_below_drewN | apply below_drew1) | exact HB.out)⟩)
                          · rw [if_neg c128] at H
                            have c128b0 : (t508 != t504) = false := by simpa using c128
                            (try (have c128b1 : decide (t508 = t504) = true := by simpa using c128))
                            (try (have c128b2 : (t508 == t504) = true := by simpa using c128))
                            clear c128
                            have H' := Aside0.mk H
                            clear H
                            obtain ⟨Ao133, co133, eo133⟩ := Kd.R_slice HO_7.out
                            subst eo133
                            go_wp2_with (first | ((with_reducible refine gate_callee (f := 29) rfl ?_); refine goesL_ (some 150) rfl rfl Try.func29 (by kernel_rfl) rfl #[.slice Ao133 t469.length co133, .int .i64 t499] rfl (by (try simp only [List.map_toArray, List.map_cons, List.map_nil]); first | done | rfl | (simp only [List.length_drop, List.length_take]; rfl)) ?_; (with_reducible refine (impl_InSet.calls kj60 _ _ t469 t499 t506 t507 _ ?side1 ?side2 A68.out).mono ?_); (case side1 => repeat (first | exact (Kd.R_reads' HO_7.out).2.2 | (with_reducible refine Kd.C_alloc ?_ _) | (with_reducible refine Kd.C_drewN ?_ _) | (with_reducible refine Kd.C_drew ?_))); (case side2 => exact (Kd.R_reads' HO_7.out).2.1); rintro e w134 ⟨rfl, hb⟩; refine ⟨_, rfl, ?_⟩; have n0_ := Aside0.mk (Kd.R_below (by (with_reducible repeat (first | apply Kd.R_alloc | apply Kd.R_drewN | apply Kd.R_drew)); exact HO_5.out) hb); have n1_ := Aside0.mk (Kd.R_below (by (with_reducible repeat (first | apply Kd.R_alloc | apply Kd.R_drewN | apply Kd.R_drew)); exact HO_7.out) hb); have n2_ := Aside0.mk (Kd.R_below (by (with_reducible repeat (first | apply Kd.R_alloc | apply Kd.R_drewN | apply Kd.R_drew)); exact HO_11.out) hb); have n3_ := Aside0.mk (Kd.R_below (by (with_reducible repeat (first | apply Kd.R_alloc | apply Kd.R_drewN | apply Kd.R_drew)); exact HO_15.out) hb); have n4_ := Aside0.mk (below_step (by repeat (first | (with_reducible first | exact HB.out | apply below_alloc | apply pw_below_drewN | apply below_drew1) | exact HB.out)) hb); clear HO_5; clear HO_7; clear HO_11; clear HO_15; clear HB; have HO_5 := n0_; have HO_7 := n1_; have HO_11 := n2_; have HO_15 := n3_; have HB := n4_; clear n0_ n1_ n2_ n3_ n4_; (try clear hb); obtain ⟨Ao135, co135, eo135⟩ := Kd.R_slice HO_11.out; subst eo135) | ((with_reducible refine gate_callee (f := 29) rfl ?_); refine goesL_ (some 156) rfl rfl Try.func29 (by kernel_rfl) rfl #[.slice Ao135 t477.length co135, .int .i64 t499] rfl (by (try simp only [List.map_toArray, List.map_cons, List.map_nil]); first | done | rfl | (simp only [List.length_drop, List.length_take]; rfl)) ?_; (with_reducible refine (impl_InSet.calls kj60 _ _ t477 t499 t508 true _ ?side1 ?side2 A69.out).mono ?_); (case side1 => repeat (first | exact (Kd.R_reads' HO_11.out).2.2 | (with_reducible refine Kd.C_alloc ?_ _) | (with_reducible refine Kd.C_drewN ?_ _) | (with_reducible refine Kd.C_drew ?_))); (case side2 => exact (Kd.R_reads' HO_11.out).2.1); rintro e w136 ⟨rfl, hb⟩; refine ⟨_, rfl, ?_⟩; have n0_ := Aside0.mk (Kd.R_below (by (with_reducible repeat (first | apply Kd.R_alloc | apply Kd.R_drewN | apply Kd.R_drew)); exact HO_5.out) hb); have n1_ := Aside0.mk (Kd.R_below (by (with_reducible repeat (first | apply Kd.R_alloc | apply Kd.R_drewN | apply Kd.R_drew)); exact HO_7.out) hb); have n2_ := Aside0.mk (Kd.R_below (by (with_reducible repeat (first | apply Kd.R_alloc | apply Kd.R_drewN | apply Kd.R_drew)); exact HO_11.out) hb); have n3_ := Aside0.mk (Kd.R_below (by (with_reducible repeat (first | apply Kd.R_alloc | apply Kd.R_drewN | apply Kd.R_drew)); exact HO_15.out) hb); have n4_ := Aside0.mk (below_step (by repeat (first | (with_reducible first | exact HB.out | apply below_alloc | apply pw_below_drewN | apply below_drew1) | exact HB.out)) hb); clear HO_5; clear HO_7; clear HO_11; clear HO_15; clear HB; have HO_5 := n0_; have HO_7 := n1_; have HO_11 := n2_; have HO_15 := n3_; have HB := n4_; clear n0_ n1_ n2_ n3_ n4_; (try clear hb); ))
                            go_meet
                            case rel => exact ⟨_, H', ⟨by have := HJ11.out; have := HJ60.out; first | omega | exact Nat.le_refl _⟩, ⟨by (with_reducible repeat (first | apply Kd.R_alloc | apply Kd.R_drewN | apply Kd.R_drew)); exact Kd.R_mono HO_5.out (fun _ hk => hk.2.2)⟩, ⟨by (with_reducible repeat (first | apply Kd.R_alloc | apply Kd.R_drewN | apply Kd.R_drew)); exact Kd.R_mono HO_15.out (fun _ hk => hk.1)⟩, ⟨by repeat (first | (with_reducible first | exact HB.out | apply below_alloc | apply pw_below_drewN | apply below_drew1) | exact HB.out)⟩⟩
                        · replace c127 := Bool.eq_false_iff.mpr c127
                          subst c127
                          have H1 : (if (t508 != false) = true then (some false) else (laws_FnSets.j2 kj60 l1 t463 t485 t486)) = some r := by rw [if_neg (show ¬ (false = true) by decide)] at H; exact H
                          clear H
                          have H := H1
                          clear H1
                          by_cases c137 : (t508 != false) = true
                          · rw [if_pos c137] at H
                            have c137b0 : (t508 != false) = true := c137
                            (try (have c137b1 : decide (t508 = false) = false := by simpa using c137))
                            (try (have c137b2 : (t508 == false) = false := by simpa using c137))
                            (try (have c137b3 : ¬ (t508 = false) := by simpa using c137))
                            clear c137
                            obtain rfl := Option.some.inj H
                            (first | exact absurd hr_ (by decide) | skip)
                            all_goals (obtain ⟨Ao138, co138, eo138⟩ := Kd.R_slice HO_7.out)
                            all_goals (subst eo138)
                            all_goals (go_wp2_with (first | ((with_reducible refine gate_callee (f := 29) rfl ?_); refine goesL_ (some 150) rfl rfl Try.func29 (by kernel_rfl) rfl #[.slice Ao138 t469.length co138, .int .i64 t499] rfl (by (try simp only [List.map_toArray, List.map_cons, List.map_nil]); first | done | rfl | (simp only [List.length_drop, List.length_take]; rfl)) ?_; (with_reducible refine (impl_InSet.calls kj60 _ _ t469 t499 t506 t507 _ ?side1 ?side2 A68.out).mono ?_); (case side1 => repeat (first | exact (Kd.R_reads' HO_7.out).2.2 | (with_reducible refine Kd.C_alloc ?_ _) | (with_reducible refine Kd.C_drewN ?_ _) | (with_reducible refine Kd.C_drew ?_))); (case side2 => exact (Kd.R_reads' HO_7.out).2.1); rintro e w139 ⟨rfl, hb⟩; refine ⟨_, rfl, ?_⟩; have n0_ := Aside0.mk (Kd.R_below (by (with_reducible repeat (first | apply Kd.R_alloc | apply Kd.R_drewN | apply Kd.R_drew)); exact HO_5.out) hb); have n1_ := Aside0.mk (Kd.R_below (by (with_reducible repeat (first | apply Kd.R_alloc | apply Kd.R_drewN | apply Kd.R_drew)); exact HO_7.out) hb); have n2_ := Aside0.mk (Kd.R_below (by (with_reducible repeat (first | apply Kd.R_alloc | apply Kd.R_drewN | apply Kd.R_drew)); exact HO_11.out) hb); have n3_ := Aside0.mk (Kd.R_below (by (with_reducible repeat (first | apply Kd.R_alloc | apply Kd.R_drewN | apply Kd.R_drew)); exact HO_15.out) hb); have n4_ := Aside0.mk (below_step (by repeat (first | (with_reducible first | exact HB.out | apply below_alloc | apply pw_below_drewN | apply below_drew1) | exact HB.out)) hb); clear HO_5; clear HO_7; clear HO_11; clear HO_15; clear HB; have HO_5 := n0_; have HO_7 := n1_; have HO_11 := n2_; have HO_15 := n3_; have HB := n4_; clear n0_ n1_ n2_ n3_ n4_; (try clear hb); obtain ⟨Ao140, co140, eo140⟩ := Kd.R_slice HO_11.out; subst eo140) | ((with_reducible refine gate_callee (f := 29) rfl ?_); refine goesL_ (some 156) rfl rfl Try.func29 (by kernel_rfl) rfl #[.slice Ao140 t477.length co140, .int .i64 t499] rfl (by (try simp only [List.map_toArray, List.map_cons, List.map_nil]); first | done | rfl | (simp only [List.length_drop, List.length_take]; rfl)) ?_; (with_reducible refine (impl_InSet.calls kj60 _ _ t477 t499 t508 true _ ?side1 ?side2 A69.out).mono ?_); (case side1 => repeat (first | exact (Kd.R_reads' HO_11.out).2.2 | (with_reducible refine Kd.C_alloc ?_ _) | (with_reducible refine Kd.C_drewN ?_ _) | (with_reducible refine Kd.C_drew ?_))); (case side2 => exact (Kd.R_reads' HO_11.out).2.1); rintro e w141 ⟨rfl, hb⟩; refine ⟨_, rfl, ?_⟩; have n0_ := Aside0.mk (Kd.R_below (by (with_reducible repeat (first | apply Kd.R_alloc | apply Kd.R_drewN | apply Kd.R_drew)); exact HO_5.out) hb); have n1_ := Aside0.mk (Kd.R_below (by (with_reducible repeat (first | apply Kd.R_alloc | apply Kd.R_drewN | apply Kd.R_drew)); exact HO_7.out) hb); have n2_ := Aside0.mk (Kd.R_below (by (with_reducible repeat (first | apply Kd.R_alloc | apply Kd.R_drewN | apply Kd.R_drew)); exact HO_11.out) hb); have n3_ := Aside0.mk (Kd.R_below (by (with_reducible repeat (first | apply Kd.R_alloc | apply Kd.R_drewN | apply Kd.R_drew)); exact HO_15.out) hb); have n4_ := Aside0.mk (below_step (by repeat (first | (with_reducible first | exact HB.out | apply below_alloc | apply pw_below_drewN | apply below_drew1) | exact HB.out)) hb); clear HO_5; clear HO_7; clear HO_11; clear HO_15; clear HB; have HO_5 := n0_; have HO_7 := n1_; have HO_11 := n2_; have HO_15 := n3_; have HB := n4_; clear n0_ n1_ n2_ n3_ n4_; (try clear hb); )))
                            all_goals (go_ret)
                            all_goals (exact ⟨by first | rfl | (simp [errW_none, errW_some] <;> rfl) | (simp [*, errW_none, errW_some] <;> rfl), by repeat (first | (with_reducible first | exact HB.out | apply below_alloc | apply pw_below_drewN | apply below_drew1) | exact HB.out)⟩)
                          · rw [if_neg c137] at H
                            have c137b0 : (t508 != false) = false := by simpa using c137
                            (try (have c137b1 : decide (t508 = false) = true := by simpa using c137))
                            (try (have c137b2 : (t508 == false) = true := by simpa using c137))
                            clear c137
                            have H' := Aside0.mk H
                            clear H
                            obtain ⟨Ao142, co142, eo142⟩ := Kd.R_slice HO_7.out
                            subst eo142
                            go_wp2_with (first | ((with_reducible refine gate_callee (f := 29) rfl ?_); refine goesL_ (some 150) rfl rfl Try.func29 (by kernel_rfl) rfl #[.slice Ao142 t469.length co142, .int .i64 t499] rfl (by (try simp only [List.map_toArray, List.map_cons, List.map_nil]); first | done | rfl | (simp only [List.length_drop, List.length_take]; rfl)) ?_; (with_reducible refine (impl_InSet.calls kj60 _ _ t469 t499 t506 t507 _ ?side1 ?side2 A68.out).mono ?_); (case side1 => repeat (first | exact (Kd.R_reads' HO_7.out).2.2 | (with_reducible refine Kd.C_alloc ?_ _) | (with_reducible refine Kd.C_drewN ?_ _) | (with_reducible refine Kd.C_drew ?_))); (case side2 => exact (Kd.R_reads' HO_7.out).2.1); rintro e w143 ⟨rfl, hb⟩; refine ⟨_, rfl, ?_⟩; have n0_ := Aside0.mk (Kd.R_below (by (with_reducible repeat (first | apply Kd.R_alloc | apply Kd.R_drewN | apply Kd.R_drew)); exact HO_5.out) hb); have n1_ := Aside0.mk (Kd.R_below (by (with_reducible repeat (first | apply Kd.R_alloc | apply Kd.R_drewN | apply Kd.R_drew)); exact HO_7.out) hb); have n2_ := Aside0.mk (Kd.R_below (by (with_reducible repeat (first | apply Kd.R_alloc | apply Kd.R_drewN | apply Kd.R_drew)); exact HO_11.out) hb); have n3_ := Aside0.mk (Kd.R_below (by (with_reducible repeat (first | apply Kd.R_alloc | apply Kd.R_drewN | apply Kd.R_drew)); exact HO_15.out) hb); have n4_ := Aside0.mk (below_step (by repeat (first | (with_reducible first | exact HB.out | apply below_alloc | apply pw_below_drewN | apply below_drew1) | exact HB.out)) hb); clear HO_5; clear HO_7; clear HO_11; clear HO_15; clear HB; have HO_5 := n0_; have HO_7 := n1_; have HO_11 := n2_; have HO_15 := n3_; have HB := n4_; clear n0_ n1_ n2_ n3_ n4_; (try clear hb); obtain ⟨Ao144, co144, eo144⟩ := Kd.R_slice HO_11.out; subst eo144) | ((with_reducible refine gate_callee (f := 29) rfl ?_); refine goesL_ (some 156) rfl rfl Try.func29 (by kernel_rfl) rfl #[.slice Ao144 t477.length co144, .int .i64 t499] rfl (by (try simp only [List.map_toArray, List.map_cons, List.map_nil]); first | done | rfl | (simp only [List.length_drop, List.length_take]; rfl)) ?_; (with_reducible refine (impl_InSet.calls kj60 _ _ t477 t499 t508 true _ ?side1 ?side2 A69.out).mono ?_); (case side1 => repeat (first | exact (Kd.R_reads' HO_11.out).2.2 | (with_reducible refine Kd.C_alloc ?_ _) | (with_reducible refine Kd.C_drewN ?_ _) | (with_reducible refine Kd.C_drew ?_))); (case side2 => exact (Kd.R_reads' HO_11.out).2.1); rintro e w145 ⟨rfl, hb⟩; refine ⟨_, rfl, ?_⟩; have n0_ := Aside0.mk (Kd.R_below (by (with_reducible repeat (first | apply Kd.R_alloc | apply Kd.R_drewN | apply Kd.R_drew)); exact HO_5.out) hb); have n1_ := Aside0.mk (Kd.R_below (by (with_reducible repeat (first | apply Kd.R_alloc | apply Kd.R_drewN | apply Kd.R_drew)); exact HO_7.out) hb); have n2_ := Aside0.mk (Kd.R_below (by (with_reducible repeat (first | apply Kd.R_alloc | apply Kd.R_drewN | apply Kd.R_drew)); exact HO_11.out) hb); have n3_ := Aside0.mk (Kd.R_below (by (with_reducible repeat (first | apply Kd.R_alloc | apply Kd.R_drewN | apply Kd.R_drew)); exact HO_15.out) hb); have n4_ := Aside0.mk (below_step (by repeat (first | (with_reducible first | exact HB.out | apply below_alloc | apply pw_below_drewN | apply below_drew1) | exact HB.out)) hb); clear HO_5; clear HO_7; clear HO_11; clear HO_15; clear HB; have HO_5 := n0_; have HO_7 := n1_; have HO_11 := n2_; have HO_15 := n3_; have HB := n4_; clear n0_ n1_ n2_ n3_ n4_; (try clear hb); ))
                            go_meet
                            case rel => exact ⟨_, H', ⟨by have := HJ11.out; have := HJ60.out; first | omega | exact Nat.le_refl _⟩, ⟨by (with_reducible repeat (first | apply Kd.R_alloc | apply Kd.R_drewN | apply Kd.R_drew)); exact Kd.R_mono HO_5.out (fun _ hk => hk.2.2)⟩, ⟨by (with_reducible repeat (first | apply Kd.R_alloc | apply Kd.R_drewN | apply Kd.R_drew)); exact Kd.R_mono HO_15.out (fun _ hk => hk.1)⟩, ⟨by repeat (first | (with_reducible first | exact HB.out | apply below_alloc | apply pw_below_drewN | apply below_drew1) | exact HB.out)⟩⟩
                      · replace c126 := Bool.eq_false_iff.mpr c126
                        subst c126
                        have H1 : (some false) = some r := by rw [if_neg (show ¬ (false = true) by decide)] at H; exact H
                        clear H
                        have H := H1
                        clear H1
                        obtain rfl := Option.some.inj H
                        (first | exact absurd hr_ (by decide) | skip)
                        all_goals (obtain ⟨Ao146, co146, eo146⟩ := Kd.R_slice HO_7.out)
                        all_goals (subst eo146)
                        all_goals (go_wp2_with (first | ((with_reducible refine gate_callee (f := 29) rfl ?_); refine goesL_ (some 150) rfl rfl Try.func29 (by kernel_rfl) rfl #[.slice Ao146 t469.length co146, .int .i64 t499] rfl (by (try simp only [List.map_toArray, List.map_cons, List.map_nil]); first | done | rfl | (simp only [List.length_drop, List.length_take]; rfl)) ?_; (with_reducible refine (impl_InSet.calls kj60 _ _ t469 t499 t506 t507 _ ?side1 ?side2 A68.out).mono ?_); (case side1 => repeat (first | exact (Kd.R_reads' HO_7.out).2.2 | (with_reducible refine Kd.C_alloc ?_ _) | (with_reducible refine Kd.C_drewN ?_ _) | (with_reducible refine Kd.C_drew ?_))); (case side2 => exact (Kd.R_reads' HO_7.out).2.1); rintro e w147 ⟨rfl, hb⟩; refine ⟨_, rfl, ?_⟩; have n0_ := Aside0.mk (Kd.R_below (by (with_reducible repeat (first | apply Kd.R_alloc | apply Kd.R_drewN | apply Kd.R_drew)); exact HO_5.out) hb); have n1_ := Aside0.mk (Kd.R_below (by (with_reducible repeat (first | apply Kd.R_alloc | apply Kd.R_drewN | apply Kd.R_drew)); exact HO_7.out) hb); have n2_ := Aside0.mk (Kd.R_below (by (with_reducible repeat (first | apply Kd.R_alloc | apply Kd.R_drewN | apply Kd.R_drew)); exact HO_11.out) hb); have n3_ := Aside0.mk (Kd.R_below (by (with_reducible repeat (first | apply Kd.R_alloc | apply Kd.R_drewN | apply Kd.R_drew)); exact HO_15.out) hb); have n4_ := Aside0.mk (below_step (by repeat (first | (with_reducible first | exact HB.out | apply below_alloc | apply pw_below_drewN | apply below_drew1) | exact HB.out)) hb); clear HO_5; clear HO_7; clear HO_11; clear HO_15; clear HB; have HO_5 := n0_; have HO_7 := n1_; have HO_11 := n2_; have HO_15 := n3_; have HB := n4_; clear n0_ n1_ n2_ n3_ n4_; (try clear hb); obtain ⟨Ao148, co148, eo148⟩ := Kd.R_slice HO_11.out; subst eo148) | ((with_reducible refine gate_callee (f := 29) rfl ?_); refine goesL_ (some 156) rfl rfl Try.func29 (by kernel_rfl) rfl #[.slice Ao148 t477.length co148, .int .i64 t499] rfl (by (try simp only [List.map_toArray, List.map_cons, List.map_nil]); first | done | rfl | (simp only [List.length_drop, List.length_take]; rfl)) ?_; (with_reducible refine (impl_InSet.calls kj60 _ _ t477 t499 t508 false _ ?side1 ?side2 A69.out).mono ?_); (case side1 => repeat (first | exact (Kd.R_reads' HO_11.out).2.2 | (with_reducible refine Kd.C_alloc ?_ _) | (with_reducible refine Kd.C_drewN ?_ _) | (with_reducible refine Kd.C_drew ?_))); (case side2 => exact (Kd.R_reads' HO_11.out).2.1); rintro e w149 ⟨rfl, hb⟩; refine ⟨_, rfl, ?_⟩; have n0_ := Aside0.mk (Kd.R_below (by (with_reducible repeat (first | apply Kd.R_alloc | apply Kd.R_drewN | apply Kd.R_drew)); exact HO_5.out) hb); have n1_ := Aside0.mk (Kd.R_below (by (with_reducible repeat (first | apply Kd.R_alloc | apply Kd.R_drewN | apply Kd.R_drew)); exact HO_7.out) hb); have n2_ := Aside0.mk (Kd.R_below (by (with_reducible repeat (first | apply Kd.R_alloc | apply Kd.R_drewN | apply Kd.R_drew)); exact HO_11.out) hb); have n3_ := Aside0.mk (Kd.R_below (by (with_reducible repeat (first | apply Kd.R_alloc | apply Kd.R_drewN | apply Kd.R_drew)); exact HO_15.out) hb); have n4_ := Aside0.mk (below_step (by repeat (first | (with_reducible first | exact HB.out | apply below_alloc | apply pw_below_drewN | apply below_drew1) | exact HB.out)) hb); clear HO_5; clear HO_7; clear HO_11; clear HO_15; clear HB; have HO_5 := n0_; have HO_7 := n1_; have HO_11 := n2_; have HO_15 := n3_; have HB := n4_; clear n0_ n1_ n2_ n3_ n4_; (try clear hb); )))
                        all_goals (go_ret)
                        all_goals (exact ⟨by first | rfl | (simp [errW_none, errW_some] <;> rfl) | (simp [*, errW_none, errW_some] <;> rfl), by repeat (first | (with_reducible first | exact HB.out | apply below_alloc | apply pw_below_drewN | apply below_drew1) | exact HB.out)⟩)
                    · replace c125 := Bool.eq_false_iff.mpr c125
                      subst c125
                      have H1 : (laws_FnSets.j2 kj60 l1 t463 t485 t486) = some r := by rw [if_neg (show ¬ (false = true) by decide)] at H; exact H
                      clear H
                      have H := H1
                      clear H1
                      have H' := Aside0.mk H
                      clear H
                      obtain ⟨Ao150, co150, eo150⟩ := Kd.R_slice HO_7.out
                      subst eo150
                      go_wp2_with (first | ((with_reducible refine gate_callee (f := 29) rfl ?_); refine goesL_ (some 150) rfl rfl Try.func29 (by kernel_rfl) rfl #[.slice Ao150 t469.length co150, .int .i64 t499] rfl (by (try simp only [List.map_toArray, List.map_cons, List.map_nil]); first | done | rfl | (simp only [List.length_drop, List.length_take]; rfl)) ?_; (with_reducible refine (impl_InSet.calls kj60 _ _ t469 t499 t506 t507 _ ?side1 ?side2 A68.out).mono ?_); (case side1 => repeat (first | exact (Kd.R_reads' HO_7.out).2.2 | (with_reducible refine Kd.C_alloc ?_ _) | (with_reducible refine Kd.C_drewN ?_ _) | (with_reducible refine Kd.C_drew ?_))); (case side2 => exact (Kd.R_reads' HO_7.out).2.1); rintro e w151 ⟨rfl, hb⟩; refine ⟨_, rfl, ?_⟩; have n0_ := Aside0.mk (Kd.R_below (by (with_reducible repeat (first | apply Kd.R_alloc | apply Kd.R_drewN | apply Kd.R_drew)); exact HO_5.out) hb); have n1_ := Aside0.mk (Kd.R_below (by (with_reducible repeat (first | apply Kd.R_alloc | apply Kd.R_drewN | apply Kd.R_drew)); exact HO_7.out) hb); have n2_ := Aside0.mk (Kd.R_below (by (with_reducible repeat (first | apply Kd.R_alloc | apply Kd.R_drewN | apply Kd.R_drew)); exact HO_11.out) hb); have n3_ := Aside0.mk (Kd.R_below (by (with_reducible repeat (first | apply Kd.R_alloc | apply Kd.R_drewN | apply Kd.R_drew)); exact HO_15.out) hb); have n4_ := Aside0.mk (below_step (by repeat (first | (with_reducible first | exact HB.out | apply below_alloc | apply pw_below_drewN | apply below_drew1) | exact HB.out)) hb); clear HO_5; clear HO_7; clear HO_11; clear HO_15; clear HB; have HO_5 := n0_; have HO_7 := n1_; have HO_11 := n2_; have HO_15 := n3_; have HB := n4_; clear n0_ n1_ n2_ n3_ n4_; (try clear hb); obtain ⟨Ao152, co152, eo152⟩ := Kd.R_slice HO_11.out; subst eo152) | ((with_reducible refine gate_callee (f := 29) rfl ?_); refine goesL_ (some 156) rfl rfl Try.func29 (by kernel_rfl) rfl #[.slice Ao152 t477.length co152, .int .i64 t499] rfl (by (try simp only [List.map_toArray, List.map_cons, List.map_nil]); first | done | rfl | (simp only [List.length_drop, List.length_take]; rfl)) ?_; (with_reducible refine (impl_InSet.calls kj60 _ _ t477 t499 t508 t509 _ ?side1 ?side2 A69.out).mono ?_); (case side1 => repeat (first | exact (Kd.R_reads' HO_11.out).2.2 | (with_reducible refine Kd.C_alloc ?_ _) | (with_reducible refine Kd.C_drewN ?_ _) | (with_reducible refine Kd.C_drew ?_))); (case side2 => exact (Kd.R_reads' HO_11.out).2.1); rintro e w153 ⟨rfl, hb⟩; refine ⟨_, rfl, ?_⟩; have n0_ := Aside0.mk (Kd.R_below (by (with_reducible repeat (first | apply Kd.R_alloc | apply Kd.R_drewN | apply Kd.R_drew)); exact HO_5.out) hb); have n1_ := Aside0.mk (Kd.R_below (by (with_reducible repeat (first | apply Kd.R_alloc | apply Kd.R_drewN | apply Kd.R_drew)); exact HO_7.out) hb); have n2_ := Aside0.mk (Kd.R_below (by (with_reducible repeat (first | apply Kd.R_alloc | apply Kd.R_drewN | apply Kd.R_drew)); exact HO_11.out) hb); have n3_ := Aside0.mk (Kd.R_below (by (with_reducible repeat (first | apply Kd.R_alloc | apply Kd.R_drewN | apply Kd.R_drew)); exact HO_15.out) hb); have n4_ := Aside0.mk (below_step (by repeat (first | (with_reducible first | exact HB.out | apply below_alloc | apply pw_below_drewN | apply below_drew1) | exact HB.out)) hb); clear HO_5; clear HO_7; clear HO_11; clear HO_15; clear HB; have HO_5 := n0_; have HO_7 := n1_; have HO_11 := n2_; have HO_15 := n3_; have HB := n4_; clear n0_ n1_ n2_ n3_ n4_; (try clear hb); ))
                      go_meet
                      case rel => exact ⟨_, H', ⟨by have := HJ11.out; have := HJ60.out; first | omega | exact Nat.le_refl _⟩, ⟨by (with_reducible repeat (first | apply Kd.R_alloc | apply Kd.R_drewN | apply Kd.R_drew)); exact Kd.R_mono HO_5.out (fun _ hk => hk.2.2)⟩, ⟨by (with_reducible repeat (first | apply Kd.R_alloc | apply Kd.R_drewN | apply Kd.R_drew)); exact Kd.R_mono HO_15.out (fun _ hk => hk.1)⟩, ⟨by repeat (first | (with_reducible first | exact HB.out | apply below_alloc | apply pw_below_drewN | apply below_drew1) | exact HB.out)⟩⟩
                · replace c67 := Bool.eq_false_iff.mpr c67
                  subst c67
                  have H1 : (laws_FnSets.j2 kj60 l1 t463 t485 t486) = some r := by rw [if_neg (show ¬ (false = true) by decide)] at H; exact H
                  clear H
                  have H := H1
                  clear H1
                  have H' := Aside0.mk H
                  clear H
                  go_wp2
                  go_meet
                  case rel => exact ⟨_, H', ⟨by have := HJ11.out; have := HJ60.out; first | omega | exact Nat.le_refl _⟩, ⟨by (with_reducible repeat (first | apply Kd.R_alloc | apply Kd.R_drewN | apply Kd.R_drew)); exact Kd.R_mono HO_5.out (fun _ hk => hk.2.2)⟩, ⟨by (with_reducible repeat (first | apply Kd.R_alloc | apply Kd.R_drewN | apply Kd.R_drew)); exact Kd.R_mono HO_15.out (fun _ hk => hk.1)⟩, ⟨by repeat (first | (with_reducible first | exact HB.out | apply below_alloc | apply pw_below_drewN | apply below_drew1) | exact HB.out)⟩⟩
              case rest => as_aux_lemma =>
                clear HC66
                try clear c1
                try clear c2
                try clear p2
                try clear c3
                try clear c4
                try clear c5
                try clear c6
                try clear c7
                try clear c8
                try clear c9
                try clear c10
                try clear c11
                try clear c12
                try clear c13
                try clear c15
                try clear c16
                try clear c21
                try clear c22
                try clear c22b0
                try clear c22b1
                try clear c22b2
                try clear c23
                try clear c24
                try clear c25
                try clear c25b0
                try clear c25b1
                try clear c25b2
                try clear c28
                try clear c29
                try clear c30
                try clear c30b0
                try clear c30b1
                try clear c30b2
                try clear c36
                try clear c57
                try clear c65
                try clear c67
                try clear c70
                try clear c71
                try clear c72
                try clear c73
                try clear c73b0
                try clear c73b1
                try clear c73b2
                try clear c78
                try clear c79
                try clear c80
                try clear c80b0
                try clear c80b1
                try clear c80b2
                try clear c97
                try clear c97b0
                try clear c97b1
                try clear c97b2
                try clear c102
                try clear c103
                try clear c104
                try clear c104b0
                try clear c104b1
                try clear c104b2
                try clear c125
                try clear c126
                try clear c127
                try clear c128
                try clear c128b0
                try clear c128b1
                try clear c128b2
                try clear c137
                try clear c137b0
                try clear c137b1
                try clear c137b2
                try clear p2
                obtain ⟨kq, HA, HJ65, HO_5, HO_15, HB⟩ := hcut
                cases kq with
                | zero => exact absurd HA.out (by simp [laws_FnSets.j2])
                | succ kj65 =>
                  have H := HA.out
                  clear HA
                  simp only [laws_FnSets.j2] at H
                  have HC154 := Aside0.mk H
                  clear H
                  go_upto_if 187 with (fail)
                  go_cut [] (fun wc => ∃ (kq : Nat), Aside0 (laws_FnSets.j3 kq l1 = some r) ∧ Aside0 (kq ≤ kj65) ∧ Aside0 (Below w.heap.size w wc))
                  case first => as_aux_lemma =>
                    have H := HC154.out
                    clear HC154
                    by_cases c155 : t486 = true
                    · subst c155
                      have H1 : ((impl_NotSet.f kj65 t485).bind fun bt510 => ((impl_CountSet.f kj65 t463).bind fun bt514 => ((impl_CountSet.f kj65 t485).bind fun bt516 => (if bt510.2 = true then ((laws_sameInts.f kj65 bt510.1 t463).bind fun t518 => (if t518 = true then (if bt514.2 = true then (if bt516.2 = true then (if (wrap64 (bt514.1 + bt516.1)) = 1114112 then (laws_FnSets.j3 kj65 l1) else (some false)) else (some false)) else (some false)) else (some false))) else (if bt514.2 = true then (if bt516.2 = true then (if (wrap64 (bt514.1 + bt516.1)) = 1114112 then (laws_FnSets.j3 kj65 l1) else (some false)) else (some false)) else (some false)))))) = some r := by rw [if_pos rfl] at H; exact H
                      clear H
                      have H := H1
                      clear H1
                      replace H := Option.bind_eq_some_iff.mp H
                      obtain ⟨⟨t510, t511⟩, A1560, H⟩ := H
                      replace H : ((impl_CountSet.f kj65 t463).bind fun bt514 => ((impl_CountSet.f kj65 t485).bind fun bt516 => (if t511 = true then ((laws_sameInts.f kj65 t510 t463).bind fun t518 => (if t518 = true then (if bt514.2 = true then (if bt516.2 = true then (if (wrap64 (bt514.1 + bt516.1)) = 1114112 then (laws_FnSets.j3 kj65 l1) else (some false)) else (some false)) else (some false)) else (some false))) else (if bt514.2 = true then (if bt516.2 = true then (if (wrap64 (bt514.1 + bt516.1)) = 1114112 then (laws_FnSets.j3 kj65 l1) else (some false)) else (some false)) else (some false))))) = some r := H
                      have A156 := Aside0.mk A1560
                      clear A1560
                      replace H := Option.bind_eq_some_iff.mp H
                      obtain ⟨⟨t514, t515⟩, A1570, H⟩ := H
                      replace H : ((impl_CountSet.f kj65 t485).bind fun bt516 => (if t511 = true then ((laws_sameInts.f kj65 t510 t463).bind fun t518 => (if t518 = true then (if t515 = true then (if bt516.2 = true then (if (wrap64 (t514 + bt516.1)) = 1114112 then (laws_FnSets.j3 kj65 l1) else (some false)) else (some false)) else (some false)) else (some false))) else (if t515 = true then (if bt516.2 = true then (if (wrap64 (t514 + bt516.1)) = 1114112 then (laws_FnSets.j3 kj65 l1) else (some false)) else (some false)) else (some false)))) = some r := H
                      have A157 := Aside0.mk A1570
                      clear A1570
                      replace H := Option.bind_eq_some_iff.mp H
                      obtain ⟨⟨t516, t517⟩, A1580, H⟩ := H
                      replace H : (if t511 = true then ((laws_sameInts.f kj65 t510 t463).bind fun t518 => (if t518 = true then (if t515 = true then (if t517 = true then (if (wrap64 (t514 + t516)) = 1114112 then (laws_FnSets.j3 kj65 l1) else (some false)) else (some false)) else (some false)) else (some false))) else (if t515 = true then (if t517 = true then (if (wrap64 (t514 + t516)) = 1114112 then (laws_FnSets.j3 kj65 l1) else (some false)) else (some false)) else (some false))) = some r := H
                      have A158 := Aside0.mk A1580
                      clear A1580
                      by_cases c159 : t511 = true
                      · subst c159
                        have H1 : ((laws_sameInts.f kj65 t510 t463).bind fun t518 => (if t518 = true then (if t515 = true then (if t517 = true then (if (wrap64 (t514 + t516)) = 1114112 then (laws_FnSets.j3 kj65 l1) else (some false)) else (some false)) else (some false)) else (some false))) = some r := by rw [if_pos rfl] at H; exact H
                        clear H
                        have H := H1
                        clear H1
                        replace H := Option.bind_eq_some_iff.mp H
                        obtain ⟨t518, A1600, H⟩ := H
                        replace H : (if t518 = true then (if t515 = true then (if t517 = true then (if (wrap64 (t514 + t516)) = 1114112 then (laws_FnSets.j3 kj65 l1) else (some false)) else (some false)) else (some false)) else (some false)) = some r := H
                        have A160 := Aside0.mk A1600
                        clear A1600
                        by_cases c161 : t518 = true
                        · subst c161
                          have H1 : (if t515 = true then (if t517 = true then (if (wrap64 (t514 + t516)) = 1114112 then (laws_FnSets.j3 kj65 l1) else (some false)) else (some false)) else (some false)) = some r := by rw [if_pos rfl] at H; exact H
                          clear H
                          have H := H1
                          clear H1
                          by_cases c162 : t515 = true
                          · subst c162
                            have H1 : (if t517 = true then (if (wrap64 (t514 + t516)) = 1114112 then (laws_FnSets.j3 kj65 l1) else (some false)) else (some false)) = some r := by rw [if_pos rfl] at H; exact H
                            clear H
                            have H := H1
                            clear H1
                            by_cases c163 : t517 = true
                            · subst c163
                              have H1 : (if (wrap64 (t514 + t516)) = 1114112 then (laws_FnSets.j3 kj65 l1) else (some false)) = some r := by rw [if_pos rfl] at H; exact H
                              clear H
                              have H := H1
                              clear H1
                              by_cases c164 : (wrap64 (t514 + t516)) = 1114112
                              · rw [if_pos c164] at H
                                have c164b0 : ((wrap64 (t514 + t516)) == 1114112) = true := beq_iff_eq.mpr c164
                                have c164b1 : ((wrap64 (t514 + t516)) != 1114112) = false := bne_eq_false_iff_eq.mpr c164
                                clear c164
                                (first | rw [c164b0] | (simp only [i64_w, i32_w]; rw [c164b0]) | skip)
                                have H' := Aside0.mk H
                                clear H
                                obtain ⟨Ao165, co165, eo165⟩ := Kd.R_slice HO_15.out
                                subst eo165
                                go_wp2_with (first | ((with_reducible refine gate_callee (f := 23) rfl ?_); refine goesL_ (some 190) rfl rfl Try.func23 (by kernel_rfl) rfl #[.slice Ao165 t485.length co165] rfl (by (try simp only [List.map_toArray, List.map_cons, List.map_nil]); first | done | rfl | (simp only [List.length_drop, List.length_take]; rfl)) ?_; (with_reducible refine (impl_NotSet.calls kj65 _ _ t485 t510 true _ ?side1 ?side2 A156.out).mono ?_); (case side1 => repeat (first | exact (Kd.R_reads' HO_15.out).2.2 | (with_reducible refine Kd.C_alloc ?_ _) | (with_reducible refine Kd.C_drewN ?_ _) | (with_reducible refine Kd.C_drew ?_))); (case side2 => exact (Kd.R_reads' HO_15.out).2.1); rintro e w166 ⟨v512, rfl, ho0, hb⟩; refine ⟨_, rfl, ?_⟩; have n0_ := Aside0.mk (Kd.R_elder' (by (with_reducible repeat (first | apply Kd.R_alloc | apply Kd.R_drewN | apply Kd.R_drew)); exact HO_5.out) (Kd.R_base ho0) hb); have n1_ := Aside0.mk (Kd.R_elder' (by (with_reducible repeat (first | apply Kd.R_alloc | apply Kd.R_drewN | apply Kd.R_drew)); exact HO_15.out) (Kd.R_base ho0) hb); have n2_ := Aside0.mk (Kd.R_lower (Kd.R_new' (Kd.R_new' ho0 (Kd.R_lt (by (with_reducible repeat (first | apply Kd.R_alloc | apply Kd.R_drewN | apply Kd.R_drew)); exact HO_5.out))) (Kd.R_lt (by (with_reducible repeat (first | apply Kd.R_alloc | apply Kd.R_drewN | apply Kd.R_drew)); exact HO_15.out))) (below_size (by repeat (first | (with_reducible first | exact HB.out | apply below_alloc | apply pw_below_drewN | apply below_drew1) | exact HB.out)))); have n3_ := Aside0.mk (below_step (by repeat (first | (with_reducible first | exact HB.out | apply below_alloc | apply pw_below_drewN | apply below_drew1) | exact HB.out)) hb); clear HO_5; clear HO_15; clear HB; have HO_5 := n0_; have HO_15 := n1_; have HO513 := n2_; have HB := n3_; clear n0_ n1_ n2_ n3_; (try clear hb); (try clear ho0)) | ((with_reducible refine gate_callee (f := 30) rfl ?_); refine goesL_ (some 195) rfl rfl Try.func30 (by kernel_rfl) rfl #[.slice Ao14 t463.length co14] rfl (by (try simp only [List.map_toArray, List.map_cons, List.map_nil]); first | done | rfl | (simp only [List.length_drop, List.length_take]; rfl)) ?_; (with_reducible refine (impl_CountSet.calls kj65 _ _ t463 t514 true _ ?side1 ?side2 A157.out).mono ?_); (case side1 => repeat (first | exact (Kd.R_reads' HO_5.out).2.2 | (with_reducible refine Kd.C_alloc ?_ _) | (with_reducible refine Kd.C_drewN ?_ _) | (with_reducible refine Kd.C_drew ?_))); (case side2 => exact (Kd.R_reads' HO_5.out).2.1); rintro e w167 ⟨rfl, hb⟩; refine ⟨_, rfl, ?_⟩; have n0_ := Aside0.mk (Kd.R_below (by (with_reducible repeat (first | apply Kd.R_alloc | apply Kd.R_drewN | apply Kd.R_drew)); exact HO_5.out) hb); have n1_ := Aside0.mk (Kd.R_below (by (with_reducible repeat (first | apply Kd.R_alloc | apply Kd.R_drewN | apply Kd.R_drew)); exact HO_15.out) hb); have n2_ := Aside0.mk (Kd.R_below (by (with_reducible repeat (first | apply Kd.R_alloc | apply Kd.R_drewN | apply Kd.R_drew)); exact HO513.out) hb); have n3_ := Aside0.mk (below_step (by repeat (first | (with_reducible first | exact HB.out | apply below_alloc | apply pw_below_drewN | apply below_drew1) | exact HB.out)) hb); clear HO_5; clear HO_15; clear HO513; clear HB; have HO_5 := n0_; have HO_15 := n1_; have HO513 := n2_; have HB := n3_; clear n0_ n1_ n2_ n3_; (try clear hb); ) | ((with_reducible refine gate_callee (f := 30) rfl ?_); refine goesL_ (some 200) rfl rfl Try.func30 (by kernel_rfl) rfl #[.slice Ao165 t485.length co165] rfl (by (try simp only [List.map_toArray, List.map_cons, List.map_nil]); first | done | rfl | (simp only [List.length_drop, List.length_take]; rfl)) ?_; (with_reducible refine (impl_CountSet.calls kj65 _ _ t485 t516 true _ ?side1 ?side2 A158.out).mono ?_); (case side1 => repeat (first | exact (Kd.R_reads' HO_15.out).2.2 | (with_reducible refine Kd.C_alloc ?_ _) | (with_reducible refine Kd.C_drewN ?_ _) | (with_reducible refine Kd.C_drew ?_))); (case side2 => exact (Kd.R_reads' HO_15.out).2.1); rintro e w168 ⟨rfl, hb⟩; refine ⟨_, rfl, ?_⟩; have n0_ := Aside0.mk (Kd.R_below (by (with_reducible repeat (first | apply Kd.R_alloc | apply Kd.R_drewN | apply Kd.R_drew)); exact HO_5.out) hb); have n1_ := Aside0.mk (Kd.R_below (by (with_reducible repeat (first | apply Kd.R_alloc | apply Kd.R_drewN | apply Kd.R_drew)); exact HO_15.out) hb); have n2_ := Aside0.mk (Kd.R_below (by (with_reducible repeat (first | apply Kd.R_alloc | apply Kd.R_drewN | apply Kd.R_drew)); exact HO513.out) hb); have n3_ := Aside0.mk (below_step (by repeat (first | (with_reducible first | exact HB.out | apply below_alloc | apply pw_below_drewN | apply below_drew1) | exact HB.out)) hb); clear HO_5; clear HO_15; clear HO513; clear HB; have HO_5 := n0_; have HO_15 := n1_; have HO513 := n2_; have HB := n3_; clear n0_ n1_ n2_ n3_; (try clear hb); obtain ⟨Ao169, co169, eo169⟩ := Kd.R_slice HO513.out; subst eo169) | (go_at_call 25; (with_reducible refine (laws_sameInts.calls kj65 _ _ t510 _ _ t463 true _ ?side1 ?side2 ?side3 ?side4 A160.out).mono ?_); (case side1 => repeat (first | exact (Kd.R_reads' HO513.out).2.2 | (with_reducible refine Kd.C_alloc ?_ _) | (with_reducible refine Kd.C_drewN ?_ _) | (with_reducible refine Kd.C_drew ?_))); (case side2 => exact (Kd.R_reads' HO513.out).2.1); (case side3 => repeat (first | exact (Kd.R_reads' HO_5.out).2.2 | (with_reducible refine Kd.C_alloc ?_ _) | (with_reducible refine Kd.C_drewN ?_ _) | (with_reducible refine Kd.C_drew ?_))); (case side4 => exact (Kd.R_reads' HO_5.out).2.1); rintro e w' ⟨rfl, ⟨nd, rfl⟩⟩))
                                go_meet
                                case rel => exact ⟨_, H', ⟨by have := HJ11.out; have := HJ60.out; have := HJ65.out; first | omega | exact Nat.le_refl _⟩, ⟨by repeat (first | (with_reducible first | exact HB.out | apply below_alloc | apply pw_below_drewN | apply below_drew1) | exact HB.out)⟩⟩
                              · rw [if_neg c164] at H
                                have c164b0 : ((wrap64 (t514 + t516)) == 1114112) = false := beq_eq_false_iff_ne.mpr c164
                                have c164b1 : ((wrap64 (t514 + t516)) != 1114112) = true := bne_iff_ne.mpr c164
                                (first | rw [c164b0] | (simp only [i64_w, i32_w]; rw [c164b0]) | skip)
                                obtain rfl := Option.some.inj H
                                (first | exact absurd hr_ (by decide) | skip)
                                all_goals (obtain ⟨Ao170, co170, eo170⟩ := Kd.R_slice HO_15.out)
                                all_goals (subst eo170)
                                all_goals (go_wp2_with (first | ((with_reducible refine gate_callee (f := 23) rfl ?_); refine goesL_ (some 190) rfl rfl Try.func23 (by kernel_rfl) rfl #[.slice Ao170 t485.length co170] rfl (by (try simp only [List.map_toArray, List.map_cons, List.map_nil]); first | done | rfl | (simp only [List.length_drop, List.length_take]; rfl)) ?_; (with_reducible refine (impl_NotSet.calls kj65 _ _ t485 t510 true _ ?side1 ?side2 A156.out).mono ?_); (case side1 => repeat (first | exact (Kd.R_reads' HO_15.out).2.2 | (with_reducible refine Kd.C_alloc ?_ _) | (with_reducible refine Kd.C_drewN ?_ _) | (with_reducible refine Kd.C_drew ?_))); (case side2 => exact (Kd.R_reads' HO_15.out).2.1); rintro e w171 ⟨v512, rfl, ho0, hb⟩; refine ⟨_, rfl, ?_⟩; have n0_ := Aside0.mk (Kd.R_elder' (by (with_reducible repeat (first | apply Kd.R_alloc | apply Kd.R_drewN | apply Kd.R_drew)); exact HO_5.out) (Kd.R_base ho0) hb); have n1_ := Aside0.mk (Kd.R_elder' (by (with_reducible repeat (first | apply Kd.R_alloc | apply Kd.R_drewN | apply Kd.R_drew)); exact HO_15.out) (Kd.R_base ho0) hb); have n2_ := Aside0.mk (Kd.R_lower (Kd.R_new' (Kd.R_new' ho0 (Kd.R_lt (by (with_reducible repeat (first | apply Kd.R_alloc | apply Kd.R_drewN | apply Kd.R_drew)); exact HO_5.out))) (Kd.R_lt (by (with_reducible repeat (first | apply Kd.R_alloc | apply Kd.R_drewN | apply Kd.R_drew)); exact HO_15.out))) (below_size (by repeat (first | (with_reducible first | exact HB.out | apply below_alloc | apply pw_below_drewN | apply below_drew1) | exact HB.out)))); have n3_ := Aside0.mk (below_step (by repeat (first | (with_reducible first | exact HB.out | apply below_alloc | apply pw_below_drewN | apply below_drew1) | exact HB.out)) hb); clear HO_5; clear HO_15; clear HB; have HO_5 := n0_; have HO_15 := n1_; have HO513 := n2_; have HB := n3_; clear n0_ n1_ n2_ n3_; (try clear hb); (try clear ho0)) | ((with_reducible refine gate_callee (f := 30) rfl ?_); refine goesL_ (some 195) rfl rfl Try.func30 (by kernel_rfl) rfl #[.slice Ao14 t463.length co14] rfl (by (try simp only [List.map_toArray, List.map_cons, List.map_nil]); first | done | rfl | (simp only [List.length_drop, List.length_take]; rfl)) ?_; (with_reducible refine (impl_CountSet.calls kj65 _ _ t463 t514 true _ ?side1 ?side2 A157.out).mono ?_); (case side1 => repeat (first | exact (Kd.R_reads' HO_5.out).2.2 | (with_reducible refine Kd.C_alloc ?_ _) | (with_reducible refine Kd.C_drewN ?_ _) | (with_reducible refine Kd.C_drew ?_))); (case side2 => exact (Kd.R_reads' HO_5.out).2.1); rintro e w172 ⟨rfl, hb⟩; refine ⟨_, rfl, ?_⟩; have n0_ := Aside0.mk (Kd.R_below (by (with_reducible repeat (first | apply Kd.R_alloc | apply Kd.R_drewN | apply Kd.R_drew)); exact HO_5.out) hb); have n1_ := Aside0.mk (Kd.R_below (by (with_reducible repeat (first | apply Kd.R_alloc | apply Kd.R_drewN | apply Kd.R_drew)); exact HO_15.out) hb); have n2_ := Aside0.mk (Kd.R_below (by (with_reducible repeat (first | apply Kd.R_alloc | apply Kd.R_drewN | apply Kd.R_drew)); exact HO513.out) hb); have n3_ := Aside0.mk (below_step (by repeat (first | (with_reducible first | exact HB.out | apply below_alloc | apply pw_below_drewN | apply below_drew1) | exact HB.out)) hb); clear HO_5; clear HO_15; clear HO513; clear HB; have HO_5 := n0_; have HO_15 := n1_; have HO513 := n2_; have HB := n3_; clear n0_ n1_ n2_ n3_; (try clear hb); ) | ((with_reducible refine gate_callee (f := 30) rfl ?_); refine goesL_ (some 200) rfl rfl Try.func30 (by kernel_rfl) rfl #[.slice Ao170 t485.length co170] rfl (by (try simp only [List.map_toArray, List.map_cons, List.map_nil]); first | done | rfl | (simp only [List.length_drop, List.length_take]; rfl)) ?_; (with_reducible refine (impl_CountSet.calls kj65 _ _ t485 t516 true _ ?side1 ?side2 A158.out).mono ?_); (case side1 => repeat (first | exact (Kd.R_reads' HO_15.out).2.2 | (with_reducible refine Kd.C_alloc ?_ _) | (with_reducible refine Kd.C_drewN ?_ _) | (with_reducible refine Kd.C_drew ?_))); (case side2 => exact (Kd.R_reads' HO_15.out).2.1); rintro e w173 ⟨rfl, hb⟩; refine ⟨_, rfl, ?_⟩; have n0_ := Aside0.mk (Kd.R_below (by (with_reducible repeat (first | apply Kd.R_alloc | apply Kd.R_drewN | apply Kd.R_drew)); exact HO_5.out) hb); have n1_ := Aside0.mk (Kd.R_below (by (with_reducible repeat (first | apply Kd.R_alloc | apply Kd.R_drewN | apply Kd.R_drew)); exact HO_15.out) hb); have n2_ := Aside0.mk (Kd.R_below (by (with_reducible repeat (first | apply Kd.R_alloc | apply Kd.R_drewN | apply Kd.R_drew)); exact HO513.out) hb); have n3_ := Aside0.mk (below_step (by repeat (first | (with_reducible first | exact HB.out | apply below_alloc | apply pw_below_drewN | apply below_drew1) | exact HB.out)) hb); clear HO_5; clear HO_15; clear HO513; clear HB; have HO_5 := n0_; have HO_15 := n1_; have HO513 := n2_; have HB := n3_; clear n0_ n1_ n2_ n3_; (try clear hb); obtain ⟨Ao174, co174, eo174⟩ := Kd.R_slice HO513.out; subst eo174) | (go_at_call 25; (with_reducible refine (laws_sameInts.calls kj65 _ _ t510 _ _ t463 true _ ?side1 ?side2 ?side3 ?side4 A160.out).mono ?_); (case side1 => repeat (first | exact (Kd.R_reads' HO513.out).2.2 | (with_reducible refine Kd.C_alloc ?_ _) | (with_reducible refine Kd.C_drewN ?_ _) | (with_reducible refine Kd.C_drew ?_))); (case side2 => exact (Kd.R_reads' HO513.out).2.1); (case side3 => repeat (first | exact (Kd.R_reads' HO_5.out).2.2 | (with_reducible refine Kd.C_alloc ?_ _) | (with_reducible refine Kd.C_drewN ?_ _) | (with_reducible refine Kd.C_drew ?_))); (case side4 => exact (Kd.R_reads' HO_5.out).2.1); rintro e w' ⟨rfl, ⟨nd, rfl⟩⟩)))
                                all_goals (go_ret)
                                all_goals (exact ⟨by first | rfl | (simp [errW_none, errW_some] <;> rfl) | (simp [*, errW_none, errW_some] <;> rfl), by repeat (first | (with_reducible first | exact HB.out | apply below_alloc | apply pw_below_drewN | apply below_drew1) | exact HB.out)⟩)
                            · replace c163 := Bool.eq_false_iff.mpr c163
                              subst c163
                              have H1 : (some false) = some r := by rw [if_neg (show ¬ (false = true) by decide)] at H; exact H
                              clear H
                              have H := H1
                              clear H1
                              obtain rfl := Option.some.inj H
                              (first | exact absurd hr_ (by decide) | skip)
                              all_goals (obtain ⟨Ao175, co175, eo175⟩ := Kd.R_slice HO_15.out)
                              all_goals (subst eo175)
                              all_goals (go_wp2_with (first | ((with_reducible refine gate_callee (f := 23) rfl ?_); refine goesL_ (some 190) rfl rfl Try.func23 (by kernel_rfl) rfl #[.slice Ao175 t485.length co175] rfl (by (try simp only [List.map_toArray, List.map_cons, List.map_nil]); first | done | rfl | (simp only [List.length_drop, List.length_take]; rfl)) ?_; (with_reducible refine (impl_NotSet.calls kj65 _ _ t485 t510 true _ ?side1 ?side2 A156.out).mono ?_); (case side1 => repeat (first | exact (Kd.R_reads' HO_15.out).2.2 | (with_reducible refine Kd.C_alloc ?_ _) | (with_reducible refine Kd.C_drewN ?_ _) | (with_reducible refine Kd.C_drew ?_))); (case side2 => exact (Kd.R_reads' HO_15.out).2.1); rintro e w176 ⟨v512, rfl, ho0, hb⟩; refine ⟨_, rfl, ?_⟩; have n0_ := Aside0.mk (Kd.R_elder' (by (with_reducible repeat (first | apply Kd.R_alloc | apply Kd.R_drewN | apply Kd.R_drew)); exact HO_5.out) (Kd.R_base ho0) hb); have n1_ := Aside0.mk (Kd.R_elder' (by (with_reducible repeat (first | apply Kd.R_alloc | apply Kd.R_drewN | apply Kd.R_drew)); exact HO_15.out) (Kd.R_base ho0) hb); have n2_ := Aside0.mk (Kd.R_lower (Kd.R_new' (Kd.R_new' ho0 (Kd.R_lt (by (with_reducible repeat (first | apply Kd.R_alloc | apply Kd.R_drewN | apply Kd.R_drew)); exact HO_5.out))) (Kd.R_lt (by (with_reducible repeat (first | apply Kd.R_alloc | apply Kd.R_drewN | apply Kd.R_drew)); exact HO_15.out))) (below_size (by repeat (first | (with_reducible first | exact HB.out | apply below_alloc | apply pw_below_drewN | apply below_drew1) | exact HB.out)))); have n3_ := Aside0.mk (below_step (by repeat (first | (with_reducible first | exact HB.out | apply below_alloc | apply pw_below_drewN | apply below_drew1) | exact HB.out)) hb); clear HO_5; clear HO_15; clear HB; have HO_5 := n0_; have HO_15 := n1_; have HO513 := n2_; have HB := n3_; clear n0_ n1_ n2_ n3_; (try clear hb); (try clear ho0)) | ((with_reducible refine gate_callee (f := 30) rfl ?_); refine goesL_ (some 195) rfl rfl Try.func30 (by kernel_rfl) rfl #[.slice Ao14 t463.length co14] rfl (by (try simp only [List.map_toArray, List.map_cons, List.map_nil]); first | done | rfl | (simp only [List.length_drop, List.length_take]; rfl)) ?_; (with_reducible refine (impl_CountSet.calls kj65 _ _ t463 t514 true _ ?side1 ?side2 A157.out).mono ?_); (case side1 => repeat (first | exact (Kd.R_reads' HO_5.out).2.2 | (with_reducible refine Kd.C_alloc ?_ _) | (with_reducible refine Kd.C_drewN ?_ _) | (with_reducible refine Kd.C_drew ?_))); (case side2 => exact (Kd.R_reads' HO_5.out).2.1); rintro e w177 ⟨rfl, hb⟩; refine ⟨_, rfl, ?_⟩; have n0_ := Aside0.mk (Kd.R_below (by (with_reducible repeat (first | apply Kd.R_alloc | apply Kd.R_drewN | apply Kd.R_drew)); exact HO_5.out) hb); have n1_ := Aside0.mk (Kd.R_below (by (with_reducible repeat (first | apply Kd.R_alloc | apply Kd.R_drewN | apply Kd.R_drew)); exact HO_15.out) hb); have n2_ := Aside0.mk (Kd.R_below (by (with_reducible repeat (first | apply Kd.R_alloc | apply Kd.R_drewN | apply Kd.R_drew)); exact HO513.out) hb); have n3_ := Aside0.mk (below_step (by repeat (first | (with_reducible first | exact HB.out | apply below_alloc | apply pw_below_drewN | apply below_drew1) | exact HB.out)) hb); clear HO_5; clear HO_15; clear HO513; clear HB; have HO_5 := n0_; have HO_15 := n1_; have HO513 := n2_; have HB := n3_; clear n0_ n1_ n2_ n3_; (try clear hb); ) | ((with_reducible refine gate_callee (f := 30) rfl ?_); refine goesL_ (some 200) rfl rfl Try.func30 (by kernel_rfl) rfl #[.slice Ao175 t485.length co175] rfl (by (try simp only [List.map_toArray, List.map_cons, List.map_nil]); first | done | rfl | (simp only [List.length_drop, List.length_take]; rfl)) ?_; (with_reducible refine (impl_CountSet.calls kj65 _ _ t485 t516 false _ ?side1 ?side2 A158.out).mono ?_); (case side1 => repeat (first | exact (Kd.R_reads' HO_15.out).2.2 | (with_reducible refine Kd.C_alloc ?_ _) | (with_reducible refine Kd.C_drewN ?_ _) | (with_reducible refine Kd.C_drew ?_))); (case side2 => exact (Kd.R_reads' HO_15.out).2.1); rintro e w178 ⟨rfl, hb⟩; refine ⟨_, rfl, ?_⟩; have n0_ := Aside0.mk (Kd.R_below (by (with_reducible repeat (first | apply Kd.R_alloc | apply Kd.R_drewN | apply Kd.R_drew)); exact HO_5.out) hb); have n1_ := Aside0.mk (Kd.R_below (by (with_reducible repeat (first | apply Kd.R_alloc | apply Kd.R_drewN | apply Kd.R_drew)); exact HO_15.out) hb); have n2_ := Aside0.mk (Kd.R_below (by (with_reducible repeat (first | apply Kd.R_alloc | apply Kd.R_drewN | apply Kd.R_drew)); exact HO513.out) hb); have n3_ := Aside0.mk (below_step (by repeat (first | (with_reducible first | exact HB.out | apply below_alloc | apply pw_below_drewN | apply below_drew1) | exact HB.out)) hb); clear HO_5; clear HO_15; clear HO513; clear HB; have HO_5 := n0_; have HO_15 := n1_; have HO513 := n2_; have HB := n3_; clear n0_ n1_ n2_ n3_; (try clear hb); obtain ⟨Ao179, co179, eo179⟩ := Kd.R_slice HO513.out; subst eo179) | (go_at_call 25; (with_reducible refine (laws_sameInts.calls kj65 _ _ t510 _ _ t463 true _ ?side1 ?side2 ?side3 ?side4 A160.out).mono ?_); (case side1 => repeat (first | exact (Kd.R_reads' HO513.out).2.2 | (with_reducible refine Kd.C_alloc ?_ _) | (with_reducible refine Kd.C_drewN ?_ _) | (with_reducible refine Kd.C_drew ?_))); (case side2 => exact (Kd.R_reads' HO513.out).2.1); (case side3 => repeat (first | exact (Kd.R_reads' HO_5.out).2.2 | (with_reducible refine Kd.C_alloc ?_ _) | (with_reducible refine Kd.C_drewN ?_ _) | (with_reducible refine Kd.C_drew ?_))); (case side4 => exact (Kd.R_reads' HO_5.out).2.1); rintro e w' ⟨rfl, ⟨nd, rfl⟩⟩)))
                              all_goals (go_ret)
                              all_goals (exact ⟨by first | rfl | (simp [errW_none, errW_some] <;> rfl) | (simp [*, errW_none, errW_some] <;> rfl), by repeat (first | (with_reducible first | exact HB.out | apply below_alloc | apply pw_below_drewN | apply below_drew1) | exact HB.out)⟩)
                          · replace c162 := Bool.eq_false_iff.mpr c162
                            subst c162
                            have H1 : (some false) = some r := by rw [if_neg (show ¬ (false = true) by decide)] at H; exact H
                            clear H
                            have H := H1
                            clear H1
                            obtain rfl := Option.some.inj H
                            (first | exact absurd hr_ (by decide) | skip)
                            all_goals (obtain ⟨Ao180, co180, eo180⟩ := Kd.R_slice HO_15.out)
                            all_goals (subst eo180)
                            all_goals (go_wp2_with (first | ((with_reducible refine gate_callee (f := 23) rfl ?_); refine goesL_ (some 190) rfl rfl Try.func23 (by kernel_rfl) rfl #[.slice Ao180 t485.length co180] rfl (by (try simp only [List.map_toArray, List.map_cons, List.map_nil]); first | done | rfl | (simp only [List.length_drop, List.length_take]; rfl)) ?_; (with_reducible refine (impl_NotSet.calls kj65 _ _ t485 t510 true _ ?side1 ?side2 A156.out).mono ?_); (case side1 => repeat (first | exact (Kd.R_reads' HO_15.out).2.2 | (with_reducible refine Kd.C_alloc ?_ _) | (with_reducible refine Kd.C_drewN ?_ _) | (with_reducible refine Kd.C_drew ?_))); (case side2 => exact (Kd.R_reads' HO_15.out).2.1); rintro e w181 ⟨v512, rfl, ho0, hb⟩; refine ⟨_, rfl, ?_⟩; have n0_ := Aside0.mk (Kd.R_elder' (by (with_reducible repeat (first | apply Kd.R_alloc | apply Kd.R_drewN | apply Kd.R_drew)); exact HO_5.out) (Kd.R_base ho0) hb); have n1_ := Aside0.mk (Kd.R_elder' (by (with_reducible repeat (first | apply Kd.R_alloc | apply Kd.R_drewN | apply Kd.R_drew)); exact HO_15.out) (Kd.R_base ho0) hb); have n2_ := Aside0.mk (Kd.R_lower (Kd.R_new' (Kd.R_new' ho0 (Kd.R_lt (by (with_reducible repeat (first | apply Kd.R_alloc | apply Kd.R_drewN | apply Kd.R_drew)); exact HO_5.out))) (Kd.R_lt (by (with_reducible repeat (first | apply Kd.R_alloc | apply Kd.R_drewN | apply Kd.R_drew)); exact HO_15.out))) (below_size (by repeat (first | (with_reducible first | exact HB.out | apply below_alloc | apply pw_below_drewN | apply below_drew1) | exact HB.out)))); have n3_ := Aside0.mk (below_step (by repeat (first | (with_reducible first | exact HB.out | apply below_alloc | apply pw_below_drewN | apply below_drew1) | exact HB.out)) hb); clear HO_5; clear HO_15; clear HB; have HO_5 := n0_; have HO_15 := n1_; have HO513 := n2_; have HB := n3_; clear n0_ n1_ n2_ n3_; (try clear hb); (try clear ho0)) | ((with_reducible refine gate_callee (f := 30) rfl ?_); refine goesL_ (some 195) rfl rfl Try.func30 (by kernel_rfl) rfl #[.slice Ao14 t463.length co14] rfl (by (try simp only [List.map_toArray, List.map_cons, List.map_nil]); first | done | rfl | (simp only [List.length_drop, List.length_take]; rfl)) ?_; (with_reducible refine (impl_CountSet.calls kj65 _ _ t463 t514 false _ ?side1 ?side2 A157.out).mono ?_); (case side1 => repeat (first | exact (Kd.R_reads' HO_5.out).2.2 | (with_reducible refine Kd.C_alloc ?_ _) | (with_reducible refine Kd.C_drewN ?_ _) | (with_reducible refine Kd.C_drew ?_))); (case side2 => exact (Kd.R_reads' HO_5.out).2.1); rintro e w182 ⟨rfl, hb⟩; refine ⟨_, rfl, ?_⟩; have n0_ := Aside0.mk (Kd.R_below (by (with_reducible repeat (first | apply Kd.R_alloc | apply Kd.R_drewN | apply Kd.R_drew)); exact HO_5.out) hb); have n1_ := Aside0.mk (Kd.R_below (by (with_reducible repeat (first | apply Kd.R_alloc | apply Kd.R_drewN | apply Kd.R_drew)); exact HO_15.out) hb); have n2_ := Aside0.mk (Kd.R_below (by (with_reducible repeat (first | apply Kd.R_alloc | apply Kd.R_drewN | apply Kd.R_drew)); exact HO513.out) hb); have n3_ := Aside0.mk (below_step (by repeat (first | (with_reducible first | exact HB.out | apply below_alloc | apply pw_below_drewN | apply below_drew1) | exact HB.out)) hb); clear HO_5; clear HO_15; clear HO513; clear HB; have HO_5 := n0_; have HO_15 := n1_; have HO513 := n2_; have HB := n3_; clear n0_ n1_ n2_ n3_; (try clear hb); ) | ((with_reducible refine gate_callee (f := 30) rfl ?_); refine goesL_ (some 200) rfl rfl Try.func30 (by kernel_rfl) rfl #[.slice Ao180 t485.length co180] rfl (by (try simp only [List.map_toArray, List.map_cons, List.map_nil]); first | done | rfl | (simp only [List.length_drop, List.length_take]; rfl)) ?_; (with_reducible refine (impl_CountSet.calls kj65 _ _ t485 t516 t517 _ ?side1 ?side2 A158.out).mono ?_); (case side1 => repeat (first | exact (Kd.R_reads' HO_15.out).2.2 | (with_reducible refine Kd.C_alloc ?_ _) | (with_reducible refine Kd.C_drewN ?_ _) | (with_reducible refine Kd.C_drew ?_))); (case side2 => exact (Kd.R_reads' HO_15.out).2.1); rintro e w183 ⟨rfl, hb⟩; refine ⟨_, rfl, ?_⟩; have n0_ := Aside0.mk (Kd.R_below (by (with_reducible repeat (first | apply Kd.R_alloc | apply Kd.R_drewN | apply Kd.R_drew)); exact HO_5.out) hb); have n1_ := Aside0.mk (Kd.R_below (by (with_reducible repeat (first | apply Kd.R_alloc | apply Kd.R_drewN | apply Kd.R_drew)); exact HO_15.out) hb); have n2_ := Aside0.mk (Kd.R_below (by (with_reducible repeat (first | apply Kd.R_alloc | apply Kd.R_drewN | apply Kd.R_drew)); exact HO513.out) hb); have n3_ := Aside0.mk (below_step (by repeat (first | (with_reducible first | exact HB.out | apply below_alloc | apply pw_below_drewN | apply below_drew1) | exact HB.out)) hb); clear HO_5; clear HO_15; clear HO513; clear HB; have HO_5 := n0_; have HO_15 := n1_; have HO513 := n2_; have HB := n3_; clear n0_ n1_ n2_ n3_; (try clear hb); obtain ⟨Ao184, co184, eo184⟩ := Kd.R_slice HO513.out; subst eo184) | (go_at_call 25; (with_reducible refine (laws_sameInts.calls kj65 _ _ t510 _ _ t463 true _ ?side1 ?side2 ?side3 ?side4 A160.out).mono ?_); (case side1 => repeat (first | exact (Kd.R_reads' HO513.out).2.2 | (with_reducible refine Kd.C_alloc ?_ _) | (with_reducible refine Kd.C_drewN ?_ _) | (with_reducible refine Kd.C_drew ?_))); (case side2 => exact (Kd.R_reads' HO513.out).2.1); (case side3 => repeat (first | exact (Kd.R_reads' HO_5.out).2.2 | (with_reducible refine Kd.C_alloc ?_ _) | (with_reducible refine Kd.C_drewN ?_ _) | (with_reducible refine Kd.C_drew ?_))); (case side4 => exact (Kd.R_reads' HO_5.out).2.1); rintro e w' ⟨rfl, ⟨nd, rfl⟩⟩)))
                            all_goals (go_ret)
                            all_goals (exact ⟨by first | rfl | (simp [errW_none, errW_some] <;> rfl) | (simp [*, errW_none, errW_some] <;> rfl), by repeat (first | (with_reducible first | exact HB.out | apply below_alloc | apply pw_below_drewN | apply below_drew1) | exact HB.out)⟩)
                        · replace c161 := Bool.eq_false_iff.mpr c161
                          subst c161
                          have H1 : (some false) = some r := by rw [if_neg (show ¬ (false = true) by decide)] at H; exact H
                          clear H
                          have H := H1
                          clear H1
                          obtain rfl := Option.some.inj H
                          (first | exact absurd hr_ (by decide) | skip)
                          all_goals (obtain ⟨Ao185, co185, eo185⟩ := Kd.R_slice HO_15.out)
                          all_goals (subst eo185)
                          all_goals (go_wp2_with (first | ((with_reducible refine gate_callee (f := 23) rfl ?_); refine goesL_ (some 190) rfl rfl Try.func23 (by kernel_rfl) rfl #[.slice Ao185 t485.length co185] rfl (by (try simp only [List.map_toArray, List.map_cons, List.map_nil]); first | done | rfl | (simp only [List.length_drop, List.length_take]; rfl)) ?_; (with_reducible refine (impl_NotSet.calls kj65 _ _ t485 t510 true _ ?side1 ?side2 A156.out).mono ?_); (case side1 => repeat (first | exact (Kd.R_reads' HO_15.out).2.2 | (with_reducible refine Kd.C_alloc ?_ _) | (with_reducible refine Kd.C_drewN ?_ _) | (with_reducible refine Kd.C_drew ?_))); (case side2 => exact (Kd.R_reads' HO_15.out).2.1); rintro e w186 ⟨v512, rfl, ho0, hb⟩; refine ⟨_, rfl, ?_⟩; have n0_ := Aside0.mk (Kd.R_elder' (by (with_reducible repeat (first | apply Kd.R_alloc | apply Kd.R_drewN | apply Kd.R_drew)); exact HO_5.out) (Kd.R_base ho0) hb); have n1_ := Aside0.mk (Kd.R_elder' (by (with_reducible repeat (first | apply Kd.R_alloc | apply Kd.R_drewN | apply Kd.R_drew)); exact HO_15.out) (Kd.R_base ho0) hb); have n2_ := Aside0.mk (Kd.R_lower (Kd.R_new' (Kd.R_new' ho0 (Kd.R_lt (by (with_reducible repeat (first | apply Kd.R_alloc | apply Kd.R_drewN | apply Kd.R_drew)); exact HO_5.out))) (Kd.R_lt (by (with_reducible repeat (first | apply Kd.R_alloc | apply Kd.R_drewN | apply Kd.R_drew)); exact HO_15.out))) (below_size (by repeat (first | (with_reducible first | exact HB.out | apply below_alloc | apply pw_below_drewN | apply below_drew1) | exact HB.out)))); have n3_ := Aside0.mk (below_step (by repeat (first | (with_reducible first | exact HB.out | apply below_alloc | apply pw_below_drewN | apply below_drew1) | exact HB.out)) hb); clear HO_5; clear HO_15; clear HB; have HO_5 := n0_; have HO_15 := n1_; have HO513 := n2_; have HB := n3_; clear n0_ n1_ n2_ n3_; (try clear hb); (try clear ho0)) | ((with_reducible refine gate_callee (f := 30) rfl ?_); refine goesL_ (some 195) rfl rfl Try.func30 (by kernel_rfl) rfl #[.slice Ao14 t463.length co14] rfl (by (try simp only [List.map_toArray, List.map_cons, List.map_nil]); first | done | rfl | (simp only [List.length_drop, List.length_take]; rfl)) ?_; (with_reducible refine (impl_CountSet.calls kj65 _ _ t463 t514 t515 _ ?side1 ?side2 A157.out).mono ?_); (case side1 => repeat (first | exact (Kd.R_reads' HO_5.out).2.2 | (with_reducible refine Kd.C_alloc ?_ _) | (with_reducible refine Kd.C_drewN ?_ _) | (with_reducible refine Kd.C_drew ?_))); (case side2 => exact (Kd.R_reads' HO_5.out).2.1); rintro e w187 ⟨rfl, hb⟩; refine ⟨_, rfl, ?_⟩; have n0_ := Aside0.mk (Kd.R_below (by (with_reducible repeat (first | apply Kd.R_alloc | apply Kd.R_drewN | apply Kd.R_drew)); exact HO_5.out) hb); have n1_ := Aside0.mk (Kd.R_below (by (with_reducible repeat (first | apply Kd.R_alloc | apply Kd.R_drewN | apply Kd.R_drew)); exact HO_15.out) hb); have n2_ := Aside0.mk (Kd.R_below (by (with_reducible repeat (first | apply Kd.R_alloc | apply Kd.R_drewN | apply Kd.R_drew)); exact HO513.out) hb); have n3_ := Aside0.mk (below_step (by repeat (first | (with_reducible first | exact HB.out | apply below_alloc | apply pw_below_drewN | apply below_drew1) | exact HB.out)) hb); clear HO_5; clear HO_15; clear HO513; clear HB; have HO_5 := n0_; have HO_15 := n1_; have HO513 := n2_; have HB := n3_; clear n0_ n1_ n2_ n3_; (try clear hb); ) | ((with_reducible refine gate_callee (f := 30) rfl ?_); refine goesL_ (some 200) rfl rfl Try.func30 (by kernel_rfl) rfl #[.slice Ao185 t485.length co185] rfl (by (try simp only [List.map_toArray, List.map_cons, List.map_nil]); first | done | rfl | (simp only [List.length_drop, List.length_take]; rfl)) ?_; (with_reducible refine (impl_CountSet.calls kj65 _ _ t485 t516 t517 _ ?side1 ?side2 A158.out).mono ?_); (case side1 => repeat (first | exact (Kd.R_reads' HO_15.out).2.2 | (with_reducible refine Kd.C_alloc ?_ _) | (with_reducible refine Kd.C_drewN ?_ _) | (with_reducible refine Kd.C_drew ?_))); (case side2 => exact (Kd.R_reads' HO_15.out).2.1); rintro e w188 ⟨rfl, hb⟩; refine ⟨_, rfl, ?_⟩; have n0_ := Aside0.mk (Kd.R_below (by (with_reducible repeat (first | apply Kd.R_alloc | apply Kd.R_drewN | apply Kd.R_drew)); exact HO_5.out) hb); have n1_ := Aside0.mk (Kd.R_below (by (with_reducible repeat (first | apply Kd.R_alloc | apply Kd.R_drewN | apply Kd.R_drew)); exact HO_15.out) hb); have n2_ := Aside0.mk (Kd.R_below (by (with_reducible repeat (first | apply Kd.R_alloc | apply Kd.R_drewN | apply Kd.R_drew)); exact HO513.out) hb); have n3_ := Aside0.mk (below_step (by repeat (first | (with_reducible first | exact HB.out | apply below_alloc | apply pw_below_drewN | apply below_drew1) | exact HB.out)) hb); clear HO_5; clear HO_15; clear HO513; clear HB; have HO_5 := n0_; have HO_15 := n1_; have HO513 := n2_; have HB := n3_; clear n0_ n1_ n2_ n3_; (try clear hb); obtain ⟨Ao189, co189, eo189⟩ := Kd.R_slice HO513.out; subst eo189) | (go_at_call 25; (with_reducible refine (laws_sameInts.calls kj65 _ _ t510 _ _ t463 false _ ?side1 ?side2 ?side3 ?side4 A160.out).mono ?_); (case side1 => repeat (first | exact (Kd.R_reads' HO513.out).2.2 | (with_reducible refine Kd.C_alloc ?_ _) | (with_reducible refine Kd.C_drewN ?_ _) | (with_reducible refine Kd.C_drew ?_))); (case side2 => exact (Kd.R_reads' HO513.out).2.1); (case side3 => repeat (first | exact (Kd.R_reads' HO_5.out).2.2 | (with_reducible refine Kd.C_alloc ?_ _) | (with_reducible refine Kd.C_drewN ?_ _) | (with_reducible refine Kd.C_drew ?_))); (case side4 => exact (Kd.R_reads' HO_5.out).2.1); rintro e w' ⟨rfl, ⟨nd, rfl⟩⟩)))
                          all_goals (go_ret)
                          all_goals (exact ⟨by first | rfl | (simp [errW_none, errW_some] <;> rfl) | (simp [*, errW_none, errW_some] <;> rfl), by repeat (first | (with_reducible first | exact HB.out | apply below_alloc | apply pw_below_drewN | apply below_drew1) | exact HB.out)⟩)
                      · replace c159 := Bool.eq_false_iff.mpr c159
                        subst c159
                        have H1 : (if t515 = true then (if t517 = true then (if (wrap64 (t514 + t516)) = 1114112 then (laws_FnSets.j3 kj65 l1) else (some false)) else (some false)) else (some false)) = some r := by rw [if_neg (show ¬ (false = true) by decide)] at H; exact H
                        clear H
                        have H := H1
                        clear H1
                        by_cases c190 : t515 = true
                        · subst c190
                          have H1 : (if t517 = true then (if (wrap64 (t514 + t516)) = 1114112 then (laws_FnSets.j3 kj65 l1) else (some false)) else (some false)) = some r := by rw [if_pos rfl] at H; exact H
                          clear H
                          have H := H1
                          clear H1
                          by_cases c191 : t517 = true
                          · subst c191
                            have H1 : (if (wrap64 (t514 + t516)) = 1114112 then (laws_FnSets.j3 kj65 l1) else (some false)) = some r := by rw [if_pos rfl] at H; exact H
                            clear H
                            have H := H1
                            clear H1
                            by_cases c192 : (wrap64 (t514 + t516)) = 1114112
                            · rw [if_pos c192] at H
                              have c192b0 : ((wrap64 (t514 + t516)) == 1114112) = true := beq_iff_eq.mpr c192
                              have c192b1 : ((wrap64 (t514 + t516)) != 1114112) = false := bne_eq_false_iff_eq.mpr c192
                              clear c192
                              have H' := Aside0.mk H
                              clear H
                              obtain ⟨Ao193, co193, eo193⟩ := Kd.R_slice HO_15.out
                              subst eo193
                              go_wp2_with (first | ((with_reducible refine gate_callee (f := 23) rfl ?_); refine goesL_ (some 190) rfl rfl Try.func23 (by kernel_rfl) rfl #[.slice Ao193 t485.length co193] rfl (by (try simp only [List.map_toArray, List.map_cons, List.map_nil]); first | done | rfl | (simp only [List.length_drop, List.length_take]; rfl)) ?_; (with_reducible refine (impl_NotSet.calls kj65 _ _ t485 t510 false _ ?side1 ?side2 A156.out).mono ?_); (case side1 => repeat (first | exact (Kd.R_reads' HO_15.out).2.2 | (with_reducible refine Kd.C_alloc ?_ _) | (with_reducible refine Kd.C_drewN ?_ _) | (with_reducible refine Kd.C_drew ?_))); (case side2 => exact (Kd.R_reads' HO_15.out).2.1); rintro e w194 ⟨v512, rfl, ho0, hb⟩; refine ⟨_, rfl, ?_⟩; have n0_ := Aside0.mk (Kd.R_elder' (by (with_reducible repeat (first | apply Kd.R_alloc | apply Kd.R_drewN | apply Kd.R_drew)); exact HO_5.out) (Kd.R_base ho0) hb); have n1_ := Aside0.mk (Kd.R_elder' (by (with_reducible repeat (first | apply Kd.R_alloc | apply Kd.R_drewN | apply Kd.R_drew)); exact HO_15.out) (Kd.R_base ho0) hb); have n2_ := Aside0.mk (Kd.R_lower (Kd.R_new' (Kd.R_new' ho0 (Kd.R_lt (by (with_reducible repeat (first | apply Kd.R_alloc | apply Kd.R_drewN | apply Kd.R_drew)); exact HO_5.out))) (Kd.R_lt (by (with_reducible repeat (first | apply Kd.R_alloc | apply Kd.R_drewN | apply Kd.R_drew)); exact HO_15.out))) (below_size (by repeat (first | (with_reducible first | exact HB.out | apply below_alloc | apply pw_below_drewN | apply below_drew1) | exact HB.out)))); have n3_ := Aside0.mk (below_step (by repeat (first | (with_reducible first | exact HB.out | apply below_alloc | apply pw_below_drewN | apply below_drew1) | exact HB.out)) hb); clear HO_5; clear HO_15; clear HB; have HO_5 := n0_; have HO_15 := n1_; have HO513 := n2_; have HB := n3_; clear n0_ n1_ n2_ n3_; (try clear hb); (try clear ho0)) | ((with_reducible refine gate_callee (f := 30) rfl ?_); refine goesL_ (some 195) rfl rfl Try.func30 (by kernel_rfl) rfl #[.slice Ao14 t463.length co14] rfl (by (try simp only [List.map_toArray, List.map_cons, List.map_nil]); first | done | rfl | (simp only [List.length_drop, List.length_take]; rfl)) ?_; (with_reducible refine (impl_CountSet.calls kj65 _ _ t463 t514 true _ ?side1 ?side2 A157.out).mono ?_); (case side1 => repeat (first | exact (Kd.R_reads' HO_5.out).2.2 | (with_reducible refine Kd.C_alloc ?_ _) | (with_reducible refine Kd.C_drewN ?_ _) | (with_reducible refine Kd.C_drew ?_))); (case side2 => exact (Kd.R_reads' HO_5.out).2.1); rintro e w195 ⟨rfl, hb⟩; refine ⟨_, rfl, ?_⟩; have n0_ := Aside0.mk (Kd.R_below (by (with_reducible repeat (first | apply Kd.R_alloc | apply Kd.R_drewN | apply Kd.R_drew)); exact HO_5.out) hb); have n1_ := Aside0.mk (Kd.R_below (by (with_reducible repeat (first | apply Kd.R_alloc | apply Kd.R_drewN | apply Kd.R_drew)); exact HO_15.out) hb); have n2_ := Aside0.mk (Kd.R_below (by (with_reducible repeat (first | apply Kd.R_alloc | apply Kd.R_drewN | apply Kd.R_drew)); exact HO513.out) hb); have n3_ := Aside0.mk (below_step (by repeat (first | (with_reducible first | exact HB.out | apply below_alloc | apply pw_below_drewN | apply below_drew1) | exact HB.out)) hb); clear HO_5; clear HO_15; clear HO513; clear HB; have HO_5 := n0_; have HO_15 := n1_; have HO513 := n2_; have HB := n3_; clear n0_ n1_ n2_ n3_; (try clear hb); ) | ((with_reducible refine gate_callee (f := 30) rfl ?_); refine goesL_ (some 200) rfl rfl Try.func30 (by kernel_rfl) rfl #[.slice Ao193 t485.length co193] rfl (by (try simp only [List.map_toArray, List.map_cons, List.map_nil]); first | done | rfl | (simp only [List.length_drop, List.length_take]; rfl)) ?_; (with_reducible refine (impl_CountSet.calls kj65 _ _ t485 t516 true _ ?side1 ?side2 A158.out).mono ?_); (case side1 => repeat (first | exact (Kd.R_reads' HO_15.out).2.2 | (with_reducible refine Kd.C_alloc ?_ _) | (with_reducible refine Kd.C_drewN ?_ _) | (with_reducible refine Kd.C_drew ?_))); (case side2 => exact (Kd.R_reads' HO_15.out).2.1); rintro e w196 ⟨rfl, hb⟩; refine ⟨_, rfl, ?_⟩; have n0_ := Aside0.mk (Kd.R_below (by (with_reducible repeat (first | apply Kd.R_alloc | apply Kd.R_drewN | apply Kd.R_drew)); exact HO_5.out) hb); have n1_ := Aside0.mk (Kd.R_below (by (with_reducible repeat (first | apply Kd.R_alloc | apply Kd.R_drewN | apply Kd.R_drew)); exact HO_15.out) hb); have n2_ := Aside0.mk (Kd.R_below (by (with_reducible repeat (first | apply Kd.R_alloc | apply Kd.R_drewN | apply Kd.R_drew)); exact HO513.out) hb); have n3_ := Aside0.mk (below_step (by repeat (first | (with_reducible first | exact HB.out | apply below_alloc | apply pw_below_drewN | apply below_drew1) | exact HB.out)) hb); clear HO_5; clear HO_15; clear HO513; clear HB; have HO_5 := n0_; have HO_15 := n1_; have HO513 := n2_; have HB := n3_; clear n0_ n1_ n2_ n3_; (try clear hb); ))
                              go_meet
                              case rel => exact ⟨_, H', ⟨by have := HJ11.out; have := HJ60.out; have := HJ65.out; first | omega | exact Nat.le_refl _⟩, ⟨by repeat (first | (with_reducible first | exact HB.out | apply below_alloc | apply pw_below_drewN | apply below_drew1) | exact HB.out)⟩⟩
                            · rw [if_neg c192] at H
                              have c192b0 : ((wrap64 (t514 + t516)) == 1114112) = false := beq_eq_false_iff_ne.mpr c192
                              have c192b1 : ((wrap64 (t514 + t516)) != 1114112) = true := bne_iff_ne.mpr c192
                              obtain rfl := Option.some.inj H
                              (first | exact absurd hr_ (by decide) | skip)
                              all_goals (obtain ⟨Ao197, co197, eo197⟩ := Kd.R_slice HO_15.out)
                              all_goals (subst eo197)
                              all_goals (go_wp2_with (first | ((with_reducible refine gate_callee (f := 23) rfl ?_); refine goesL_ (some 190) rfl rfl Try.func23 (by kernel_rfl) rfl #[.slice Ao197 t485.length co197] rfl (by (try simp only [List.map_toArray, List.map_cons, List.map_nil]); first | done | rfl | (simp only [List.length_drop, List.length_take]; rfl)) ?_; (with_reducible refine (impl_NotSet.calls kj65 _ _ t485 t510 false _ ?side1 ?side2 A156.out).mono ?_); (case side1 => repeat (first | exact (Kd.R_reads' HO_15.out).2.2 | (with_reducible refine Kd.C_alloc ?_ _) | (with_reducible refine Kd.C_drewN ?_ _) | (with_reducible refine Kd.C_drew ?_))); (case side2 => exact (Kd.R_reads' HO_15.out).2.1); rintro e w198 ⟨v512, rfl, ho0, hb⟩; refine ⟨_, rfl, ?_⟩; have n0_ := Aside0.mk (Kd.R_elder' (by (with_reducible repeat (first | apply Kd.R_alloc | apply Kd.R_drewN | apply Kd.R_drew)); exact HO_5.out) (Kd.R_base ho0) hb); have n1_ := Aside0.mk (Kd.R_elder' (by (with_reducible repeat (first | apply Kd.R_alloc | apply Kd.R_drewN | apply Kd.R_drew)); exact HO_15.out) (Kd.R_base ho0) hb); have n2_ := Aside0.mk (Kd.R_lower (Kd.R_new' (Kd.R_new' ho0 (Kd.R_lt (by (with_reducible repeat (first | apply Kd.R_alloc | apply Kd.R_drewN | apply Kd.R_drew)); exact HO_5.out))) (Kd.R_lt (by (with_reducible repeat (first | apply Kd.R_alloc | apply Kd.R_drewN | apply Kd.R_drew)); exact HO_15.out))) (below_size (by repeat (first | (with_reducible first | exact HB.out | apply below_alloc | apply pw_below_drewN | apply below_drew1) | exact HB.out)))); have n3_ := Aside0.mk (below_step (by repeat (first | (with_reducible first | exact HB.out | apply below_alloc | apply pw_below_drewN | apply below_drew1) | exact HB.out)) hb); clear HO_5; clear HO_15; clear HB; have HO_5 := n0_; have HO_15 := n1_; have HO513 := n2_; have HB := n3_; clear n0_ n1_ n2_ n3_; (try clear hb); (try clear ho0)) | ((with_reducible refine gate_callee (f := 30) rfl ?_); refine goesL_ (some 195) rfl rfl Try.func30 (by kernel_rfl) rfl #[.slice Ao14 t463.length co14] rfl (by (try simp only [List.map_toArray, List.map_cons, List.map_nil]); first | done | rfl | (simp only [List.length_drop, List.length_take]; rfl)) ?_; (with_reducible refine (impl_CountSet.calls kj65 _ _ t463 t514 true _ ?side1 ?side2 A157.out).mono ?_); (case side1 => repeat (first | exact (Kd.R_reads' HO_5.out).2.2 | (with_reducible refine Kd.C_alloc ?_ _) | (with_reducible refine Kd.C_drewN ?_ _) | (with_reducible refine Kd.C_drew ?_))); (case side2 => exact (Kd.R_reads' HO_5.out).2.1); rintro e w199 ⟨rfl, hb⟩; refine ⟨_, rfl, ?_⟩; have n0_ := Aside0.mk (Kd.R_below (by (with_reducible repeat (first | apply Kd.R_alloc | apply Kd.R_drewN | apply Kd.R_drew)); exact HO_5.out) hb); have n1_ := Aside0.mk (Kd.R_below (by (with_reducible repeat (first | apply Kd.R_alloc | apply Kd.R_drewN | apply Kd.R_drew)); exact HO_15.out) hb); have n2_ := Aside0.mk (Kd.R_below (by (with_reducible repeat (first | apply Kd.R_alloc | apply Kd.R_drewN | apply Kd.R_drew)); exact HO513.out) hb); have n3_ := Aside0.mk (below_step (by repeat (first | (with_reducible first | exact HB.out | apply below_alloc | apply pw_below_drewN | apply below_drew1) | exact HB.out)) hb); clear HO_5; clear HO_15; clear HO513; clear HB; have HO_5 := n0_; have HO_15 := n1_; have HO513 := n2_; have HB := n3_; clear n0_ n1_ n2_ n3_; (try clear hb); ) | ((with_reducible refine gate_callee (f := 30) rfl ?_); refine goesL_ (some 200) rfl rfl Try.func30 (by kernel_rfl) rfl #[.slice Ao197 t485.length co197] rfl (by (try simp only [List.map_toArray, List.map_cons, List.map_nil]); first | done | rfl | (simp only [List.length_drop, List.length_take]; rfl)) ?_; (with_reducible refine (impl_CountSet.calls kj65 _ _ t485 t516 true _ ?side1 ?side2 A158.out).mono ?_); (case side1 => repeat (first | exact (Kd.R_reads' HO_15.out).2.2 | (with_reducible refine Kd.C_alloc ?_ _) | (with_reducible refine Kd.C_drewN ?_ _) | (with_reducible refine Kd.C_drew ?_))); (case side2 => exact (Kd.R_reads' HO_15.out).2.1); rintro e w200 ⟨rfl, hb⟩; refine ⟨_, rfl, ?_⟩; have n0_ := Aside0.mk (Kd.R_below (by (with_reducible repeat (first | apply Kd.R_alloc | apply Kd.R_drewN | apply Kd.R_drew)); exact HO_5.out) hb); have n1_ := Aside0.mk (Kd.R_below (by (with_reducible repeat (first | apply Kd.R_alloc | apply Kd.R_drewN | apply Kd.R_drew)); exact HO_15.out) hb); have n2_ := Aside0.mk (Kd.R_below (by (with_reducible repeat (first | apply Kd.R_alloc | apply Kd.R_drewN | apply Kd.R_drew)); exact HO513.out) hb); have n3_ := Aside0.mk (below_step (by repeat (first | (with_reducible first | exact HB.out | apply below_alloc | apply pw_below_drewN | apply below_drew1) | exact HB.out)) hb); clear HO_5; clear HO_15; clear HO513; clear HB; have HO_5 := n0_; have HO_15 := n1_; have HO513 := n2_; have HB := n3_; clear n0_ n1_ n2_ n3_; (try clear hb); )))
                              all_goals (go_ret)
                              all_goals (exact ⟨by first | rfl | (simp [errW_none, errW_some] <;> rfl) | (simp [*, errW_none, errW_some] <;> rfl), by repeat (first | (with_reducible first | exact HB.out | apply below_alloc | apply pw_below_drewN | apply below_drew1) | exact HB.out)⟩)
                          · replace c191 := Bool.eq_false_iff.mpr c191
                            subst c191
                            have H1 : (some false) = some r := by rw [if_neg (show ¬ (false = true) by decide)] at H; exact H
                            clear H
                            have H := H1
                            clear H1
                            obtain rfl := Option.some.inj H
                            (first | exact absurd hr_ (by decide) | skip)
                            all_goals (obtain ⟨Ao201, co201, eo201⟩ := Kd.R_slice HO_15.out)
                            all_goals (subst eo201)
                            all_goals (go_wp2_with (first | ((with_reducible refine gate_callee (f := 23) rfl ?_); refine goesL_ (some 190) rfl rfl Try.func23 (by kernel_rfl) rfl #[.slice Ao201 t485.length co201] rfl (by (try simp only [List.map_toArray, List.map_cons, List.map_nil]); first | done | rfl | (simp only [List.length_drop, List.length_take]; rfl)) ?_; (with_reducible refine (impl_NotSet.calls kj65 _ _ t485 t510 false _ ?side1 ?side2 A156.out).mono ?_); (case side1 => repeat (first | exact (Kd.R_reads' HO_15.out).2.2 | (with_reducible refine Kd.C_alloc ?_ _) | (with_reducible refine Kd.C_drewN ?_ _) | (with_reducible refine Kd.C_drew ?_))); (case side2 => exact (Kd.R_reads' HO_15.out).2.1); rintro e w202 ⟨v512, rfl, ho0, hb⟩; refine ⟨_, rfl, ?_⟩; have n0_ := Aside0.mk (Kd.R_elder' (by (with_reducible repeat (first | apply Kd.R_alloc | apply Kd.R_drewN | apply Kd.R_drew)); exact HO_5.out) (Kd.R_base ho0) hb); have n1_ := Aside0.mk (Kd.R_elder' (by (with_reducible repeat (first | apply Kd.R_alloc | apply Kd.R_drewN | apply Kd.R_drew)); exact HO_15.out) (Kd.R_base ho0) hb); have n2_ := Aside0.mk (Kd.R_lower (Kd.R_new' (Kd.R_new' ho0 (Kd.R_lt (by (with_reducible repeat (first | apply Kd.R_alloc | apply Kd.R_drewN | apply Kd.R_drew)); exact HO_5.out))) (Kd.R_lt (by (with_reducible repeat (first | apply Kd.R_alloc | apply Kd.R_drewN | apply Kd.R_drew)); exact HO_15.out))) (below_size (by repeat (first | (with_reducible first | exact HB.out | apply below_alloc | apply pw_below_drewN | apply below_drew1) | exact HB.out)))); have n3_ := Aside0.mk (below_step (by repeat (first | (with_reducible first | exact HB.out | apply below_alloc | apply pw_below_drewN | apply below_drew1) | exact HB.out)) hb); clear HO_5; clear HO_15; clear HB; have HO_5 := n0_; have HO_15 := n1_; have HO513 := n2_; have HB := n3_; clear n0_ n1_ n2_ n3_; (try clear hb); (try clear ho0)) | ((with_reducible refine gate_callee (f := 30) rfl ?_); refine goesL_ (some 195) rfl rfl Try.func30 (by kernel_rfl) rfl #[.slice Ao14 t463.length co14] rfl (by (try simp only [List.map_toArray, List.map_cons, List.map_nil]); first | done | rfl | (simp only [List.length_drop, List.length_take]; rfl)) ?_; (with_reducible refine (impl_CountSet.calls kj65 _ _ t463 t514 true _ ?side1 ?side2 A157.out).mono ?_); (case side1 => repeat (first | exact (Kd.R_reads' HO_5.out).2.2 | (with_reducible refine Kd.C_alloc ?_ _) | (with_reducible refine Kd.C_drewN ?_ _) | (with_reducible refine Kd.C_drew ?_))); (case side2 => exact (Kd.R_reads' HO_5.out).2.1); rintro e w203 ⟨rfl, hb⟩; refine ⟨_, rfl, ?_⟩; have n0_ := Aside0.mk (Kd.R_below (by (with_reducible repeat (first | apply Kd.R_alloc | apply Kd.R_drewN | apply Kd.R_drew)); exact HO_5.out) hb); have n1_ := Aside0.mk (Kd.R_below (by (with_reducible repeat (first | apply Kd.R_alloc | apply Kd.R_drewN | apply Kd.R_drew)); exact HO_15.out) hb); have n2_ := Aside0.mk (Kd.R_below (by (with_reducible repeat (first | apply Kd.R_alloc | apply Kd.R_drewN | apply Kd.R_drew)); exact HO513.out) hb); have n3_ := Aside0.mk (below_step (by repeat (first | (with_reducible first | exact HB.out | apply below_alloc | apply pw_below_drewN | apply below_drew1) | exact HB.out)) hb); clear HO_5; clear HO_15; clear HO513; clear HB; have HO_5 := n0_; have HO_15 := n1_; have HO513 := n2_; have HB := n3_; clear n0_ n1_ n2_ n3_; (try clear hb); ) | ((with_reducible refine gate_callee (f := 30) rfl ?_); refine goesL_ (some 200) rfl rfl Try.func30 (by kernel_rfl) rfl #[.slice Ao201 t485.length co201] rfl (by (try simp only [List.map_toArray, List.map_cons, List.map_nil]); first | done | rfl | (simp only [List.length_drop, List.length_take]; rfl)) ?_; (with_reducible refine (impl_CountSet.calls kj65 _ _ t485 t516 false _ ?side1 ?side2 A158.out).mono ?_); (case side1 => repeat (first | exact (Kd.R_reads' HO_15.out).2.2 | (with_reducible refine Kd.C_alloc ?_ _) | (with_reducible refine Kd.C_drewN ?_ _) | (with_reducible refine Kd.C_drew ?_))); (case side2 => exact (Kd.R_reads' HO_15.out).2.1); rintro e w204 ⟨rfl, hb⟩; refine ⟨_, rfl, ?_⟩; have n0_ := Aside0.mk (Kd.R_below (by (with_reducible repeat (first | apply Kd.R_alloc | apply Kd.R_drewN | apply Kd.R_drew)); exact HO_5.out) hb); have n1_ := Aside0.mk (Kd.R_below (by (with_reducible repeat (first | apply Kd.R_alloc | apply Kd.R_drewN | apply Kd.R_drew)); exact HO_15.out) hb); have n2_ := Aside0.mk (Kd.R_below (by (with_reducible repeat (first | apply Kd.R_alloc | apply Kd.R_drewN | apply Kd.R_drew)); exact HO513.out) hb); have n3_ := Aside0.mk (below_step (by repeat (first | (with_reducible first | exact HB.out | apply below_alloc | apply pw_below_drewN | apply below_drew1) | exact HB.out)) hb); clear HO_5; clear HO_15; clear HO513; clear HB; have HO_5 := n0_; have HO_15 := n1_; have HO513 := n2_; have HB := n3_; clear n0_ n1_ n2_ n3_; (try clear hb); )))
                            all_goals (go_ret)
                            all_goals (exact ⟨by first | rfl | (simp [errW_none, errW_some] <;> rfl) | (simp [*, errW_none, errW_some] <;> rfl), by repeat (first | (with_reducible first | exact HB.out | apply below_alloc | apply pw_below_drewN | apply below_drew1) | exact HB.out)⟩)
                        · replace c190 := Bool.eq_false_iff.mpr c190
                          subst c190
                          have H1 : (some false) = some r := by rw [if_neg (show ¬ (false = true) by decide)] at H; exact H
                          clear H
                          have H := H1
                          clear H1
                          obtain rfl := Option.some.inj H
                          (first | exact absurd hr_ (by decide) | skip)
                          all_goals (obtain ⟨Ao205, co205, eo205⟩ := Kd.R_slice HO_15.out)
                          all_goals (subst eo205)
                          all_goals (go_wp2_with (first | ((with_reducible refine gate_callee (f := 23) rfl ?_); refine goesL_ (some 190) rfl rfl Try.func23 (by kernel_rfl) rfl #[.slice Ao205 t485.length co205] rfl (by (try simp only [List.map_toArray, List.map_cons, List.map_nil]); first | done | rfl | (simp only [List.length_drop, List.length_take]; rfl)) ?_; (with_reducible refine (impl_NotSet.calls kj65 _ _ t485 t510 false _ ?side1 ?side2 A156.out).mono ?_); (case side1 => repeat (first | exact (Kd.R_reads' HO_15.out).2.2 | (with_reducible refine Kd.C_alloc ?_ _) | (with_reducible refine Kd.C_drewN ?_ _) | (with_reducible refine Kd.C_drew ?_))); (case side2 => exact (Kd.R_reads' HO_15.out).2.1); rintro e w206 ⟨v512, rfl, ho0, hb⟩; refine ⟨_, rfl, ?_⟩; have n0_ := Aside0.mk (Kd.R_elder' (by (with_reducible repeat (first | apply Kd.R_alloc | apply Kd.R_drewN | apply Kd.R_drew)); exact HO_5.out) (Kd.R_base ho0) hb); have n1_ := Aside0.mk (Kd.R_elder' (by (with_reducible repeat (first | apply Kd.R_alloc | apply Kd.R_drewN | apply Kd.R_drew)); exact HO_15.out) (Kd.R_base ho0) hb); have n2_ := Aside0.mk (Kd.R_lower (Kd.R_new' (Kd.R_new' ho0 (Kd.R_lt (by (with_reducible repeat (first | apply Kd.R_alloc | apply Kd.R_drewN | apply Kd.R_drew)); exact HO_5.out))) (Kd.R_lt (by (with_reducible repeat (first | apply Kd.R_alloc | apply Kd.R_drewN | apply Kd.R_drew)); exact HO_15.out))) (below_size (by repeat (first | (with_reducible first | exact HB.out | apply below_alloc | apply pw_below_drewN | apply below_drew1) | exact HB.out)))); have n3_ := Aside0.mk (below_step (by repeat (first | (with_reducible first | exact HB.out | apply below_alloc | apply pw_below_drewN | apply below_drew1) | exact HB.out)) hb); clear HO_5; clear HO_15; clear HB; have HO_5 := n0_; have HO_15 := n1_; have HO513 := n2_; have HB := n3_; clear n0_ n1_ n2_ n3_; (try clear hb); (try clear ho0)) | ((with_reducible refine gate_callee (f := 30) rfl ?_); refine goesL_ (some 195) rfl rfl Try.func30 (by kernel_rfl) rfl #[.slice Ao14 t463.length co14] rfl (by (try simp only [List.map_toArray, List.map_cons, List.map_nil]); first | done | rfl | (simp only [List.length_drop, List.length_take]; rfl)) ?_; (with_reducible refine (impl_CountSet.calls kj65 _ _ t463 t514 false _ ?side1 ?side2 A157.out).mono ?_); (case side1 => repeat (first | exact (Kd.R_reads' HO_5.out).2.2 | (with_reducible refine Kd.C_alloc ?_ _) | (with_reducible refine Kd.C_drewN ?_ _) | (with_reducible refine Kd.C_drew ?_))); (case side2 => exact (Kd.R_reads' HO_5.out).2.1); rintro e w207 ⟨rfl, hb⟩; refine ⟨_, rfl, ?_⟩; have n0_ := Aside0.mk (Kd.R_below (by (with_reducible repeat (first | apply Kd.R_alloc | apply Kd.R_drewN | apply Kd.R_drew)); exact HO_5.out) hb); have n1_ := Aside0.mk (Kd.R_below (by (with_reducible repeat (first | apply Kd.R_alloc | apply Kd.R_drewN | apply Kd.R_drew)); exact HO_15.out) hb); have n2_ := Aside0.mk (Kd.R_below (by (with_reducible repeat (first | apply Kd.R_alloc | apply Kd.R_drewN | apply Kd.R_drew)); exact HO513.out) hb); have n3_ := Aside0.mk (below_step (by repeat (first | (with_reducible first | exact HB.out | apply below_alloc | apply pw_below_drewN | apply below_drew1) | exact HB.out)) hb); clear HO_5; clear HO_15; clear HO513; clear HB; have HO_5 := n0_; have HO_15 := n1_; have HO513 := n2_; have HB := n3_; clear n0_ n1_ n2_ n3_; (try clear hb); ) | ((with_reducible refine gate_callee (f := 30) rfl ?_); refine goesL_ (some 200) rfl rfl Try.func30 (by kernel_rfl) rfl #[.slice Ao205 t485.length co205] rfl (by (try simp only [List.map_toArray, List.map_cons, List.map_nil]); first | done | rfl | (simp only [List.length_drop, List.length_take]; rfl)) ?_; (with_reducible refine (impl_CountSet.calls kj65 _ _ t485 t516 t517 _ ?side1 ?side2 A158.out).mono ?_); (case side1 => repeat (first | exact (Kd.R_reads' HO_15.out).2.2 | (with_reducible refine Kd.C_alloc ?_ _) | (with_reducible refine Kd.C_drewN ?_ _) | (with_reducible refine Kd.C_drew ?_))); (case side2 => exact (Kd.R_reads' HO_15.out).2.1); rintro e w208 ⟨rfl, hb⟩; refine ⟨_, rfl, ?_⟩; have n0_ := Aside0.mk (Kd.R_below (by (with_reducible repeat (first | apply Kd.R_alloc | apply Kd.R_drewN | apply Kd.R_drew)); exact HO_5.out) hb); have n1_ := Aside0.mk (Kd.R_below (by (with_reducible repeat (first | apply Kd.R_alloc | apply Kd.R_drewN | apply Kd.R_drew)); exact HO_15.out) hb); have n2_ := Aside0.mk (Kd.R_below (by (with_reducible repeat (first | apply Kd.R_alloc | apply Kd.R_drewN | apply Kd.R_drew)); exact HO513.out) hb); have n3_ := Aside0.mk (below_step (by repeat (first | (with_reducible first | exact HB.out | apply below_alloc | apply pw_below_drewN | apply below_drew1) | exact HB.out)) hb); clear HO_5; clear HO_15; clear HO513; clear HB; have HO_5 := n0_; have HO_15 := n1_; have HO513 := n2_; have HB := n3_; clear n0_ n1_ n2_ n3_; (try clear hb); )))
                          all_goals (go_ret)
                          all_goals (exact ⟨by first | rfl | (simp [errW_none, errW_some] <;> rfl) | (simp [*, errW_none, errW_some] <;> rfl), by repeat (first | (with_reducible first | exact HB.out | apply below_alloc | apply pw_below_drewN | apply below_drew1) | exact HB.out)⟩)
                    · replace c155 := Bool.eq_false_iff.mpr c155
                      subst c155
                      have H1 : (laws_FnSets.j3 kj65 l1) = some r := by rw [if_neg (show ¬ (false = true) by decide)] at H; exact H
                      clear H
                      have H := H1
                      clear H1
                      have H' := Aside0.mk H
                      clear H
                      go_wp2
                      go_meet
                      case rel => exact ⟨_, H', ⟨by have := HJ11.out; have := HJ60.out; have := HJ65.out; first | omega | exact Nat.le_refl _⟩, ⟨by repeat (first | (with_reducible first | exact HB.out | apply below_alloc | apply pw_below_drewN | apply below_drew1) | exact HB.out)⟩⟩
                  case rest => as_aux_lemma =>
                    clear HC154
                    try clear c1
                    try clear c2
                    try clear p2
                    try clear c3
                    try clear c4
                    try clear c5
                    try clear c6
                    try clear p6
                    try clear c7
                    try clear c8
                    try clear c9
                    try clear c10
                    try clear c11
                    try clear c12
                    try clear c13
                    try clear c15
                    try clear c16
                    try clear c19
                    try clear c21
                    try clear c22
                    try clear c22b0
                    try clear c22b1
                    try clear c22b2
                    try clear c23
                    try clear c24
                    try clear c25
                    try clear c25b0
                    try clear c25b1
                    try clear c25b2
                    try clear c28
                    try clear c29
                    try clear c30
                    try clear c30b0
                    try clear c30b1
                    try clear c30b2
                    try clear c36
                    try clear c57
                    try clear p64
                    try clear c65
                    try clear c67
                    try clear c70
                    try clear c71
                    try clear c72
                    try clear c73
                    try clear c73b0
                    try clear c73b1
                    try clear c73b2
                    try clear c78
                    try clear c79
                    try clear c80
                    try clear c80b0
                    try clear c80b1
                    try clear c80b2
                    try clear c97
                    try clear c97b0
                    try clear c97b1
                    try clear c97b2
                    try clear c102
                    try clear c103
                    try clear c104
                    try clear c104b0
                    try clear c104b1
                    try clear c104b2
                    try clear c125
                    try clear c126
                    try clear c127
                    try clear c128
                    try clear c128b0
                    try clear c128b1
                    try clear c128b2
                    try clear c137
                    try clear c137b0
                    try clear c137b1
                    try clear c137b2
                    try clear c155
                    try clear c159
                    try clear c161
                    try clear c162
                    try clear c163
                    try clear c164
                    try clear c164b0
                    try clear c164b1
                    try clear c190
                    try clear c191
                    try clear c192
                    try clear c192b0
                    try clear c192b1
                    try clear p2
                    obtain ⟨kq, HA, HJ153, HB⟩ := hcut
                    cases kq with
                    | zero => exact absurd HA.out (by simp [laws_FnSets.j3])
                    | succ kj153 =>
                      have H := HA.out
                      clear HA
                      simp only [laws_FnSets.j3] at H
                      replace H := Option.bind_eq_some_iff.mp H
                      obtain ⟨⟨t519, t520⟩, A2090, H⟩ := H
                      replace H : ((impl_InSet.f kj153 t519 t520).bind fun bt523 => ((spec_InSet.f kj153 t519 t520).bind fun bt525 => ((spec_DrawCountSet.f kj153 l1).bind fun t527 => ((impl_CountSet.f kj153 t527).bind fun bt530 => ((spec_CountSet.f kj153 t527).bind fun bt532 => (if (bt523.2 == bt525.2) = true then (if (bt523.1 == bt525.1) = true then (if (bt530.2 == bt532.2) = true then (some (bt530.1 == bt532.1)) else (some false)) else (some false)) else (some false))))))) = some r := H
                      have A209 := Aside0.mk A2090
                      clear A2090
                      replace H := Option.bind_eq_some_iff.mp H
                      obtain ⟨⟨t523, t524⟩, A2100, H⟩ := H
                      replace H : ((spec_InSet.f kj153 t519 t520).bind fun bt525 => ((spec_DrawCountSet.f kj153 l1).bind fun t527 => ((impl_CountSet.f kj153 t527).bind fun bt530 => ((spec_CountSet.f kj153 t527).bind fun bt532 => (if (t524 == bt525.2) = true then (if (t523 == bt525.1) = true then (if (bt530.2 == bt532.2) = true then (some (bt530.1 == bt532.1)) else (some false)) else (some false)) else (some false)))))) = some r := H
                      have A210 := Aside0.mk A2100
                      clear A2100
                      replace H := Option.bind_eq_some_iff.mp H
                      obtain ⟨⟨t525, t526⟩, A2110, H⟩ := H
                      replace H : ((spec_DrawCountSet.f kj153 l1).bind fun t527 => ((impl_CountSet.f kj153 t527).bind fun bt530 => ((spec_CountSet.f kj153 t527).bind fun bt532 => (if (t524 == t526) = true then (if (t523 == t525) = true then (if (bt530.2 == bt532.2) = true then (some (bt530.1 == bt532.1)) else (some false)) else (some false)) else (some false))))) = some r := H
                      have A211 := Aside0.mk A2110
                      clear A2110
                      replace H := Option.bind_eq_some_iff.mp H
                      obtain ⟨t527, A2120, H⟩ := H
                      replace H : ((impl_CountSet.f kj153 t527).bind fun bt530 => ((spec_CountSet.f kj153 t527).bind fun bt532 => (if (t524 == t526) = true then (if (t523 == t525) = true then (if (bt530.2 == bt532.2) = true then (some (bt530.1 == bt532.1)) else (some false)) else (some false)) else (some false)))) = some r := H
                      have A212 := Aside0.mk A2120
                      clear A2120
                      replace H := Option.bind_eq_some_iff.mp H
                      obtain ⟨⟨t530, t531⟩, A2130, H⟩ := H
                      replace H : ((spec_CountSet.f kj153 t527).bind fun bt532 => (if (t524 == t526) = true then (if (t523 == t525) = true then (if (t531 == bt532.2) = true then (some (t530 == bt532.1)) else (some false)) else (some false)) else (some false))) = some r := H
                      have A213 := Aside0.mk A2130
                      clear A2130
                      replace H := Option.bind_eq_some_iff.mp H
                      obtain ⟨⟨t532, t533⟩, A2140, H⟩ := H
                      replace H : (if (t524 == t526) = true then (if (t523 == t525) = true then (if (t531 == t533) = true then (some (t530 == t532)) else (some false)) else (some false)) else (some false)) = some r := H
                      have A214 := Aside0.mk A2140
                      clear A2140
                      by_cases c215 : (t524 == t526) = true
                      · rw [if_pos c215] at H
                        have c215b0 : (t524 == t526) = true := c215
                        (try (have c215b1 : decide (t524 = t526) = true := by simpa using c215))
                        (try (have c215b2 : (t524 == t526) = true := by simpa using c215))
                        clear c215
                        by_cases c216 : (t523 == t525) = true
                        · rw [if_pos c216] at H
                          have c216b0 : (t523 == t525) = true := c216
                          (try (have c216b1 : decide (t523 = t525) = true := by simpa using c216))
                          (try (have c216b2 : (t523 == t525) = true := by simpa using c216))
                          clear c216
                          by_cases c217 : (t531 == t533) = true
                          · rw [if_pos c217] at H
                            have c217b0 : (t531 == t533) = true := c217
                            (try (have c217b1 : decide (t531 = t533) = true := by simpa using c217))
                            (try (have c217b2 : (t531 == t533) = true := by simpa using c217))
                            clear c217
                            obtain rfl := Option.some.inj H
                            (first | exact absurd hr_ (by decide) | skip)
                            all_goals (go_wp2_with (first | ((with_reducible refine gate_callee (f := 28) rfl ?_); refine goesL_ (some 226) rfl rfl Try.func28 (by kernel_rfl) rfl #[.slice A1 l1.length c1] rfl (by (try simp only [List.map_toArray, List.map_cons, List.map_nil]); first | done | rfl | (simp only [List.length_drop, List.length_take]; rfl)) ?_; (with_reducible refine (spec_DrawInSet.calls kj153 _ _ l1 t519 t520 _ ?side1 ?side2 A209.out).mono ?_); (case side1 => repeat (first | exact (Kd.C_below HR1.out HB.out) | (with_reducible refine Kd.C_alloc ?_ _) | (with_reducible refine Kd.C_drewN ?_ _) | (with_reducible refine Kd.C_drew ?_))); (case side2 => exact HC1.out); rintro e w218 ⟨v521, rfl, ho0, hb⟩; refine ⟨_, rfl, ?_⟩; have n0_ := Aside0.mk (Kd.R_lower ho0 (below_size (by repeat (first | (with_reducible first | exact HB.out | apply below_alloc | apply pw_below_drewN | apply below_drew1) | exact HB.out)))); have n1_ := Aside0.mk (below_step (by repeat (first | (with_reducible first | exact HB.out | apply below_alloc | apply pw_below_drewN | apply below_drew1) | exact HB.out)) hb); clear HB; have HO522 := n0_; have HB := n1_; clear n0_ n1_; (try clear hb); (try clear ho0); obtain ⟨Ao219, co219, eo219⟩ := Kd.R_slice HO522.out; subst eo219) | ((with_reducible refine gate_callee (f := 29) rfl ?_); refine goesL_ (some 232) rfl rfl Try.func29 (by kernel_rfl) rfl #[.slice Ao219 t519.length co219, .int .i64 t520] rfl (by (try simp only [List.map_toArray, List.map_cons, List.map_nil]); first | done | rfl | (simp only [List.length_drop, List.length_take]; rfl)) ?_; (with_reducible refine (impl_InSet.calls kj153 _ _ t519 t520 t523 t524 _ ?side1 ?side2 A210.out).mono ?_); (case side1 => repeat (first | exact (Kd.R_reads' HO522.out).2.2 | (with_reducible refine Kd.C_alloc ?_ _) | (with_reducible refine Kd.C_drewN ?_ _) | (with_reducible refine Kd.C_drew ?_))); (case side2 => exact (Kd.R_reads' HO522.out).2.1); rintro e w220 ⟨rfl, hb⟩; refine ⟨_, rfl, ?_⟩; have n0_ := Aside0.mk (Kd.R_below (by (with_reducible repeat (first | apply Kd.R_alloc | apply Kd.R_drewN | apply Kd.R_drew)); exact HO522.out) hb); have n1_ := Aside0.mk (below_step (by repeat (first | (with_reducible first | exact HB.out | apply below_alloc | apply pw_below_drewN | apply below_drew1) | exact HB.out)) hb); clear HO522; clear HB; have HO522 := n0_; have HB := n1_; clear n0_ n1_; (try clear hb); ) | ((with_reducible refine gate_callee (f := 31) rfl ?_); refine goesL_ (some 238) rfl rfl Try.func31 (by kernel_rfl) rfl #[.slice Ao219 t519.length co219, .int .i64 t520] rfl (by (try simp only [List.map_toArray, List.map_cons, List.map_nil]); first | done | rfl | (simp only [List.length_drop, List.length_take]; rfl)) ?_; (with_reducible refine (spec_InSet.calls kj153 _ _ t519 t520 t525 t526 _ ?side1 ?side2 A211.out).mono ?_); (case side1 => repeat (first | exact (Kd.R_reads' HO522.out).2.2 | (with_reducible refine Kd.C_alloc ?_ _) | (with_reducible refine Kd.C_drewN ?_ _) | (with_reducible refine Kd.C_drew ?_))); (case side2 => exact (Kd.R_reads' HO522.out).2.1); rintro e w' ⟨rfl, ⟨nd, rfl⟩⟩; refine ⟨_, rfl, ?_⟩) | ((with_reducible refine gate_callee (f := 32) rfl ?_); refine goesL_ (some 242) rfl rfl Try.func32 (by kernel_rfl) rfl #[.slice A1 l1.length c1] rfl (by (try simp only [List.map_toArray, List.map_cons, List.map_nil]); first | done | rfl | (simp only [List.length_drop, List.length_take]; rfl)) ?_; (with_reducible refine (spec_DrawCountSet.calls kj153 _ _ l1 t527 _ ?side1 ?side2 A212.out).mono ?_); (case side1 => repeat (first | exact (Kd.C_below HR1.out (by repeat (first | (with_reducible first | exact HB.out | apply below_alloc | apply pw_below_drewN | apply below_drew1) | exact HB.out))) | (with_reducible refine Kd.C_alloc ?_ _) | (with_reducible refine Kd.C_drewN ?_ _) | (with_reducible refine Kd.C_drew ?_))); (case side2 => exact HC1.out); rintro e w221 ⟨v528, rfl, ho0, hb⟩; refine ⟨_, rfl, ?_⟩; have n0_ := Aside0.mk (Kd.R_elder' (by (with_reducible repeat (first | apply Kd.R_alloc | apply Kd.R_drewN | apply Kd.R_drew)); exact HO522.out) (Kd.R_base ho0) hb); have n1_ := Aside0.mk (Kd.R_lower (Kd.R_new' ho0 (Kd.R_lt (by (with_reducible repeat (first | apply Kd.R_alloc | apply Kd.R_drewN | apply Kd.R_drew)); exact HO522.out))) (below_size (by repeat (first | (with_reducible first | exact HB.out | apply below_alloc | apply pw_below_drewN | apply below_drew1) | exact HB.out)))); have n2_ := Aside0.mk (below_step (by repeat (first | (with_reducible first | exact HB.out | apply below_alloc | apply pw_below_drewN | apply below_drew1) | exact HB.out)) hb); clear HO522; clear HB; have HO522 := n0_; have HO529 := n1_; have HB := n2_; clear n0_ n1_ n2_; (try clear hb); (try clear ho0); obtain ⟨Ao222, co222, eo222⟩ := Kd.R_slice HO529.out; subst eo222) | ((with_reducible refine gate_callee (f := 30) rfl ?_); refine goesL_ (some 245) rfl rfl Try.func30 (by kernel_rfl) rfl #[.slice Ao222 t527.length co222] rfl (by (try simp only [List.map_toArray, List.map_cons, List.map_nil]); first | done | rfl | (simp only [List.length_drop, List.length_take]; rfl)) ?_; (with_reducible refine (impl_CountSet.calls kj153 _ _ t527 t530 t531 _ ?side1 ?side2 A213.out).mono ?_); (case side1 => repeat (first | exact (Kd.R_reads' HO529.out).2.2 | (with_reducible refine Kd.C_alloc ?_ _) | (with_reducible refine Kd.C_drewN ?_ _) | (with_reducible refine Kd.C_drew ?_))); (case side2 => exact (Kd.R_reads' HO529.out).2.1); rintro e w223 ⟨rfl, hb⟩; refine ⟨_, rfl, ?_⟩; have n0_ := Aside0.mk (Kd.R_below (by (with_reducible repeat (first | apply Kd.R_alloc | apply Kd.R_drewN | apply Kd.R_drew)); exact HO522.out) hb); have n1_ := Aside0.mk (Kd.R_below (by (with_reducible repeat (first | apply Kd.R_alloc | apply Kd.R_drewN | apply Kd.R_drew)); exact HO529.out) hb); have n2_ := Aside0.mk (below_step (by repeat (first | (with_reducible first | exact HB.out | apply below_alloc | apply pw_below_drewN | apply below_drew1) | exact HB.out)) hb); clear HO522; clear HO529; clear HB; have HO522 := n0_; have HO529 := n1_; have HB := n2_; clear n0_ n1_ n2_; (try clear hb); ) | ((with_reducible refine gate_callee (f := 33) rfl ?_); refine goesL_ (some 250) rfl rfl Try.func33 (by kernel_rfl) rfl #[.slice Ao222 t527.length co222] rfl (by (try simp only [List.map_toArray, List.map_cons, List.map_nil]); first | done | rfl | (simp only [List.length_drop, List.length_take]; rfl)) ?_; (with_reducible refine (spec_CountSet.calls kj153 _ _ t527 t532 t533 _ ?side1 ?side2 A214.out).mono ?_); (case side1 => repeat (first | exact (Kd.R_reads' HO529.out).2.2 | (with_reducible refine Kd.C_alloc ?_ _) | (with_reducible refine Kd.C_drewN ?_ _) | (with_reducible refine Kd.C_drew ?_))); (case side2 => exact (Kd.R_reads' HO529.out).2.1); rintro e w' ⟨rfl, ⟨nd, rfl⟩⟩; refine ⟨_, rfl, ?_⟩)))
                            all_goals (go_ret)
                            all_goals (exact ⟨by first | rfl | (simp [errW_none, errW_some] <;> rfl) | (simp [*, errW_none, errW_some] <;> rfl), by repeat (first | (with_reducible first | exact HB.out | apply below_alloc | apply pw_below_drewN | apply below_drew1) | exact HB.out)⟩)
                          · rw [if_neg c217] at H
                            have c217b0 : (t531 == t533) = false := by simpa using c217
                            (try (have c217b1 : decide (t531 = t533) = false := by simpa using c217))
                            (try (have c217b2 : (t531 == t533) = false := by simpa using c217))
                            (try (have c217b3 : ¬ (t531 = t533) := by simpa using c217))
                            clear c217
                            obtain rfl := Option.some.inj H
                            (first | exact absurd hr_ (by decide) | skip)
                            all_goals (go_wp2_with (first | ((with_reducible refine gate_callee (f := 28) rfl ?_); refine goesL_ (some 226) rfl rfl Try.func28 (by kernel_rfl) rfl #[.slice A1 l1.length c1] rfl (by (try simp only [List.map_toArray, List.map_cons, List.map_nil]); first | done | rfl | (simp only [List.length_drop, List.length_take]; rfl)) ?_; (with_reducible refine (spec_DrawInSet.calls kj153 _ _ l1 t519 t520 _ ?side1 ?side2 A209.out).mono ?_); (case side1 => repeat (first | exact (Kd.C_below HR1.out HB.out) | (with_reducible refine Kd.C_alloc ?_ _) | (with_reducible refine Kd.C_drewN ?_ _) | (with_reducible refine Kd.C_drew ?_))); (case side2 => exact HC1.out); rintro e w224 ⟨v521, rfl, ho0, hb⟩; refine ⟨_, rfl, ?_⟩; have n0_ := Aside0.mk (Kd.R_lower ho0 (below_size (by repeat (first | (with_reducible first | exact HB.out | apply below_alloc | apply pw_below_drewN | apply below_drew1) | exact HB.out)))); have n1_ := Aside0.mk (below_step (by repeat (first | (with_reducible first | exact HB.out | apply below_alloc | apply pw_below_drewN | apply below_drew1) | exact HB.out)) hb); clear HB; have HO522 := n0_; have HB := n1_; clear n0_ n1_; (try clear hb); (try clear ho0); obtain ⟨Ao225, co225, eo225⟩ := Kd.R_slice HO522.out; subst eo225) | ((with_reducible refine gate_callee (f := 29) rfl ?_); refine goesL_ (some 232) rfl rfl Try.func29 (by kernel_rfl) rfl #[.slice Ao225 t519.length co225, .int .i64 t520] rfl (by (try simp only [List.map_toArray, List.map_cons, List.map_nil]); first | done | rfl | (simp only [List.length_drop, List.length_take]; rfl)) ?_; (with_reducible refine (impl_InSet.calls kj153 _ _ t519 t520 t523 t524 _ ?side1 ?side2 A210.out).mono ?_); (case side1 => repeat (first | exact (Kd.R_reads' HO522.out).2.2 | (with_reducible refine Kd.C_alloc ?_ _) | (with_reducible refine Kd.C_drewN ?_ _) | (with_reducible refine Kd.C_drew ?_))); (case side2 => exact (Kd.R_reads' HO522.out).2.1); rintro e w226 ⟨rfl, hb⟩; refine ⟨_, rfl, ?_⟩; have n0_ := Aside0.mk (Kd.R_below (by (with_reducible repeat (first | apply Kd.R_alloc | apply Kd.R_drewN | apply Kd.R_drew)); exact HO522.out) hb); have n1_ := Aside0.mk (below_step (by repeat (first | (with_reducible first | exact HB.out | apply below_alloc | apply pw_below_drewN | apply below_drew1) | exact HB.out)) hb); clear HO522; clear HB; have HO522 := n0_; have HB := n1_; clear n0_ n1_; (try clear hb); ) | ((with_reducible refine gate_callee (f := 31) rfl ?_); refine goesL_ (some 238) rfl rfl Try.func31 (by kernel_rfl) rfl #[.slice Ao225 t519.length co225, .int .i64 t520] rfl (by (try simp only [List.map_toArray, List.map_cons, List.map_nil]); first | done | rfl | (simp only [List.length_drop, List.length_take]; rfl)) ?_; (with_reducible refine (spec_InSet.calls kj153 _ _ t519 t520 t525 t526 _ ?side1 ?side2 A211.out).mono ?_); (case side1 => repeat (first | exact (Kd.R_reads' HO522.out).2.2 | (with_reducible refine Kd.C_alloc ?_ _) | (with_reducible refine Kd.C_drewN ?_ _) | (with_reducible refine Kd.C_drew ?_))); (case side2 => exact (Kd.R_reads' HO522.out).2.1); rintro e w' ⟨rfl, ⟨nd, rfl⟩⟩; refine ⟨_, rfl, ?_⟩) | ((with_reducible refine gate_callee (f := 32) rfl ?_); refine goesL_ (some 242) rfl rfl Try.func32 (by kernel_rfl) rfl #[.slice A1 l1.length c1] rfl (by (try simp only [List.map_toArray, List.map_cons, List.map_nil]); first | done | rfl | (simp only [List.length_drop, List.length_take]; rfl)) ?_; (with_reducible refine (spec_DrawCountSet.calls kj153 _ _ l1 t527 _ ?side1 ?side2 A212.out).mono ?_); (case side1 => repeat (first | exact (Kd.C_below HR1.out (by repeat (first | (with_reducible first | exact HB.out | apply below_alloc | apply pw_below_drewN | apply below_drew1) | exact HB.out))) | (with_reducible refine Kd.C_alloc ?_ _) | (with_reducible refine Kd.C_drewN ?_ _) | (with_reducible refine Kd.C_drew ?_))); (case side2 => exact HC1.out); rintro e w227 ⟨v528, rfl, ho0, hb⟩; refine ⟨_, rfl, ?_⟩; have n0_ := Aside0.mk (Kd.R_elder' (by (with_reducible repeat (first | apply Kd.R_alloc | apply Kd.R_drewN | apply Kd.R_drew)); exact HO522.out) (Kd.R_base ho0) hb); have n1_ := Aside0.mk (Kd.R_lower (Kd.R_new' ho0 (Kd.R_lt (by (with_reducible repeat (first | apply Kd.R_alloc | apply Kd.R_drewN | apply Kd.R_drew)); exact HO522.out))) (below_size (by repeat (first | (with_reducible first | exact HB.out | apply below_alloc | apply pw_below_drewN | apply below_drew1) | exact HB.out)))); have n2_ := Aside0.mk (below_step (by repeat (first | (with_reducible first | exact HB.out | apply below_alloc | apply pw_below_drewN | apply below_drew1) | exact HB.out)) hb); clear HO522; clear HB; have HO522 := n0_; have HO529 := n1_; have HB := n2_; clear n0_ n1_ n2_; (try clear hb); (try clear ho0); obtain ⟨Ao228, co228, eo228⟩ := Kd.R_slice HO529.out; subst eo228) | ((with_reducible refine gate_callee (f := 30) rfl ?_); refine goesL_ (some 245) rfl rfl Try.func30 (by kernel_rfl) rfl #[.slice Ao228 t527.length co228] rfl (by (try simp only [List.map_toArray, List.map_cons, List.map_nil]); first | done | rfl | (simp only [List.length_drop, List.length_take]; rfl)) ?_; (with_reducible refine (impl_CountSet.calls kj153 _ _ t527 t530 t531 _ ?side1 ?side2 A213.out).mono ?_); (case side1 => repeat (first | exact (Kd.R_reads' HO529.out).2.2 | (with_reducible refine Kd.C_alloc ?_ _) | (with_reducible refine Kd.C_drewN ?_ _) | (with_reducible refine Kd.C_drew ?_))); (case side2 => exact (Kd.R_reads' HO529.out).2.1); rintro e w229 ⟨rfl, hb⟩; refine ⟨_, rfl, ?_⟩; have n0_ := Aside0.mk (Kd.R_below (by (with_reducible repeat (first | apply Kd.R_alloc | apply Kd.R_drewN | apply Kd.R_drew)); exact HO522.out) hb); have n1_ := Aside0.mk (Kd.R_below (by (with_reducible repeat (first | apply Kd.R_alloc | apply Kd.R_drewN | apply Kd.R_drew)); exact HO529.out) hb); have n2_ := Aside0.mk (below_step (by repeat (first | (with_reducible first | exact HB.out | apply below_alloc | apply pw_below_drewN | apply below_drew1) | exact HB.out)) hb); clear HO522; clear HO529; clear HB; have HO522 := n0_; have HO529 := n1_; have HB := n2_; clear n0_ n1_ n2_; (try clear hb); ) | ((with_reducible refine gate_callee (f := 33) rfl ?_); refine goesL_ (some 250) rfl rfl Try.func33 (by kernel_rfl) rfl #[.slice Ao228 t527.length co228] rfl (by (try simp only [List.map_toArray, List.map_cons, List.map_nil]); first | done | rfl | (simp only [List.length_drop, List.length_take]; rfl)) ?_; (with_reducible refine (spec_CountSet.calls kj153 _ _ t527 t532 t533 _ ?side1 ?side2 A214.out).mono ?_); (case side1 => repeat (first | exact (Kd.R_reads' HO529.out).2.2 | (with_reducible refine Kd.C_alloc ?_ _) | (with_reducible refine Kd.C_drewN ?_ _) | (with_reducible refine Kd.C_drew ?_))); (case side2 => exact (Kd.R_reads' HO529.out).2.1); rintro e w' ⟨rfl, ⟨nd, rfl⟩⟩; refine ⟨_, rfl, ?_⟩)))
                            all_goals (go_ret)
                            all_goals (exact ⟨by first | rfl | (simp [errW_none, errW_some] <;> rfl) | (simp [*, errW_none, errW_some] <;> rfl), by repeat (first | (with_reducible first | exact HB.out | apply below_alloc | apply pw_below_drewN | apply below_drew1) | exact HB.out)⟩)
                        · rw [if_neg c216] at H
                          have c216b0 : (t523 == t525) = false := by simpa using c216
                          (try (have c216b1 : decide (t523 = t525) = false := by simpa using c216))
                          (try (have c216b2 : (t523 == t525) = false := by simpa using c216))
                          (try (have c216b3 : ¬ (t523 = t525) := by simpa using c216))
                          clear c216
                          obtain rfl := Option.some.inj H
                          (first | exact absurd hr_ (by decide) | skip)
                          all_goals (go_wp2_with (first | ((with_reducible refine gate_callee (f := 28) rfl ?_); refine goesL_ (some 226) rfl rfl Try.func28 (by kernel_rfl) rfl #[.slice A1 l1.length c1] rfl (by (try simp only [List.map_toArray, List.map_cons, List.map_nil]); first | done | rfl | (simp only [List.length_drop, List.length_take]; rfl)) ?_; (with_reducible refine (spec_DrawInSet.calls kj153 _ _ l1 t519 t520 _ ?side1 ?side2 A209.out).mono ?_); (case side1 => repeat (first | exact (Kd.C_below HR1.out HB.out) | (with_reducible refine Kd.C_alloc ?_ _) | (with_reducible refine Kd.C_drewN ?_ _) | (with_reducible refine Kd.C_drew ?_))); (case side2 => exact HC1.out); rintro e w230 ⟨v521, rfl, ho0, hb⟩; refine ⟨_, rfl, ?_⟩; have n0_ := Aside0.mk (Kd.R_lower ho0 (below_size (by repeat (first | (with_reducible first | exact HB.out | apply below_alloc | apply pw_below_drewN | apply below_drew1) | exact HB.out)))); have n1_ := Aside0.mk (below_step (by repeat (first | (with_reducible first | exact HB.out | apply below_alloc | apply pw_below_drewN | apply below_drew1) | exact HB.out)) hb); clear HB; have HO522 := n0_; have HB := n1_; clear n0_ n1_; (try clear hb); (try clear ho0); obtain ⟨Ao231, co231, eo231⟩ := Kd.R_slice HO522.out; subst eo231) | ((with_reducible refine gate_callee (f := 29) rfl ?_); refine goesL_ (some 232) rfl rfl Try.func29 (by kernel_rfl) rfl #[.slice Ao231 t519.length co231, .int .i64 t520] rfl (by (try simp only [List.map_toArray, List.map_cons, List.map_nil]); first | done | rfl | (simp only [List.length_drop, List.length_take]; rfl)) ?_; (with_reducible refine (impl_InSet.calls kj153 _ _ t519 t520 t523 t524 _ ?side1 ?side2 A210.out).mono ?_); (case side1 => repeat (first | exact (Kd.R_reads' HO522.out).2.2 | (with_reducible refine Kd.C_alloc ?_ _) | (with_reducible refine Kd.C_drewN ?_ _) | (with_reducible refine Kd.C_drew ?_))); (case side2 => exact (Kd.R_reads' HO522.out).2.1); rintro e w232 ⟨rfl, hb⟩; refine ⟨_, rfl, ?_⟩; have n0_ := Aside0.mk (Kd.R_below (by (with_reducible repeat (first | apply Kd.R_alloc | apply Kd.R_drewN | apply Kd.R_drew)); exact HO522.out) hb); have n1_ := Aside0.mk (below_step (by repeat (first | (with_reducible first | exact HB.out | apply below_alloc | apply pw_below_drewN | apply below_drew1) | exact HB.out)) hb); clear HO522; clear HB; have HO522 := n0_; have HB := n1_; clear n0_ n1_; (try clear hb); ) | ((with_reducible refine gate_callee (f := 31) rfl ?_); refine goesL_ (some 238) rfl rfl Try.func31 (by kernel_rfl) rfl #[.slice Ao231 t519.length co231, .int .i64 t520] rfl (by (try simp only [List.map_toArray, List.map_cons, List.map_nil]); first | done | rfl | (simp only [List.length_drop, List.length_take]; rfl)) ?_; (with_reducible refine (spec_InSet.calls kj153 _ _ t519 t520 t525 t526 _ ?side1 ?side2 A211.out).mono ?_); (case side1 => repeat (first | exact (Kd.R_reads' HO522.out).2.2 | (with_reducible refine Kd.C_alloc ?_ _) | (with_reducible refine Kd.C_drewN ?_ _) | (with_reducible refine Kd.C_drew ?_))); (case side2 => exact (Kd.R_reads' HO522.out).2.1); rintro e w' ⟨rfl, ⟨nd, rfl⟩⟩; refine ⟨_, rfl, ?_⟩) | ((with_reducible refine gate_callee (f := 32) rfl ?_); refine goesL_ (some 242) rfl rfl Try.func32 (by kernel_rfl) rfl #[.slice A1 l1.length c1] rfl (by (try simp only [List.map_toArray, List.map_cons, List.map_nil]); first | done | rfl | (simp only [List.length_drop, List.length_take]; rfl)) ?_; (with_reducible refine (spec_DrawCountSet.calls kj153 _ _ l1 t527 _ ?side1 ?side2 A212.out).mono ?_); (case side1 => repeat (first | exact (Kd.C_below HR1.out (by repeat (first | (with_reducible first | exact HB.out | apply below_alloc | apply pw_below_drewN | apply below_drew1) | exact HB.out))) | (with_reducible refine Kd.C_alloc ?_ _) | (with_reducible refine Kd.C_drewN ?_ _) | (with_reducible refine Kd.C_drew ?_))); (case side2 => exact HC1.out); rintro e w233 ⟨v528, rfl, ho0, hb⟩; refine ⟨_, rfl, ?_⟩; have n0_ := Aside0.mk (Kd.R_elder' (by (with_reducible repeat (first | apply Kd.R_alloc | apply Kd.R_drewN | apply Kd.R_drew)); exact HO522.out) (Kd.R_base ho0) hb); have n1_ := Aside0.mk (Kd.R_lower (Kd.R_new' ho0 (Kd.R_lt (by (with_reducible repeat (first | apply Kd.R_alloc | apply Kd.R_drewN | apply Kd.R_drew)); exact HO522.out))) (below_size (by repeat (first | (with_reducible first | exact HB.out | apply below_alloc | apply pw_below_drewN | apply below_drew1) | exact HB.out)))); have n2_ := Aside0.mk (below_step (by repeat (first | (with_reducible first | exact HB.out | apply below_alloc | apply pw_below_drewN | apply below_drew1) | exact HB.out)) hb); clear HO522; clear HB; have HO522 := n0_; have HO529 := n1_; have HB := n2_; clear n0_ n1_ n2_; (try clear hb); (try clear ho0); obtain ⟨Ao234, co234, eo234⟩ := Kd.R_slice HO529.out; subst eo234) | ((with_reducible refine gate_callee (f := 30) rfl ?_); refine goesL_ (some 245) rfl rfl Try.func30 (by kernel_rfl) rfl #[.slice Ao234 t527.length co234] rfl (by (try simp only [List.map_toArray, List.map_cons, List.map_nil]); first | done | rfl | (simp only [List.length_drop, List.length_take]; rfl)) ?_; (with_reducible refine (impl_CountSet.calls kj153 _ _ t527 t530 t531 _ ?side1 ?side2 A213.out).mono ?_); (case side1 => repeat (first | exact (Kd.R_reads' HO529.out).2.2 | (with_reducible refine Kd.C_alloc ?_ _) | (with_reducible refine Kd.C_drewN ?_ _) | (with_reducible refine Kd.C_drew ?_))); (case side2 => exact (Kd.R_reads' HO529.out).2.1); rintro e w235 ⟨rfl, hb⟩; refine ⟨_, rfl, ?_⟩; have n0_ := Aside0.mk (Kd.R_below (by (with_reducible repeat (first | apply Kd.R_alloc | apply Kd.R_drewN | apply Kd.R_drew)); exact HO522.out) hb); have n1_ := Aside0.mk (Kd.R_below (by (with_reducible repeat (first | apply Kd.R_alloc | apply Kd.R_drewN | apply Kd.R_drew)); exact HO529.out) hb); have n2_ := Aside0.mk (below_step (by repeat (first | (with_reducible first | exact HB.out | apply below_alloc | apply pw_below_drewN | apply below_drew1) | exact HB.out)) hb); clear HO522; clear HO529; clear HB; have HO522 := n0_; have HO529 := n1_; have HB := n2_; clear n0_ n1_ n2_; (try clear hb); ) | ((with_reducible refine gate_callee (f := 33) rfl ?_); refine goesL_ (some 250) rfl rfl Try.func33 (by kernel_rfl) rfl #[.slice Ao234 t527.length co234] rfl (by (try simp only [List.map_toArray, List.map_cons, List.map_nil]); first | done | rfl | (simp only [List.length_drop, List.length_take]; rfl)) ?_; (with_reducible refine (spec_CountSet.calls kj153 _ _ t527 t532 t533 _ ?side1 ?side2 A214.out).mono ?_); (case side1 => repeat (first | exact (Kd.R_reads' HO529.out).2.2 | (with_reducible refine Kd.C_alloc ?_ _) | (with_reducible refine Kd.C_drewN ?_ _) | (with_reducible refine Kd.C_drew ?_))); (case side2 => exact (Kd.R_reads' HO529.out).2.1); rintro e w' ⟨rfl, ⟨nd, rfl⟩⟩; refine ⟨_, rfl, ?_⟩)))
                          all_goals (go_ret)
                          all_goals (exact ⟨by first | rfl | (simp [errW_none, errW_some] <;> rfl) | (simp [*, errW_none, errW_some] <;> rfl), by repeat (first | (with_reducible first | exact HB.out | apply below_alloc | apply pw_below_drewN | apply below_drew1) | exact HB.out)⟩)
                      · rw [if_neg c215] at H
                        have c215b0 : (t524 == t526) = false := by simpa using c215
                        (try (have c215b1 : decide (t524 = t526) = false := by simpa using c215))
                        (try (have c215b2 : (t524 == t526) = false := by simpa using c215))
                        (try (have c215b3 : ¬ (t524 = t526) := by simpa using c215))
                        clear c215
                        obtain rfl := Option.some.inj H
                        (first | exact absurd hr_ (by decide) | skip)
                        all_goals (go_wp2_with (first | ((with_reducible refine gate_callee (f := 28) rfl ?_); refine goesL_ (some 226) rfl rfl Try.func28 (by kernel_rfl) rfl #[.slice A1 l1.length c1] rfl (by (try simp only [List.map_toArray, List.map_cons, List.map_nil]); first | done | rfl | (simp only [List.length_drop, List.length_take]; rfl)) ?_; (with_reducible refine (spec_DrawInSet.calls kj153 _ _ l1 t519 t520 _ ?side1 ?side2 A209.out).mono ?_); (case side1 => repeat (first | exact (Kd.C_below HR1.out HB.out) | (with_reducible refine Kd.C_alloc ?_ _) | (with_reducible refine Kd.C_drewN ?_ _) | (with_reducible refine Kd.C_drew ?_))); (case side2 => exact HC1.out); rintro e w236 ⟨v521, rfl, ho0, hb⟩; refine ⟨_, rfl, ?_⟩; have n0_ := Aside0.mk (Kd.R_lower ho0 (below_size (by repeat (first | (with_reducible first | exact HB.out | apply below_alloc | apply pw_below_drewN | apply below_drew1) | exact HB.out)))); have n1_ := Aside0.mk (below_step (by repeat (first | (with_reducible first | exact HB.out | apply below_alloc | apply pw_below_drewN | apply below_drew1) | exact HB.out)) hb); clear HB; have HO522 := n0_; have HB := n1_; clear n0_ n1_; (try clear hb); (try clear ho0); obtain ⟨Ao237, co237, eo237⟩ := Kd.R_slice HO522.out; subst eo237) | ((with_reducible refine gate_callee (f := 29) rfl ?_); refine goesL_ (some 232) rfl rfl Try.func29 (by kernel_rfl) rfl #[.slice Ao237 t519.length co237, .int .i64 t520] rfl (by (try simp only [List.map_toArray, List.map_cons, List.map_nil]); first | done | rfl | (simp only [List.length_drop, List.length_take]; rfl)) ?_; (with_reducible refine (impl_InSet.calls kj153 _ _ t519 t520 t523 t524 _ ?side1 ?side2 A210.out).mono ?_); (case side1 => repeat (first | exact (Kd.R_reads' HO522.out).2.2 | (with_reducible refine Kd.C_alloc ?_ _) | (with_reducible refine Kd.C_drewN ?_ _) | (with_reducible refine Kd.C_drew ?_))); (case side2 => exact (Kd.R_reads' HO522.out).2.1); rintro e w238 ⟨rfl, hb⟩; refine ⟨_, rfl, ?_⟩; have n0_ := Aside0.mk (Kd.R_below (by (with_reducible repeat (first | apply Kd.R_alloc | apply Kd.R_drewN | apply Kd.R_drew)); exact HO522.out) hb); have n1_ := Aside0.mk (below_step (by repeat (first | (with_reducible first | exact HB.out | apply below_alloc | apply pw_below_drewN | apply below_drew1) | exact HB.out)) hb); clear HO522; clear HB; have HO522 := n0_; have HB := n1_; clear n0_ n1_; (try clear hb); ) | ((with_reducible refine gate_callee (f := 31) rfl ?_); refine goesL_ (some 238) rfl rfl Try.func31 (by kernel_rfl) rfl #[.slice Ao237 t519.length co237, .int .i64 t520] rfl (by (try simp only [List.map_toArray, List.map_cons, List.map_nil]); first | done | rfl | (simp only [List.length_drop, List.length_take]; rfl)) ?_; (with_reducible refine (spec_InSet.calls kj153 _ _ t519 t520 t525 t526 _ ?side1 ?side2 A211.out).mono ?_); (case side1 => repeat (first | exact (Kd.R_reads' HO522.out).2.2 | (with_reducible refine Kd.C_alloc ?_ _) | (with_reducible refine Kd.C_drewN ?_ _) | (with_reducible refine Kd.C_drew ?_))); (case side2 => exact (Kd.R_reads' HO522.out).2.1); rintro e w' ⟨rfl, ⟨nd, rfl⟩⟩; refine ⟨_, rfl, ?_⟩) | ((with_reducible refine gate_callee (f := 32) rfl ?_); refine goesL_ (some 242) rfl rfl Try.func32 (by kernel_rfl) rfl #[.slice A1 l1.length c1] rfl (by (try simp only [List.map_toArray, List.map_cons, List.map_nil]); first | done | rfl | (simp only [List.length_drop, List.length_take]; rfl)) ?_; (with_reducible refine (spec_DrawCountSet.calls kj153 _ _ l1 t527 _ ?side1 ?side2 A212.out).mono ?_); (case side1 => repeat (first | exact (Kd.C_below HR1.out (by repeat (first | (with_reducible first | exact HB.out | apply below_alloc | apply pw_below_drewN | apply below_drew1) | exact HB.out))) | (with_reducible refine Kd.C_alloc ?_ _) | (with_reducible refine Kd.C_drewN ?_ _) | (with_reducible refine Kd.C_drew ?_))); (case side2 => exact HC1.out); rintro e w239 ⟨v528, rfl, ho0, hb⟩; refine ⟨_, rfl, ?_⟩; have n0_ := Aside0.mk (Kd.R_elder' (by (with_reducible repeat (first | apply Kd.R_alloc | apply Kd.R_drewN | apply Kd.R_drew)); exact HO522.out) (Kd.R_base ho0) hb); have n1_ := Aside0.mk (Kd.R_lower (Kd.R_new' ho0 (Kd.R_lt (by (with_reducible repeat (first | apply Kd.R_alloc | apply Kd.R_drewN | apply Kd.R_drew)); exact HO522.out))) (below_size (by repeat (first | (with_reducible first | exact HB.out | apply below_alloc | apply pw_below_drewN | apply below_drew1) | exact HB.out)))); have n2_ := Aside0.mk (below_step (by repeat (first | (with_reducible first | exact HB.out | apply below_alloc | apply pw_below_drewN | apply below_drew1) | exact HB.out)) hb); clear HO522; clear HB; have HO522 := n0_; have HO529 := n1_; have HB := n2_; clear n0_ n1_ n2_; (try clear hb); (try clear ho0); obtain ⟨Ao240, co240, eo240⟩ := Kd.R_slice HO529.out; subst eo240) | ((with_reducible refine gate_callee (f := 30) rfl ?_); refine goesL_ (some 245) rfl rfl Try.func30 (by kernel_rfl) rfl #[.slice Ao240 t527.length co240] rfl (by (try simp only [List.map_toArray, List.map_cons, List.map_nil]); first | done | rfl | (simp only [List.length_drop, List.length_take]; rfl)) ?_; (with_reducible refine (impl_CountSet.calls kj153 _ _ t527 t530 t531 _ ?side1 ?side2 A213.out).mono ?_); (case side1 => repeat (first | exact (Kd.R_reads' HO529.out).2.2 | (with_reducible refine Kd.C_alloc ?_ _) | (with_reducible refine Kd.C_drewN ?_ _) | (with_reducible refine Kd.C_drew ?_))); (case side2 => exact (Kd.R_reads' HO529.out).2.1); rintro e w241 ⟨rfl, hb⟩; refine ⟨_, rfl, ?_⟩; have n0_ := Aside0.mk (Kd.R_below (by (with_reducible repeat (first | apply Kd.R_alloc | apply Kd.R_drewN | apply Kd.R_drew)); exact HO522.out) hb); have n1_ := Aside0.mk (Kd.R_below (by (with_reducible repeat (first | apply Kd.R_alloc | apply Kd.R_drewN | apply Kd.R_drew)); exact HO529.out) hb); have n2_ := Aside0.mk (below_step (by repeat (first | (with_reducible first | exact HB.out | apply below_alloc | apply pw_below_drewN | apply below_drew1) | exact HB.out)) hb); clear HO522; clear HO529; clear HB; have HO522 := n0_; have HO529 := n1_; have HB := n2_; clear n0_ n1_ n2_; (try clear hb); ) | ((with_reducible refine gate_callee (f := 33) rfl ?_); refine goesL_ (some 250) rfl rfl Try.func33 (by kernel_rfl) rfl #[.slice Ao240 t527.length co240] rfl (by (try simp only [List.map_toArray, List.map_cons, List.map_nil]); first | done | rfl | (simp only [List.length_drop, List.length_take]; rfl)) ?_; (with_reducible refine (spec_CountSet.calls kj153 _ _ t527 t532 t533 _ ?side1 ?side2 A214.out).mono ?_); (case side1 => repeat (first | exact (Kd.R_reads' HO529.out).2.2 | (with_reducible refine Kd.C_alloc ?_ _) | (with_reducible refine Kd.C_drewN ?_ _) | (with_reducible refine Kd.C_drew ?_))); (case side2 => exact (Kd.R_reads' HO529.out).2.1); rintro e w' ⟨rfl, ⟨nd, rfl⟩⟩; refine ⟨_, rfl, ?_⟩)))
                        all_goals (go_ret)
                        all_goals (exact ⟨by first | rfl | (simp [errW_none, errW_some] <;> rfl) | (simp [*, errW_none, errW_some] <;> rfl), by repeat (first | (with_reducible first | exact HB.out | apply below_alloc | apply pw_below_drewN | apply below_drew1) | exact HB.out)⟩)

/-- THE ONE PURE STATEMENT of laws_FnSets: yours. -/
def laws_FnSets.Pure : Prop := ∀ (l0 : List Int) (l1 : List Int), l0.length ≤ maxLen → l0.length * 1 ≤ 140737488351232 → (∀ x ∈ l0, (Lit.int .u8 x).wf = true) → l1.length ≤ maxLen → l1.length * 1 ≤ 140737488351232 → (∀ x ∈ l1, (Lit.int .u8 x).wf = true) → ∃ k, laws_FnSets.f k l0 l1 = some true
theorem laws_FnSets.walk (P : laws_FnSets.Pure) (a0 : Option Addr) (len0 cap0 : Nat) (z0 : List Int) (a1 : Option Addr) (len1 cap1 : Nat) (z1 : List Int) (w : World) (w0 : (a0 = none ∧ len0 = 0 ∧ cap0 = 0 ∧ z0 = []) ∨ ∃ x, a0 = some x ∧ len0 ≤ cap0 ∧ cap0 ≤ maxLen ∧ z0.length = cap0 ∧ (∀ i, i < z0.length → w.cell? (x.add i) = some (.int .u8 (z0.getD i 0))) ∧ ∀ n ∈ z0, (Lit.int .u8 n).wf = true) (y0 : len0 * 1 ≤ 140737488351232) (w1 : (a1 = none ∧ len1 = 0 ∧ cap1 = 0 ∧ z1 = []) ∨ ∃ x, a1 = some x ∧ len1 ≤ cap1 ∧ cap1 ≤ maxLen ∧ z1.length = cap1 ∧ (∀ i, i < z1.length → w.cell? (x.add i) = some (.int .u8 (z1.getD i 0))) ∧ ∀ n ∈ z1, (Lit.int .u8 n).wf = true) (y1 : len1 * 1 ≤ 140737488351232) :
    Calls Try.prog 7 #[.slice a0 len0 cap0, .slice a1 len1 cap1] w fun e w' => e = .returned (.bool true) ∧ Below w.heap.size w w' := by
  obtain ⟨l0, rfl, hr0, hm0, hw0, hc0⟩ := ReadsInt.ofRowC w0
  obtain ⟨l1, rfl, hr1, hm1, hw1, hc1⟩ := ReadsInt.ofRowC w1
  obtain ⟨k, h⟩ := P l0 l1 hm0 y0 hw0 hm1 y1 hw1
  refine (laws_FnSets.calls k _ _ l0 _ _ l1 true w (Kd.C_of_reads (d := (0 : Int)) (h1 := fun _ => rfl) hr0) hc0 (Kd.C_of_reads (d := (0 : Int)) (h1 := fun _ => rfl) hr1) hc1 h rfl).mono ?_
  rintro e w' ⟨rfl, hd⟩
  exact ⟨rfl, hd⟩

end Go.Proofs.Ythincjdobjccfaa.HFnSets
