/-
  The tied card of the law FnExactFlushDecoder: for every input true, the arguments read as they did; the two tables of unicode/utf8 read as the program's text lays them. Written by wip/mkcard.py of this session.
-/
import Derived.Test.YtbofmfilnjcihaaDoorRows
import Derived.Test.YtbofmfilnjcihaaDoorHFnExactFlushDecoderx11
import Derived.Test.YtbofmfilnjcihaaDoorPureFnExactFlushDecoder
import Derived.Test.YtbofmfilnjcihaaDoorOpen
import Derived.WalkKit
import Derived.ProofKit
import Derived.OpenShut
import Derived.ShutString
import Derived.ChangeOld
import Derived.Below
import Derived.SizedLaws
import Derived.Test.YtbofmfilnjcihaaDoorWSized
import Derived.Test.YtbofmfilnjcihaaDoorTie
import Derived.Test.YtbofmfilnjcihaaDoorCards
import Derived.Lib.LaidU8T
import Derived.Lib.LaidIn
import Derived.PinnedBridge
import Derived.Lay
import Derived.LaidMore
import Derived.SevenTiedAt
import Derived.Stop.Joined
namespace Go.Proofs.YtbofmfilnjcihaaDoor.fnExactFlushDecoder
open Go.Proofs Go.Lib Go.ChangeShapes Go.WideShapes Go.ChangeAt Go.RowKit
open Go.ChangeMaps (open_string shut_string)
set_option linter.unusedVariables false
def renU : Go.Shelf.Ren := ⟨fun n => n, fun | 5 => 5 | 119 => 57 | 138 => 59 | 139 => 60 | n => n, fun | 3 => 0 | 4 => 1 | n => n⟩
theorem u8t : U8Types Tryd.prog renU := ⟨by kernel_rfl, by kernel_rfl, by kernel_rfl, by kernel_rfl⟩
theorem own : ownKnob Tryd.prog.godebug = none := by kernel_rfl
theorem laidOut : laidOutB Tryd.prog = true := by kernel_rfl
set_option maxRecDepth 100000 in
set_option maxHeartbeats 4000000 in
theorem lifted (os : Os) (started : os.Started) (H : Type) (enc : TypeId × Value → H) :
    ReturnsInHanded {} Tryd.checked os 7 .any (fun w args => (Rows.fnExactFlushDecoderSpec.pre enc Tryd.prog Tryd.f7 [] false w args ∧ laidMetH Tryd.prog Rows.fnExactFlushDecoderRow.laid w) ∧ sizedMet enc Tryd.prog Tryd.f7 (OpenSpec.ofChange Rows.fnExactFlushDecoderSpec) false w args) (Rows.fnExactFlushDecoderSpec.post enc Tryd.prog Tryd.f7 false true false false) := by
  refine returnsInHanded_of_change_and (C := Tryd.checked) (X := fun w _ => laidMetH Tryd.prog Rows.fnExactFlushDecoderRow.laid w) (fun _ _ _ hh h => h.of_heap hh) own started (by kernel_rfl) Tryd.func7
    (ChangeSpec.witness_shaped (enc := enc) (C := Tryd.checked) (os := os) (X := fun w _ => laidMetH Tryd.prog Rows.fnExactFlushDecoderRow.laid w) false (World.laidAll Tryd.prog os Rows.fnExactFlushDecoderRow.laid) #[.agg #[.int .i64 0, .int .i64 0, .int .i64 0, .string ByteArray.empty]] 8 (World.laidAll_os _ _ _)
      (World.shaped_of_ZipB (by kernel_rfl) (by kernel_rfl)) (by kernel_rfl) (by kernel_rfl) (by kernel_rfl)
      (by rw [MakeChecks.laidMetH_plain _ _ _ (by kernel_rfl)]; exact laidMet_laidAll _ (by kernel_rfl) (by kernel_rfl))) ?_
  intro W base args ds gs before hval0 hW hcnd hsz0 hL _
  have hsz : (DataW.weightsEach Tryd.prog (Tryd.f7.params.toList ++ Rows.fnExactFlushDecoderSpec.plain.varTypes Tryd.prog) (ds ++ gs)).all (· ≤ reachBytes) = true := hsz0
  have hval : ∀ (j : Nat) t v, Tryd.f7.params[j]? = some t → args[j]? = some v → Value.okWide Tryd.prog W .any base t v := hval0
  have hW' := hW
  obtain ⟨p, q, hA0, hV, rfl, hfz, hnd⟩ := hW
  have hA : DataW.TrodAll enc Tryd.prog W 0 (fun _ => true) true Tryd.f7.params.toList args.toList ds p := hA0
  rw [Tryd.params7] at hA hval hsz
  obtain ⟨v0, vs0, d0, ds0, p0, q0, hargs, rfl, rfl, h0, r0⟩ := trodAll_cons hA
  obtain ⟨rfl, rfl, rfl⟩ := trodAll_nil r0
  obtain rfl : args = #[v0] := by cases args; simp_all
  obtain ⟨rfl, rfl⟩ := trodVars_none hV
  have k0 := h0
  have lt0 : ∀ x ∈ p0, x.block < W.heap.size := by obtain ⟨m, hm⟩ := k0; exact DataW.trod_lt m _ _ _ hm
  obtain ⟨u0_0, u0_1, u0_2, u0_3, y0_0, y0_1, y0_2, y0_3, n0, rfl, _, _, t0_0, t0_1, t0_2, t0_3⟩ := Joins.open_agg4 Tryd.underlying27 (by kernel_rfl) (by kernel_rfl) (hval 0 27 v0 rfl rfl) h0
  obtain ⟨z0_0, rfl, hz0_0⟩ := Open.intv Tryd.underlying3 t0_0
  obtain ⟨z0_1, rfl, hz0_1⟩ := Open.intv Tryd.underlying3 t0_1
  obtain ⟨z0_2, rfl, hz0_2⟩ := Open.intv Tryd.underlying3 t0_2
  obtain ⟨s0_3, rfl, hs0_3⟩ := Open.strv Tryd.underlying9 t0_3
  obtain ⟨k, hk⟩ := Pure.FnExactFlushDecoder z0_0 z0_1 z0_2 s0_3 hs0_3
  rw [MakeChecks.laidMetH_plain _ _ _ (by kernel_rfl)] at hL
  have hT : HFnExactFlushDecoder.Tabs W := utf8Tabs_of_readsT (u8t) ⟨by kernel_rfl, by kernel_rfl, by kernel_rfl, by kernel_rfl, by kernel_rfl, by kernel_rfl, by kernel_rfl⟩ (Go.Pinned.utf8First_eq ▸ Lib.laidMet.reads hL (.tail _ (.head _))) (Lib.laidMet.reads hL (.head _))
  refine (HFnExactFlushDecoder.laws_FnExactFlushDecoder.calls k z0_0 z0_1 z0_2 s0_3 true W  hk hT).mono fun e W' ⟨he, bel⟩ => ?_
  subst he
  exact ⟨_, rfl, _, _, _, [], _, [], hW', trodAll_mk1 (shut_bool Tryd.underlying4 _), (trodAll_cons_mk (Below.trod laidOut (by kernel_rfl) (of_decide_eq_true (by kernel_rfl)) k0 bel lt0) trodAll_mk0), rfl, bel.frame _, fun h => by cases h⟩
theorem over : Rows.fnExactFlushDecoderRow.holds Tryd.pinned (OpenSpec.ofChange Rows.fnExactFlushDecoderSpec) :=
  OpenClaim.holds_of_wide 7 Tryd.f7 rfl rfl rfl rfl rfl rfl rfl ⟨rfl, rfl, rfl, rfl, rfl⟩ rfl rfl rfl rfl rfl (by kernel_rfl) Tryd.func7 (by kernel_rfl)
    (of_decide_eq_true (by kernel_rfl)) (by unfold Func.isWrapper; first | (rw [if_pos (by decide +kernel)]; kernel_rfl) | (rw [if_neg (by decide +kernel)]; exact ⟨rfl, rfl⟩))
    (fun os started H enc _ => lifted os started H enc)
theorem proved : Rows.FnExactFlushDecoderSaid := over
theorem tied : Claim7.holds Tryd.pinned (.plain (OpenSpec.ofChange Rows.fnExactFlushDecoderSpec)) Rows.fnExactFlushDecoderCard :=
  Claim7.holds_tied_plain_at .later [] [.data, .pinned] true (true, "e81dfd15dd209f48634959bc2be3dc665e2e09b05bf2199a2783b09a2c62ca91") false over (fun _ h => by cases h) (by kernel_rfl) (fun _ h => by cases h) fnExactFlushDecoder_row_tie rfl ⟨rfl, rfl⟩ (by kernel_rfl) rfl
    (fun f fn hf hfn => by
      obtain rfl : f = 7 := Option.some.inj ((show Tryd.prog.funcNamed "loop.example/g00692/laws.FnExactFlushDecoder" = some 7 by kernel_rfl).symm.trans hf) |>.symm
      obtain rfl : fn = Tryd.f7 := (Option.some.inj (Tryd.func7.symm.trans hfn)).symm
      exact ⟨by kernel_rfl, fun j t ht => by
        rw [Tryd.params7] at ht
        have hm : t ∈ [27] := by simpa using Array.mem_of_getElem? ht
        have hall : ([27].all fun u => !Tryd.prog.wantsStandIn u) = true := by kernel_rfl
        exact (show Tryd.prog.wantsStandIn t = false by simpa using List.all_eq_true.1 hall t hm)⟩)
    (by kernel_rfl)
end Go.Proofs.YtbofmfilnjcihaaDoor.fnExactFlushDecoder
namespace Go.Proofs.YtbofmfilnjcihaaDoor
/-- The tied card, under a short name, for the claim. -/
theorem fnExactFlushDecoder_holds : Rows.FnExactFlushDecoderCardSaid := fnExactFlushDecoder.tied
#print axioms fnExactFlushDecoder_holds
end Go.Proofs.YtbofmfilnjcihaaDoor
