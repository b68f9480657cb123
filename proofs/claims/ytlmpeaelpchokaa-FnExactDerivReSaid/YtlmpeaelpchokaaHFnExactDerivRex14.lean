/- Written by wip/pr.py of this session, for the law FnExactDerivRe: Lean functions with the answers of the program's, and the proofs of that; where the kit's print has no word, by hand. -/
import Derived.Test.YtlmpeaelpchokaaHFnExactDerivRex0
import Derived.Test.YtlmpeaelpchokaaHFnExactDerivRex1
import Derived.Test.YtlmpeaelpchokaaHFnExactDerivRex2
import Derived.Test.YtlmpeaelpchokaaHFnExactDerivRex7
import Derived.Test.YtlmpeaelpchokaaHFnExactDerivRex13
noncomputable section
namespace Go.Proofs.Ytlmpeaelpchokaa.HFnExactDerivRe
set_option maxHeartbeats 8000000
set_option maxRecDepth 100000
open Go.RowKit Go.Proofs.YtlmpeaelpchokaaW.PrintWords Go.Proofs.YtlmpeaelpchokaaW.PrintLast Go.Proofs.YtlmpeaelpchokaaW.PrintMore

set_option linter.unusedVariables false
set_option linter.unusedSimpArgs false

/-- The law's way where it returns true. -/
def laws_FnExactDerivRe.f (k : Nat) (l0 : List S48) (a1 : Int) : Option Bool :=
 (laws_szReS.f k l0 1048576).bind fun v => if v < 0 then some true else
 (laws_toReS.f k l0).bind fun x => (spec_DerivRe.f k x a1).bind fun s => (impl_DerivRe.f k x a1).bind fun g =>
 (laws_eqReS.f k g.1 s.1).bind fun e1 => (laws_eqReS.f k x x).bind fun e2 => (laws_markReS.f k x 1).bind fun m1 => (laws_markReS.f k g.1 1).bind fun m2 => (laws_heldReS.f k m2.2 1).bind fun q =>
 if e1 = true then if e2 = true then if g.2 = s.2 then if m1.1 < 0 then none else if q < 0 then none else if q = m2.1 then some true else none else none else none else none
theorem laws_FnExactDerivRe.calls (k : Nat) (A0 : Option Addr) (c0 : Nat) (l0 : List S48) (a1 : Int) (r : Bool) (w : World) (hr0 : Kd.C k48 w A0 l0.length l0) (hc0 : l0.length ≤ c0) (h : laws_FnExactDerivRe.f k l0 a1 = some r) :
  Calls Try.prog 11 #[.slice A0 l0.length c0, .int .i64 a1] w fun e w' => e = .returned (.bool r) ∧ Below w.heap.size w w' := by
 unfold laws_FnExactDerivRe.f at h
 obtain ⟨v, hvq, h⟩ := Option.bind_eq_some_iff.mp h
 have HA := Aside0.mk (fun (W : World) (hb : Below w.heap.size w W) => Kd.C_below hr0 hb)
 have HSZ := Aside0.mk (laws_szReS.calls k A0 c0 l0 1048576 v w hr0 hc0 hvq)
 have HC0 := Aside0.mk hc0
 clear hr0 hc0 hvq
 by_cases hneg : v < 0
 ·rw [if_pos hneg] at h
  obtain rfl := Option.some.inj h
  have hd : decide (v < 0) = true := decide_eq_true hneg
  clear h hneg HA HC0
  go_enter Try.func11, Try.ntmps11
  go_wp2_with (go_at_call 13; refine HSZ.out.mono ?_; rintro e w' ⟨rfl, hb⟩; have HB := Aside0.mk hb; clear hb)
  go_ret
  exact ⟨rfl, HB.out⟩
 ·rw [if_neg hneg] at h
  have hd : decide (v < 0) = false := decide_eq_false hneg
  clear hneg
  obtain ⟨x, hx, h⟩ := Option.bind_eq_some_iff.mp h
  obtain ⟨⟨s, ok⟩, hs, h⟩ := Option.bind_eq_some_iff.mp h
  obtain ⟨⟨g, ok2⟩, hg, h⟩ := Option.bind_eq_some_iff.mp h
  obtain ⟨e1, he1, h⟩ := Option.bind_eq_some_iff.mp h
  obtain ⟨e2, he2, h⟩ := Option.bind_eq_some_iff.mp h
  obtain ⟨⟨m1, x'⟩, hm1, h⟩ := Option.bind_eq_some_iff.mp h
  obtain ⟨⟨m2, g'⟩, hm2, h⟩ := Option.bind_eq_some_iff.mp h
  obtain ⟨q, hq, h⟩ := Option.bind_eq_some_iff.mp h
  split at h
  case isFalse => cases h
  rename_i e1t
  split at h
  case isFalse => cases h
  rename_i e2t
  split at h
  case isFalse => cases h
  rename_i okt
  split at h
  case isTrue => cases h
  rename_i m1n
  split at h
  case isTrue => cases h
  rename_i qn
  split at h
  case isFalse => cases h
  rename_i qm
  obtain rfl := Option.some.inj h
  clear h
  subst e1t e2t qm
  have okt' : ok2 = ok := okt
  subst okt'
  have d1 : decide (m1 < 0) = false := decide_eq_false m1n
  have d2 : decide (q < 0) = false := decide_eq_false qn
  have HX := Aside0.mk hx
  have HS := Aside0.mk hs
  have HG := Aside0.mk hg
  have HE1 := Aside0.mk he1
  have HE2 := Aside0.mk he2
  have HM1 := Aside0.mk hm1
  have HM2 := Aside0.mk hm2
  have HQ := Aside0.mk hq
  clear hx hs hg he1 he2 hm1 hm2 hq okt m1n qn
  go_enter Try.func11, Try.ntmps11
  -- szReS
  go_wp2_with fail
  refine HSZ.out.mono ?_
  rintro e w1 ⟨rfl, hb⟩
  have HB1 := Aside0.mk hb
  clear hb HSZ
  -- toReS
  go_wp2_with fail
  refine (laws_toReS.calls k A0 c0 l0 x w1 (HA.out w1 HB1.out) HC0.out HX.out).mono ?_
  rintro e w2 ⟨v1, rfl, ho, hb⟩
  obtain ⟨A1, c1, hv1, hl1, hC1⟩ := Kd.S_reads ho
  subst hv1
  have HB2 := Aside0.mk (HB1.out.trans (hb.mono HB1.out.size))
  have HC1 := Aside0.mk hC1
  have HL1 := Aside0.mk hl1
  clear ho hb hC1 hl1 HB1
  -- spec
  go_wp2_with fail
  refine (spec_DerivRe.calls k A1 c1 x a1 s ok2 w2 HC1.out HL1.out HS.out).mono ?_
  rintro e w3 ⟨vs, rfl, ho, hb⟩
  obtain ⟨As, cs, hvs, hls, hCs⟩ := (by first | exact Kd.N_reads ho | exact Kd.S_reads ho | exact Kd.R_reads ho)
  subst hvs
  have HB3 := Aside0.mk (HB2.out.trans (hb.mono HB2.out.size))
  have HCs := Aside0.mk (fun (W : World) (h : Below w3.heap.size w3 W) => Kd.C_below hCs h)
  have HLs := Aside0.mk hls
  clear ho hb hCs hls HB2 HC1 HL1
  -- toReS: x0
  go_wp2_with fail
  refine (laws_toReS.calls k A0 c0 l0 x w3 (HA.out w3 HB3.out) HC0.out HX.out).mono ?_
  rintro e w4 ⟨vx, rfl, ho, hb⟩
  have hz4 := hb.size
  have hsx := Kd.S_bound ho
  have hSx := Kd.S_mono hsx (ok' := fun k_ => w3.heap.size ≤ k_ ∧ k_ < w4.heap.size) (fun k_ h => ⟨h.2.1, h.2.2.1⟩)
  obtain ⟨Ax, cx, hvx, hlx, hCx⟩ := Kd.S_reads hSx
  subst hvx
  have HSx := Aside0.mk hSx
  have HB4 := Aside0.mk hb
  have HZ4 := Aside0.mk hz4
  have HCx := Aside0.mk hCx
  have HLx := Aside0.mk hlx
  clear ho hb hsx hSx hCx hlx hz4
  -- impl: g0
  go_wp2_with fail
  refine (impl_DerivRe.calls k _ Ax cx x a1 g ok2 w4 (Kd.S_V HSx.out) HG.out).mono ?_
  rintro e w5 ⟨vg, rfl, ho, hb⟩
  have hSg := Kd.S_mono (Kd.S_bound ho) (ok' := fun k_ => w4.heap.size ≤ k_ ∧ k_ < w5.heap.size) (fun k_ h => ⟨h.2.1, h.2.2.1⟩)
  obtain ⟨Ag, cg, hvg, hlg, hCg⟩ := Kd.S_reads hSg
  subst hvg
  have HSx5 := Aside0.mk (Kd.S_below HSx.out hb)
  have HSg := Aside0.mk hSg
  have HZ5 := Aside0.mk hb.size
  have HB5 := Aside0.mk (HB4.out.trans (hb.mono HB4.out.size))
  have HCg := Aside0.mk hCg
  have HLg := Aside0.mk hlg
  clear ho hb hSg hCg hlg HSx HB4 HCx
  -- eqReS(g0, w0)
  go_wp2_with fail
  refine (laws_eqReS.calls k Ag cg g As cs s true w5 HCg.out HLg.out (HCs.out w5 HB5.out) HLs.out HE1.out).mono ?_
  rintro e w6 ⟨rfl, hb⟩
  have HSx6 := Aside0.mk (Kd.S_below HSx5.out hb)
  have HSg6 := Aside0.mk (Kd.S_below HSg.out hb)
  have HB6 := Aside0.mk (HB5.out.trans (hb.mono HB5.out.size))
  clear hb HSx5 HSg HB5 HCg
  -- toReS, eqReS(x0, ..)
  go_wp2_with fail
  refine (laws_toReS.calls k A0 c0 l0 x w6 (HA.out w6 (HB3.out.trans (HB6.out.mono HB3.out.size))) HC0.out HX.out).mono ?_
  rintro e w7 ⟨vt, rfl, ho, hb⟩
  obtain ⟨At, ct, hvt, hlt, hCt⟩ := Kd.S_reads ho
  subst hvt
  have HSx7 := Aside0.mk (Kd.S_below HSx6.out hb)
  have HSg7 := Aside0.mk (Kd.S_below HSg6.out hb)
  have HB7 := Aside0.mk (HB6.out.trans (hb.mono HB6.out.size))
  have HCt := Aside0.mk hCt
  have HLt := Aside0.mk hlt
  clear ho hb hCt hlt HSx6 HSg6 HB6
  go_wp2_with fail
  refine (laws_eqReS.calls k Ax cx x At ct x true w7 (Kd.S_reads' HSx7.out).2.2 HLx.out HCt.out HLt.out HE2.out).mono ?_
  rintro e w8 ⟨rfl, hb⟩
  have HSx8 := Aside0.mk (Kd.S_below HSx7.out hb)
  have HSg8 := Aside0.mk (Kd.S_below HSg7.out hb)
  have HB8 := Aside0.mk (HB7.out.trans (hb.mono HB7.out.size))
  clear hb HSx7 HSg7 HB7 HCt HLt
  -- markReS(x0)
  go_wp2_with fail
  refine (laws_markReS.calls k (fun k_ => w3.heap.size ≤ k_ ∧ k_ < w4.heap.size) _ x 1 m1 x' w3 w8 HB8.out HSx8.out HM1.out).mono ?_
  rintro e w9 ⟨rfl, _, hb, hk⟩
  have HSg9 := Aside0.mk (Kd.S_kept HSg8.out hk (fun k_ h1 h2 => by omega))
  have HB9 := Aside0.mk hb
  clear hb hk HSx8 HSg8 HB8
  -- eqReS(g0, w0)
  go_wp2_with fail
  refine (laws_eqReS.calls k Ag cg g As cs s true w9 (Kd.S_reads' HSg9.out).2.2 HLg.out (HCs.out w9 HB9.out) HLs.out HE1.out).mono ?_
  rintro e w10 ⟨rfl, hb⟩
  have HSg10 := Aside0.mk (Kd.S_below HSg9.out hb)
  have HB10 := Aside0.mk (HB9.out.trans (hb.mono HB9.out.size))
  clear hb HSg9 HB9
  -- markReS(g0)
  go_wp2_with fail
  refine (laws_markReS.calls k (fun k_ => w4.heap.size ≤ k_ ∧ k_ < w5.heap.size) _ g 1 q g' w3 w10 HB10.out (Kd.S_lower HSg10.out HZ4.out) HM2.out).mono ?_
  rintro e w11 ⟨rfl, ho, hb, hk⟩
  have hgl : g'.length = g.length := by have := (Kd.S_reads' ho).1; omega
  rw [← hgl] at ho
  have HSg11 := Aside0.mk ho
  have HLg' := Aside0.mk (show g'.length ≤ cg by rw [hgl]; exact HLg.out)
  have HGL := Aside0.mk hgl
  have HB11 := Aside0.mk hb
  clear hb hk ho hgl HSg10 HB10
  -- heldReS(g0)
  go_wp2_with fail
  rw [← HGL.out]
  refine (laws_heldReS.calls k Ag cg g' 1 q w11 (Kd.S_reads' HSg11.out).2.2 HLg'.out HQ.out).mono ?_
  rintro e w12 ⟨rfl, ⟨nd, rfl⟩⟩
  -- toReS, impl: h0
  go_wp2_with fail
  refine (laws_toReS.calls k A0 c0 l0 x _ (HA.out _ (HB3.out.trans ((pw_below_drewN HB11.out nd).mono HB3.out.size))) HC0.out HX.out).mono ?_
  rintro e w13 ⟨vt, rfl, ho, hb⟩
  obtain ⟨At, ct, hvt, hlt, hCt⟩ := Kd.S_reads ho
  subst hvt
  have HVt := Aside0.mk ho
  have hbd := pw_below_drewN (Below.refl w11.heap.size w11) nd
  have hb13 : Below w11.heap.size w11 w13 := hbd.trans (hb.mono hbd.size)
  have HSg13 := Aside0.mk (Kd.S_below HSg11.out hb13)
  have HB13 := Aside0.mk (HB11.out.trans (hb13.mono HB11.out.size))
  have HCt := Aside0.mk hCt
  have HLt := Aside0.mk hlt
  clear ho hb hbd hb13 hCt hlt HSg11 HB11
  go_wp2_with fail
  refine (impl_DerivRe.calls k _ At ct x a1 g ok2 w13 (Kd.S_V HVt.out) HG.out).mono ?_
  rintro e w14 ⟨vh, rfl, ho, hb⟩
  obtain ⟨Ah, ch, hvh, hlh, hCh⟩ := Kd.S_reads ho
  subst hvh
  have HSg14 := Aside0.mk (Kd.S_below HSg13.out hb)
  have HB14 := Aside0.mk (HB13.out.trans (hb.mono HB13.out.size))
  have HCh := Aside0.mk hCh
  have HLh := Aside0.mk hlh
  clear ho hb hCh hlh HSg13 HB13 HCt HLt
  -- eqReS(h0, w0)
  go_wp2_with fail
  refine (laws_eqReS.calls k Ah ch g As cs s true w14 HCh.out HLh.out (HCs.out w14 HB14.out) HLs.out HE1.out).mono ?_
  rintro e w15 ⟨rfl, hb⟩
  have HSg15 := Aside0.mk (Kd.S_below HSg14.out hb)
  have HB15 := Aside0.mk (HB14.out.trans (hb.mono HB14.out.size))
  clear hb HSg14 HB14 HCh
  -- heldReS(g0)
  go_wp2_with fail
  refine (laws_heldReS.calls k Ag cg g' 1 q w15 (Kd.S_reads' HSg15.out).2.2 HLg'.out HQ.out).mono ?_
  rintro e w16 ⟨rfl, ⟨nd2, rfl⟩⟩
  go_wp2
  go_ret
  exact ⟨rfl, HB3.out.trans ((pw_below_drewN HB15.out nd2).mono HB3.out.size)⟩

end Go.Proofs.Ytlmpeaelpchokaa.HFnExactDerivRe
