/- The row of ReportRecs: behind any call the law told true, and all that was handed in reads as it did. Written by openrow.py, this work's own program. -/
import Derived.Test.YtlhmpmmblnbmbaaDoorRows
import Derived.Test.YtlhmpmmblnbmbaaDoorOpnReportRecs
import Derived.WalkKit
import Derived.ProofKit
import Derived.OpenShut
import Derived.ShutString
import Derived.ChangeOld
import Derived.Below
import Derived.SizedLaws
import Derived.LaidMore
import Derived.Lay
import Derived.Stop.LaidErr
import Derived.SevenTiedAt
import Derived.Test.YtlhmpmmblnbmbaaDoorCards
import Derived.Test.YtlhmpmmblnbmbaaDoorTie
import Derived.Test.YtlhmpmmblnbmbaaDoorRepPow
namespace Go.Proofs.YtlhmpmmblnbmbaaDoor.reportRecs
open Go.ChangeShapes Go.WideShapes Go.ChangeAt Go.RowKit
open Go.ChangeMaps (open_string shut_string)
open Go.Proofs.YtlhmpmmblnbmbaaDoor.PReportZones Go.Proofs.YtlhmpmmblnbmbaaDoorW.PrintWords Go.Proofs.YtlhmpmmblnbmbaaDoorW.PrintLast Go.Proofs.YtlhmpmmblnbmbaaDoorW.PrintMore Go.Proofs.YtlhmpmmblnbmbaaDoor.Open
set_option linter.unusedVariables false
open Go.Proofs.YtlhmpmmblnbmbaaDoor.Rep Go.Lib
theorem b8_of {l : List Int} (h : ∀ y ∈ l, (Lit.int .u8 y).wf = true) : B8 l := fun x hx => bounds_u8 (h x hx)
theorem own : ownKnob Tryd.prog.godebug = none := by kernel_rfl
theorem laid : laidOutB Tryd.prog = true := by kernel_rfl
theorem reads : (Tryd.f5.params.toList.all fun t => Tryd.prog.readableRec t && decide (t < Tryd.prog.types.size)) = true := by kernel_rfl
set_option maxRecDepth 100000 in
set_option maxHeartbeats 4000000 in
theorem lifted (os : Os) (started : os.Started) (H : Type) (enc : TypeId × Value → H) :
    ReturnsInHanded {} Tryd.checked os 5 .any (fun w args => (Rows.reportRecsSpec.pre enc Tryd.prog Tryd.f5 Rows.reportRecsRow.domain false w args ∧ laidMetH Tryd.prog Rows.reportRecsRow.laid w) ∧ sizedMet enc Tryd.prog Tryd.f5 (OpenSpec.ofChange Rows.reportRecsSpec) false w args) (Rows.reportRecsSpec.post enc Tryd.prog Tryd.f5 false true false false) := by
  refine returnsInHanded_of_change_and (C := Tryd.checked) (X := fun w _ => laidMetH Tryd.prog Rows.reportRecsRow.laid w) (fun _ _ _ hh h => h.of_heap hh) own started (by kernel_rfl) Tryd.func5
    (ChangeSpec.witness_shaped (enc := enc) (C := Tryd.checked) (os := os) (X := fun w _ => laidMetH Tryd.prog Rows.reportRecsRow.laid w) false (World.laidAll Tryd.prog os Rows.reportRecsRow.laid) #[.agg #[.int .i64 0, .int .i64 0, .int .i64 0, .int .i64 0, .int .i64 0, .int .i64 0, .int .i64 0, .int .i64 0, .int .i64 0, .slice none 0 0], .agg #[.int .i64 0, .slice none 0 0, .int .i64 0, .int .i64 0, .int .i64 0], .slice none 0 0] 8 (World.laidAll_os _ _ _)
      (World.shaped_of_ZipB (by kernel_rfl) (by kernel_rfl)) (by kernel_rfl) (by kernel_rfl) (by kernel_rfl)
      (by rw [MakeChecks.laidMetH_plain _ _ _ (by kernel_rfl)]; exact laidMet_laidAll _ (by kernel_rfl) (by kernel_rfl))) ?_
  intro W base args ds gs before hval0 hW hcnd hsz0 hL _
  have hsz : (DataW.weightsEach Tryd.prog (Tryd.f5.params.toList ++ Rows.reportRecsSpec.plain.varTypes Tryd.prog) (ds ++ gs)).all (· ≤ reachBytes) = true := hsz0
  have hval : ∀ (j : Nat) t v, Tryd.f5.params[j]? = some t → args[j]? = some v → Value.okWide Tryd.prog W .any base t v := hval0
  have hW' := hW
  obtain ⟨p, q, hA0, hV, rfl, hfz, hnd⟩ := hW
  have hA : DataW.TrodAll enc Tryd.prog W 0 (fun _ => true) true Tryd.f5.params.toList args.toList ds p := hA0
  have hA2 := hA
  rw [Tryd.params5] at hA hval hsz
  obtain ⟨v0, vs0, d0, ds0, p0, q0, hargs, rfl, rfl, h0, r0⟩ := trodAll_cons hA
  obtain ⟨v1, vs1, d1, ds1, p1, q1, rfl, rfl, rfl, h1, r1⟩ := trodAll_cons r0
  obtain ⟨v2, vs2, d2, ds2, p2, q2, rfl, rfl, rfl, h2, r2⟩ := trodAll_cons r1
  obtain ⟨rfl, rfl, rfl⟩ := trodAll_nil r2
  obtain rfl : args = #[v0, v1, v2] := by cases args; simp_all
  obtain ⟨rfl, rfl⟩ := trodVars_none hV
  obtain ⟨a0, cs0, rfl, hk0, g0⟩ := arg_struct Tryd.underlying45 o45 (hval 0 45 v0 rfl rfl) h0
  obtain ⟨a1, cs1, rfl, hk1, g1⟩ := arg_struct Tryd.underlying48 o48 (hval 1 48 v1 rfl rfl) h1
  obtain ⟨a2, A2, c2, rfl, hc2, hr2, g2⟩ := arg_slice Tryd.underlying43 o43 (hval 2 43 v2 rfl rfl) h2
  clear hA0 hval0 hsz0 hsz
  have hpow := pow_of hL
  obtain ⟨A, c, rfl, hC⟩ := k45_open hk0
  obtain ⟨Ad, cd, rfl⟩ := k48_open hk1
  refine (lawrecs_c a0.f0 a0.f1 a0.f2 a0.f3 a0.f4 a0.f5 a0.f6 a0.f7 a0.f8 a0.f9 A c (bounds_i64 g0.2.1) (bounds_i64 g0.2.2.1) (bounds_i64 g0.2.2.2.1) (bounds_i64 g0.2.2.2.2.1) (bounds_i64 g0.2.2.2.2.2.1) (bounds_i64 g0.2.2.2.2.2.2.1) (bounds_i64 g0.2.2.2.2.2.2.2.1) (bounds_i64 g0.2.2.2.2.2.2.2.2.1) (b8_of g0.2.2.2.2.2.2.2.2.2.2) W hC a1.f0 a1.f2.f0 a1.f2.f1 a1.f2.f2 a1.f1 Ad cd (bounds_i64 g1.1) (bounds_i64 g1.2.2.2.1) a2 A2 c2 (b8_of g2.2) hr2 hpow).mono fun e W' ⟨he, bel⟩ => ?_
  subst he
  exact ⟨_, rfl, _, _, _, [], _, [], hW', trodAll_mk1 (shut_bool Tryd.underlying4 _), args_stay laid reads hA2 bel, rfl, bel.frame _, fun h => by cases h⟩
theorem over : Rows.reportRecsRow.holds Tryd.pinned (OpenSpec.ofChange Rows.reportRecsSpec) :=
  OpenClaim.holds_of_wide 5 Tryd.f5 rfl rfl rfl rfl rfl rfl rfl ⟨rfl, rfl, rfl, rfl, rfl⟩ rfl rfl rfl rfl rfl (by kernel_rfl) Tryd.func5 (by kernel_rfl)
    (of_decide_eq_true (by kernel_rfl)) (by unfold Func.isWrapper; first | (rw [if_pos (by decide +kernel)]; kernel_rfl) | (rw [if_neg (by decide +kernel)]; exact ⟨rfl, rfl⟩))
    (fun os started H enc _ => lifted os started H enc)
theorem proved : Rows.ReportRecsSaid := over
/-- The tied card. -/
theorem card : Rows.ReportRecsCardSaid :=
  Claim7.holds_tied_plain_at .later [] [.data, .data, .data] true (true, "9a8eeaf265d1964f626dea6041a18db30e6902f0d6d62871fe9f7aac8942600e") false
    proved (fun _ h => by cases h) (by kernel_rfl) (fun _ h => by cases h) reportRecs_row_tie rfl ⟨rfl, rfl⟩ (by kernel_rfl) rfl
    (fun f fn hf hfn => by
      obtain rfl : f = 5 := Option.some.inj ((show Tryd.prog.funcNamed "revetment/revetmentlaw32.ReportRecs" = some 5 by kernel_rfl).symm.trans hf) |>.symm
      obtain rfl : fn = Tryd.f5 := (Option.some.inj (Tryd.func5.symm.trans hfn)).symm
      exact ⟨by kernel_rfl, fun j t ht => by
        rw [Tryd.params5] at ht
        have hm : t ∈ [45, 48, 43] := by simpa using Array.mem_of_getElem? ht
        have hall : ([45, 48, 43].all fun u => !Tryd.prog.wantsStandIn u) = true := by kernel_rfl
        exact (show Tryd.prog.wantsStandIn t = false by simpa using List.all_eq_true.1 hall t hm)⟩)
    (by kernel_rfl)
#print axioms card
end Go.Proofs.YtlhmpmmblnbmbaaDoor.reportRecs
namespace Go.Proofs.YtlhmpmmblnbmbaaDoor
/-- The row, under a short name, for the claim. -/
theorem reportRecs_holds : Rows.ReportRecsCardSaid := reportRecs.card
end Go.Proofs.YtlhmpmmblnbmbaaDoor
