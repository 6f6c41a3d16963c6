/- The row of ReportLogs: behind any call the law told true, and all that was handed in reads as it did. Written by openrow.py, this work's own program. -/
import Derived.Test.YtlhmpmmblnbmbaaDoorRows
import Derived.Test.YtlhmpmmblnbmbaaDoorOpnReportLogs
import Derived.WalkKit
import Derived.ProofKit
import Derived.OpenShut
import Derived.ShutString
import Derived.ChangeOld
import Derived.Below
import Derived.SizedLaws
import Derived.LaidMore
import Derived.Lay
import Derived.Stop.LaidErr
import Derived.SevenTiedAt
import Derived.Test.YtlhmpmmblnbmbaaDoorCards
import Derived.Test.YtlhmpmmblnbmbaaDoorTie
import Derived.Test.YtlhmpmmblnbmbaaDoorRepPow
namespace Go.Proofs.YtlhmpmmblnbmbaaDoor.reportLogs
open Go.ChangeShapes Go.WideShapes Go.ChangeAt Go.RowKit
open Go.ChangeMaps (open_string shut_string)
open Go.Proofs.YtlhmpmmblnbmbaaDoor.PReportZones Go.Proofs.YtlhmpmmblnbmbaaDoorW.PrintWords Go.Proofs.YtlhmpmmblnbmbaaDoorW.PrintLast Go.Proofs.YtlhmpmmblnbmbaaDoorW.PrintMore Go.Proofs.YtlhmpmmblnbmbaaDoor.Open
set_option linter.unusedVariables false
open Go.Proofs.YtlhmpmmblnbmbaaDoor.Rep Go.Lib
theorem good84 {l : List S84} (h : ∀ y ∈ l, Q84 y) (i : Nat) : G84 (l.getD i z84) := by
  by_cases hi : i < l.length
  · have := h (l.getD i z84) (by rw [List.getD_eq_getElem?_getD, List.getElem?_eq_getElem hi]; exact List.getElem_mem hi)
    exact bounds_i64 this.1
  · rw [List.getD_eq_getElem?_getD, List.getElem?_eq_none (by omega)]; show I64 0; unfold I64; omega
theorem good82 {l : List S82} (h : ∀ y ∈ l, Q82 y) (i : Nat) : G82 (l.getD i z82) := by
  by_cases hi : i < l.length
  · have := h (l.getD i z82) (by rw [List.getD_eq_getElem?_getD, List.getElem?_eq_getElem hi]; exact List.getElem_mem hi)
    exact ⟨bounds_i64 this.1, bounds_i64 this.2.1, bounds_i64 this.2.2.2.1, good84 this.2.2.2.2.2.2⟩
  · rw [List.getD_eq_getElem?_getD, List.getElem?_eq_none (by omega)]
    exact ⟨by show I64 0; unfold I64; omega, by show I64 0; unfold I64; omega, by show I64 0; unfold I64; omega, fun i => by show I64 (([] : List S84).getD i z84).f0; rw [List.getD_nil]; show I64 0; unfold I64; omega⟩
theorem own : ownKnob Tryd.prog.godebug = none := by kernel_rfl
theorem laid : laidOutB Tryd.prog = true := by kernel_rfl
theorem reads : (Tryd.f4.params.toList.all fun t => Tryd.prog.readableRec t && decide (t < Tryd.prog.types.size)) = true := by kernel_rfl
set_option maxRecDepth 100000 in
set_option maxHeartbeats 4000000 in
theorem lifted (os : Os) (started : os.Started) (H : Type) (enc : TypeId × Value → H) :
    ReturnsInHanded {} Tryd.checked os 4 .any (fun w args => (Rows.reportLogsSpec.pre enc Tryd.prog Tryd.f4 Rows.reportLogsRow.domain false w args ∧ laidMetH Tryd.prog Rows.reportLogsRow.laid w) ∧ sizedMet enc Tryd.prog Tryd.f4 (OpenSpec.ofChange Rows.reportLogsSpec) false w args) (Rows.reportLogsSpec.post enc Tryd.prog Tryd.f4 false true false false) := by
  refine returnsInHanded_of_change_and (C := Tryd.checked) (X := fun w _ => laidMetH Tryd.prog Rows.reportLogsRow.laid w) (fun _ _ _ hh h => h.of_heap hh) own started (by kernel_rfl) Tryd.func4
    (ChangeSpec.witness_shaped (enc := enc) (C := Tryd.checked) (os := os) (X := fun w _ => laidMetH Tryd.prog Rows.reportLogsRow.laid w) false (World.laidAll Tryd.prog os Rows.reportLogsRow.laid) #[.agg #[.int .i64 0, .int .i64 0, .int .i64 0, .int .i64 0, .int .i64 0, .int .i64 0, .int .i64 0, .int .i64 0, .int .i64 0, .int .i64 0, .int .i64 0], .agg #[.int .i64 0, .int .i64 0, .int .i64 0, .int .i64 0, .int .i64 0, .int .i64 0, .int .i64 0, .int .i64 0, .int .i64 0, .int .i64 0, .int .i64 0, .int .i64 0, .int .i64 0, .slice none 0 0, .slice none 0 0]] 8 (World.laidAll_os _ _ _)
      (World.shaped_of_ZipB (by kernel_rfl) (by kernel_rfl)) (by kernel_rfl) (by kernel_rfl) (by kernel_rfl)
      (by rw [MakeChecks.laidMetH_plain _ _ _ (by kernel_rfl)]; exact laidMet_laidAll _ (by kernel_rfl) (by kernel_rfl))) ?_
  intro W base args ds gs before hval0 hW hcnd hsz0 hL _
  have hsz : (DataW.weightsEach Tryd.prog (Tryd.f4.params.toList ++ Rows.reportLogsSpec.plain.varTypes Tryd.prog) (ds ++ gs)).all (· ≤ reachBytes) = true := hsz0
  have hval : ∀ (j : Nat) t v, Tryd.f4.params[j]? = some t → args[j]? = some v → Value.okWide Tryd.prog W .any base t v := hval0
  have hW' := hW
  obtain ⟨p, q, hA0, hV, rfl, hfz, hnd⟩ := hW
  have hA : DataW.TrodAll enc Tryd.prog W 0 (fun _ => true) true Tryd.f4.params.toList args.toList ds p := hA0
  have hA2 := hA
  rw [Tryd.params4] at hA hval hsz
  obtain ⟨v0, vs0, d0, ds0, p0, q0, hargs, rfl, rfl, h0, r0⟩ := trodAll_cons hA
  obtain ⟨v1, vs1, d1, ds1, p1, q1, rfl, rfl, rfl, h1, r1⟩ := trodAll_cons r0
  obtain ⟨rfl, rfl, rfl⟩ := trodAll_nil r1
  obtain rfl : args = #[v0, v1] := by cases args; simp_all
  obtain ⟨rfl, rfl⟩ := trodVars_none hV
  obtain ⟨a0, cs0, rfl, hk0, g0⟩ := arg_struct Tryd.underlying34 o34 (hval 0 34 v0 rfl rfl) h0
  obtain ⟨a1, cs1, rfl, hk1, g1⟩ := arg_struct Tryd.underlying38 o38 (hval 1 38 v1 rfl rfl) h1
  clear hA0 hval0 hsz0 hsz
  have hpow := pow_of hL
  have hg0 : G34 a0 := ⟨bounds_i64 g0.1, bounds_i64 g0.2.1, bounds_i64 g0.2.2.1, bounds_i64 g0.2.2.2.1, bounds_i64 g0.2.2.2.2.1, bounds_i64 g0.2.2.2.2.2.1, bounds_i64 g0.2.2.2.2.2.2.1, bounds_i64 g0.2.2.2.2.2.2.2.1, bounds_i64 g0.2.2.2.2.2.2.2.2.1, bounds_i64 g0.2.2.2.2.2.2.2.2.2.1, bounds_i64 g0.2.2.2.2.2.2.2.2.2.2⟩
  have hz : ∀ i, G82 (a1.f4.getD i z82) := fun i => good82 g1.2.2.2.2.2 i
  obtain rfl := k34_open hk0
  obtain ⟨As, ks, Az, kz, rfl, hs, hzc⟩ := k38_open hk1
  refine (lawlogs_c a0 hg0 a1.f0 a1.f1 a1.f2 a1.f3 a1.f4 As Az ks kz (bounds_i64 g1.2.1) (bounds_i64 g1.2.2.1) g1.2.2.2.1.1 g1.2.2.2.2.1 hz W hs hzc hpow).mono fun e W' ⟨he, bel⟩ => ?_
  subst he
  exact ⟨_, rfl, _, _, _, [], _, [], hW', trodAll_mk1 (shut_bool Tryd.underlying4 _), args_stay laid reads hA2 bel, rfl, bel.frame _, fun h => by cases h⟩
theorem over : Rows.reportLogsRow.holds Tryd.pinned (OpenSpec.ofChange Rows.reportLogsSpec) :=
  OpenClaim.holds_of_wide 4 Tryd.f4 rfl rfl rfl rfl rfl rfl rfl ⟨rfl, rfl, rfl, rfl, rfl⟩ rfl rfl rfl rfl rfl (by kernel_rfl) Tryd.func4 (by kernel_rfl)
    (of_decide_eq_true (by kernel_rfl)) (by unfold Func.isWrapper; first | (rw [if_pos (by decide +kernel)]; kernel_rfl) | (rw [if_neg (by decide +kernel)]; exact ⟨rfl, rfl⟩))
    (fun os started H enc _ => lifted os started H enc)
theorem proved : Rows.ReportLogsSaid := over
/-- The tied card. -/
theorem card : Rows.ReportLogsCardSaid :=
  Claim7.holds_tied_plain_at .later [] [.data, .data, .data] true (true, "9a8eeaf265d1964f626dea6041a18db30e6902f0d6d62871fe9f7aac8942600e") false
    proved (fun _ h => by cases h) (by kernel_rfl) (fun _ h => by cases h) reportLogs_row_tie rfl ⟨rfl, rfl⟩ (by kernel_rfl) rfl
    (fun f fn hf hfn => by
      obtain rfl : f = 4 := Option.some.inj ((show Tryd.prog.funcNamed "revetment/revetmentlaw32.ReportLogs" = some 4 by kernel_rfl).symm.trans hf) |>.symm
      obtain rfl : fn = Tryd.f4 := (Option.some.inj (Tryd.func4.symm.trans hfn)).symm
      exact ⟨by kernel_rfl, fun j t ht => by
        rw [Tryd.params4] at ht
        have hm : t ∈ [34, 38] := by simpa using Array.mem_of_getElem? ht
        have hall : ([34, 38].all fun u => !Tryd.prog.wantsStandIn u) = true := by kernel_rfl
        exact (show Tryd.prog.wantsStandIn t = false by simpa using List.all_eq_true.1 hall t hm)⟩)
    (by kernel_rfl)
#print axioms card
end Go.Proofs.YtlhmpmmblnbmbaaDoor.reportLogs
namespace Go.Proofs.YtlhmpmmblnbmbaaDoor
/-- The row, under a short name, for the claim. -/
theorem reportLogs_holds : Rows.ReportLogsCardSaid := reportLogs.card
end Go.Proofs.YtlhmpmmblnbmbaaDoor
