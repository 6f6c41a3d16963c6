/- The row of ReportZones: behind any call the law told true, and all that was handed in reads as it did. Written by openrow.py, this work's own program. -/
import Derived.Test.YtlhmpmmblnbmbaaDoorRows
import Derived.Test.YtlhmpmmblnbmbaaDoorOpnReportZones
import Derived.WalkKit
import Derived.ProofKit
import Derived.OpenShut
import Derived.ShutString
import Derived.ChangeOld
import Derived.Below
import Derived.SizedLaws
import Derived.LaidMore
import Derived.Lay
import Derived.Stop.LaidErr
import Derived.SevenTiedAt
import Derived.Test.YtlhmpmmblnbmbaaDoorCards
import Derived.Test.YtlhmpmmblnbmbaaDoorTie
import Derived.Test.YtlhmpmmblnbmbaaDoorRepLaw
import Derived.Test.YtlhmpmmblnbmbaaDoorRepPow
namespace Go.Proofs.YtlhmpmmblnbmbaaDoor.reportZones
open Go.ChangeShapes Go.WideShapes Go.ChangeAt Go.RowKit
open Go.ChangeMaps (open_string shut_string)
open Go.Proofs.YtlhmpmmblnbmbaaDoor.PReportZones Go.Proofs.YtlhmpmmblnbmbaaDoorW.PrintWords Go.Proofs.YtlhmpmmblnbmbaaDoorW.PrintLast Go.Proofs.YtlhmpmmblnbmbaaDoorW.PrintMore Go.Proofs.YtlhmpmmblnbmbaaDoor.Open
set_option linter.unusedVariables false
open Go.Proofs.YtlhmpmmblnbmbaaDoor.Rep Go.Lib
theorem good24 {l : List S24} (h : ∀ y ∈ l, Q24 y) (i : Nat) : G24 (l.getD i z24) := by
  by_cases hi : i < l.length
  · have := h (l.getD i z24) (by rw [List.getD_eq_getElem?_getD, List.getElem?_eq_getElem hi]; exact List.getElem_mem hi)
    exact ⟨bounds_i64 this.1, bounds_i64 this.2.1, bounds_i64 this.2.2⟩
  · rw [List.getD_eq_getElem?_getD, List.getElem?_eq_none (by omega)]; exact ⟨by unfold I64; decide, by unfold I64; decide, by unfold I64; decide⟩
theorem own : ownKnob Tryd.prog.godebug = none := by kernel_rfl
theorem laid : laidOutB Tryd.prog = true := by kernel_rfl
theorem reads : (Tryd.f3.params.toList.all fun t => Tryd.prog.readableRec t && decide (t < Tryd.prog.types.size)) = true := by kernel_rfl
set_option maxRecDepth 100000 in
set_option maxHeartbeats 4000000 in
theorem lifted (os : Os) (started : os.Started) (H : Type) (enc : TypeId × Value → H) :
    ReturnsInHanded {} Tryd.checked os 3 .any (fun w args => (Rows.reportZonesSpec.pre enc Tryd.prog Tryd.f3 Rows.reportZonesRow.domain false w args ∧ laidMetH Tryd.prog Rows.reportZonesRow.laid w) ∧ sizedMet enc Tryd.prog Tryd.f3 (OpenSpec.ofChange Rows.reportZonesSpec) false w args) (Rows.reportZonesSpec.post enc Tryd.prog Tryd.f3 false true false false) := by
  refine returnsInHanded_of_change_and (C := Tryd.checked) (X := fun w _ => laidMetH Tryd.prog Rows.reportZonesRow.laid w) (fun _ _ _ hh h => h.of_heap hh) own started (by kernel_rfl) Tryd.func3
    (ChangeSpec.witness_shaped (enc := enc) (C := Tryd.checked) (os := os) (X := fun w _ => laidMetH Tryd.prog Rows.reportZonesRow.laid w) false (World.laidAll Tryd.prog os Rows.reportZonesRow.laid) #[.slice none 0 0, .agg #[.int .i64 0, .int .i64 0, .int .i64 0], .agg #[.int .i64 0, .int .i64 0, .int .i64 0], .int .i64 0, .agg #[.int .i64 0, .int .i64 0, .bool false]] 8 (World.laidAll_os _ _ _)
      (World.shaped_of_ZipB (by kernel_rfl) (by kernel_rfl)) (by kernel_rfl) (by kernel_rfl) (by kernel_rfl)
      (by rw [MakeChecks.laidMetH_plain _ _ _ (by kernel_rfl)]; exact laidMet_laidAll _ (by kernel_rfl) (by kernel_rfl))) ?_
  intro W base args ds gs before hval0 hW hcnd hsz0 hL _
  have hsz : (DataW.weightsEach Tryd.prog (Tryd.f3.params.toList ++ Rows.reportZonesSpec.plain.varTypes Tryd.prog) (ds ++ gs)).all (· ≤ reachBytes) = true := hsz0
  have hval : ∀ (j : Nat) t v, Tryd.f3.params[j]? = some t → args[j]? = some v → Value.okWide Tryd.prog W .any base t v := hval0
  have hW' := hW
  obtain ⟨p, q, hA0, hV, rfl, hfz, hnd⟩ := hW
  have hA : DataW.TrodAll enc Tryd.prog W 0 (fun _ => true) true Tryd.f3.params.toList args.toList ds p := hA0
  have hA2 := hA
  rw [Tryd.params3] at hA hval hsz
  obtain ⟨v0, vs0, d0, ds0, p0, q0, hargs, rfl, rfl, h0, r0⟩ := trodAll_cons hA
  obtain ⟨v1, vs1, d1, ds1, p1, q1, rfl, rfl, rfl, h1, r1⟩ := trodAll_cons r0
  obtain ⟨v2, vs2, d2, ds2, p2, q2, rfl, rfl, rfl, h2, r2⟩ := trodAll_cons r1
  obtain ⟨v3, vs3, d3, ds3, p3, q3, rfl, rfl, rfl, h3, r3⟩ := trodAll_cons r2
  obtain ⟨v4, vs4, d4, ds4, p4, q4, rfl, rfl, rfl, h4, r4⟩ := trodAll_cons r3
  obtain ⟨rfl, rfl, rfl⟩ := trodAll_nil r4
  obtain rfl : args = #[v0, v1, v2, v3, v4] := by cases args; simp_all
  obtain ⟨rfl, rfl⟩ := trodVars_none hV
  obtain ⟨a0, A0, c0, rfl, hc0, hr0, g0⟩ := arg_slice Tryd.underlying22 o22 (hval 0 22 v0 rfl rfl) h0
  obtain ⟨a1, cs1, rfl, hk1, g1⟩ := arg_struct Tryd.underlying24 o24 (hval 1 24 v1 rfl rfl) h1
  obtain ⟨a2, cs2, rfl, hk2, g2⟩ := arg_struct Tryd.underlying24 o24 (hval 2 24 v2 rfl rfl) h2
  obtain ⟨a3, rfl, rfl, rfl, g3⟩ := open_int Tryd.underlying3 (hval 3 3 v3 rfl rfl) h3
  obtain ⟨a4, cs4, rfl, hk4, g4⟩ := arg_struct Tryd.underlying26 o26 (hval 4 26 v4 rfl rfl) h4
  clear hA0 hval0 hsz0 hsz
  have hpow := pow_of hL
  have hg : ∀ i, G24 (a0.getD i z24) := fun i => good24 g0.2 i
  have hx : G24 a1 := ⟨bounds_i64 g1.1, bounds_i64 g1.2.1, bounds_i64 g1.2.2⟩
  have hy : G24 a2 := ⟨bounds_i64 g2.1, bounds_i64 g2.2.1, bounds_i64 g2.2.2⟩
  obtain rfl := k24_open hk1
  obtain rfl := k24_open hk2
  obtain rfl := k26_open hk4
  refine (law_c a0 A0 c0 a1 a2 a3 a4.f0 a4.f1 a4.f2 hg hx hy (bounds_i64 g3) (bounds_i64 g4.1) (bounds_i64 g4.2.1) W hr0 hpow).mono fun e W' ⟨he, bel⟩ => ?_
  subst he
  exact ⟨_, rfl, _, _, _, [], _, [], hW', trodAll_mk1 (shut_bool Tryd.underlying4 _), args_stay laid reads hA2 bel, rfl, bel.frame _, fun h => by cases h⟩
theorem over : Rows.reportZonesRow.holds Tryd.pinned (OpenSpec.ofChange Rows.reportZonesSpec) :=
  OpenClaim.holds_of_wide 3 Tryd.f3 rfl rfl rfl rfl rfl rfl rfl ⟨rfl, rfl, rfl, rfl, rfl⟩ rfl rfl rfl rfl rfl (by kernel_rfl) Tryd.func3 (by kernel_rfl)
    (of_decide_eq_true (by kernel_rfl)) (by unfold Func.isWrapper; first | (rw [if_pos (by decide +kernel)]; kernel_rfl) | (rw [if_neg (by decide +kernel)]; exact ⟨rfl, rfl⟩))
    (fun os started H enc _ => lifted os started H enc)
theorem proved : Rows.ReportZonesSaid := over
/-- The tied card. -/
theorem card : Rows.ReportZonesCardSaid :=
  Claim7.holds_tied_plain_at .later [] [.data, .data, .data] true (true, "9a8eeaf265d1964f626dea6041a18db30e6902f0d6d62871fe9f7aac8942600e") false
    proved (fun _ h => by cases h) (by kernel_rfl) (fun _ h => by cases h) reportZones_row_tie rfl ⟨rfl, rfl⟩ (by kernel_rfl) rfl
    (fun f fn hf hfn => by
      obtain rfl : f = 3 := Option.some.inj ((show Tryd.prog.funcNamed "revetment/revetmentlaw32.ReportZones" = some 3 by kernel_rfl).symm.trans hf) |>.symm
      obtain rfl : fn = Tryd.f3 := (Option.some.inj (Tryd.func3.symm.trans hfn)).symm
      exact ⟨by kernel_rfl, fun j t ht => by
        rw [Tryd.params3] at ht
        have hm : t ∈ [22, 24, 24, 3, 26] := by simpa using Array.mem_of_getElem? ht
        have hall : ([22, 24, 24, 3, 26].all fun u => !Tryd.prog.wantsStandIn u) = true := by kernel_rfl
        exact (show Tryd.prog.wantsStandIn t = false by simpa using List.all_eq_true.1 hall t hm)⟩)
    (by kernel_rfl)
#print axioms card
end Go.Proofs.YtlhmpmmblnbmbaaDoor.reportZones
namespace Go.Proofs.YtlhmpmmblnbmbaaDoor
/-- The row, under a short name, for the claim. -/
theorem reportZones_holds : Rows.ReportZonesCardSaid := reportZones.card
end Go.Proofs.YtlhmpmmblnbmbaaDoor
