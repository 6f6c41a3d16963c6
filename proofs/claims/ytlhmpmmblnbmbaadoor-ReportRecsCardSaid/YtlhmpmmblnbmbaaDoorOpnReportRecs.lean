/- What the parameters of ReportRecs read as. Written by openrow.py, this work's own program. -/
import Derived.Test.YtlhmpmmblnbmbaaDoorRepRecLaw
import Derived.Test.YtlhmpmmblnbmbaaDoorOpen
import Derived.Test.YtlhmpmmblnbmbaaDoorWMore
namespace Go.Proofs.YtlhmpmmblnbmbaaDoor.reportRecs
open Go.RowKit
open Go.Proofs.YtlhmpmmblnbmbaaDoor.PReportZones Go.Proofs.YtlhmpmmblnbmbaaDoorW.PrintWords Go.Proofs.YtlhmpmmblnbmbaaDoorW.PrintLast Go.Proofs.YtlhmpmmblnbmbaaDoorW.PrintMore Go.Proofs.YtlhmpmmblnbmbaaDoor.Open
set_option linter.unusedVariables false
open Go.Proofs.YtlhmpmmblnbmbaaDoor.Rep Go.Lib
set_option maxRecDepth 100000
theorem o3 : Opens Tryd.prog 3 (Kd.int .i64) (fun x => (Lit.int .i64 x).wf = true) := opens_int Tryd.underlying3 (by kernel_rfl)
theorem o5 : Opens Tryd.prog 5 (Kd.int .u8) (fun x => (Lit.int .u8 x).wf = true) := opens_int Tryd.underlying5 (by kernel_rfl)
theorem o43 : Opens Tryd.prog 43 (Kd.slice 5 (Kd.int .u8)) (fun x => (x.length ≤ maxLen ∧ ∀ y0 ∈ x, (Lit.int .u8 y0).wf = true)) := opens_slice Tryd.underlying43 (by kernel_rfl) o5
def Q45 (x : S45) : Prop := (Lit.int .i64 x.f0).wf = true ∧ (Lit.int .i64 x.f1).wf = true ∧ (Lit.int .i64 x.f2).wf = true ∧ (Lit.int .i64 x.f3).wf = true ∧ (Lit.int .i64 x.f4).wf = true ∧ (Lit.int .i64 x.f5).wf = true ∧ (Lit.int .i64 x.f6).wf = true ∧ (Lit.int .i64 x.f7).wf = true ∧ (Lit.int .i64 x.f8).wf = true ∧ (x.f9.length ≤ maxLen ∧ ∀ y0 ∈ x.f9, (Lit.int .u8 y0).wf = true)
theorem o45 : Opens Tryd.prog 45 k45 Q45 :=
  opens_iso (f := fun x : S45 => (x.f0, x.f1, x.f2, x.f3, x.f4, x.f5, x.f6, x.f7, x.f8, x.f9)) (fun (a : (Int) × (Int) × (Int) × (Int) × (Int) × (Int) × (Int) × (Int) × (Int) × (List (Int))) => (⟨a.1, a.2.1, a.2.2.1, a.2.2.2.1, a.2.2.2.2.1, a.2.2.2.2.2.1, a.2.2.2.2.2.2.1, a.2.2.2.2.2.2.2.1, a.2.2.2.2.2.2.2.2.1, a.2.2.2.2.2.2.2.2.2⟩ : S45)) (fun _ => rfl) (opens_struct Tryd.underlying45 (by kernel_rfl) (fs_cons rfl rfl o3 (fs_cons rfl rfl o3 (fs_cons rfl rfl o3 (fs_cons rfl rfl o3 (fs_cons rfl rfl o3 (fs_cons rfl rfl o3 (fs_cons rfl rfl o3 (fs_cons rfl rfl o3 (fs_cons rfl rfl o3 (fs_last rfl o43)))))))))))
theorem o46 : Opens Tryd.prog 46 (Kd.int .i64) (fun x => (Lit.int .i64 x).wf = true) := opens_int Tryd.underlying46 (by kernel_rfl)
def Q24 (x : S24) : Prop := (Lit.int .i64 x.f0).wf = true ∧ (Lit.int .i64 x.f1).wf = true ∧ (Lit.int .i64 x.f2).wf = true
theorem o24 : Opens Tryd.prog 24 k24 Q24 :=
  opens_iso (f := fun x : S24 => (x.f0, x.f1, x.f2)) (fun (a : (Int) × (Int) × (Int)) => (⟨a.1, a.2.1, a.2.2⟩ : S24)) (fun _ => rfl) (opens_struct Tryd.underlying24 (by kernel_rfl) (fs_cons rfl rfl o3 (fs_cons rfl rfl o3 (fs_last rfl o3))))
def Q48 (x : S48) : Prop := (Lit.int .i64 x.f0).wf = true ∧ (x.f1.length ≤ maxLen ∧ ∀ y0 ∈ x.f1, (Lit.int .u8 y0).wf = true) ∧ Q24 x.f2
theorem o48 : Opens Tryd.prog 48 k48 Q48 :=
  opens_iso (f := fun x : S48 => (x.f0, x.f1, x.f2)) (fun (a : (Int) × (List (Int)) × (S24)) => (⟨a.1, a.2.1, a.2.2⟩ : S48)) (fun _ => rfl) (opens_struct Tryd.underlying48 (by kernel_rfl) (fs_cons rfl rfl o46 (fs_cons rfl rfl o43 (fs_last rfl o24))))
end Go.Proofs.YtlhmpmmblnbmbaaDoor.reportRecs
