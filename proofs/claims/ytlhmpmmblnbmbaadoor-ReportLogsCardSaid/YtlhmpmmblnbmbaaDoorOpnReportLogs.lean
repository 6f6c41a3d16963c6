/- What the parameters of ReportLogs read as. Written by openrow.py, this work's own program. -/
import Derived.Test.YtlhmpmmblnbmbaaDoorRepLogLaw
import Derived.Test.YtlhmpmmblnbmbaaDoorOpen
import Derived.Test.YtlhmpmmblnbmbaaDoorWMore
namespace Go.Proofs.YtlhmpmmblnbmbaaDoor.reportLogs
open Go.RowKit
open Go.Proofs.YtlhmpmmblnbmbaaDoor.PReportZones Go.Proofs.YtlhmpmmblnbmbaaDoorW.PrintWords Go.Proofs.YtlhmpmmblnbmbaaDoorW.PrintLast Go.Proofs.YtlhmpmmblnbmbaaDoorW.PrintMore Go.Proofs.YtlhmpmmblnbmbaaDoor.Open
set_option linter.unusedVariables false
open Go.Proofs.YtlhmpmmblnbmbaaDoor.Rep Go.Lib
set_option maxRecDepth 100000
theorem o3 : Opens Tryd.prog 3 (Kd.int .i64) (fun x => (Lit.int .i64 x).wf = true) := opens_int Tryd.underlying3 (by kernel_rfl)
def Q34 (x : S34) : Prop := (Lit.int .i64 x.f0).wf = true ∧ (Lit.int .i64 x.f1).wf = true ∧ (Lit.int .i64 x.f2).wf = true ∧ (Lit.int .i64 x.f3).wf = true ∧ (Lit.int .i64 x.f4).wf = true ∧ (Lit.int .i64 x.f5).wf = true ∧ (Lit.int .i64 x.f6).wf = true ∧ (Lit.int .i64 x.f7).wf = true ∧ (Lit.int .i64 x.f8).wf = true ∧ (Lit.int .i64 x.f9).wf = true ∧ (Lit.int .i64 x.f10).wf = true
theorem o34 : Opens Tryd.prog 34 k34 Q34 :=
  opens_iso (f := fun x : S34 => (x.f0, x.f1, x.f2, x.f3, x.f4, x.f5, x.f6, x.f7, x.f8, x.f9, x.f10)) (fun (a : (Int) × (Int) × (Int) × (Int) × (Int) × (Int) × (Int) × (Int) × (Int) × (Int) × (Int)) => (⟨a.1, a.2.1, a.2.2.1, a.2.2.2.1, a.2.2.2.2.1, a.2.2.2.2.2.1, a.2.2.2.2.2.2.1, a.2.2.2.2.2.2.2.1, a.2.2.2.2.2.2.2.2.1, a.2.2.2.2.2.2.2.2.2.1, a.2.2.2.2.2.2.2.2.2.2⟩ : S34)) (fun _ => rfl) (opens_struct Tryd.underlying34 (by kernel_rfl) (fs_cons rfl rfl o3 (fs_cons rfl rfl o3 (fs_cons rfl rfl o3 (fs_cons rfl rfl o3 (fs_cons rfl rfl o3 (fs_cons rfl rfl o3 (fs_cons rfl rfl o3 (fs_cons rfl rfl o3 (fs_cons rfl rfl o3 (fs_cons rfl rfl o3 (fs_last rfl o3))))))))))))
theorem o35 : Opens Tryd.prog 35 (Kd.slice 3 (Kd.int .i64)) (fun x => (x.length ≤ maxLen ∧ ∀ y0 ∈ x, (Lit.int .i64 y0).wf = true)) := opens_slice Tryd.underlying35 (by kernel_rfl) o3
theorem o4 : Opens Tryd.prog 4 Kd.bool (fun _ => True) := opens_bool Tryd.underlying4 (by kernel_rfl)
theorem o5 : Opens Tryd.prog 5 (Kd.int .u8) (fun x => (Lit.int .u8 x).wf = true) := opens_int Tryd.underlying5 (by kernel_rfl)
theorem o43 : Opens Tryd.prog 43 (Kd.slice 5 (Kd.int .u8)) (fun x => (x.length ≤ maxLen ∧ ∀ y0 ∈ x, (Lit.int .u8 y0).wf = true)) := opens_slice Tryd.underlying43 (by kernel_rfl) o5
def Q84 (x : S84) : Prop := (Lit.int .i64 x.f0).wf = true ∧ (x.f1.length ≤ maxLen ∧ ∀ y0 ∈ x.f1, (Lit.int .u8 y0).wf = true)
theorem o84 : Opens Tryd.prog 84 k84 Q84 :=
  opens_iso (f := fun x : S84 => (x.f0, x.f1)) (fun (a : (Int) × (List (Int))) => (⟨a.1, a.2⟩ : S84)) (fun _ => rfl) (opens_struct Tryd.underlying84 (by kernel_rfl) (fs_cons rfl rfl o3 (fs_last rfl o43)))
theorem o80 : Opens Tryd.prog 80 (Kd.slice 84 k84) (fun x => (x.length ≤ maxLen ∧ ∀ y0 ∈ x, Q84 y0)) := opens_slice Tryd.underlying80 (by kernel_rfl) o84
def Q82 (x : S82) : Prop := (Lit.int .i64 x.f0).wf = true ∧ (Lit.int .i64 x.f1).wf = true ∧ True ∧ (Lit.int .i64 x.f3).wf = true ∧ True ∧ (x.f5.length ≤ maxLen ∧ ∀ y0 ∈ x.f5, Q84 y0)
theorem o82 : Opens Tryd.prog 82 k82 Q82 :=
  opens_iso (f := fun x : S82 => (x.f0, x.f1, x.f2, x.f3, x.f4, x.f5)) (fun (a : (Int) × (Int) × (Bool) × (Int) × (Bool) × (List (S84))) => (⟨a.1, a.2.1, a.2.2.1, a.2.2.2.1, a.2.2.2.2.1, a.2.2.2.2.2⟩ : S82)) (fun _ => rfl) (opens_struct Tryd.underlying82 (by kernel_rfl) (fs_cons rfl rfl o3 (fs_cons rfl rfl o3 (fs_cons rfl rfl o4 (fs_cons rfl rfl o3 (fs_cons rfl rfl o4 (fs_last rfl o80)))))))
theorem o36 : Opens Tryd.prog 36 (Kd.slice 82 k82) (fun x => (x.length ≤ maxLen ∧ ∀ y0 ∈ x, Q82 y0)) := opens_slice Tryd.underlying36 (by kernel_rfl) o82
def Q38 (x : S38) : Prop := Q34 x.f0 ∧ (Lit.int .i64 x.f1).wf = true ∧ (Lit.int .i64 x.f2).wf = true ∧ (x.f3.length ≤ maxLen ∧ ∀ y0 ∈ x.f3, (Lit.int .i64 y0).wf = true) ∧ (x.f4.length ≤ maxLen ∧ ∀ y0 ∈ x.f4, Q82 y0)
theorem o38 : Opens Tryd.prog 38 k38 Q38 :=
  opens_iso (f := fun x : S38 => (x.f0, x.f1, x.f2, x.f3, x.f4)) (fun (a : (S34) × (Int) × (Int) × (List (Int)) × (List (S82))) => (⟨a.1, a.2.1, a.2.2.1, a.2.2.2.1, a.2.2.2.2⟩ : S38)) (fun _ => rfl) (opens_struct Tryd.underlying38 (by kernel_rfl) (fs_cons rfl rfl o34 (fs_cons rfl rfl o3 (fs_cons rfl rfl o3 (fs_cons rfl rfl o35 (fs_last rfl o36))))))
end Go.Proofs.YtlhmpmmblnbmbaaDoor.reportLogs
