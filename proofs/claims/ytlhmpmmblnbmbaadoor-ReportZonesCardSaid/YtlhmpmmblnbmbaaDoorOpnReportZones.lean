/- What the parameters of ReportZones read as. Written by openrow.py, this work's own program. -/
import Derived.Test.YtlhmpmmblnbmbaaDoorRepZones
import Derived.Test.YtlhmpmmblnbmbaaDoorOpen
import Derived.Test.YtlhmpmmblnbmbaaDoorWMore
namespace Go.Proofs.YtlhmpmmblnbmbaaDoor.reportZones
open Go.RowKit
open Go.Proofs.YtlhmpmmblnbmbaaDoor.PReportZones Go.Proofs.YtlhmpmmblnbmbaaDoorW.PrintWords Go.Proofs.YtlhmpmmblnbmbaaDoorW.PrintLast Go.Proofs.YtlhmpmmblnbmbaaDoorW.PrintMore Go.Proofs.YtlhmpmmblnbmbaaDoor.Open
set_option linter.unusedVariables false
open Go.Proofs.YtlhmpmmblnbmbaaDoor.Rep Go.Lib
set_option maxRecDepth 100000
theorem o3 : Opens Tryd.prog 3 (Kd.int .i64) (fun x => (Lit.int .i64 x).wf = true) := opens_int Tryd.underlying3 (by kernel_rfl)
def Q24 (x : S24) : Prop := (Lit.int .i64 x.f0).wf = true ∧ (Lit.int .i64 x.f1).wf = true ∧ (Lit.int .i64 x.f2).wf = true
theorem o24 : Opens Tryd.prog 24 k24 Q24 :=
  opens_iso (f := fun x : S24 => (x.f0, x.f1, x.f2)) (fun (a : (Int) × (Int) × (Int)) => (⟨a.1, a.2.1, a.2.2⟩ : S24)) (fun _ => rfl) (opens_struct Tryd.underlying24 (by kernel_rfl) (fs_cons rfl rfl o3 (fs_cons rfl rfl o3 (fs_last rfl o3))))
theorem o22 : Opens Tryd.prog 22 (Kd.slice 24 k24) (fun x => (x.length ≤ maxLen ∧ ∀ y0 ∈ x, Q24 y0)) := opens_slice Tryd.underlying22 (by kernel_rfl) o24
theorem o4 : Opens Tryd.prog 4 Kd.bool (fun _ => True) := opens_bool Tryd.underlying4 (by kernel_rfl)
structure S26 where
  f0 : Int
  f1 : Int
  f2 : Bool
def k26 : Kd S26 := Kd.iso (Kd.pair (Kd.int .i64) (Kd.pair (Kd.int .i64) Kd.bool)) (fun x : S26 => (x.f0, x.f1, x.f2))
theorem k26_open {w : World} {x : S26} {cs : List Value} (h : k26.K w x cs) : cs = [.int .i64 x.f0, .int .i64 x.f1, .bool x.f2] := by
  obtain ⟨_, _, rfl, rfl, ⟨_, _, rfl, rfl, rfl⟩⟩ := h
  exact rfl
def Q26 (x : S26) : Prop := (Lit.int .i64 x.f0).wf = true ∧ (Lit.int .i64 x.f1).wf = true ∧ True
theorem o26 : Opens Tryd.prog 26 k26 Q26 :=
  opens_iso (f := fun x : S26 => (x.f0, x.f1, x.f2)) (fun (a : (Int) × (Int) × (Bool)) => (⟨a.1, a.2.1, a.2.2⟩ : S26)) (fun _ => rfl) (opens_struct Tryd.underlying26 (by kernel_rfl) (fs_cons rfl rfl o3 (fs_cons rfl rfl o3 (fs_last rfl o4))))
end Go.Proofs.YtlhmpmmblnbmbaaDoor.reportZones
