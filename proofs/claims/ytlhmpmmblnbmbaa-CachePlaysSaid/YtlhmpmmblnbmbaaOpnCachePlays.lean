/- What the parameters of CachePlays read as. Written by openrow.py, this work's own program. -/
import Derived.Test.YtlhmpmmblnbmbaaPCachePlaysx0
import Derived.Test.YtlhmpmmblnbmbaaOpen
import Derived.Test.YtlhmpmmblnbmbaaWMore
namespace Go.Proofs.Ytlhmpmmblnbmbaa.cachePlays
open Go.RowKit
open Go.Proofs.Ytlhmpmmblnbmbaa.PCachePlays Go.Proofs.YtlhmpmmblnbmbaaW.PrintWords Go.Proofs.YtlhmpmmblnbmbaaW.PrintLast Go.Proofs.YtlhmpmmblnbmbaaW.PrintMore Go.Proofs.Ytlhmpmmblnbmbaa.Open
set_option linter.unusedVariables false
set_option maxRecDepth 100000
theorem o3 : Opens Try.prog 3 (Kd.int .i64) (fun x => (Lit.int .i64 x).wf = true) := opens_int Try.underlying3 (by kernel_rfl)
def G36 (x : S36) : Prop := (Lit.int .i64 x.f0).wf = true ∧ (Lit.int .i64 x.f1).wf = true ∧ (Lit.int .i64 x.f2).wf = true
theorem o36 : Opens Try.prog 36 k36 G36 :=
  opens_iso (f := fun x : S36 => (x.f0, x.f1, x.f2)) (fun (a : (Int) × (Int) × (Int)) => (⟨a.1, a.2.1, a.2.2⟩ : S36)) (fun _ => rfl) (opens_struct Try.underlying36 (by kernel_rfl) (fs_cons rfl rfl o3 (fs_cons rfl rfl o3 (fs_last rfl o3))))
theorem o5 : Opens Try.prog 5 (Kd.int .u8) (fun x => (Lit.int .u8 x).wf = true) := opens_int Try.underlying5 (by kernel_rfl)
theorem o27 : Opens Try.prog 27 (Kd.slice 5 (Kd.int .u8)) (fun x => (x.length ≤ maxLen ∧ ∀ y0 ∈ x, (Lit.int .u8 y0).wf = true)) := opens_slice Try.underlying27 (by kernel_rfl) o5
def G38 (x : S38) : Prop := (Lit.int .i64 x.f0).wf = true ∧ G36 x.f1 ∧ (x.f2.length ≤ maxLen ∧ ∀ y0 ∈ x.f2, (Lit.int .u8 y0).wf = true)
theorem o38 : Opens Try.prog 38 k38 G38 :=
  opens_iso (f := fun x : S38 => (x.f0, x.f1, x.f2)) (fun (a : (Int) × (S36) × (List (Int))) => (⟨a.1, a.2.1, a.2.2⟩ : S38)) (fun _ => rfl) (opens_struct Try.underlying38 (by kernel_rfl) (fs_cons rfl rfl o3 (fs_cons rfl rfl o36 (fs_last rfl o27))))
theorem o31 : Opens Try.prog 31 (Kd.slice 38 k38) (fun x => (x.length ≤ maxLen ∧ ∀ y0 ∈ x, G38 y0)) := opens_slice Try.underlying31 (by kernel_rfl) o38
end Go.Proofs.Ytlhmpmmblnbmbaa.cachePlays
