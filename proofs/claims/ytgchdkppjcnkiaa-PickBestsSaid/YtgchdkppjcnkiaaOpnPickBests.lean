/- What the parameters of PickBests read as. Written by openrow.py, this work's own program. -/
import Derived.Test.YtgchdkppjcnkiaaPPickBestsx0
import Derived.Test.YtgchdkppjcnkiaaOpen
import Derived.Test.YtgchdkppjcnkiaaWMore
namespace Go.Proofs.Ytgchdkppjcnkiaa.pickBests
open Go.RowKit
open Go.Proofs.Ytgchdkppjcnkiaa.PPickBests Go.Proofs.YtgchdkppjcnkiaaW.PrintWords Go.Proofs.YtgchdkppjcnkiaaW.PrintLast Go.Proofs.YtgchdkppjcnkiaaW.PrintMore Go.Proofs.Ytgchdkppjcnkiaa.Open
set_option linter.unusedVariables false
set_option maxRecDepth 100000
theorem o3 : Opens Try.prog 3 (Kd.int .i64) (fun x => (Lit.int .i64 x).wf = true) := opens_int Try.underlying3 (by kernel_rfl)
def G30 (x : S30) : Prop := (Lit.int .i64 x.f0).wf = true ∧ (Lit.int .i64 x.f1).wf = true ∧ (Lit.int .i64 x.f2).wf = true ∧ (Lit.int .i64 x.f3).wf = true ∧ (Lit.int .i64 x.f4).wf = true ∧ (Lit.int .i64 x.f5).wf = true ∧ (Lit.int .i64 x.f6).wf = true ∧ (Lit.int .i64 x.f7).wf = true ∧ (Lit.int .i64 x.f8).wf = true ∧ (Lit.int .i64 x.f9).wf = true ∧ (Lit.int .i64 x.f10).wf = true
theorem o30 : Opens Try.prog 30 k30 G30 :=
  opens_iso (f := fun x : S30 => (x.f0, x.f1, x.f2, x.f3, x.f4, x.f5, x.f6, x.f7, x.f8, x.f9, x.f10)) (fun (a : (Int) × (Int) × (Int) × (Int) × (Int) × (Int) × (Int) × (Int) × (Int) × (Int) × (Int)) => (⟨a.1, a.2.1, a.2.2.1, a.2.2.2.1, a.2.2.2.2.1, a.2.2.2.2.2.1, a.2.2.2.2.2.2.1, a.2.2.2.2.2.2.2.1, a.2.2.2.2.2.2.2.2.1, a.2.2.2.2.2.2.2.2.2.1, a.2.2.2.2.2.2.2.2.2.2⟩ : S30)) (fun _ => rfl) (opens_struct Try.underlying30 (by kernel_rfl) (fs_cons rfl rfl o3 (fs_cons rfl rfl o3 (fs_cons rfl rfl o3 (fs_cons rfl rfl o3 (fs_cons rfl rfl o3 (fs_cons rfl rfl o3 (fs_cons rfl rfl o3 (fs_cons rfl rfl o3 (fs_cons rfl rfl o3 (fs_cons rfl rfl o3 (fs_last rfl o3))))))))))))
theorem o23 : Opens Try.prog 23 (Kd.slice 3 (Kd.int .i64)) (fun x => (x.length ≤ maxLen ∧ ∀ y0 ∈ x, (Lit.int .i64 y0).wf = true)) := opens_slice Try.underlying23 (by kernel_rfl) o3
theorem o4 : Opens Try.prog 4 Kd.bool (fun _ => True) := opens_bool Try.underlying4 (by kernel_rfl)
theorem o5 : Opens Try.prog 5 (Kd.int .u8) (fun x => (Lit.int .u8 x).wf = true) := opens_int Try.underlying5 (by kernel_rfl)
theorem o67 : Opens Try.prog 67 (Kd.slice 5 (Kd.int .u8)) (fun x => (x.length ≤ maxLen ∧ ∀ y0 ∈ x, (Lit.int .u8 y0).wf = true)) := opens_slice Try.underlying67 (by kernel_rfl) o5
def G69 (x : S69) : Prop := (Lit.int .i64 x.f0).wf = true ∧ (x.f1.length ≤ maxLen ∧ ∀ y0 ∈ x.f1, (Lit.int .u8 y0).wf = true)
theorem o69 : Opens Try.prog 69 k69 G69 :=
  opens_iso (f := fun x : S69 => (x.f0, x.f1)) (fun (a : (Int) × (List (Int))) => (⟨a.1, a.2⟩ : S69)) (fun _ => rfl) (opens_struct Try.underlying69 (by kernel_rfl) (fs_cons rfl rfl o3 (fs_last rfl o67)))
theorem o63 : Opens Try.prog 63 (Kd.slice 69 k69) (fun x => (x.length ≤ maxLen ∧ ∀ y0 ∈ x, G69 y0)) := opens_slice Try.underlying63 (by kernel_rfl) o69
def G65 (x : S65) : Prop := (Lit.int .i64 x.f0).wf = true ∧ (Lit.int .i64 x.f1).wf = true ∧ True ∧ (Lit.int .i64 x.f3).wf = true ∧ True ∧ (x.f5.length ≤ maxLen ∧ ∀ y0 ∈ x.f5, G69 y0)
theorem o65 : Opens Try.prog 65 k65 G65 :=
  opens_iso (f := fun x : S65 => (x.f0, x.f1, x.f2, x.f3, x.f4, x.f5)) (fun (a : (Int) × (Int) × (Bool) × (Int) × (Bool) × (List (S69))) => (⟨a.1, a.2.1, a.2.2.1, a.2.2.2.1, a.2.2.2.2.1, a.2.2.2.2.2⟩ : S65)) (fun _ => rfl) (opens_struct Try.underlying65 (by kernel_rfl) (fs_cons rfl rfl o3 (fs_cons rfl rfl o3 (fs_cons rfl rfl o4 (fs_cons rfl rfl o3 (fs_cons rfl rfl o4 (fs_last rfl o63)))))))
theorem o31 : Opens Try.prog 31 (Kd.slice 65 k65) (fun x => (x.length ≤ maxLen ∧ ∀ y0 ∈ x, G65 y0)) := opens_slice Try.underlying31 (by kernel_rfl) o65
def G33 (x : S33) : Prop := G30 x.f0 ∧ (Lit.int .i64 x.f1).wf = true ∧ (Lit.int .i64 x.f2).wf = true ∧ (x.f3.length ≤ maxLen ∧ ∀ y0 ∈ x.f3, (Lit.int .i64 y0).wf = true) ∧ (x.f4.length ≤ maxLen ∧ ∀ y0 ∈ x.f4, G65 y0)
theorem o33 : Opens Try.prog 33 k33 G33 :=
  opens_iso (f := fun x : S33 => (x.f0, x.f1, x.f2, x.f3, x.f4)) (fun (a : (S30) × (Int) × (Int) × (List (Int)) × (List (S65))) => (⟨a.1, a.2.1, a.2.2.1, a.2.2.2.1, a.2.2.2.2⟩ : S33)) (fun _ => rfl) (opens_struct Try.underlying33 (by kernel_rfl) (fs_cons rfl rfl o30 (fs_cons rfl rfl o3 (fs_cons rfl rfl o3 (fs_cons rfl rfl o23 (fs_last rfl o31))))))
def G35 (x : S35) : Prop := G33 x.f0 ∧ (Lit.int .i64 x.f1).wf = true ∧ (Lit.int .i64 x.f2).wf = true
theorem o35 : Opens Try.prog 35 k35 G35 :=
  opens_iso (f := fun x : S35 => (x.f0, x.f1, x.f2)) (fun (a : (S33) × (Int) × (Int)) => (⟨a.1, a.2.1, a.2.2⟩ : S35)) (fun _ => rfl) (opens_struct Try.underlying35 (by kernel_rfl) (fs_cons rfl rfl o33 (fs_cons rfl rfl o3 (fs_last rfl o3))))
theorem o39 : Opens Try.prog 39 (Kd.slice 35 k35) (fun x => (x.length ≤ maxLen ∧ ∀ y0 ∈ x, G35 y0)) := opens_slice Try.underlying39 (by kernel_rfl) o35
end Go.Proofs.Ytgchdkppjcnkiaa.pickBests
