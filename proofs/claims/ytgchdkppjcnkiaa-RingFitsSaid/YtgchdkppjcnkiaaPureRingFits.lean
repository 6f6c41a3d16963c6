/- RingFits: whether there is room for any number of blocks, in the program as in the statement, for all settings. No conditions. -/
import Derived.Test.YtgchdkppjcnkiaaPRingFitsx1
import Derived.Test.YtgchdkppjcnkiaaRingPlain
namespace Go.Proofs.Ytgchdkppjcnkiaa.Pure
open Go.RowKit Go.Proofs.Ytgchdkppjcnkiaa.PRingFits Go.Proofs.YtgchdkppjcnkiaaW.PrintWords Go.Proofs.YtgchdkppjcnkiaaW.PrintLast RingPlain

theorem live_true : revetmentlaw14_live.f 9 = some true := by decide +kernel
theorem RingFits : revetmentlaw14_RingFits.Pure := by
  intro a b c ha _ hc
  refine ⟨9, ?_⟩
  have ha' := i64b ha
  have hc' := i64b hc
  unfold revetmentlaw14_RingFits.f ring_Fits.f
  simp only [live_true, Option.bind_some]
  by_cases h1 : a ≥ 0
  · by_cases h2 : b ≥ 0
    · by_cases h3 : c ≥ a
      · have h3' : a ≤ c := h3
        have e : wrap64 (c - a) = c - a := by unfold wrap64; omega
        simp only [if_pos h1, if_pos h2, if_pos h3, e, Option.bind_some, ge_iff_le, beq_self_eq_true, if_true]
      · have h3' : ¬ a ≤ c := h3
        simp [h1, h2, h3']
    · simp [h1, h2]
  · simp [h1]
end Go.Proofs.Ytgchdkppjcnkiaa.Pure
