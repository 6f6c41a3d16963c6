import Derived.Test.YtlhmpmmblnbmbaaDoorConParse2
namespace Go.Proofs.YtlhmpmmblnbmbaaDoor.Con
open Go.Lib Go.RowKit Go.Proofs.YtlhmpmmblnbmbaaDoor.Cells Go.Proofs.YtlhmpmmblnbmbaaDoor.PConsoleParses Go.Proofs.YtlhmpmmblnbmbaaDoorW.PrintWords Go.Proofs.YtlhmpmmblnbmbaaDoorW.PrintLast Go.Proofs.YtlhmpmmblnbmbaaDoorW.PrintMore WordsPlain NumberPlain
theorem form_places {s : ByteArray} {k c : Int} {ps : List Nat} {bs : Option Nat} (h : form s = some (k, c, ps, bs)) : ps.length ≤ 10 ∧ (∀ p ∈ ps, p = 2 ∨ p = 3 ∨ p = 4 ∨ p = 7 ∨ p = 8) ∧ (∀ p, bs = some p → p = 5 ∨ p = 9) := by
  unfold form at h
  by_cases c0 : s = wd 0
  · rw [if_pos c0] at h; cases h; refine ⟨by decide, by decide, ?_⟩; intro p hp; cases hp <;> decide
  rw [if_neg c0] at h
  by_cases c1 : s = wd 1
  · rw [if_pos c1] at h; cases h; refine ⟨by decide, by decide, ?_⟩; intro p hp; cases hp <;> decide
  rw [if_neg c1] at h
  by_cases c2 : s = wd 2
  · rw [if_pos c2] at h; cases h; refine ⟨by decide, by decide, ?_⟩; intro p hp; cases hp <;> decide
  rw [if_neg c2] at h
  by_cases c3 : s = wd 3
  · rw [if_pos c3] at h; cases h; refine ⟨by decide, by decide, ?_⟩; intro p hp; cases hp <;> decide
  rw [if_neg c3] at h
  by_cases c4 : s = wd 4
  · rw [if_pos c4] at h; cases h; refine ⟨by decide, by decide, ?_⟩; intro p hp; cases hp <;> decide
  rw [if_neg c4] at h
  by_cases c5 : s = wd 5
  · rw [if_pos c5] at h; cases h; refine ⟨by decide, by decide, ?_⟩; intro p hp; cases hp <;> decide
  rw [if_neg c5] at h
  by_cases c6 : s = wd 6
  · rw [if_pos c6] at h; cases h; refine ⟨by decide, by decide, ?_⟩; intro p hp; cases hp <;> decide
  rw [if_neg c6] at h
  by_cases c7 : s = wd 7
  · rw [if_pos c7] at h; cases h; refine ⟨by decide, by decide, ?_⟩; intro p hp; cases hp <;> decide
  rw [if_neg c7] at h
  by_cases c8 : s = wd 8
  · rw [if_pos c8] at h; cases h; refine ⟨by decide, by decide, ?_⟩; intro p hp; cases hp <;> decide
  rw [if_neg c8] at h
  by_cases c9 : s = wd 9
  · rw [if_pos c9] at h; cases h; refine ⟨by decide, by decide, ?_⟩; intro p hp; cases hp <;> decide
  rw [if_neg c9] at h
  by_cases c10 : s = wd 10
  · rw [if_pos c10] at h; cases h; refine ⟨by decide, by decide, ?_⟩; intro p hp; cases hp <;> decide
  rw [if_neg c10] at h
  by_cases c11 : s = wd 11
  · rw [if_pos c11] at h; cases h; refine ⟨by decide, by decide, ?_⟩; intro p hp; cases hp <;> decide
  rw [if_neg c11] at h
  by_cases c12 : s = wd 12
  · rw [if_pos c12] at h; cases h; refine ⟨by decide, by decide, ?_⟩; intro p hp; cases hp <;> decide
  rw [if_neg c12] at h
  by_cases c13 : s = wd 13
  · rw [if_pos c13] at h; cases h; refine ⟨by decide, by decide, ?_⟩; intro p hp; cases hp <;> decide
  rw [if_neg c13] at h
  by_cases c14 : s = wd 14
  · rw [if_pos c14] at h; cases h; refine ⟨by decide, by decide, ?_⟩; intro p hp; cases hp <;> decide
  rw [if_neg c14] at h
  cases h
/-- Parse, as a whole -/
theorem parse_c (hx : ByteArray → List Int × Bool) (s : ByteArray) (hs : s.size ≤ 1000000) (hhex : ∀ t ∈ (words s).tail, ∃ k, console_Hex.f k t = some (hx t)) (w : World) : Calls Tryd.prog 28 #[.string s] w (ParsePost w (parse hx s).1 (parse hx s).2) := by
  obtain ⟨l0, hl0⟩ : ∃ l0, words s = l0 := ⟨_, rfl⟩
  cases l0 with
  | nil =>
    have : parse hx s = (zA, false) := by unfold parse; rw [hl0]
    rw [this]
    exact parse_empty s hs hl0 w
  | cons w0 l =>
    rw [hl0] at hhex
    obtain ⟨fo, hfo⟩ : ∃ fo, form w0 = fo := ⟨_, rfl⟩
    cases fo with
    | none =>
      refine parse_mainN s hs w0 l hl0 0 0 [] (by unfold formV; rw [hfo]; rfl) false (by rw [hfo]; rfl) (by simp) (by simp) hx _ ⟨?_⟩ w
      unfold parse
      rw [hl0]
      simp only [hfo]
      simp
    | some f =>
      obtain ⟨kind, cmd, ps, bs⟩ := f
      obtain ⟨h1, h2, h3⟩ := form_places hfo
      have hv : formV w0 = (kind, cmd, ps, bs) := by unfold formV; rw [hfo]; rfl
      have hok : (form w0).isSome = true := by rw [hfo]; rfl
      cases bs with
      | none =>
        refine parse_mainN s hs w0 l hl0 kind cmd ps hv true hok h1 h2 hx _ ⟨?_⟩ w
        unfold parse
        rw [hl0]
        simp only [hfo, needB, Bool.true_and, decide_eq_true_eq, Option.isSome_none, Bool.false_eq_true, if_false, Nat.add_zero]
        generalize fuaB kind cmd l (ps.length) = fb
        generalize (if fb = true then List.take (ps.length) l else l) = l2
        by_cases hl : l2.length = ps.length
        · rw [if_pos hl, if_pos hl]
          show (match fil (xF kind cmd fb) ps l2 with | none => (zA, false) | some x => (x, true)) = outA _ _ (fil (xF kind cmd fb) ps l2)
          cases fil (xF kind cmd fb) ps l2 <;> rfl
        · rw [if_neg hl, if_neg hl]
      | some p =>
        refine parse_mainS s hs w0 l hl0 kind cmd ps p hv true hok h1 h2 (h3 p rfl) hx (fun t ht => hhex t ht) _ ⟨?_⟩ w
        unfold parse
        rw [hl0]
        simp only [hfo, needB, Bool.true_and, decide_eq_true_eq, Option.isSome_some, if_true, Nat.add_sub_cancel]
        generalize fuaB kind cmd l (ps.length + 1) = fb
        generalize (if fb = true then List.take (ps.length + 1) l else l) = l2
        by_cases hl : l2.length = ps.length + 1
        · rw [if_pos hl, if_pos hl]
          show (match fil (xF kind cmd fb) ps l2 with | none => (zA, false) | some x => if (hx (l2.getD ps.length ByteArray.empty)).2 = true then (setB x p (hx (l2.getD ps.length ByteArray.empty)).1, true) else (zA, false)) = outA _ _ (fil (xF kind cmd fb) ps l2)
          cases fil (xF kind cmd fb) ps l2 <;> rfl
        · rw [if_neg hl, if_neg hl]
end Go.Proofs.YtlhmpmmblnbmbaaDoor.Con
