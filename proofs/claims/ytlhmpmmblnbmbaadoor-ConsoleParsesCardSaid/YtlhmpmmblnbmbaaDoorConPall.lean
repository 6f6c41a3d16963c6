/- Both ways of a line, for any line. -/
import Derived.Test.YtlhmpmmblnbmbaaDoorConRef
set_option linter.unusedVariables false
set_option linter.unusedSimpArgs false
namespace Go.Proofs.YtlhmpmmblnbmbaaDoor.Con
open Go.Lib Go.RowKit Go.Proofs.YtlhmpmmblnbmbaaDoor.Ev Go.Proofs.YtlhmpmmblnbmbaaDoor.Ke Go.Proofs.YtlhmpmmblnbmbaaDoor.Cells Go.Proofs.YtlhmpmmblnbmbaaDoor.PConsoleParses Go.Proofs.YtlhmpmmblnbmbaaDoorW.PrintWords Go.Proofs.YtlhmpmmblnbmbaaDoorW.PrintLast Go.Proofs.YtlhmpmmblnbmbaaDoorW.PrintMore WordsPlain NumberPlain
theorem scan_mem (s : ByteArray) : ∀ p, ∀ t ∈ (scan s p).2, t.size ≤ s.size := by
  intro p
  induction p with
  | zero => intro t ht; cases ht
  | succ p ih =>
    intro t ht
    unfold scan at ht
    simp only at ht
    split at ht
    · split at ht
      · rcases List.mem_append.1 ht with h | h
        · exact ih t h
        · obtain rfl := List.mem_singleton.1 h
          rw [ByteArray.size_extract]; omega
      · exact ih t ht
    · split at ht
      · exact ih t ht
      · exact ih t ht
theorem words_mem {s t : ByteArray} (h : t ∈ words s) : t.size ≤ s.size := by
  unfold words at h
  simp only at h
  split at h
  · rcases List.mem_append.1 h with h | h
    · exact scan_mem s _ t h
    · obtain rfl := List.mem_singleton.1 h
      rw [ByteArray.size_extract]; omega
  · exact scan_mem s _ t h
open Classical in
/-- which bytes a text is -/
noncomputable def hexF (t : ByteArray) : List Int × Bool := if h : ∃ r, (∃ k, console_Hex.f k t = some r) ∧ ∃ k, revetmentref37_Hex.f k t = some r then Classical.choose h else ([], false)
theorem hexF_is {t : ByteArray} (h : t.size ≤ 1000000) : (∃ k, console_Hex.f k t = some (hexF t)) ∧ ∃ k, revetmentref37_Hex.f k t = some (hexF t) := by
  obtain ⟨k1, k2, r, h1, h2⟩ := hex_both t h
  have he : ∃ r, (∃ k, console_Hex.f k t = some r) ∧ ∃ k, revetmentref37_Hex.f k t = some r := ⟨r, ⟨k1, h1⟩, k2, h2⟩
  unfold hexF
  rw [dif_pos he]
  exact Classical.choose_spec he
theorem parse_all (s : ByteArray) (hs : s.size ≤ 1000000) (w : World) : Calls Tryd.prog 28 #[.string s] w (ParsePost w (parse hexF s).1 (parse hexF s).2) :=
  parse_c hexF s hs (fun t ht => (hexF_is (Nat.le_trans (words_mem (List.mem_of_mem_tail ht)) hs)).1) w
theorem rparse_all (s : ByteArray) (hs : s.size ≤ 1000000) (w : World) : Calls Tryd.prog 29 #[.string s] w (ParsePost w (parse hexF s).1 (parse hexF s).2) := by
  cases hw : words s with
  | nil =>
    have : parse hexF s = (zA, false) := by unfold parse; rw [hw]
    rw [this]
    exact rparse_nil s hs hw w
  | cons w0 l => exact rparse_cons s hs w0 l hw hexF (fun t ht => (hexF_is (Nat.le_trans (words_mem (hw ▸ List.mem_cons_of_mem w0 ht)) hs)).2) _ ⟨rfl⟩ w
end Go.Proofs.YtlhmpmmblnbmbaaDoor.Con
