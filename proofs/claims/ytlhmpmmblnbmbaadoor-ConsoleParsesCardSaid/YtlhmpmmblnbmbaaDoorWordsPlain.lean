/- The words of a text, byte by byte; and what decoding a rune says of the bytes that it takes. -/
import Derived.Laws.RangeAny
import Derived.Lib.DecodeN
namespace Go.Proofs.YtlhmpmmblnbmbaaDoor.WordsPlain
open Go

/-- a byte -/
def by_ (s : ByteArray) (p : Nat) : Nat := (s.get! p).toNat
theorem by_get (s : ByteArray) (p : Nat) (h : p < s.size) : by_ s p = (s[p]'h).toNat := by
  unfold by_
  have := get_at s p h
  rw [Nat.add_zero] at this
  rw [this]
/-- where a word began (-1: none has), and the words ahead of it, behind p bytes -/
def scan (s : ByteArray) : Nat → Int × List ByteArray
  | 0 => (-1, [])
  | p + 1 => let x := scan s p
    if by_ s p = 32 then (if x.1 ≥ 0 then (-1, x.2 ++ [s.extract x.1.toNat p]) else x) else (if x.1 < 0 then ((p : Int), x.2) else x)
def words (s : ByteArray) : List ByteArray := let x := scan s s.size
  if x.1 ≥ 0 then x.2 ++ [s.extract x.1.toNat s.size] else x.2
theorem scan_lo (s : ByteArray) : ∀ p, -1 ≤ (scan s p).1
  | 0 => by simp [scan]
  | p + 1 => by
    have := scan_lo s p
    unfold scan
    simp only []
    split <;> split <;> simp <;> omega
theorem scan_hi (s : ByteArray) : ∀ p, (scan s p).1 < p
  | 0 => by simp [scan]
  | p + 1 => by
    have := scan_hi s p
    unfold scan
    simp only []
    split <;> split <;> simp <;> omega
theorem scan_len (s : ByteArray) : ∀ p, (scan s p).2.length ≤ p
  | 0 => by simp [scan]
  | p + 1 => by
    have := scan_len s p
    unfold scan
    simp only []
    split <;> split <;> simp <;> omega
theorem scan_skip (s : ByteArray) (p : Nat) : ∀ n, 1 ≤ n → (∀ i, p ≤ i → i < p + n → by_ s i ≠ 32) → scan s (p + n) = (if (scan s p).1 < 0 then (p : Int) else (scan s p).1, (scan s p).2)
  | 0, h, _ => by omega
  | 1, _, h => by
    show scan s (p + 1) = _
    have lo := scan_lo s p
    conv => lhs; unfold scan
    simp only []
    rw [if_neg (h p (Nat.le_refl _) (by omega))]
    split <;> rfl
  | n + 2, _, h => by
    have ih := scan_skip s p (n + 1) (by omega) (fun i h1 h2 => h i h1 (by omega))
    show scan s (p + (n + 1) + 1) = _
    conv => lhs; unfold scan
    simp only []
    rw [if_neg (h _ (by omega) (by omega)), ih]
    have hf : ¬ (if (scan s p).1 < 0 then (p : Int) else (scan s p).1) < 0 := by split <;> omega
    rw [if_neg hf]
theorem scan_blank (s : ByteArray) (p : Nat) (h : by_ s p = 32) : scan s (p + 1) = if (scan s p).1 ≥ 0 then (-1, (scan s p).2 ++ [s.extract (scan s p).1.toNat p]) else scan s p := by
  conv => lhs; unfold scan
  simp only []
  rw [if_pos h]
/-- A rune of more than one byte, and one that is none: the bytes are none below 128. -/
theorem decode_bytes (s : ByteArray) (p : Nat) (h : p < s.size) (ha : 128 ≤ by_ s p) : (∀ i, p ≤ i → i < p + (Utf8.decode s p).2 → 128 ≤ by_ s i) ∧ p + (Utf8.decode s p).2 ≤ s.size := by
  have e0 : by_ s (p + 0) = by_ s p := rfl
  have hn : ¬ (s.get! (p + 0)).toNat < 0x80 := by
    have : (s.get! (p + 0)).toNat = by_ s p := rfl
    omega
  have hc : ∀ k, (decide (p + k < s.size) && ((s.get! (p + k)).toNat / 64 == 2)) = true → 128 ≤ by_ s (p + k) ∧ p + k < s.size := by
    intro k hk
    simp only [Bool.and_eq_true, decide_eq_true_eq, beq_iff_eq] at hk
    have : (s.get! (p + k)).toNat = by_ s (p + k) := rfl
    omega
  have one : ∀ i, p ≤ i → i < p + 1 → 128 ≤ by_ s i := by
    intro i h1 h2
    rw [show i = p by omega]; exact ha
  simp only [Utf8.decode, hn, if_false]
  split
  · next h1 =>
    simp only [Bool.and_eq_true] at h1
    have c1 := hc 1 (by simpa using h1.2)
    split
    · refine ⟨fun i h2 h3 => ?_, by simp; omega⟩
      simp at h3
      by_cases e : i = p
      · rw [e]; exact ha
      · rw [show i = p + 1 by omega]; exact c1.1
    · exact ⟨fun i h2 h3 => one i h2 h3, by simp; omega⟩
  · split
    · next _ h1 =>
      simp only [Bool.and_eq_true] at h1
      have c1 := hc 1 (by simpa using h1.1.2)
      have c2 := hc 2 (by simpa using h1.2)
      split
      · refine ⟨fun i h2 h3 => ?_, by simp; omega⟩
        simp at h3
        by_cases e : i = p
        · rw [e]; exact ha
        · by_cases e1 : i = p + 1
          · rw [e1]; exact c1.1
          · rw [show i = p + 2 by omega]; exact c2.1
      · exact ⟨fun i h2 h3 => one i h2 h3, by simp; omega⟩
    · split
      · next _ _ h1 =>
        simp only [Bool.and_eq_true] at h1
        have c1 := hc 1 (by simpa using h1.1.1.2)
        have c2 := hc 2 (by simpa using h1.1.2)
        have c3 := hc 3 (by simpa using h1.2)
        split
        · refine ⟨fun i h2 h3 => ?_, by simp; omega⟩
          simp at h3
          by_cases e : i = p
          · rw [e]; exact ha
          · by_cases e1 : i = p + 1
            · rw [e1]; exact c1.1
            · by_cases e2 : i = p + 2
              · rw [e2]; exact c2.1
              · rw [show i = p + 3 by omega]; exact c3.1
        · exact ⟨fun i h2 h3 => one i h2 h3, by simp; omega⟩
      · exact ⟨fun i h2 h3 => one i h2 h3, by simp; omega⟩
/-- One step of a range over a text, for the scan: the rune is a blank just where the byte is. -/
theorem step (s : ByteArray) (p : Nat) (h : p < s.size) : 1 ≤ (Utf8.decode s p).2 ∧ p + (Utf8.decode s p).2 ≤ s.size ∧
    ((((Utf8.decode s p).1 : Nat) = 32 ∧ by_ s p = 32 ∧ (Utf8.decode s p).2 = 1) ∨ ((Utf8.decode s p).1 ≠ 32 ∧ ∀ i, p ≤ i → i < p + (Utf8.decode s p).2 → by_ s i ≠ 32)) := by
  by_cases ha : by_ s p < 128
  · have hg := by_get s p h
    rw [decode_ascii s p h (by omega)]
    refine ⟨Nat.le_refl _, h, ?_⟩
    by_cases e : by_ s p = 32
    · exact .inl ⟨by rw [← hg]; exact e, e, rfl⟩
    · refine .inr ⟨by rw [← hg]; exact e, fun i h1 h2 => ?_⟩
      rw [show i = p by simp at h2; omega]; exact e
  · have hg := by_get s p h
    obtain ⟨h1, h2⟩ := decode_high s p h (by omega)
    obtain ⟨h3, h4⟩ := decode_bytes s p h (by omega)
    exact ⟨h2, h4, .inr ⟨by omega, fun i k1 k2 => by have := h3 i k1 k2; omega⟩⟩
end Go.Proofs.YtlhmpmmblnbmbaaDoor.WordsPlain
