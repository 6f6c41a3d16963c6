/- Which number a text is: byte by byte. -/
import Derived.Test.YtlhmpmmblnbmbaaDoorWordsPlain
namespace Go.Proofs.YtlhmpmmblnbmbaaDoor.NumberPlain
open Go Go.Proofs.YtlhmpmmblnbmbaaDoor.WordsPlain

/-- has it a sign? -/
def minus (s : ByteArray) : Bool := decide (s.size > 0) && (by_ s 0 == 45)
def rest (s : ByteArray) : ByteArray := if minus s = true then s.extract 1 s.size else s
/-- a length, or a first digit, that may not be -/
def bad (s : ByteArray) : Bool := decide ((rest s).size < 1) || decide ((rest s).size > 12) || ((by_ (rest s) 0 == 48) && (decide ((rest s).size > 1) || minus s))
def isd (b : Nat) : Bool := decide (48 ≤ b) && decide (b ≤ 57)
/-- are the first p bytes digits? -/
def alld (d : ByteArray) : Nat → Bool
  | 0 => true
  | p + 1 => alld d p && isd (by_ d p)
/-- what the first p of them are -/
def digs (d : ByteArray) : Nat → Int
  | 0 => 0
  | p + 1 => 10 * digs d p + (by_ d p - 48)
def numb (s : ByteArray) : Int × Bool := if bad s = true then (0, false) else if alld (rest s) (rest s).size = true then (if minus s = true then - digs (rest s) (rest s).size else digs (rest s) (rest s).size, true) else (0, false)
theorem isd_iff (b : Nat) : isd b = true ↔ 48 ≤ b ∧ b ≤ 57 := by unfold isd; simp
theorem digs_lo (d : ByteArray) : ∀ p, alld d p = true → 0 ≤ digs d p
  | 0, _ => by simp [digs]
  | p + 1, h => by
    unfold alld at h
    rw [Bool.and_eq_true, isd_iff] at h
    have := digs_lo d p h.1
    unfold digs; omega
theorem digs_hi (d : ByteArray) : ∀ p, alld d p = true → digs d p < 10 ^ p
  | 0, _ => by simp [digs]
  | p + 1, h => by
    unfold alld at h
    rw [Bool.and_eq_true, isd_iff] at h
    have := digs_hi d p h.1
    unfold digs
    rw [Int.pow_succ]
    omega
theorem ten12 {p : Nat} (h : p ≤ 12) : (10 : Int) ^ p ≤ 1000000000000 := by
  have h1 : (10 : Nat) ^ p ≤ 10 ^ 12 := Nat.pow_le_pow_right (by omega) h
  have h2 : ((10 : Nat) : Int) ^ p = (((10 : Nat) ^ p : Nat) : Int) := by rw [Int.natCast_pow]
  have h3 : (10 : Int) ^ p = (((10 : Nat) ^ p : Nat) : Int) := h2
  rw [h3]
  have : (10 : Nat) ^ 12 = 1000000000000 := by decide
  omega
theorem digs_bound (d : ByteArray) (p : Nat) (h : alld d p = true) (hp : p ≤ 12) : 0 ≤ digs d p ∧ digs d p < 1000000000000 := by
  have h1 := digs_hi d p h
  have h2 := ten12 hp
  have h3 := digs_lo d p h
  omega
theorem alld_stop (d : ByteArray) (p : Nat) (h : isd (by_ d p) = false) : ∀ q, p < q → alld d q = false
  | 0, hq => by omega
  | q + 1, hq => by
    unfold alld
    by_cases e : q = p
    · subst e; rw [h]; simp
    · rw [alld_stop d p h q (by omega)]; rfl
/-- One rune of a range over the digits: a digit just where the byte is one. -/
theorem rune_digit (s : ByteArray) (p : Nat) (h : p < s.size) : (isd (by_ s p) = true ∧ Utf8.decode s p = (by_ s p, 1)) ∨ (isd (by_ s p) = false ∧ ¬ (48 ≤ (Utf8.decode s p).1 ∧ (Utf8.decode s p).1 ≤ 57)) := by
  have hg := by_get s p h
  by_cases ha : by_ s p < 128
  · have hd := decode_ascii s p h (by omega)
    rw [← hg] at hd
    cases hi : isd (by_ s p) with
    | true => exact .inl ⟨rfl, hd⟩
    | false =>
      refine .inr ⟨rfl, ?_⟩
      rw [hd]
      intro hh
      rw [(isd_iff _).2 hh] at hi; cases hi
  · obtain ⟨h1, _⟩ := decode_high s p h (by omega)
    refine .inr ⟨?_, by omega⟩
    cases hi : isd (by_ s p) with
    | false => rfl
    | true => have := (isd_iff _).1 hi; omega
end Go.Proofs.YtlhmpmmblnbmbaaDoor.NumberPlain
