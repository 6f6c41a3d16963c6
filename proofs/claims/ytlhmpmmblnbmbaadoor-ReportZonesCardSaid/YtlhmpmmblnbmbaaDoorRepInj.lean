/- Unlike zones have unlike texts. -/
import Derived.Test.YtlhmpmmblnbmbaaDoorRepZone
namespace Go.Proofs.YtlhmpmmblnbmbaaDoor.Rep
open Go.Lib Go.RowKit
/-- what a row of digits is worth -/
def worth (l : List UInt8) : Nat := l.foldl (fun a b => 10 * a + (b.toNat - 48)) 0
theorem worth_snoc (l : List UInt8) (b : UInt8) : worth (l ++ [b]) = 10 * worth l + (b.toNat - 48) := by unfold worth; rw [List.foldl_append]; rfl
theorem dig_nat (d : Nat) (h : d < 10) : (UInt8.ofNat (48 + d)).toNat = 48 + d := by
  rw [UInt8.toNat_ofNat']; omega
theorem worth_dec (u : Nat) : worth (Go.Lib.decDigits u) = u := by
  induction u using Nat.strongRecOn with
  | ind u ih =>
    by_cases h : u < 10
    · rw [Go.Lib.decDigits_one h]
      show 10 * 0 + ((UInt8.ofNat (48 + u)).toNat - 48) = u
      rw [dig_nat u h]; omega
    · rw [dec_big u h, worth_snoc, ih (u / 10) (by omega), dig_nat _ (Nat.mod_lt _ (by omega))]; omega
theorem dec_mem (u : Nat) : ∀ b ∈ Go.Lib.decDigits u, 48 ≤ b.toNat ∧ b.toNat ≤ 57 := by
  induction u using Nat.strongRecOn with
  | ind u ih =>
    intro b hb
    by_cases h : u < 10
    · rw [Go.Lib.decDigits_one h, List.mem_singleton] at hb
      rw [hb, dig_nat u h]; omega
    · rw [dec_big u h, List.mem_append, List.mem_singleton] at hb
      rcases hb with hb | hb
      · exact ih (u / 10) (by omega) b hb
      · rw [hb, dig_nat _ (Nat.mod_lt _ (by omega))]; omega
theorem itoa_no32 (n : Int) : (32 : UInt8) ∉ Go.Lib.itoa n := by
  unfold Go.Lib.itoa
  split
  · rw [List.mem_cons]
    rintro (h | h)
    · exact absurd h (by decide)
    · have := dec_mem _ _ h; simp at this
  · intro h
    have := dec_mem _ _ h; simp at this
theorem itoa_inj {n m : Int} (h : Go.Lib.itoa n = Go.Lib.itoa m) : n = m := by
  have no45 : ∀ u : Nat, ∀ l, Go.Lib.decDigits u ≠ 45 :: l := fun u l e => by
    have := dec_mem u 45 (by rw [e]; exact List.mem_cons_self)
    simp at this
  unfold Go.Lib.itoa at h
  split at h <;> split at h
  · have := congrArg worth (List.cons.inj h).2
    rw [worth_dec, worth_dec] at this; omega
  · exact absurd h.symm (no45 _ _)
  · exact absurd h (no45 _ _)
  · have := congrArg worth h
    rw [worth_dec, worth_dec] at this; omega
theorem cut32 : ∀ (x x' y y' : List UInt8), (32 : UInt8) ∉ x → (32 : UInt8) ∉ x' → x ++ 32 :: y = x' ++ 32 :: y' → x = x' ∧ y = y'
  | [], [], y, y', _, _, h => ⟨rfl, (List.cons.inj h).2⟩
  | [], b :: x', y, y', _, h2, h => absurd (List.cons.inj h).1 (fun e => h2 (by rw [e]; exact List.mem_cons_self))
  | a :: x, [], y, y', h1, _, h => absurd (List.cons.inj h).1 (fun e => h1 (by rw [← e]; exact List.mem_cons_self))
  | a :: x, b :: x', y, y', h1, h2, h => by
    obtain ⟨e1, e2⟩ := List.cons.inj h
    obtain ⟨r1, r2⟩ := cut32 x x' y y' (fun e => h1 (List.mem_cons_of_mem _ e)) (fun e => h2 (List.mem_cons_of_mem _ e)) e2
    exact ⟨by rw [e1, r1], r2⟩
theorem state_facts : ∀ k : Fin 4, (32 : UInt8) ∉ (stateB (k.val : Int)).data.toList ∧ ∀ k2 : Fin 4, stateB (k.val : Int) = stateB (k2.val : Int) → k = k2 := by decide +kernel
theorem zone_inj {z a b c a' b' c' : Int} (h0 : 0 ≤ a) (h1 : a ≤ 3) (h2 : 0 ≤ a') (h3 : a' ≤ 3) (h : zoneB z a b c = zoneB z a' b' c') : a = a' ∧ b = b' ∧ c = c' := by
  rw [zone_eq, zone_eq] at h
  have e := congrArg (fun x : ByteArray => x.data.toList) h
  simp only [ByteArray.data_append, Array.toList_append, List.append_assoc] at e
  have e1 := List.append_cancel_left e
  have e2 := List.append_cancel_left e1
  have s1 := state_facts ⟨a.toNat, by omega⟩
  have s2 := state_facts ⟨a'.toNat, by omega⟩
  have ha : ((a.toNat : Nat) : Int) = a := by omega
  have ha' : ((a'.toNat : Nat) : Int) = a' := by omega
  simp only [ha] at s1
  simp only [ha'] at s2
  obtain ⟨r1, r2⟩ := cut32 _ _ _ _ s1.1 s2.1 e2
  obtain ⟨r3, r4⟩ := cut32 _ _ _ _ (itoa_no32 b) (itoa_no32 b') r2
  have r5 : Go.Lib.itoa c = Go.Lib.itoa c' := List.append_cancel_left (show ([103, 101, 110, 32] : List UInt8) ++ Go.Lib.itoa c = [103, 101, 110, 32] ++ Go.Lib.itoa c' from r4)
  have hs : stateB a = stateB a' := ByteArray.ext (Array.toList_inj.1 r1)
  have hk := s1.2 ⟨a'.toNat, by omega⟩
  simp only [ha'] at hk
  have := congrArg Fin.val (hk hs)
  exact ⟨by simp at this; omega, itoa_inj r3, itoa_inj r5⟩
end Go.Proofs.YtlhmpmmblnbmbaaDoor.Rep
