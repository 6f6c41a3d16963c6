/- Plain arithmetic of places on a ring of at most 64, in Lean alone. -/
import Derived.Test.YtgchdkppjcnkiaaWMore
namespace Go.Proofs.Ytgchdkppjcnkiaa.RingPlain
open Go.RowKit Go.Proofs.YtgchdkppjcnkiaaW.PrintWords Go.Proofs.YtgchdkppjcnkiaaW.PrintLast Go.Proofs.YtgchdkppjcnkiaaW.PrintMore

def sz (n : Int) : Int := mn (mx n 1) 64
def pl (at_ s : Int) : Int := if at_ < 0 then 0 else if at_ ≥ s then 0 else at_
theorem sz_pos (n : Int) : 1 ≤ sz n := by unfold sz mn mx; split <;> split <;> omega
theorem sz_le (n : Int) : sz n ≤ 64 := by unfold sz mn mx; split <;> split <;> omega
theorem sz_eq (n : Int) : sz n = if n < 1 then 1 else if n > 64 then 64 else n := by
  unfold sz mn mx; repeat' split <;> omega
theorem sz_sz (n : Int) : sz (sz n) = sz n := by
  have h1 := sz_pos n; have h2 := sz_le n
  rw [sz_eq (sz n), if_neg (by omega), if_neg (by omega)]
theorem pl_nn (a s : Int) : 0 ≤ pl a s := by unfold pl; repeat' split <;> omega
theorem pl_lt (a : Int) {s : Int} (h : 1 ≤ s) : pl a s < s := by unfold pl; repeat' split <;> omega
theorem pl_id {a s : Int} (h0 : 0 ≤ a) (h1 : a < s) : pl a s = a := by unfold pl; rw [if_neg (by omega), if_neg (by omega)]
theorem w_id {x : Int} (h0 : -1000000 ≤ x) (h1 : x ≤ 1000000) : wrap64 x = x := by unfold wrap64; omega
theorem tmod_lo (k : Int) {s : Int} (h : 1 ≤ s) : -s < Int.tmod k s := by
  have := Int.lt_tmod_of_pos k (b := s) (by omega); exact this
theorem tmod_hi (k : Int) {s : Int} (h : 1 ≤ s) : Int.tmod k s < s := Int.tmod_lt_of_pos k (by omega)
theorem tmod_mod (x s : Int) : Int.tmod x s % s = x % s := by
  rw [Int.tmod_def, Int.sub_mul_emod_self_left]
/-- two truncated remainders make one whole one -/
theorem two_mod (x : Int) {s : Int} (h : 1 ≤ s) : Int.tmod (Int.tmod x s + s) s = x % s := by
  have h1 := tmod_lo x h
  rw [Int.tmod_eq_emod_of_nonneg (by omega), Int.add_emod_right, tmod_mod]
theorem walk_val (a k : Int) {s : Int} (h : 1 ≤ s) (h64 : s ≤ 64) (ha : 0 ≤ a) (hs : a < s) :
    Int.tmod (wrap64 ((Int.tmod (wrap64 (a + (Int.tmod k s))) s) + s)) s = (a + k) % s := by
  have h1 := tmod_lo k h
  have h2 := tmod_hi k h
  rw [w_id (x := a + Int.tmod k s) (by omega) (by omega)]
  have h3 := tmod_lo (a + Int.tmod k s) h
  have h4 := tmod_hi (a + Int.tmod k s) h
  rw [w_id (by omega) (by omega), two_mod _ h, Int.add_emod, tmod_mod, ← Int.add_emod]
theorem succ_mod (x : Int) {s : Int} (h : 1 ≤ s) : (x + 1) % s = if x % s + 1 = s then 0 else x % s + 1 := by
  have h0 := Int.emod_nonneg x (b := s) (by omega)
  have h1 := Int.emod_lt_of_pos x (b := s) (by omega)
  rw [Int.add_emod]
  by_cases hs : s = 1
  · subst hs; simp
  rw [Int.emod_eq_of_lt (a := 1) (by omega) (by omega)]
  split
  · next h => rw [h, Int.emod_self]
  · next h' => rw [Int.emod_eq_of_lt (by omega) (by omega)]
theorem pred_mod (x : Int) {s : Int} (h : 1 ≤ s) : (x - 1) % s = if x % s = 0 then s - 1 else x % s - 1 := by
  have h0 := Int.emod_nonneg x (b := s) (by omega)
  have h1 := Int.emod_lt_of_pos x (b := s) (by omega)
  have e : (x - 1) % s = (x % s - 1) % s := by rw [Int.sub_emod x 1 s, Int.sub_emod (x % s) 1 s, Int.emod_emod_of_dvd _ (Int.dvd_refl s)]
  rw [e]
  split
  · next h' => rw [h']; rw [show (0 : Int) - 1 = (s - 1) - s by omega, Int.sub_emod_right, Int.emod_eq_of_lt (by omega) (by omega)]
  · next h' => rw [Int.emod_eq_of_lt (by omega) (by omega)]
/-- the places from one on -/
def places (a s : Int) (n : Nat) : List Int := (List.range n).map fun i : Nat => (a + (i : Int)) % s
theorem places_succ (a s : Int) (n : Nat) : places a s (n + 1) = places a s n ++ [(a + (n : Int)) % s] := by
  simp [places, List.range_succ]
theorem places_len (a s : Int) (n : Nat) : (places a s n).length = n := by simp [places]
theorem places_rd (a s : Int) (n : Nat) (i : Int) (h0 : 0 ≤ i) (h : i < n) : rd (places a s n) i = (a + i) % s := by
  obtain ⟨j, rfl⟩ := Int.eq_ofNat_of_zero_le h0
  unfold rd
  have hj : j < n := by omega
  simp [places, List.getD_eq_getElem?_getD, hj]
theorem mod_inj {a i j s : Int} (hs : 1 ≤ s) (hi : 0 ≤ i) (his : i < s) (hj : 0 ≤ j) (hjs : j < s) (h : (a + i) % s = (a + j) % s) : i = j := by
  have h1 : ((a + i) - (a + j)) % s = 0 := Int.emod_eq_emod_iff_emod_sub_eq_zero.1 h
  have h2 : (i - j) % s = 0 := by have : a + i - (a + j) = i - j := by omega
                                  rwa [this] at h1
  have h3 := Int.dvd_of_emod_eq_zero h2
  obtain ⟨c, hc⟩ := h3
  have : c = 0 := by
    rcases Int.lt_trichotomy c 0 with h | h | h
    · have : s * c ≤ s * (-1) := Int.mul_le_mul_of_nonneg_left (by omega) (by omega)
      omega
    · exact h
    · have : s * 1 ≤ s * c := Int.mul_le_mul_of_nonneg_left (by omega) (by omega)
      omega
  subst this; omega
theorem i64b {n : Int} (h : (Lit.int .i64 n).wf = true) : -9223372036854775808 ≤ n ∧ n ≤ 9223372036854775807 := by
  have e : IntKind.i64.min = -9223372036854775808 := by decide
  simpa [Lit.wf, e] using h
end Go.Proofs.Ytgchdkppjcnkiaa.RingPlain
