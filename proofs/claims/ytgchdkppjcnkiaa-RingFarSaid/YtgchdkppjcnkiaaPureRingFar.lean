/- RingFar: how far it is from any place of a ring to any other, and that a walk so far leads there. No conditions. -/
import Derived.Test.YtgchdkppjcnkiaaPRingFarx1
import Derived.Test.YtgchdkppjcnkiaaRingPlain
namespace Go.Proofs.Ytgchdkppjcnkiaa.Pure
open Go.RowKit Go.Proofs.Ytgchdkppjcnkiaa.PRingFar Go.Proofs.YtgchdkppjcnkiaaW.PrintWords Go.Proofs.YtgchdkppjcnkiaaW.PrintLast RingPlain

theorem live_true (k : Nat) (hk : 9 ≤ k) : revetmentlaw14_live.f k = some true := at_rounds revetmentlaw14_live.mono hk (by decide +kernel)
theorem walk_v (a n k : Int) : ring_Walk.f a n k = some ((pl a (sz n) + k) % sz n) := by
  have h1 := sz_pos n
  have h2 := sz_le n
  have e : ring_place.f a (sz n) = some (pl a (sz n)) := by unfold ring_place.f pl; (repeat' split) <;> rfl
  unfold ring_Walk.f
  rw [show ring_size.f n = some (sz n) from rfl]
  simp only [Option.bind_some, e]
  rw [if_neg (by omega), walk_val _ _ h1 h2 (pl_nn _ _) (pl_lt _ h1)]
theorem far_v (a b n : Int) : ring_Far.f a b n = some ((pl b (sz n) - pl a (sz n)) % sz n) := by
  have h1 := sz_pos n
  have h2 := sz_le n
  have h3 := pl_nn a (sz n)
  have h4 := pl_lt a h1
  have e : ∀ a, ring_place.f a (sz n) = some (pl a (sz n)) := by intro a; unfold ring_place.f pl; (repeat' split) <;> rfl
  unfold ring_Far.f
  rw [show ring_size.f n = some (sz n) from rfl]
  simp only [Option.bind_some, e, walk_v, sz_sz]
  rw [pl_id (pl_nn _ _) (pl_lt _ h1), w_id (by omega) (by omega)]; rfl
theorem rsize_v (n : Int) : revetmentref14_size.f n = some (sz n) := by
  unfold revetmentref14_size.f; rw [sz_eq]; (repeat' split) <;> rfl
theorem rplace_v (a n : Int) : revetmentref14_place.f a n = some (pl a (sz n)) := by
  unfold revetmentref14_place.f; rw [rsize_v]; unfold pl; simp only [Option.bind_some]; (repeat' split) <;> rfl
theorem rnext_v (x n : Int) : revetmentref14_Next.f (x % sz n) n = some ((x + 1) % sz n) := by
  have h1 := sz_pos n
  have h2 := sz_le n
  have h0 := Int.emod_nonneg x (b := sz n) (by omega)
  have h5 := Int.emod_lt_of_pos x (b := sz n) (by omega)
  unfold revetmentref14_Next.f
  rw [rplace_v, rsize_v]
  simp only [Option.bind_some]
  rw [pl_id h0 h5, w_id (by omega) (by omega), succ_mod x h1]
  split <;> rfl
theorem rwalk_v (k : Nat) (x n : Int) : revetmentref14_Walk.l0 (k + 2) x n 0 0 = some x := by
  simp only [revetmentref14_Walk.l0]
  rw [if_neg (by omega)]
  simp only [revetmentref14_Walk.l1]
  rw [if_neg (by rw [w_id (by omega) (by omega)]; omega)]
theorem rfar_v (a b0 b n : Int) (hp : pl b0 (sz n) = b) (ha0 : 0 ≤ b) (hb : b < sz n) (d : Nat) : ∀ (k : Nat) (i : Int), 0 ≤ i → i + d = (b - a) % sz n → d < k →
    revetmentref14_Far.l0 k b0 n ((a + i) % sz n) i = some ((b - a) % sz n) := by
  have h1 := sz_pos n
  have h2 := sz_le n
  have h6 := Int.emod_nonneg (b - a) (b := sz n) (by omega)
  have h7 := Int.emod_lt_of_pos (b - a) (b := sz n) (by omega)
  induction d with
  | zero =>
    intro k i h0 hd hk
    obtain ⟨k, rfl⟩ : ∃ m, k = m + 1 := ⟨k - 1, by omega⟩
    simp only [revetmentref14_Far.l0, rplace_v, Option.bind_some]
    rw [hp]
    have e : (a + i) % sz n = b := by
      rw [show i = (b - a) % sz n by omega, Int.add_emod, Int.emod_emod_of_dvd _ (Int.dvd_refl _), ← Int.add_emod]
      rw [show a + (b - a) = b by omega, Int.emod_eq_of_lt ha0 hb]
    rw [if_pos e]; congr 1; omega
  | succ d ih =>
    intro k i h0 hd hk
    obtain ⟨k, rfl⟩ : ∃ m, k = m + 1 := ⟨k - 1, by omega⟩
    simp only [revetmentref14_Far.l0, rplace_v, Option.bind_some]
    rw [hp]
    have e : ¬ (a + i) % sz n = b := by
      intro e
      have e2 : i % sz n = (b - a) % sz n := by
        rw [← e, Int.sub_emod ((a + i) % sz n), Int.emod_emod_of_dvd _ (Int.dvd_refl _), ← Int.sub_emod, show a + i - a = i by omega]
      rw [Int.emod_eq_of_lt h0 (by omega)] at e2
      omega
    rw [if_neg e, if_pos (by omega), rnext_v]
    simp only [Option.bind_some]
    rw [w_id (by omega) (by omega), show a + i + 1 = a + (i + 1) by omega]
    exact ih k (i + 1) (by omega) (by omega) (by omega)
theorem RingFar : revetmentlaw14_RingFar.Pure := by
  intro a b n _ _ _
  have h1 := sz_pos n
  have h2 := sz_le n
  refine ⟨100, ?_⟩
  have h3 := Int.emod_nonneg (pl b (sz n) - pl a (sz n)) (b := sz n) (by omega)
  have h4 := Int.emod_lt_of_pos (pl b (sz n) - pl a (sz n)) (b := sz n) (by omega)
  have hf : revetmentref14_Far.f 100 a b n = some ((pl b (sz n) - pl a (sz n)) % sz n) := by
    unfold revetmentref14_Far.f
    rw [rplace_v]
    have h := rfar_v (pl a (sz n)) b (pl b (sz n)) n rfl (pl_nn _ _) (pl_lt _ h1) ((pl b (sz n) - pl a (sz n)) % sz n).toNat 100 0 (by omega) (by omega) (by omega)
    rw [Int.add_zero, Int.emod_eq_of_lt (pl_nn _ _) (pl_lt _ h1)] at h
    exact h
  have hw : revetmentref14_Walk.f 100 b n 0 = some (pl b (sz n)) := by
    unfold revetmentref14_Walk.f
    rw [rplace_v]
    exact rwalk_v 98 _ n
  unfold revetmentlaw14_RingFar.f
  rw [far_v, hf]
  simp only [Option.bind_some, walk_v, if_true]
  rw [hw, live_true 100 (by omega)]
  simp only [Option.bind_some]
  rw [if_pos]
  rw [Int.add_emod, Int.emod_emod_of_dvd _ (Int.dvd_refl _), ← Int.add_emod, show pl a (sz n) + (pl b (sz n) - pl a (sz n)) = pl b (sz n) by omega]
  exact Int.emod_eq_of_lt (pl_nn _ _) (pl_lt _ h1)
end Go.Proofs.Ytgchdkppjcnkiaa.Pure
