/- RingTurns: the place behind any place of a ring, any number of turns on and back, and all places in order, each once. No conditions. -/
import Derived.Test.YtgchdkppjcnkiaaPRingTurnsx2
import Derived.Test.YtgchdkppjcnkiaaRingPlain
namespace Go.Proofs.Ytgchdkppjcnkiaa.Pure
open Go.RowKit Go.Proofs.Ytgchdkppjcnkiaa.PRingTurns Go.Proofs.YtgchdkppjcnkiaaW.PrintWords Go.Proofs.YtgchdkppjcnkiaaW.PrintLast RingPlain

theorem live_true (k : Nat) (hk : 9 ≤ k) : revetmentlaw14_live.f k = some true := at_rounds revetmentlaw14_live.mono hk (by decide +kernel)
theorem walk_v (a n k : Int) : ring_Walk.f a n k = some ((pl a (sz n) + k) % sz n) := by
  have h1 := sz_pos n
  have h2 := sz_le n
  have e : ring_place.f a (sz n) = some (pl a (sz n)) := by unfold ring_place.f pl; (repeat' split) <;> rfl
  unfold ring_Walk.f
  rw [show ring_size.f n = some (sz n) from rfl]
  simp only [Option.bind_some, e]
  rw [if_neg (by omega), walk_val _ _ h1 h2 (pl_nn _ _) (pl_lt _ h1)]
theorem rsize_v (n : Int) : revetmentref14_size.f n = some (sz n) := by
  unfold revetmentref14_size.f; rw [sz_eq]; (repeat' split) <;> rfl
theorem rplace_v (a n : Int) : revetmentref14_place.f a n = some (pl a (sz n)) := by
  unfold revetmentref14_place.f; rw [rsize_v]; unfold pl; simp only [Option.bind_some]; (repeat' split) <;> rfl
theorem rnext_v (x n : Int) : revetmentref14_Next.f (x % sz n) n = some ((x + 1) % sz n) := by
  have h1 := sz_pos n
  have h2 := sz_le n
  have h0 := Int.emod_nonneg x (b := sz n) (by omega)
  have h5 := Int.emod_lt_of_pos x (b := sz n) (by omega)
  unfold revetmentref14_Next.f
  rw [rplace_v, rsize_v]
  simp only [Option.bind_some]
  rw [pl_id h0 h5, w_id (by omega) (by omega), succ_mod x h1]
  split <;> rfl
theorem rback_v (x n : Int) : revetmentref14_Back.f (x % sz n) n = some ((x - 1) % sz n) := by
  have h1 := sz_pos n
  have h2 := sz_le n
  have h0 := Int.emod_nonneg x (b := sz n) (by omega)
  have h5 := Int.emod_lt_of_pos x (b := sz n) (by omega)
  unfold revetmentref14_Back.f
  rw [rplace_v, rsize_v]
  simp only [Option.bind_some]
  rw [pl_id h0 h5, w_id (by omega) (by omega), w_id (by omega) (by omega), pred_mod x h1]
  split <;> rfl
theorem pl_mod (a : Int) {s : Int} (h : 1 ≤ s) : pl a s % s = pl a s := Int.emod_eq_of_lt (pl_nn _ _) (pl_lt _ h)
theorem next_v (a n : Int) : ring_Next.f a n = some ((pl a (sz n) + 1) % sz n) := by
  unfold ring_Next.f; rw [walk_v]; rfl
theorem rnext_pl (a n : Int) : revetmentref14_Next.f a n = some ((pl a (sz n) + 1) % sz n) := by
  have h1 := sz_pos n
  have h := rnext_v (pl a (sz n)) n
  rw [pl_mod _ h1] at h
  rw [← h]
  unfold revetmentref14_Next.f
  rw [rplace_v, rplace_v, pl_id (pl_nn _ _) (pl_lt _ h1)]
theorem order_l (n from_ : Int) (d : Nat) : ∀ (k i : Nat), (i : Int) + d = sz n → d < k →
    ring_Order.l0 k n from_ (places (pl from_ (sz n)) (sz n) i) (sz n) i = some (places (pl from_ (sz n)) (sz n) (sz n).toNat) := by
  have h1 := sz_pos n
  have h2 := sz_le n
  induction d with
  | zero =>
    intro k i hd hk
    obtain ⟨k, rfl⟩ : ∃ m, k = m + 1 := ⟨k - 1, by omega⟩
    simp only [ring_Order.l0]
    rw [if_neg (by omega), show (sz n).toNat = i by omega]
  | succ d ih =>
    intro k i hd hk
    obtain ⟨k, rfl⟩ : ∃ m, k = m + 1 := ⟨k - 1, by omega⟩
    simp only [ring_Order.l0]
    rw [if_pos (by omega), walk_v]
    simp only [Option.bind_some]
    rw [places_len, if_pos (by omega), w_id (by omega) (by omega), ← places_succ]
    exact ih k (i + 1) (by omega) (by omega)
theorem rorder_l (n from_ : Int) (d : Nat) : ∀ (k i : Nat), (i : Int) + d = sz n → d < k →
    revetmentref14_Order.l0 k n (places (pl from_ (sz n)) (sz n) i) ((pl from_ (sz n) + i) % sz n) i = some (places (pl from_ (sz n)) (sz n) (sz n).toNat) := by
  have h1 := sz_pos n
  have h2 := sz_le n
  induction d with
  | zero =>
    intro k i hd hk
    obtain ⟨k, rfl⟩ : ∃ m, k = m + 1 := ⟨k - 1, by omega⟩
    simp only [revetmentref14_Order.l0, rsize_v, Option.bind_some]
    rw [if_neg (by omega), show (sz n).toNat = i by omega]
  | succ d ih =>
    intro k i hd hk
    obtain ⟨k, rfl⟩ : ∃ m, k = m + 1 := ⟨k - 1, by omega⟩
    simp only [revetmentref14_Order.l0, rsize_v, Option.bind_some]
    rw [if_pos (by omega), places_len, if_pos (by omega), rnext_v]
    simp only [Option.bind_some]
    rw [w_id (by omega) (by omega), ← places_succ, Int.add_assoc]
    exact ih k (i + 1) (by omega) (by omega)
theorem order_v (k : Nat) (n a : Int) (hk : 99 ≤ k) : ring_Order.f k n a = some (places (pl a (sz n)) (sz n) (sz n).toNat) := by
  have h1 := sz_pos n
  have h2 := sz_le n
  unfold ring_Order.f
  rw [show ring_size.f n = some (sz n) from rfl]
  exact order_l n a (sz n).toNat k 0 (by omega) (by omega)
theorem rorder_v (k : Nat) (n a : Int) (hk : 99 ≤ k) : revetmentref14_Order.f k n a = some (places (pl a (sz n)) (sz n) (sz n).toNat) := by
  have h1 := sz_pos n
  have h2 := sz_le n
  unfold revetmentref14_Order.f
  rw [rplace_v]
  have h := rorder_l n a (sz n).toNat k 0 (by omega) (by omega)
  rw [show ((0 : Nat) : Int) = 0 from rfl, Int.add_zero, pl_mod _ h1] at h
  exact h
theorem wback_l (n m x : Int) (hm : -300 ≤ m) (hm2 : m ≤ 300) (d : Nat) : ∀ (k : Nat) (i : Int), 0 ≤ i → i + d = mx 0 (-m) → d < k →
    revetmentref14_Walk.l1 k ((x - i) % sz n) n m i = some ((x - mx 0 (-m)) % sz n) := by
  induction d with
  | zero =>
    intro k i h0 hd hk
    obtain ⟨k, rfl⟩ : ∃ m, k = m + 1 := ⟨k - 1, by omega⟩
    simp only [revetmentref14_Walk.l1]
    rw [w_id (by omega) (by omega), if_neg (by unfold mx at hd; split at hd <;> omega), ← hd]; simp
  | succ d ih =>
    intro k i h0 hd hk
    obtain ⟨k, rfl⟩ : ∃ m, k = m + 1 := ⟨k - 1, by omega⟩
    have hlt : i < -m := by unfold mx at hd; split at hd <;> omega
    simp only [revetmentref14_Walk.l1]
    rw [w_id (by omega) (by omega), if_pos hlt, rback_v]
    simp only [Option.bind_some]
    rw [w_id (by omega) (by omega), show x - i - 1 = x - (i + 1) by omega]
    exact ih k (i + 1) (by omega) (by omega) (by omega)
theorem won_l (n m x : Int) (hm : -300 ≤ m) (hm2 : m ≤ 300) (d : Nat) : ∀ (k : Nat) (i : Int), 0 ≤ i → i + d = mx 0 m → d + 301 < k →
    revetmentref14_Walk.l0 k ((x + i) % sz n) n m i = some ((x + m) % sz n) := by
  induction d with
  | zero =>
    intro k i h0 hd hk
    obtain ⟨k, rfl⟩ : ∃ m, k = m + 1 := ⟨k - 1, by omega⟩
    simp only [revetmentref14_Walk.l0]
    have hb : 0 ≤ mx 0 (-m) := by unfold mx; split <;> omega
    have hb2 : mx 0 (-m) ≤ 300 := by unfold mx; split <;> omega
    have e : x + i - mx 0 (-m) = x + m := by
      have hd' : i = mx 0 m := by omega
      rw [hd']; unfold mx; split <;> split <;> omega
    have h := wback_l n m (x + i) hm hm2 (mx 0 (-m)).toNat k 0 (by omega) (by omega) (by omega)
    rw [Int.sub_zero, e] at h
    rw [if_neg (by unfold mx at hd; split at hd <;> omega), h]
  | succ d ih =>
    intro k i h0 hd hk
    obtain ⟨k, rfl⟩ : ∃ m, k = m + 1 := ⟨k - 1, by omega⟩
    have hlt : i < m := by unfold mx at hd; split at hd <;> omega
    simp only [revetmentref14_Walk.l0]
    rw [if_pos hlt, rnext_v]
    simp only [Option.bind_some]
    rw [w_id (by omega) (by omega), Int.add_assoc]
    exact ih k (i + 1) (by omega) (by omega) (by omega)
theorem rwalk_v (k : Nat) (a n m : Int) (hm : -300 ≤ m) (hm2 : m ≤ 300) (hk : 700 ≤ k) : revetmentref14_Walk.f k a n m = some ((pl a (sz n) + m) % sz n) := by
  have h1 := sz_pos n
  unfold revetmentref14_Walk.f
  rw [rplace_v]
  simp only [Option.bind_some]
  have hb : 0 ≤ mx 0 m := by unfold mx; split <;> omega
  have hb2 : mx 0 m ≤ 300 := by unfold mx; split <;> omega
  have h := won_l n m (pl a (sz n)) hm hm2 (mx 0 m).toNat k 0 (by omega) (by omega) (by omega)
  rw [Int.add_zero, pl_mod _ h1] at h
  exact h
/-- the inner loop: no place stands twice -/
theorem inner (a s : Int) (hs : 1 ≤ s) (hs64 : s ≤ 64) (w : List Int) (i : Nat) (hi : i < s.toNat) (d : Nat) : ∀ (k j : Nat), j + d = i → d < k →
    (∀ k', k ≤ k' + d + 1 → revetmentlaw14_RingTurns.l0 k' (places a s s.toNat) w ((i : Int) + 1) = some true) →
    revetmentlaw14_RingTurns.l1 k (places a s s.toNat) w i j = some true := by
  induction d with
  | zero =>
    intro k j hd hk h
    obtain ⟨k, rfl⟩ : ∃ m, k = m + 1 := ⟨k - 1, by omega⟩
    simp only [revetmentlaw14_RingTurns.l1]
    rw [if_neg (by omega), w_id (by omega) (by omega)]
    exact h k (by omega)
  | succ d ih =>
    intro k j hd hk h
    obtain ⟨k, rfl⟩ : ∃ m, k = m + 1 := ⟨k - 1, by omega⟩
    simp only [revetmentlaw14_RingTurns.l1]
    rw [if_pos (by omega), if_pos (by omega), places_len, if_pos (by omega), if_pos (by omega), if_pos (by omega), places_rd _ _ _ _ (by omega) (by omega), places_rd _ _ _ _ (by omega) (by omega)]
    rw [if_neg, w_id (by omega) (by omega)]
    · exact ih k (j + 1) (by omega) (by omega) (fun k' hk' => h k' (by omega))
    · intro e
      have := mod_inj hs (by omega) (by omega) (by omega) (by omega) e
      omega
theorem outer (a s : Int) (hs : 1 ≤ s) (hs64 : s ≤ 64) (d : Nat) : ∀ (k i : Nat), i + d = s.toNat → 70 * d + 10 < k →
    revetmentlaw14_RingTurns.l0 k (places a s s.toNat) (places a s s.toNat) i = some true := by
  induction d with
  | zero =>
    intro k i hd hk
    obtain ⟨k, rfl⟩ : ∃ m, k = m + 1 := ⟨k - 1, by omega⟩
    simp only [revetmentlaw14_RingTurns.l0]
    rw [places_len, if_neg (by omega), live_true k (by omega)]
    rfl
  | succ d ih =>
    intro k i hd hk
    obtain ⟨k, rfl⟩ : ∃ m, k = m + 1 := ⟨k - 1, by omega⟩
    simp only [revetmentlaw14_RingTurns.l0]
    rw [places_len, if_pos (by omega), if_pos (by omega), if_pos (by omega), if_pos trivial]
    exact inner a s hs hs64 _ i (by omega) i k 0 (by omega) (by omega) (fun k' hk' => ih k' (i + 1) (by omega) (by omega))
theorem RingTurns : revetmentlaw14_RingTurns.Pure := by
  intro a n q _ _ _
  have h1 := sz_pos n
  have h2 := sz_le n
  refine ⟨10000, ?_⟩
  have hm1 := tmod_lo (wrap64 q) (s := 300) (by omega)
  have hm2 := tmod_hi (wrap64 q) (s := 300) (by omega)
  unfold revetmentlaw14_RingTurns.f
  rw [order_v _ _ _ (by omega), rorder_v _ _ _ (by omega), next_v, rnext_pl]
  simp only [Option.bind_some, if_true, walk_v]
  rw [rwalk_v _ _ _ _ (by omega) (by omega) (by omega)]
  simp only [Option.bind_some, if_true, bne_self_eq_false]
  rw [show (10000 : Nat) = 9999 + 1 from rfl]
  simp only [revetmentlaw14_RingTurns.j0, Bool.false_eq_true, if_false]
  exact outer _ _ h1 h2 (sz n).toNat 9999 0 (by omega) (by omega)
end Go.Proofs.Ytgchdkppjcnkiaa.Pure
