/- Which log holds, and where the next checkpoint is laid: the program's way and the document's alike; walked for any logs. -/
import Derived.Test.YtgchdkppjcnkiaaRBest
namespace Go.Proofs.Ytgchdkppjcnkiaa.Newer
open Go.RowKit Go.Proofs.Ytgchdkppjcnkiaa.PPickBests Go.Proofs.Ytgchdkppjcnkiaa.Cells Go.Proofs.YtgchdkppjcnkiaaW.PrintWords Go.Proofs.YtgchdkppjcnkiaaW.PrintLast Go.Proofs.YtgchdkppjcnkiaaW.PrintMore
theorem nw_iff (a b c d e f : Int) : nw a b c d e f = true ↔ a ≥ 1 ∧ (d < 1 ∨ b > e ∨ (b = e ∧ c > f)) := by
  unfold nw
  by_cases k1 : a ≥ 1
  · by_cases k2 : d ≥ 1
    · by_cases k3 : b = e
      · rw [if_pos k1, if_pos k2, if_pos k3, decide_eq_true_eq]; omega
      · rw [if_pos k1, if_pos k2, if_neg k3, decide_eq_true_eq]; omega
    · rw [if_pos k1, if_neg k2]; simp; omega
  · rw [if_neg k1]; simp; omega
theorem nw_tr {a b c d e f g h i : Int} (h1 : nw a b c d e f = true) (h2 : nw d e f g h i = true) : nw a b c g h i = true := by
  rw [nw_iff] at *; omega
theorem nw_ng {a b c d e f g h i : Int} (h1 : nw a b c d e f = true) (h2 : nw g h i d e f = false) : nw a b c g h i = true := by
  rw [← Bool.not_eq_true] at h2
  rw [nw_iff] at *; omega
theorem nw_ir (a b c : Int) : nw a b c a b c = false := by
  unfold nw
  by_cases k1 : a ≥ 1 <;> simp [k1]
theorem nw_un {a b c d e f : Int} (h : ¬ a ≥ 1) : nw a b c d e f = false := by unfold nw; rw [if_neg h]
theorem nw_ov {a b c d e f : Int} (h : a ≥ 1) (k : ¬ d ≥ 1) : nw a b c d e f = true := by unfold nw; rw [if_pos h, if_neg k]
structure Good (l : List S35) (k : Nat) (b : Int) : Prop where
  none : b < 0 → ∀ j : Nat, j < k → ¬ (rd_T35 l j).f2 ≥ 1
  is : 0 ≤ b → (rd_T35 l b).f2 ≥ 1
  top : 0 ≤ b → ∀ j : Nat, j < k → nS (rd_T35 l j) (rd_T35 l b) = false
  first : 0 ≤ b → ∀ j : Nat, (j : Int) < b → nS (rd_T35 l b) (rd_T35 l j) = true
theorem good (l : List S35) : ∀ k, Good l k (bk l k)
  | 0 => ⟨fun _ j h => by omega, fun h => by simp [bk] at h, fun h => by simp [bk] at h, fun h => by simp [bk] at h⟩
  | k + 1 => by
    obtain ⟨g1, g2, g3, g4⟩ := good l k
    by_cases hc : (rd_T35 l k).f2 ≥ 1 ∧ (bk l k < 0 ∨ nS (rd_T35 l k) (rd_T35 l (bk l k)) = true)
    · rw [bk_yes l k hc]
      obtain ⟨hf, hn⟩ := hc
      refine ⟨fun h => by omega, fun _ => hf, fun _ j hj => ?_, fun _ j hj => ?_⟩
      · by_cases hjk : j = k
        · subst hjk; exact nw_ir _ _ _
        · rcases hn with hn | hn
          · exact nw_un (g1 hn j (by omega))
          · by_cases h0 : bk l k < 0
            · exact nw_un (g1 h0 j (by omega))
            · cases hx : nS (rd_T35 l j) (rd_T35 l k) with
              | false => rfl
              | true =>
                have := nw_tr hx hn
                have h3 := g3 (by omega) j (by omega)
                unfold nS at h3
                rw [h3] at this; cases this
      · rcases hn with hn | hn
        · exact nw_ov hf (g1 hn j (by omega))
        · by_cases h0 : bk l k < 0
          · exact nw_ov hf (g1 h0 j (by omega))
          · exact nw_ng hn (g3 (by omega) j (by omega))
    · rw [bk_no l k hc]
      refine ⟨fun h j hj => ?_, g2, fun h j hj => ?_, g4⟩
      · by_cases hjk : j = k
        · subst hjk; exact fun hf => hc ⟨hf, .inl h⟩
        · exact g1 h j (by omega)
      · by_cases hjk : j = k
        · subst hjk
          by_cases hf : (rd_T35 l j).f2 ≥ 1
          · cases hx : nS (rd_T35 l j) (rd_T35 l (bk l j)) with
            | false => rfl
            | true => exact absurd ⟨hf, .inr hx⟩ hc
          · exact nw_un hf
        · exact g3 h j (by omega)
theorem okb_iff (l : List S35) (i : Nat) : ∀ k, okb l i k = true ↔ ((rd_T35 l i).f2 > 0 ∧ ∀ j, j < k → nS (rd_T35 l j) (rd_T35 l i) = false)
  | 0 => by simp [okb]
  | k + 1 => by
    unfold okb
    rw [Bool.and_eq_true, okb_iff l i k]
    constructor
    · rintro ⟨⟨h1, h2⟩, h3⟩
      refine ⟨h1, fun j hj => ?_⟩
      by_cases hjk : j = k
      · subst hjk; simpa using h3
      · exact h2 j (by omega)
    · rintro ⟨h1, h2⟩
      exact ⟨⟨h1, fun j hj => h2 j (by omega)⟩, by simpa using h2 k (by omega)⟩
theorem fb_none (l : List S35) : ∀ d i, (∀ j, i ≤ j → j < i + d → okb l j l.length = false) → fb l d i = (0, false)
  | 0, _, _ => rfl
  | d + 1, i, h => by
    unfold fb
    rw [if_neg (by rw [h i (Nat.le_refl _) (by omega)]; decide)]
    exact fb_none l d (i + 1) (fun j h1 h2 => h j (by omega) (by omega))
theorem fb_some (l : List S35) (b : Nat) (hb : okb l b l.length = true) : ∀ d i, i ≤ b → b < i + d → (∀ j, i ≤ j → j < b → okb l j l.length = false) → fb l d i = ((b : Int), true)
  | 0, i, h1, h2, _ => by omega
  | d + 1, i, h1, h2, h => by
    unfold fb
    by_cases e : i = b
    · subst e; rw [if_pos hb]
    · rw [if_neg (by rw [h i (Nat.le_refl _) (by omega)]; decide)]
      exact fb_some l b hb d (i + 1) (by omega) (by omega) (fun j h3 h4 => h j (by omega) h4)
/-- the two ways alike -/
theorem same (l : List S35) : fb l l.length 0 = (mx (bk l l.length) 0, decide (bk l l.length ≥ 0)) := by
  obtain ⟨g1, g2, g3, g4⟩ := good l l.length
  have lo := bk_lo l l.length
  have hi := bk_hi l l.length
  by_cases h : bk l l.length < 0
  · rw [fb_none l _ 0 (fun j _ hj => by
      cases hx : okb l j l.length with
      | false => rfl
      | true => exact absurd ((okb_iff l j _).1 hx).1 (by have := g1 h j (by omega); omega))]
    unfold mx
    rw [if_pos h, decide_eq_false (by omega)]
  · obtain ⟨b, hb⟩ := Int.eq_ofNat_of_zero_le (show 0 ≤ bk l l.length by omega)
    rw [hb] at g2 g3 g4 hi ⊢
    have hok : okb l b l.length = true := (okb_iff l b _).2 ⟨by have := g2 (by omega); omega, fun j hj => g3 (by omega) j hj⟩
    rw [fb_some l b hok l.length 0 (by omega) (by omega) (fun j _ hj => by
      cases hx : okb l j l.length with
      | false => rfl
      | true =>
        have h1 := ((okb_iff l j _).1 hx).2 b (by omega)
        rw [g4 (by omega) j (by omega)] at h1; cases h1)]
    unfold mx
    rw [if_neg (by omega), decide_eq_true (by omega)]
theorem fb_lt (l : List S35) : (fb l l.length 0).2 = true → 0 ≤ (fb l l.length 0).1 ∧ (fb l l.length 0).1 < l.length := by
  rw [same]
  have hi := bk_hi l l.length
  intro h
  have h0 : bk l l.length ≥ 0 := by simpa using h
  show 0 ≤ mx _ _ ∧ mx _ _ < _
  unfold mx
  rw [if_neg (by omega)]
  omega
theorem fb_no (l : List S35) : (fb l l.length 0).2 = false → (fb l l.length 0).1 = 0 := by
  rw [same]
  intro h
  have h0 : ¬ bk l l.length ≥ 0 := by simpa using h
  show mx _ _ = 0
  unfold mx
  rw [if_pos (by omega)]
section
variable (l : List S35) (A : Option Addr) (cap : Nat) (hlen : l.length ≤ 9223372036854775807)
include hlen
theorem best_r (w : World) (hl : Kd.C k35 w A l.length l) : Calls Try.prog 21 #[.slice A l.length cap] w fun e w' => e = .returned (.tuple #[.int .i64 (fb l l.length 0).1, .bool (fb l l.length 0).2]) ∧ Below w.heap.size w w' := by
  rw [same]
  exact best_c l A cap w hl hlen
set_option maxHeartbeats 4000000 in
theorem zone_r (w : World) (hl : Kd.C k35 w A l.length l) : Calls Try.prog 23 #[.slice A l.length cap] w fun e w' => e = .returned (.tuple #[.int .i64 (fb l l.length 0).1, .bool (fb l l.length 0).2]) ∧ Below w.heap.size w w' := by
  have HL := Aside0.mk hl
  clear hl
  obtain ⟨r1, hr1⟩ : ∃ r, (fb l l.length 0).1 = r := ⟨_, rfl⟩
  obtain ⟨r2, hr2⟩ : ∃ r, (fb l l.length 0).2 = r := ⟨_, rfl⟩
  rw [hr1, hr2]
  have H1 := Aside0.mk hr1
  have H2 := Aside0.mk hr2
  clear hr1 hr2
  go_enter Try.func23, Try.ntmps23
  go_wp2_with (go_at_call 21; refine (best_r l A cap hlen w HL.out).mono ?_; rintro e w2 ⟨rfl, hb⟩; rw [H1.out, H2.out]; have HB := Aside0.mk hb; clear hb)
  go_ret2
  exact ⟨rfl, HB.out⟩
/-- where the next checkpoint is laid -/
def tg (l : List S35) : Int := if (fb l l.length 0).2 = true then Int.tmod ((fb l l.length 0).1 + 1) l.length else 0
set_option maxHeartbeats 4000000 in
theorem target_r (w : World) (hl : Kd.C k35 w A l.length l) : Calls Try.prog 24 #[.slice A l.length cap] w fun e w' => e = .returned (.int .i64 (tg l)) ∧ Below w.heap.size w w' := by
  have HL := Aside0.mk hl
  clear hl
  have h1 := fb_lt l
  have h2 := fb_no l
  have ht : tg l = if (fb l l.length 0).2 = true then Int.tmod ((fb l l.length 0).1 + 1) l.length else 0 := rfl
  obtain ⟨r1, hr1⟩ : ∃ r, (fb l l.length 0).1 = r := ⟨_, rfl⟩
  obtain ⟨r2, hr2⟩ : ∃ r, (fb l l.length 0).2 = r := ⟨_, rfl⟩
  rw [hr1, hr2] at h1 h2 ht
  have H1 := Aside0.mk hr1
  have H2 := Aside0.mk hr2
  clear hr1 hr2
  cases r2 with
  | true =>
    obtain ⟨h3, h4⟩ := h1 rfl
    rw [ht, if_pos rfl]
    clear h1 h2 ht
    have hw : wrap64 (r1 + 1) = r1 + 1 := by unfold wrap64; omega
    have hne : ¬ ((l.length : Int) = 0) := by omega
    go_enter Try.func24, Try.ntmps24
    go_wp2_with (go_at_call 23; refine (zone_r l A cap hlen w HL.out).mono ?_; rintro e w2 ⟨rfl, hb⟩; rw [H1.out, H2.out]; have HB := Aside0.mk hb; clear hb)
    go_ret
    exact ⟨by rw [Int.tmod_eq_emod_of_nonneg (by omega)]; rfl, HB.out⟩
  | false =>
    rw [ht, if_neg (by decide)]
    clear h1 h2 ht
    go_enter Try.func24, Try.ntmps24
    go_wp2_with (go_at_call 23; refine (zone_r l A cap hlen w HL.out).mono ?_; rintro e w2 ⟨rfl, hb⟩; rw [H1.out, H2.out]; have HB := Aside0.mk hb; clear hb)
    go_ret
    exact ⟨rfl, HB.out⟩
theorem rbest_r (w : World) (hl : Kd.C k35 w A l.length l) : Calls Try.prog 22 #[.slice A l.length cap] w fun e w' => e = .returned (.tuple #[.int .i64 (fb l l.length 0).1, .bool (fb l l.length 0).2]) ∧ Below w.heap.size w w' :=
  rbest_c l A cap w hl hlen
set_option maxHeartbeats 8000000 in
theorem law_r (w : World) (hl : Kd.C k35 w A l.length l) : Calls Try.prog 7 #[.slice A l.length cap] w fun e w' => e = .returned (.bool true) ∧ Below w.heap.size w w' := by
  have HL := Aside0.mk hl
  have HB := Aside0.mk (Below.refl w.heap.size w)
  clear hl
  have h1 := fb_lt l
  have h2 := fb_no l
  have ht : tg l = if (fb l l.length 0).2 = true then Int.tmod ((fb l l.length 0).1 + 1) l.length else 0 := rfl
  obtain ⟨r1, hr1⟩ : ∃ r, (fb l l.length 0).1 = r := ⟨_, rfl⟩
  obtain ⟨r2, hr2⟩ : ∃ r, (fb l l.length 0).2 = r := ⟨_, rfl⟩
  obtain ⟨r3, hr3⟩ : ∃ r, tg l = r := ⟨_, rfl⟩
  rw [hr1, hr2, hr3] at ht
  rw [hr1, hr2] at h1 h2
  have H1 := Aside0.mk hr1
  have H2 := Aside0.mk hr2
  have H3 := Aside0.mk hr3
  clear hr1 hr2 hr3
  by_cases hbig : (l.length : Int) > 60
  · have hb1 : decide ((60 : Int) < l.length) = true := decide_eq_true hbig
    have hb2 : decide (60 < l.length) = true := decide_eq_true (by omega)
    clear h1 h2 ht hbig
    go_enter Try.func7, Try.ntmps7
    go_wp2_with (first | (go_at_call 21; refine (best_r l A cap hlen _ (Kd.C_below HL.out HB.out)).mono ?_; rintro e w2 ⟨rfl, hb⟩; rw [H1.out, H2.out]; have n0_ := Aside0.mk (below_step HB.out hb); clear HB hb; have HB := n0_; clear n0_) | (go_at_call 22; refine (rbest_r l A cap hlen _ (Kd.C_below HL.out HB.out)).mono ?_; rintro e w2 ⟨rfl, hb⟩; rw [H1.out, H2.out]; have n0_ := Aside0.mk (below_step HB.out hb); clear HB hb; have HB := n0_; clear n0_) | (go_at_call 23; refine (zone_r l A cap hlen _ (Kd.C_below HL.out HB.out)).mono ?_; rintro e w2 ⟨rfl, hb⟩; rw [H1.out, H2.out]; have n0_ := Aside0.mk (below_step HB.out hb); clear HB hb; have HB := n0_; clear n0_) | (go_at_call 24; refine (target_r l A cap hlen _ (Kd.C_below HL.out HB.out)).mono ?_; rintro e w2 ⟨rfl, hb⟩; rw [H3.out]; have n0_ := Aside0.mk (below_step HB.out hb); clear HB hb; have HB := n0_; clear n0_) | (go_at_call 17; refine (live_c _).mono ?_; rintro e w2 ⟨rfl, hb⟩; have n0_ := Aside0.mk (below_step HB.out hb); clear HB hb; have HB := n0_; clear n0_))
    go_ret
    exact ⟨rfl, HB.out⟩
  · have hb1 : decide ((60 : Int) < l.length) = false := decide_eq_false hbig
    have hb2 : decide (60 < l.length) = false := decide_eq_false (by omega)
    cases r2 with
    | true =>
      obtain ⟨h3, h4⟩ := h1 rfl
      rw [if_pos rfl, Int.tmod_eq_emod_of_nonneg (by omega)] at ht
      have hne : ¬ ((l.length : Int) = 0) := by omega
      have hself : (r3 == r3) = true := by simp
      have hself1 : (r1 != r1) = false := by simp
      by_cases hl2 : l.length < 2
      · have hl3 : decide (l.length < 2) = true := decide_eq_true hl2
        have hl4 : decide ((l.length : Int) < 2) = true := decide_eq_true (by omega)
        have hm : (r1 + 1) % (l.length : Int) = r3 := ht.symm
        clear h1 h2 ht hl2
        go_enter Try.func7, Try.ntmps7
        go_wp2_with (first | (go_at_call 21; refine (best_r l A cap hlen _ (Kd.C_below HL.out HB.out)).mono ?_; rintro e w2 ⟨rfl, hb⟩; rw [H1.out, H2.out]; have n0_ := Aside0.mk (below_step HB.out hb); clear HB hb; have HB := n0_; clear n0_) | (go_at_call 22; refine (rbest_r l A cap hlen _ (Kd.C_below HL.out HB.out)).mono ?_; rintro e w2 ⟨rfl, hb⟩; rw [H1.out, H2.out]; have n0_ := Aside0.mk (below_step HB.out hb); clear HB hb; have HB := n0_; clear n0_) | (go_at_call 23; refine (zone_r l A cap hlen _ (Kd.C_below HL.out HB.out)).mono ?_; rintro e w2 ⟨rfl, hb⟩; rw [H1.out, H2.out]; have n0_ := Aside0.mk (below_step HB.out hb); clear HB hb; have HB := n0_; clear n0_) | (go_at_call 24; refine (target_r l A cap hlen _ (Kd.C_below HL.out HB.out)).mono ?_; rintro e w2 ⟨rfl, hb⟩; rw [H3.out]; have n0_ := Aside0.mk (below_step HB.out hb); clear HB hb; have HB := n0_; clear n0_) | (go_at_call 17; refine (live_c _).mono ?_; rintro e w2 ⟨rfl, hb⟩; have n0_ := Aside0.mk (below_step HB.out hb); clear HB hb; have HB := n0_; clear n0_))
        go_ret
        exact ⟨rfl, HB.out⟩
      · have hl3 : decide (l.length < 2) = false := decide_eq_false hl2
        have hl4 : decide ((l.length : Int) < 2) = false := decide_eq_false (by omega)
        have hd : (r3 != r1) = true := bne_iff_ne.mpr (by
          rw [ht]
          by_cases e : r1 + 1 = l.length
          · rw [e, Int.emod_self]; omega
          · rw [Int.emod_eq_of_lt (by omega) (by omega)]; omega)
        have hm : (r1 + 1) % (l.length : Int) = r3 := ht.symm
        clear h1 h2 ht hl2
        go_enter Try.func7, Try.ntmps7
        go_wp2_with (first | (go_at_call 21; refine (best_r l A cap hlen _ (Kd.C_below HL.out HB.out)).mono ?_; rintro e w2 ⟨rfl, hb⟩; rw [H1.out, H2.out]; have n0_ := Aside0.mk (below_step HB.out hb); clear HB hb; have HB := n0_; clear n0_) | (go_at_call 22; refine (rbest_r l A cap hlen _ (Kd.C_below HL.out HB.out)).mono ?_; rintro e w2 ⟨rfl, hb⟩; rw [H1.out, H2.out]; have n0_ := Aside0.mk (below_step HB.out hb); clear HB hb; have HB := n0_; clear n0_) | (go_at_call 23; refine (zone_r l A cap hlen _ (Kd.C_below HL.out HB.out)).mono ?_; rintro e w2 ⟨rfl, hb⟩; rw [H1.out, H2.out]; have n0_ := Aside0.mk (below_step HB.out hb); clear HB hb; have HB := n0_; clear n0_) | (go_at_call 24; refine (target_r l A cap hlen _ (Kd.C_below HL.out HB.out)).mono ?_; rintro e w2 ⟨rfl, hb⟩; rw [H3.out]; have n0_ := Aside0.mk (below_step HB.out hb); clear HB hb; have HB := n0_; clear n0_) | (go_at_call 17; refine (live_c _).mono ?_; rintro e w2 ⟨rfl, hb⟩; have n0_ := Aside0.mk (below_step HB.out hb); clear HB hb; have HB := n0_; clear n0_))
        go_ret
        exact ⟨rfl, HB.out⟩
    | false =>
      obtain rfl := h2 rfl
      rw [if_neg (by decide)] at ht
      subst ht
      clear h1 h2 hbig
      go_enter Try.func7, Try.ntmps7
      go_wp2_with (first | (go_at_call 21; refine (best_r l A cap hlen _ (Kd.C_below HL.out HB.out)).mono ?_; rintro e w2 ⟨rfl, hb⟩; rw [H1.out, H2.out]; have n0_ := Aside0.mk (below_step HB.out hb); clear HB hb; have HB := n0_; clear n0_) | (go_at_call 22; refine (rbest_r l A cap hlen _ (Kd.C_below HL.out HB.out)).mono ?_; rintro e w2 ⟨rfl, hb⟩; rw [H1.out, H2.out]; have n0_ := Aside0.mk (below_step HB.out hb); clear HB hb; have HB := n0_; clear n0_) | (go_at_call 23; refine (zone_r l A cap hlen _ (Kd.C_below HL.out HB.out)).mono ?_; rintro e w2 ⟨rfl, hb⟩; rw [H1.out, H2.out]; have n0_ := Aside0.mk (below_step HB.out hb); clear HB hb; have HB := n0_; clear n0_) | (go_at_call 24; refine (target_r l A cap hlen _ (Kd.C_below HL.out HB.out)).mono ?_; rintro e w2 ⟨rfl, hb⟩; rw [H3.out]; have n0_ := Aside0.mk (below_step HB.out hb); clear HB hb; have HB := n0_; clear n0_) | (go_at_call 17; refine (live_c _).mono ?_; rintro e w2 ⟨rfl, hb⟩; have n0_ := Aside0.mk (below_step HB.out hb); clear HB hb; have HB := n0_; clear n0_))
      go_ret
      exact ⟨rfl, HB.out⟩
end
end Go.Proofs.Ytgchdkppjcnkiaa.Newer
