/- The document's answers, in lists alone. -/
import Derived.Test.YtlhmpmmblnbmbaaCacHl
import Derived.Test.YtlhmpmmblnbmbaaCacR1
import Derived.Test.YtlhmpmmblnbmbaaCacGet
import Derived.Test.YtlhmpmmblnbmbaaPCachePlaysx5
set_option linter.unusedVariables false
set_option linter.unusedSimpArgs false
namespace Go.Proofs.Ytlhmpmmblnbmbaa.Cac
open Go Go.RowKit Go.Proofs.Ytlhmpmmblnbmbaa.PCachePlays Go.Proofs.YtlhmpmmblnbmbaaW.PrintWords Go.Proofs.YtlhmpmmblnbmbaaW.PrintLast Go.Proofs.YtlhmpmmblnbmbaaW.PrintMore Go.Proofs.Ytlhmpmmblnbmbaa.FlowU Go.Proofs.Ytlhmpmmblnbmbaa.Ev Go.Proofs.Ytlhmpmmblnbmbaa.Ke Go.Proofs.Ytlhmpmmblnbmbaa.Cells
set_option maxRecDepth 100000
/-- The document's list, of what is held. -/
def tos (L : KL) : List S58 := L.map fun x => ⟨x.1, strOfNums x.2⟩
theorem tos_len (L : KL) : (tos L).length = L.length := List.length_map ..
theorem tos_get (L : KL) (i : Nat) : (tos L)[i]? = (L[i]?).map fun x => (⟨x.1, strOfNums x.2⟩ : S58) := List.getElem?_map ..
theorem wrn {i : Nat} (h : i ≤ 1000000) : wrap64 ((i : Int) + 1) = ((i + 1 : Nat) : Int) := by
  unfold wrap64; omega
theorem rd58 {l : List S58} {i : Nat} {x : S58} (h : l[i]? = some x) : rd_T58 l i = x := by
  unfold rd_T58
  rw [Int.toNat_natCast, List.getD_eq_getElem?_getD, h]; rfl
theorem same_c (a b : S36) : (!((a.f0 == b.f0)) || (!((a.f1 == b.f1)) || (!((a.f2 == b.f2))))) = !same a b := by
  unfold same
  cases a.f0 == b.f0 <;> cases a.f1 == b.f1 <;> cases a.f2 == b.f2 <;> rfl
theorem same_d (a b : S36) : ((a.f0 == b.f0) && ((a.f1 == b.f1) && (a.f2 == b.f2))) = same a b := by
  unfold same
  rw [Bool.and_assoc]
/-- one of the list, the rest behind it -/
theorem drop_tos {L : KL} {i : Nat} {x : S36 × List Int} (h : L[i]? = some x) : L.drop i = x :: L.drop (i + 1) := by
  obtain ⟨hl, rfl⟩ := List.getElem?_eq_some_iff.1 h
  exact List.drop_eq_getElem_cons hl
theorem without_from (k : S36) (L : KL) (hL : L.length ≤ 900000) : ∀ m i : Nat, i + m = L.length → ∀ acc : List S58, acc.length ≤ i → revetmentref35_without.l0 (m + 1) (tos L) acc i k.f0 k.f1 k.f2 = some (acc ++ tos (fwo k (L.drop i))) := by
  intro m
  induction m with
  | zero =>
    intro i hi acc ha
    have h1 : ¬ (i : Int) < ((tos L).length : Int) := by rw [tos_len]; omega
    simp only [revetmentref35_without.l0, h1, if_false]
    rw [List.drop_eq_nil_of_le (by omega)]
    simp [tos, fwo]
  | succ m ih =>
    intro i hi acc ha
    have h1 : (i : Int) < ((tos L).length : Int) := by rw [tos_len]; omega
    have h0 : (0 : Int) ≤ i := by omega
    obtain ⟨x, hx⟩ : ∃ x, L[i]? = some x := ⟨_, List.getElem?_eq_getElem (by omega)⟩
    have hr : rd_T58 (tos L) i = ⟨x.1, strOfNums x.2⟩ := rd58 (by rw [tos_get, hx]; rfl)
    have hl : acc.length < 3518437208883 := by omega
    rw [revetmentref35_without.l0]
    rw [if_pos h1, if_pos h0, hr, wrn (by omega), drop_tos hx]
    show (if (!(x.1.f0 == k.f0) || (!(x.1.f1 == k.f1) || (!(x.1.f2 == k.f2)))) = true then _ else _) = _
    rw [same_c]
    cases hs : same x.1 k with
    | true =>
      rw [if_neg (by simp), ih (i + 1) (by omega) acc (by omega)]
      simp [fwo, hs]
    | false =>
      rw [if_pos (by simp), if_pos hl, ih (i + 1) (by omega) _ (by simp; omega)]
      simp [fwo, hs, tos]
theorem without_l (k : S36) (L : KL) (hL : L.length ≤ 900000) : revetmentref35_without.f (L.length + 1) (tos L) k.f0 k.f1 k.f2 = some (tos (fwo k L)) := by
  have := without_from k L hL L.length 0 (by omega) [] (Nat.le_refl _)
  rw [List.drop_zero] at this
  exact this
theorem without_up (k : S36) (l : List S58) (r : List S58) (n m : Nat) (h : revetmentref35_without.f n l k.f0 k.f1 k.f2 = some r) : revetmentref35_without.f (n + m) l k.f0 k.f1 k.f2 = some r := by
  induction m with
  | zero => exact h
  | succ m ih => exact revetmentref35_without.mono _ _ _ _ _ _ ih
/-- The document's Get: what it answers, and what it holds then. -/
theorem get_from (k : S36) (L : KL) (hL : L.length ≤ 900000) (room hits misses : Int) : ∀ m i : Nat, i + m = L.length → fat k (L.take i) = none → revetmentref35_Get.l0 (m + 1 + (L.length + 1)) i (tos L) room hits misses k.f0 k.f1 k.f2 = (match fat k L with
    | none => some (tos L, room, hits, wrap64 (misses + 1), (⟨#[]⟩ : ByteArray), false)
    | some d => some (tos ((k, d) :: fwo k L), room, wrap64 (hits + 1), misses, strOfNums d, true)) := by
  intro m
  induction m with
  | zero =>
    intro i hi hn
    have h1 : ¬ (i : Int) < ((tos L).length : Int) := by rw [tos_len]; omega
    rw [List.take_of_length_le (by omega)] at hn
    rw [show 0 + 1 + (L.length + 1) = (L.length + 1) + 1 by omega, revetmentref35_Get.l0, if_neg h1, hn]
  | succ m ih =>
    intro i hi hn
    have h1 : (i : Int) < ((tos L).length : Int) := by rw [tos_len]; omega
    have h0 : (0 : Int) ≤ i := by omega
    obtain ⟨x, hx⟩ : ∃ x, L[i]? = some x := ⟨_, List.getElem?_eq_getElem (by omega)⟩
    have hr : rd_T58 (tos L) i = ⟨x.1, strOfNums x.2⟩ := rd58 (by rw [tos_get, hx]; rfl)
    rw [show m + 1 + 1 + (L.length + 1) = (m + 1 + (L.length + 1)) + 1 by omega, revetmentref35_Get.l0]
    rw [if_pos h1, if_pos h0, hr, wrn (by omega)]
    show (if ((x.1.f0 == k.f0) && ((x.1.f1 == k.f1) && (x.1.f2 == k.f2))) = true then _ else _) = _
    rw [same_d]
    have htk : L.take (i + 1) = L.take i ++ [x] := by
      obtain ⟨hl, rfl⟩ := List.getElem?_eq_some_iff.1 hx
      exact List.take_succ_eq_append_getElem hl
    cases hs : same x.1 k with
    | true =>
      obtain hk := same_iff.1 hs
      have hf : fat k L = some x.2 := by
        have hn2 : (L.take i).find? (fun x => same x.1 k) = none := by
          unfold fat at hn; simpa using hn
        unfold fat
        rw [← List.take_append_drop i L, List.find?_append, hn2, drop_tos hx, List.find?_cons, hs]
        rfl
      have hw : revetmentref35_without.f (m + 1 + (L.length + 1)) (tos L) k.f0 k.f1 k.f2 = some (tos (fwo k L)) := by
        rw [show m + 1 + (L.length + 1) = (L.length + 1) + (m + 1) by omega]
        exact without_up k _ _ _ _ (without_l k L hL)
      have hle : (fwo k L).length ≤ L.length := List.length_filter_le _ _
      rw [if_pos rfl, hf, Option.bind_some, hw, Option.bind_some]
      rw [if_pos (by rw [tos_len]; simp only [List.length_cons, List.length_nil]; omega)]
      subst hk
      rfl
    | false =>
      rw [if_neg (by simp)]
      refine ih (i + 1) (by omega) ?_
      unfold fat at hn ⊢
      rw [htk, List.find?_append]
      have hn2 : (L.take i).find? (fun x => same x.1 k) = none := by simpa using hn
      rw [hn2]
      simp [hs]
theorem get_l (k : S36) (L : KL) (hL : L.length ≤ 900000) (room hits misses : Int) : ∃ kf, revetmentref35_Get.f kf (tos L) room hits misses k.f0 k.f1 k.f2 = (match fat k L with
    | none => some (tos L, room, hits, wrap64 (misses + 1), (⟨#[]⟩ : ByteArray), false)
    | some d => some (tos ((k, d) :: fwo k L), room, wrap64 (hits + 1), misses, strOfNums d, true)) :=
  ⟨_, get_from k L hL room hits misses L.length 0 (by omega) rfl⟩
theorem drop_from (z : Int) (L : KL) (hL : L.length ≤ 900000) (room hits misses : Int) : ∀ m i : Nat, i + m = L.length → ∀ acc : List S58, acc.length ≤ i → revetmentref35_Drop.l0 (m + 1) z acc i (tos L) room hits misses = some (acc ++ tos (dropL z (L.drop i)), room, hits, misses, wrap64 ((L.length : Int) - (acc ++ tos (dropL z (L.drop i))).length)) := by
  intro m
  induction m with
  | zero =>
    intro i hi acc ha
    have h1 : ¬ (i : Int) < ((tos L).length : Int) := by rw [tos_len]; omega
    simp only [revetmentref35_Drop.l0, h1, if_false]
    rw [List.drop_eq_nil_of_le (by omega), tos_len]
    simp [tos, dropL]
  | succ m ih =>
    intro i hi acc ha
    have h1 : (i : Int) < ((tos L).length : Int) := by rw [tos_len]; omega
    have h0 : (0 : Int) ≤ i := by omega
    obtain ⟨x, hx⟩ : ∃ x, L[i]? = some x := ⟨_, List.getElem?_eq_getElem (by omega)⟩
    have hr : rd_T58 (tos L) i = ⟨x.1, strOfNums x.2⟩ := rd58 (by rw [tos_get, hx]; rfl)
    have hl : acc.length < 3518437208883 := by omega
    rw [revetmentref35_Drop.l0]
    rw [if_pos h1, if_pos h0, hr, wrn (by omega), drop_tos hx]
    show (if x.1.f0 = z then _ else _) = _
    by_cases hz : x.1.f0 = z
    · rw [if_pos hz, ih (i + 1) (by omega) acc (by omega)]
      simp [dropL, hz]
    · rw [if_neg hz, if_pos hl, ih (i + 1) (by omega) _ (by simp; omega)]
      simp [dropL, hz, tos]
theorem drop_l (z : Int) (L : KL) (hL : L.length ≤ 900000) (room hits misses : Int) : revetmentref35_Drop.f (L.length + 1) (tos L) room hits misses z = some (tos (dropL z L), room, hits, misses, (L.length : Int) - (dropL z L).length) := by
  have h := drop_from z L hL room hits misses L.length 0 (by omega) [] (Nat.le_refl _)
  rw [List.drop_zero, List.nil_append, tos_len] at h
  have hle : (dropL z L).length ≤ L.length := List.length_filter_le _ _
  have hw : wrap64 ((L.length : Int) - (dropL z L).length) = (L.length : Int) - (dropL z L).length := by unfold wrap64; omega
  rw [hw] at h
  exact h
theorem put_l {room : Nat} {k : S36} {d : List Int} {L : KL} (h : L.length ≤ room) (h0 : ¬ room = 0) : rputL room k (strOfNums d) (tos (fwo k L)) = tos (putL room k d L) := by
  have hle : (fwo k L).length ≤ L.length := List.length_filter_le _ _
  unfold rputL putL
  rw [if_neg (by omega : ¬ (room : Int) = 0), tos_len]
  have e1 : [(⟨k, strOfNums d⟩ : S58)] ++ tos (fwo k L) = tos ((k, d) :: fwo k L) := rfl
  rw [e1]
  by_cases ho : (fwo k L).length + 1 > room
  · rw [if_pos ho, if_pos (by rw [List.length_cons]; omega)]
    have : room = ((k, d) :: fwo k L).length - 1 := by rw [List.length_cons]; omega
    unfold tos
    rw [List.dropLast_eq_take, ← this, List.map_take]
  · rw [if_neg ho, if_neg (by rw [List.length_cons]; omega)]
theorem putL_le {room : Nat} {k : S36} {d : List Int} {L : KL} (h : L.length ≤ room) : (putL room k d L).length ≤ room := by
  have hle : (fwo k L).length ≤ L.length := List.length_filter_le _ _
  unfold putL
  split
  · exact h
  · split
    · rw [List.length_dropLast, List.length_cons]; omega
    · rename_i h2; omega
end Go.Proofs.Ytlhmpmmblnbmbaa.Cac
