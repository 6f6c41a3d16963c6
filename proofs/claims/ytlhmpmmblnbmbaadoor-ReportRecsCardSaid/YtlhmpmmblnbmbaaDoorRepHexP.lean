/- Bytes as hexadecimal digits. -/
import Derived.Test.YtlhmpmmblnbmbaaDoorRepWords
namespace Go.Proofs.YtlhmpmmblnbmbaaDoor.Rep
set_option linter.unusedVariables false
set_option linter.unusedSimpArgs false
open Go.Lib Go.RowKit Go.Proofs.YtlhmpmmblnbmbaaDoor.Ev Go.Proofs.YtlhmpmmblnbmbaaDoor.Cells Go.Proofs.YtlhmpmmblnbmbaaDoorW.PrintWords Go.Proofs.YtlhmpmmblnbmbaaDoorW.PrintLast Go.Proofs.YtlhmpmmblnbmbaaDoorW.PrintMore
def HD : ByteArray := ⟨#[48, 49, 50, 51, 52, 53, 54, 55, 56, 57, 97, 98, 99, 100, 101, 102]⟩
def hexN (l : List Int) : List Int := l.flatMap fun c => [bt HD (c / 16), bt HD (c % 16)]
def hexB (l : List Int) : ByteArray := strOfNums (hexN l)
theorem hexN_snoc (l : List Int) (k : Nat) (h : k < l.length) : hexN (l.take k) ++ [bt HD (l.getD k 0 / 16), bt HD (l.getD k 0 % 16)] = hexN (l.take (k + 1)) := by
  unfold hexN
  rw [List.take_succ_eq_append_getElem h, List.flatMap_append, List.getD_eq_getElem?_getD, List.getElem?_eq_getElem h]; simp
theorem hexN_len (l : List Int) : (hexN l).length = 2 * l.length := by
  unfold hexN
  induction l with
  | nil => rfl
  | cons x l ih => rw [List.flatMap_cons, List.length_append, ih]; simp; omega
theorem and15 : ∀ n : Fin 256, Go.bits .and .u8 ((n.val : Nat) : Int) 15 = (n.val : Int) % 16 := by decide +kernel
theorem and15' (x : Int) (h0 : 0 ≤ x) (h1 : x ≤ 255) : Go.bits .and .u8 x 15 = x % 16 := by
  have := and15 ⟨x.toNat, by omega⟩
  simp only [Int.toNat_of_nonneg h0] at this
  exact this
theorem strOf_app (a b : List Int) : strOfNums (a ++ b) = strOfNums a ++ strOfNums b := by
  unfold strOfNums
  apply ByteArray.ext; simp
theorem dig_cut : ∀ n : Fin 16, HD.extract n.val (n.val + 1) = strOfNums [bt HD ((n.val : Nat) : Int)] := by decide +kernel
theorem dig_cut' (x : Int) (h0 : 0 ≤ x) (h1 : x < 16) : HD.extract x.toNat (x + 1).toNat = strOfNums [bt HD x] := by
  have := dig_cut ⟨x.toNat, by omega⟩
  simp only [Int.toNat_of_nonneg h0] at this
  rw [← this, show (x + 1).toNat = x.toNat + 1 by omega]
theorem hexB_size (l : List Int) : (hexB l).size = 2 * l.length := by
  unfold hexB strOfNums
  show (Array.size _) = _
  simp [hexN_len]
def B8 (l : List Int) : Prop := ∀ x ∈ l, 0 ≤ x ∧ x ≤ 255
theorem elem8 {w : World} {A : Option Addr} {n : Nat} {l : List Int} (h : Kd.C (Kd.int .u8) w A n l) (i : Nat) (h1 : i < n) : ∃ ad, A = some ad ∧ w.cell? (ad.add (i * 1)) = some (.int .u8 (l.getD i 0)) := by
  obtain ⟨ad, hA, hc⟩ := Kd.at_int h (i : Int) (by omega) (by omega)
  refine ⟨ad, hA, ?_⟩
  rw [Int.toNat_natCast] at hc
  rw [Nat.mul_one, hc]; simp [rd]
theorem B8_at {l : List Int} (h : B8 l) (i : Nat) : 0 ≤ l.getD i 0 ∧ l.getD i 0 ≤ 255 := by
  by_cases hi : i < l.length
  · rw [List.getD_eq_getElem?_getD, List.getElem?_eq_getElem hi]; exact h _ (List.getElem_mem hi)
  · rw [List.getD_eq_getElem?_getD, List.getElem?_eq_none (by omega)]; exact ⟨by decide, by decide⟩
theorem hexB_snoc (l : List Int) (hb : B8 l) (k : Nat) (h : k < l.length) : hexB (l.take k) ++ HD.extract (l.getD k 0 / 16).toNat (l.getD k 0 / 16 + 1).toNat ++ HD.extract (l.getD k 0 % 16).toNat (l.getD k 0 % 16 + 1).toNat = hexB (l.take (k + 1)) := by
  have hx := B8_at hb k
  rw [dig_cut' _ (by omega) (by omega), dig_cut' _ (by omega) (by omega), hexB, hexB, ← hexN_snoc l k h, show [bt HD (l.getD k 0 / 16), bt HD (l.getD k 0 % 16)] = [bt HD (l.getD k 0 / 16)] ++ [bt HD (l.getD k 0 % 16)] from rfl, ← List.append_assoc, strOf_app, strOf_app]
theorem cut_size (x : Int) (h0 : 0 ≤ x) (h1 : x < 16) : (HD.extract x.toNat (x + 1).toNat).size ≤ 1 := by
  rw [dig_cut' x h0 h1]; exact Nat.le_refl 1
end Go.Proofs.YtlhmpmmblnbmbaaDoor.Rep
