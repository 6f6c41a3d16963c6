/- Words with blanks between: sizes, shapes; a row of texts of one's own is a row of texts. -/
import Derived.Test.YtlhmpmmblnbmbaaDoorRepPrim
import Derived.Test.YtlhmpmmblnbmbaaDoorRepLook
namespace Go.Proofs.YtlhmpmmblnbmbaaDoor.Rep
open Go.Lib Go.RowKit Go.Proofs.YtlhmpmmblnbmbaaDoor.Ev Go.Proofs.YtlhmpmmblnbmbaaDoor.Cells Go.Proofs.YtlhmpmmblnbmbaaDoorW.PrintWords Go.Proofs.YtlhmpmmblnbmbaaDoorW.PrintLast Go.Proofs.YtlhmpmmblnbmbaaDoorW.PrintMore
theorem wordsB_nil : wordsB [] = ⟨#[]⟩ := by simp [wordsB, Go.Lib.join]
theorem wordsB_one (x : ByteArray) : wordsB [x] = x := by
  apply ByteArray.ext; apply Array.toList_inj.1; simp [wordsB, Go.Lib.join]
theorem wordsB_cons (x y : ByteArray) (l : List ByteArray) : wordsB (x :: y :: l) = x ++ ⟨#[32]⟩ ++ wordsB (y :: l) := by
  apply ByteArray.ext; apply Array.toList_inj.1
  simp [wordsB, Go.Lib.join, List.intercalate]
theorem wordsB_size (n : Nat) : ∀ l : List ByteArray, (∀ s ∈ l, s.size ≤ n) → (wordsB l).size ≤ (n + 1) * l.length
  | [], _ => by rw [wordsB_nil]; exact Nat.zero_le _
  | [x], h => by
    rw [wordsB_one]
    have := h x (by simp)
    simp only [List.length_singleton]; omega
  | x :: y :: l, h => by
    have h1 := h x (by simp)
    have h2 := wordsB_size n (y :: l) (fun s hs => h s (by simp at hs ⊢; exact .inr hs))
    have h3 : (⟨#[32]⟩ : ByteArray).size = 1 := rfl
    rw [wordsB_cons, ByteArray.size_append, ByteArray.size_append, h3]
    rw [List.length_cons, Nat.mul_add (n + 1)]
    omega
theorem wordsB_snoc (x y : ByteArray) : ∀ l : List ByteArray, wordsB (x :: l ++ [y]) = wordsB (x :: l) ++ ⟨#[32]⟩ ++ y
  | [] => by rw [List.singleton_append, wordsB_cons, wordsB_one, wordsB_one]
  | z :: l => by
    show wordsB (x :: z :: (l ++ [y])) = _
    rw [wordsB_cons, wordsB_cons, show z :: (l ++ [y]) = z :: l ++ [y] from rfl, wordsB_snoc z y l]
    simp only [ByteArray.append_assoc]
theorem strs_R {w : World} {base : Nat} {ok : Nat → Prop} {v : Value} {l : List ByteArray} (h : Kd.R Kd.string 9 w base ok v l) (hn : l ≠ []) : Strs w v l := by
  have ho := Kd.own_of_R (enc := Value.string) (h1 := fun _ => rfl) h
  obtain ⟨_, hx | ⟨g, cap, cur, rfl, hg, hh, hn2, hc, hs, hcur⟩⟩ := ho
  · obtain ⟨_, hz⟩ := hx
    cases l with
    | nil => exact absurd rfl hn
    | cons a l => simp at hz
  · refine ⟨g, 0, cap, rfl, hn2, blk_lt hh, fun j s hj => ?_⟩
    rw [Nat.zero_add]
    refine (blk_cell hh j).trans ?_
    have hl := (List.getElem?_eq_some_iff.1 hj).1
    have : (List.take (l.length * 1) cur.toList)[j]? = some (.string s) := by rw [hcur, encs, List.getElem?_map, hj]; rfl
    rw [List.getElem?_take_of_lt (by omega)] at this
    rw [← Array.getElem?_toList]; exact this
end Go.Proofs.YtlhmpmmblnbmbaaDoor.Rep
