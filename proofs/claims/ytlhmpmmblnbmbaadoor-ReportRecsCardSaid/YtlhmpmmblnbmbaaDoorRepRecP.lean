/- A record as a text: the plain part. -/
import Derived.Test.YtlhmpmmblnbmbaaDoorRepHex
set_option linter.unusedVariables false
set_option linter.unusedSimpArgs false
namespace Go.Proofs.YtlhmpmmblnbmbaaDoor.Rep
open Go.Lib Go.RowKit Go.Proofs.YtlhmpmmblnbmbaaDoor.Ev Go.Proofs.YtlhmpmmblnbmbaaDoor.Cells Go.Proofs.YtlhmpmmblnbmbaaDoorW.PrintWords Go.Proofs.YtlhmpmmblnbmbaaDoorW.PrintLast Go.Proofs.YtlhmpmmblnbmbaaDoorW.PrintMore
def nam7 : List ByteArray := [⟨#[99, 104, 101, 99, 107]⟩, ⟨#[109, 97, 112]⟩, ⟨#[114, 101, 115, 101, 116]⟩, ⟨#[102, 105, 110, 105, 115, 104]⟩, ⟨#[112, 97, 114, 105, 116, 121]⟩, ⟨#[119, 104, 111, 108, 101]⟩, ⟨#[115, 116, 97, 116, 117, 115]⟩]
def recT (k z g s w m u : Int) (b : List Int) : List ByteArray := if k = 1 then [itoaB z, itoaB g, itoaB s] else if k = 2 then [itoaB z, itoaB g] else if k = 3 then [itoaB z, itoaB w] else if k = 4 then [itoaB z, itoaB g, itoaB w, hexB b] else if k = 5 then [itoaB z] else if k = 6 then [itoaB m, itoaB u] else []
def recH (k e q : Int) : List ByteArray := [nameB k nam7, itoaB e ++ ⟨#[46]⟩ ++ itoaB q]
def recB (k e q z g s w m u : Int) (b : List Int) : ByteArray := wordsB (recH k e q ++ recT k z g s w m u b)
theorem nam7_size (n : Int) : (nameB n nam7).size ≤ 6 := by
  unfold nameB
  split
  · decide
  · obtain ⟨k, hk⟩ : ∃ k, n.toNat = k := ⟨_, rfl⟩
    rw [hk]
    rcases k with _ | _ | _ | _ | _ | _ | _ | k
    · decide
    · decide
    · decide
    · decide
    · decide
    · decide
    · decide
    · rw [List.getD_eq_getElem?_getD, List.getElem?_eq_none (by simp [nam7])]; decide
def pc (c : Bool) (x : ByteArray) : ByteArray := if c = true then ⟨#[32]⟩ ++ x else ⟨#[]⟩
theorem pc_t (x : ByteArray) : pc true x = ⟨#[32]⟩ ++ x := rfl
theorem pc_f (x t : ByteArray) : t ++ pc false x = t := ByteArray.append_empty
theorem recT_mem (k z g s w m u : Int) (b : List Int) (hz : I64 z) (hg : I64 g) (hs : I64 s) (hw : I64 w) (hm : I64 m) (hu : I64 u) (hb : b.length ≤ 1000) : ∀ t ∈ recT k z g s w m u b, t.size ≤ 2000 := by
  have a1 := itoa_size z hz
  have a2 := itoa_size g hg
  have a3 := itoa_size s hs
  have a4 := itoa_size w hw
  have a5 := itoa_size m hm
  have a6 := itoa_size u hu
  have a7 := hexB_size b
  intro t h
  unfold recT at h
  split at h
  · simp only [List.mem_cons, List.not_mem_nil, or_false] at h; rcases h with rfl | rfl | rfl <;> omega
  · split at h
    · simp only [List.mem_cons, List.not_mem_nil, or_false] at h; rcases h with rfl | rfl <;> omega
    · split at h
      · simp only [List.mem_cons, List.not_mem_nil, or_false] at h; rcases h with rfl | rfl <;> omega
      · split at h
        · simp only [List.mem_cons, List.not_mem_nil, or_false] at h; rcases h with rfl | rfl | rfl | rfl <;> omega
        · split at h
          · simp only [List.mem_cons, List.not_mem_nil, or_false] at h; subst h; omega
          · split at h
            · simp only [List.mem_cons, List.not_mem_nil, or_false] at h; rcases h with rfl | rfl <;> omega
            · simp at h
theorem recH_mem (k e q : Int) (he : I64 e) (hq : I64 q) : ∀ t ∈ recH k e q, t.size ≤ 2000 := by
  have a1 := itoa_size e he
  have a2 := itoa_size q hq
  have a3 := nam7_size k
  intro t h
  simp only [recH, List.mem_cons, List.not_mem_nil, or_false] at h
  rcases h with rfl | rfl
  · omega
  · rw [ByteArray.size_append, ByteArray.size_append]; have : (⟨#[46]⟩ : ByteArray).size = 1 := rfl; omega
theorem recT_len (k z g s w m u : Int) (b : List Int) : (recT k z g s w m u b).length ≤ 4 := by
  unfold recT
  repeat' split
  all_goals simp
theorem recB_size (k e q z g s w m u : Int) (b : List Int) (he : I64 e) (hq : I64 q) (hz : I64 z) (hg : I64 g) (hs : I64 s) (hw : I64 w) (hm : I64 m) (hu : I64 u) (hb : b.length ≤ 1000) : (recB k e q z g s w m u b).size ≤ 12006 := by
  have := wordsB_size 2000 (recH k e q ++ recT k z g s w m u b) (fun t ht => (List.mem_append.1 ht).elim (recH_mem k e q he hq t) (recT_mem k z g s w m u b hz hg hs hw hm hu hb t))
  rw [List.length_append] at this
  have h2 := recT_len k z g s w m u b
  have h3 : (recH k e q).length = 2 := rfl
  have h4 : 2001 * ((recH k e q).length + (recT k z g s w m u b).length) ≤ 2001 * 6 := Nat.mul_le_mul_left _ (by omega)
  exact Nat.le_trans this h4
def rt1 (k e q : Int) : ByteArray := nameB k nam7 ++ ⟨#[32]⟩ ++ itoaB e ++ ⟨#[46]⟩ ++ itoaB q
theorem rec_eq (k e q z g s w m u : Int) (b : List Int) : recB k e q z g s w m u b = rt1 k e q ++ pc (decide (k ≥ 1 ∧ k ≤ 5)) (itoaB z) ++ pc (decide (k = 1 ∨ k = 2 ∨ k = 4)) (itoaB g) ++ pc (decide (k = 1)) (itoaB s) ++ pc (decide (k = 3 ∨ k = 4)) (itoaB w) ++ pc (decide (k = 4)) (hexB b) ++ pc (decide (k = 6)) (itoaB m ++ ⟨#[32]⟩ ++ itoaB u) := by
  unfold recB recT
  have fin : ∀ (l : List ByteArray) (c1 c2 c3 c4 c5 c6 : Bool), wordsB (recH k e q ++ l) = rt1 k e q ++ pc c1 (itoaB z) ++ pc c2 (itoaB g) ++ pc c3 (itoaB s) ++ pc c4 (itoaB w) ++ pc c5 (hexB b) ++ pc c6 (itoaB m ++ ⟨#[32]⟩ ++ itoaB u) → c1 = decide (k ≥ 1 ∧ k ≤ 5) → c2 = decide (k = 1 ∨ k = 2 ∨ k = 4) → c3 = decide (k = 1) → c4 = decide (k = 3 ∨ k = 4) → c5 = decide (k = 4) → c6 = decide (k = 6) → wordsB (recH k e q ++ l) = rt1 k e q ++ pc (decide (k ≥ 1 ∧ k ≤ 5)) (itoaB z) ++ pc (decide (k = 1 ∨ k = 2 ∨ k = 4)) (itoaB g) ++ pc (decide (k = 1)) (itoaB s) ++ pc (decide (k = 3 ∨ k = 4)) (itoaB w) ++ pc (decide (k = 4)) (hexB b) ++ pc (decide (k = 6)) (itoaB m ++ ⟨#[32]⟩ ++ itoaB u) := by
    intro l c1 c2 c3 c4 c5 c6 h h1 h2 h3 h4 h5 h6
    rw [← h1, ← h2, ← h3, ← h4, ← h5, ← h6]; exact h
  have tx : ∀ x, rt1 k e q ++ x = wordsB (recH k e q) ++ x := by
    intro x; unfold rt1 recH; rw [wordsB_cons, wordsB_one]; simp only [ByteArray.append_assoc]
  by_cases h1 : k = 1
  · rw [if_pos h1]
    refine fin _ true true true false false false ?_ ?_ ?_ ?_ ?_ ?_ ?_
    · simp only [pc_t, pc_f]; unfold rt1 recH; simp only [List.cons_append, List.nil_append, wordsB_cons, wordsB_one, ByteArray.append_assoc]
    all_goals (subst h1; decide)
  rw [if_neg h1]
  by_cases h2 : k = 2
  · rw [if_pos h2]
    refine fin _ true true false false false false ?_ ?_ ?_ ?_ ?_ ?_ ?_
    · simp only [pc_t, pc_f]; unfold rt1 recH; simp only [List.cons_append, List.nil_append, wordsB_cons, wordsB_one, ByteArray.append_assoc]
    all_goals (subst h2; decide)
  rw [if_neg h2]
  by_cases h3 : k = 3
  · rw [if_pos h3]
    refine fin _ true false false true false false ?_ ?_ ?_ ?_ ?_ ?_ ?_
    · simp only [pc_t, pc_f]; unfold rt1 recH; simp only [List.cons_append, List.nil_append, wordsB_cons, wordsB_one, ByteArray.append_assoc]
    all_goals (subst h3; decide)
  rw [if_neg h3]
  by_cases h4 : k = 4
  · rw [if_pos h4]
    refine fin _ true true false true true false ?_ ?_ ?_ ?_ ?_ ?_ ?_
    · simp only [pc_t, pc_f]; unfold rt1 recH; simp only [List.cons_append, List.nil_append, wordsB_cons, wordsB_one, ByteArray.append_assoc]
    all_goals (subst h4; decide)
  rw [if_neg h4]
  by_cases h5 : k = 5
  · rw [if_pos h5]
    refine fin _ true false false false false false ?_ ?_ ?_ ?_ ?_ ?_ ?_
    · simp only [pc_t, pc_f]; unfold rt1 recH; simp only [List.cons_append, List.nil_append, wordsB_cons, wordsB_one, ByteArray.append_assoc]
    all_goals (subst h5; decide)
  rw [if_neg h5]
  by_cases h6 : k = 6
  · rw [if_pos h6]
    refine fin _ false false false false false true ?_ ?_ ?_ ?_ ?_ ?_ ?_
    · simp only [pc_t, pc_f]; unfold rt1 recH; simp only [List.cons_append, List.nil_append, wordsB_cons, wordsB_one, ByteArray.append_assoc]
    all_goals (subst h6; decide)
  rw [if_neg h6]
  refine fin _ false false false false false false ?_ ?_ ?_ ?_ ?_ ?_ ?_
  · simp only [pc_f]; unfold rt1 recH; simp only [List.append_nil, wordsB_cons, wordsB_one, ByteArray.append_assoc]
  all_goals exact (decide_eq_false (by omega)).symm
end Go.Proofs.YtlhmpmmblnbmbaaDoor.Rep
