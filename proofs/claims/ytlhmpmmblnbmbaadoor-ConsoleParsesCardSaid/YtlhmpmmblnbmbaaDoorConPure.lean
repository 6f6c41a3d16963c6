/- What the document's way of words, numbers and bytes answers. -/
import Derived.Test.YtlhmpmmblnbmbaaDoorConNumber
import Derived.Test.YtlhmpmmblnbmbaaDoorPConsoleParsesx2
import Derived.Test.YtlhmpmmblnbmbaaDoorPConsoleParsesx1
import Derived.Test.YtlhmpmmblnbmbaaDoorConHexR
namespace Go.Proofs.YtlhmpmmblnbmbaaDoor.Con
open Go.Lib Go.RowKit Go.Proofs.YtlhmpmmblnbmbaaDoor.PConsoleParses Go.Proofs.YtlhmpmmblnbmbaaDoorW.PrintWords Go.Proofs.YtlhmpmmblnbmbaaDoorW.PrintLast Go.Proofs.YtlhmpmmblnbmbaaDoorW.PrintMore WordsPlain NumberPlain
/-- the word that is being read -/
def cur (s : ByteArray) (p : Nat) : ByteArray := if (scan s p).1 ≥ 0 then s.extract (scan s p).1.toNat p else ⟨#[]⟩
theorem cur_size (s : ByteArray) (p : Nat) (hp : p ≤ s.size) : ((cur s p).toList = [] ↔ (scan s p).1 < 0) ∧ (cur s p).size ≤ p := by
  have lo := scan_lo s p
  have hi := scan_hi s p
  unfold cur
  split
  · rename_i h
    rw [toList_nil, ByteArray.size_extract]
    omega
  · rename_i h
    exact ⟨⟨fun _ => by omega, fun _ => toList_nil.2 rfl⟩, Nat.zero_le _⟩
theorem cur_next (s : ByteArray) (p : Nat) (_ : p < s.size) : cur s p ++ s.extract p (p + 1) = s.extract (if (scan s p).1 < 0 then (p : Int) else (scan s p).1).toNat (p + 1) := by
  have lo := scan_lo s p
  have hi := scan_hi s p
  unfold cur
  by_cases h : (scan s p).1 ≥ 0
  · rw [if_pos h, if_neg (by omega), ByteArray.extract_append_extract, Nat.min_eq_left (by omega), Nat.max_eq_right (by omega)]
  · rw [if_neg h, if_pos (by omega), Int.toNat_natCast]
    exact ByteArray.empty_append
theorem refW (s : ByteArray) (hs : s.size ≤ 1000000) : ∀ m p, p + m + 1 = s.size → revetmentref37_Words.l0 (m + 2) s (scan s p).2 (cur s p) (p : Int) = some (words s) := by
  intro m
  induction m with
  | zero =>
    intro p hp
    have hlt : p < s.size := by omega
    have lo := scan_lo s p
    have hi := scan_hi s p
    have hl := scan_len s p
    obtain ⟨c1, c2⟩ := cur_size s p (by omega)
    have w1 : wrap64 ((p : Int) + 1) = ((p + 1 : Nat) : Int) := by unfold wrap64; omega
    have hsz : s.size = p + 1 := by omega
    have last : ∀ l e, revetmentref37_Words.l0 1 s l e ((p + 1 : Nat) : Int) = some l := by
      intro l e
      rw [show (1 : Nat) = 0 + 1 from rfl, revetmentref37_Words.l0, if_neg (by omega)]
    rw [show 0 + 2 = 1 + 1 from rfl, revetmentref37_Words.l0, if_pos (by omega), if_pos (by omega), bt_by s p hlt, w1]
    have hws : words s = if (scan s (p + 1)).1 ≥ 0 then (scan s (p + 1)).2 ++ [s.extract (scan s (p + 1)).1.toNat (p + 1)] else (scan s (p + 1)).2 := by unfold words; rw [hsz]
    by_cases hb : by_ s p = 32
    · rw [if_pos (by omega)]
      have hsb := scan_blank s p hb
      by_cases h0 : (scan s p).1 < 0
      · rw [if_neg (by omega)] at hsb
        rw [if_pos (c1.2 h0), last, hws, hsb, if_neg (by omega)]
      · rw [if_pos (by omega)] at hsb
        rw [if_neg (fun e => h0 (c1.1 e)), if_pos (by omega), last, hws, hsb, if_neg (by simp)]
        have e2 : cur s p = s.extract (scan s p).1.toNat p := by unfold cur; rw [if_pos (by omega)]
        rw [e2]
    · have hsk := scan_skip s p 1 (Nat.le_refl _) (fun i h1 h2 => by rw [show i = p by omega]; exact hb)
      have hne : ¬ (s.extract (if (scan s p).1 < 0 then (p : Int) else (scan s p).1).toNat (p + 1)).toList = [] := by
        rw [toList_nil, ByteArray.size_extract]
        split <;> omega
      have hge : (if (scan s p).1 < 0 then (p : Int) else (scan s p).1) ≥ 0 := by split <;> omega
      have w2 : wrap64 ((s.size : Int) - 1) = (p : Int) := by unfold wrap64; omega
      rw [if_neg (by omega), if_pos (by omega), if_pos (by omega), if_pos (by rw [ByteArray.size_extract]; omega), Int.toNat_natCast, Int.toNat_natCast, cur_next s p hlt]
      rw [if_neg hne, w2, if_pos rfl, if_pos (by omega), last, hws, hsk]
      simp only []
      rw [if_pos hge]
  | succ m ih =>
    intro p hp
    have hlt : p < s.size := by omega
    have lo := scan_lo s p
    have hi := scan_hi s p
    have hl := scan_len s p
    obtain ⟨c1, c2⟩ := cur_size s p (by omega)
    have w1 : wrap64 ((p : Int) + 1) = ((p + 1 : Nat) : Int) := by unfold wrap64; omega
    have ih1 := ih (p + 1) (by omega)
    rw [show m + 1 + 2 = (m + 2) + 1 from rfl, revetmentref37_Words.l0, if_pos (by omega), if_pos (by omega), bt_by s p hlt, w1]
    by_cases hb : by_ s p = 32
    · rw [if_pos (by omega)]
      have hsb := scan_blank s p hb
      by_cases h0 : (scan s p).1 < 0
      · rw [if_pos (c1.2 h0)]
        rw [if_neg (by omega)] at hsb
        have e1 : cur s (p + 1) = cur s p := by unfold cur; rw [hsb, if_neg (by omega), if_neg (by omega)]
        rw [hsb, e1] at ih1
        exact ih1
      · rw [if_neg (fun e => h0 (c1.1 e)), if_pos (by omega)]
        rw [if_pos (by omega)] at hsb
        have e1 : cur s (p + 1) = ⟨#[]⟩ := by unfold cur; rw [hsb, if_neg (by omega)]
        have e2 : cur s p = s.extract (scan s p).1.toNat p := by unfold cur; rw [if_pos (by omega)]
        rw [hsb, e1] at ih1
        rw [e2]
        exact ih1
    · rw [if_neg (by omega), if_pos (by omega), if_pos (by omega), if_pos (by rw [ByteArray.size_extract]; omega), Int.toNat_natCast, Int.toNat_natCast, cur_next s p hlt]
      have hsk := scan_skip s p 1 (Nat.le_refl _) (fun i h1 h2 => by rw [show i = p by omega]; exact hb)
      have hne : ¬ (s.extract (if (scan s p).1 < 0 then (p : Int) else (scan s p).1).toNat (p + 1)).toList = [] := by
        rw [toList_nil, ByteArray.size_extract]
        split <;> omega
      have w2 : wrap64 ((s.size : Int) - 1) = ((s.size - 1 : Nat) : Int) := by unfold wrap64; omega
      rw [if_neg hne, w2, if_neg (by omega)]
      have e1 : cur s (p + 1) = s.extract (if (scan s p).1 < 0 then (p : Int) else (scan s p).1).toNat (p + 1) := by
        unfold cur; rw [hsk]; simp only []; rw [if_pos (by split <;> omega)]
      rw [e1, hsk] at ih1
      exact ih1
theorem ref_words (s : ByteArray) (hs : s.size ≤ 1000000) : ∃ k, revetmentref37_Words.f k s = some (words s) := by
  by_cases h : s.size = 0
  · refine ⟨1, ?_⟩
    unfold revetmentref37_Words.f words
    rw [show (1 : Nat) = 0 + 1 from rfl, revetmentref37_Words.l0, h, if_neg (by omega)]
    rfl
  · refine ⟨s.size - 1 + 2, ?_⟩
    exact refW s hs (s.size - 1) 0 (by omega)
/-! ### numbers -/
theorem refNl (m : Bool) (d : ByteArray) (hd : d.size ≤ 12) : ∀ n p, p + n = d.size → alld d p = true → revetmentref37_Number.l0 (n + 1) m d (digs d p) (p : Int) = some (if alld d d.size = true then (if m = true then - digs d d.size else digs d d.size, true) else (0, false)) := by
  intro n
  induction n with
  | zero =>
    intro p hp ha
    obtain rfl : p = d.size := by omega
    obtain ⟨b1, b2⟩ := digs_bound d d.size ha hd
    rw [revetmentref37_Number.l0, if_neg (by omega), if_pos ha]
    have : wrap64 (-digs d d.size) = - digs d d.size := by unfold wrap64; omega
    rw [this]
    cases m <;> rfl
  | succ n ih =>
    intro p hp ha
    have hlt : p < d.size := by omega
    obtain ⟨b1, b2⟩ := digs_bound d p ha (by omega)
    rw [revetmentref37_Number.l0, if_pos (by omega), if_pos (by omega), bt_by d p hlt]
    cases hi : isd (by_ d p) with
    | false =>
      have hst := alld_stop d p hi d.size hlt
      rw [hst, if_neg Bool.false_ne_true]
      by_cases h1 : (by_ d p : Int) < 48
      · rw [if_pos h1]
      · rw [if_neg h1]
        have : (by_ d p : Int) > 57 := by
          have h2 : ¬ (48 ≤ by_ d p ∧ by_ d p ≤ 57) := fun h => by rw [(isd_iff _).2 h] at hi; cases hi
          omega
        rw [if_pos this]
    | true =>
      have h2 := (isd_iff _).1 hi
      rw [if_neg (by omega), if_neg (by omega)]
      have w1 : wrap64 ((p : Int) + 1) = ((p + 1 : Nat) : Int) := by unfold wrap64; omega
      have w2 : wrap64 ((by_ d p : Nat) : Int) = (by_ d p : Int) := by unfold wrap64; omega
      have w3 : wrap64 (10 * digs d p) = 10 * digs d p := by unfold wrap64; omega
      have w4 : wrap64 (10 * digs d p + (by_ d p : Int)) = 10 * digs d p + (by_ d p : Int) := by unfold wrap64; omega
      have w5 : wrap64 (10 * digs d p + (by_ d p : Int) - 48) = digs d (p + 1) := by
        have : digs d (p + 1) = 10 * digs d p + (by_ d p - 48) := rfl
        rw [this]; unfold wrap64; omega
      rw [w1, w2, w3, w4, w5]
      exact ih (p + 1) (by omega) (by unfold alld; rw [ha, hi]; rfl)
theorem refN1 (m : Bool) (d : ByteArray) (b : Bool) (hb : b = (decide (d.size < 1) || decide (d.size > 12) || ((by_ d 0 == 48) && (decide (d.size > 1) || m)))) :
    revetmentref37_Number.j1 (d.size + 3) m d = some (if b = true then (0, false) else if alld d d.size = true then (if m = true then - digs d d.size else digs d d.size, true) else (0, false)) := by
  have j2 : ∀ x, (x = false → d.size ≤ 12) → revetmentref37_Number.j2 (d.size + 2) m d x = some (if x = true then (0, false) else if alld d d.size = true then (if m = true then - digs d d.size else digs d d.size, true) else (0, false)) := by
    intro x hx
    rw [show d.size + 2 = (d.size + 1) + 1 from rfl, revetmentref37_Number.j2]
    cases x with
    | true => rfl
    | false =>
      rw [if_neg (by decide), if_neg (by decide)]
      exact refNl m d (hx rfl) d.size 0 (by omega) rfl
  rw [show d.size + 3 = (d.size + 2) + 1 from rfl, revetmentref37_Number.j1]
  by_cases h1 : d.size < 1
  · rw [if_pos (by omega), j2 true (by simp), hb, decide_eq_true h1]; rfl
  · rw [if_neg (by omega)]
    by_cases h2 : d.size > 12
    · rw [if_pos (by omega), j2 true (by simp), hb, decide_eq_true h2, Bool.or_true]; rfl
    · rw [if_neg (by omega), if_pos (by omega)]
      have hb0 : bt d 0 = (by_ d 0 : Int) := bt_by d 0 (by omega)
      rw [hb0]
      rw [decide_eq_false h1, decide_eq_false h2, Bool.false_or, Bool.false_or] at hb
      by_cases h3 : by_ d 0 = 48
      · rw [if_pos (by omega)]
        rw [beq_iff_eq.2 h3, Bool.true_and] at hb
        cases m with
        | true => rw [if_pos rfl, j2 true (by simp), hb, Bool.or_true]
        | false =>
          rw [if_neg (by decide), j2 _ (fun _ => by omega), hb, Bool.or_false]
          have : decide ((d.size : Int) > 1) = decide (d.size > 1) := by simp; omega
          rw [this]
      · rw [if_neg (by omega), j2 false (fun _ => by omega), hb, beq_eq_false_iff_ne.2 h3, Bool.false_and]
theorem ref_number (s : ByteArray) : ∃ k, revetmentref37_Number.f k s = some (numb s) := by
  refine ⟨(rest s).size + 3 + 1, ?_⟩
  have h1 := refN1 (minus s) (rest s) (bad s) rfl
  have j0 : revetmentref37_Number.j0 ((rest s).size + 3 + 1) s (minus s) = some (numb s) := by
    rw [revetmentref37_Number.j0]
    cases hm : minus s with
    | true =>
      have hsz : 0 < s.size := by unfold minus at hm; simp at hm; omega
      rw [if_pos rfl, if_pos (by omega)]
      have e : s.extract 1 s.size = rest s := by unfold rest; rw [hm, if_pos rfl]
      rw [e, ← hm, h1]; rfl
    | false =>
      rw [if_neg (by decide)]
      have e : s = rest s := by unfold rest; rw [hm, if_neg (by decide)]
      have h2 : revetmentref37_Number.j1 ((rest s).size + 3) false s = revetmentref37_Number.j1 ((rest s).size + 3) (minus s) (rest s) := by rw [hm, ← e]
      rw [h2, h1]; rfl
  unfold revetmentref37_Number.f
  by_cases h : s.size = 0
  · have hm : minus s = false := by unfold minus; simp [h]
    rw [if_neg (by omega), ← hm, j0]
  · rw [if_pos (by omega), if_pos (by omega)]
    have hb : bt s 0 = (by_ s 0 : Int) := bt_by s 0 (by omega)
    have hm : (bt s 0 == 45) = minus s := by
      rw [hb]; unfold minus
      rw [decide_eq_true (by omega), Bool.true_and, Bool.eq_iff_iff, beq_iff_eq, beq_iff_eq]; omega
    rw [hm, j0]
/-! ### bytes -/
def hv (b : Int) : Int := if 48 ≤ b ∧ b ≤ 57 then b - 48 else if 97 ≤ b ∧ b ≤ 102 then b - 87 else -1
theorem hv_range (b : Int) : -1 ≤ hv b ∧ hv b ≤ 15 := by unfold hv; split <;> (try split) <;> omega
theorem con_value (k : Nat) (b : Int) : console_value.f (k + 1) b = some (hv b) := by
  unfold console_value.f hv
  by_cases h1 : b ≥ 48
  · rw [if_pos h1]
    by_cases h2 : b ≤ 57
    · rw [decide_eq_true h2, if_pos ⟨h1, h2⟩, console_value.j0, if_pos rfl]; congr 1; omega
    · rw [decide_eq_false h2, if_neg (fun h => h2 h.2), console_value.j0, if_neg Bool.false_ne_true]
      by_cases h3 : b ≥ 97
      · rw [if_pos h3]
        by_cases h4 : b ≤ 102
        · rw [if_pos h4, if_pos ⟨h3, h4⟩]; congr 1; omega
        · rw [if_neg h4, if_neg (fun h => h4 h.2)]
      · rw [if_neg h3, if_neg (fun h => h3 h.1)]
  · rw [if_neg h1, console_value.j0, if_neg Bool.false_ne_true, if_neg (show ¬ b ≥ 97 by omega), if_neg (fun h => h1 h.1), if_neg (fun h => by omega)]
theorem ref_value_all : ∀ b : Fin 256, revetmentref37_value.f 17 (b.val : Int) = some (if hv b.val < 0 then 16 else hv b.val) := by decide +kernel
theorem ref_value (k : Nat) (b : Int) (h0 : 0 ≤ b) (h1 : b ≤ 255) : revetmentref37_value.f (k + 17) b = some (if hv b < 0 then 16 else hv b) := by
  have h := ref_value_all ⟨b.toNat, by omega⟩
  have e : ((b.toNat : Nat) : Int) = b := by omega
  simp only [e] at h
  induction k with
  | zero => rw [Nat.zero_add]; exact h
  | succ k ih => rw [show k + 1 + 17 = (k + 17) + 1 by omega]; exact revetmentref37_value.mono b (k + 17) _ ih
theorem hexl (s : ByteArray) (hs : s.size ≤ 1000000) : ∀ (m i : Nat) (acc : List Int), i + 2 * m = s.size → acc.length ≤ i → ∃ r, console_Hex.l0 (m + 2) s acc (i : Int) = some r ∧ revetmentref37_Hex.l0 (m + 18) s acc (i : Int) = some r := by
  intro m
  induction m with
  | zero =>
    intro i acc hi _
    refine ⟨(acc, true), ?_, ?_⟩
    · rw [show 0 + 2 = 1 + 1 from rfl, console_Hex.l0, if_neg (by omega)]
    · rw [show 0 + 18 = 17 + 1 from rfl, revetmentref37_Hex.l0, if_neg (by omega)]
  | succ m ih =>
    intro i acc hi ha
    have w1 : wrap64 ((i : Int) + 1) = (i : Int) + 1 := by unfold wrap64; omega
    have w2 : wrap64 ((i : Int) + 2) = ((i + 2 : Nat) : Int) := by unfold wrap64; omega
    obtain ⟨b1, b2⟩ := bt_range s (i : Int)
    obtain ⟨b3, b4⟩ := bt_range s ((i : Int) + 1)
    obtain ⟨r1, r2⟩ := hv_range (bt s (i : Int))
    obtain ⟨r3, r4⟩ := hv_range (bt s ((i : Int) + 1))
    rw [show m + 1 + 2 = (m + 2) + 1 from rfl, show m + 1 + 18 = (m + 18) + 1 from rfl, console_Hex.l0, revetmentref37_Hex.l0]
    have k1 : (i : Int) < (s.size : Int) := by omega
    have k2 : (0 : Int) ≤ (i : Int) := by omega
    have k3 : (0 : Int) ≤ (i : Int) + 1 := by omega
    have k4 : (i : Int) + 1 < (s.size : Int) := by omega
    have k5 : acc.length < 140737488355328 := by omega
    rw [if_pos k1, if_pos k1, if_pos k2, if_pos k2, w1, w2]
    rw [show m + 2 = (m + 1) + 1 from rfl, con_value, con_value, show m + 18 = (m + 1) + 17 from by omega, ref_value _ _ b1 b2, ref_value _ _ b3 b4]
    simp only [Option.bind_some]
    rw [if_pos k3, if_pos k3, if_pos k4, if_pos k4]
    by_cases h1 : hv (bt s (i : Int)) < 0
    · rw [if_pos h1, if_pos h1, if_pos rfl]
      exact ⟨_, rfl, rfl⟩
    · have h1b : ¬ hv (bt s (i : Int)) = 16 := by omega
      rw [if_neg h1, if_neg h1, if_neg h1b]
      by_cases h2 : hv (bt s ((i : Int) + 1)) < 0
      · rw [if_pos h2, if_pos h2, if_pos rfl]
        exact ⟨_, rfl, rfl⟩
      · have h2b : ¬ hv (bt s ((i : Int) + 1)) = 16 := by omega
        rw [if_neg h2, if_neg h2, if_neg h2b, if_pos k5, if_pos k5]
        exact ih (i + 2) _ (by omega) (by rw [List.length_append]; simp; omega)
theorem hex_both (s : ByteArray) (hs : s.size ≤ 1000000) : ∃ k1 k2 r, console_Hex.f k1 s = some r ∧ revetmentref37_Hex.f k2 s = some r := by
  refine ⟨s.size / 2 + 2 + 1, s.size / 2 + 18 + 1, ?_⟩
  unfold console_Hex.f revetmentref37_Hex.f
  by_cases h1 : s.toList = ([45] : List UInt8)
  · rw [if_pos h1, if_pos h1]; exact ⟨_, rfl, rfl⟩
  · rw [if_neg h1, if_neg h1]
    by_cases h2 : s.size = 0
    · rw [if_pos (toList_nil.2 h2), if_pos (by omega), console_Hex.j0, revetmentref37_Hex.j0, if_pos rfl, if_pos rfl]; exact ⟨_, rfl, rfl⟩
    · rw [if_neg (fun e => h2 (toList_nil.1 e)), if_neg (by omega), console_Hex.j0, revetmentref37_Hex.j0]
      by_cases h3 : s.size % 2 = 1
      · rw [if_pos (bne_iff_ne.2 (by omega)), if_pos (beq_iff_eq.2 (by omega))]; exact ⟨_, rfl, rfl⟩
      · rw [if_neg (by simp; omega), if_neg (by simp; omega)]
        exact hexl s hs (s.size / 2) 0 [] (by omega) (Nat.zero_le _)
end Go.Proofs.YtlhmpmmblnbmbaaDoor.Con
