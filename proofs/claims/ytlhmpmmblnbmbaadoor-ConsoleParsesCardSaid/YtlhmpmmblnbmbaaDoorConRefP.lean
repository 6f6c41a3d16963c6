/- The document's way of a step, plain. -/
import Derived.Test.YtlhmpmmblnbmbaaDoorConParse3
import Derived.Test.YtlhmpmmblnbmbaaDoorConPure
import Derived.Test.YtlhmpmmblnbmbaaDoorConFill
set_option linter.unusedVariables false
set_option linter.unusedSimpArgs false
namespace Go.Proofs.YtlhmpmmblnbmbaaDoor.Con
open Go.Lib Go.RowKit Go.Proofs.YtlhmpmmblnbmbaaDoor.Ev Go.Proofs.YtlhmpmmblnbmbaaDoor.Ke Go.Proofs.YtlhmpmmblnbmbaaDoor.Cells Go.Proofs.YtlhmpmmblnbmbaaDoor.PConsoleParses Go.Proofs.YtlhmpmmblnbmbaaDoorW.PrintWords Go.Proofs.YtlhmpmmblnbmbaaDoorW.PrintLast Go.Proofs.YtlhmpmmblnbmbaaDoorW.PrintMore WordsPlain NumberPlain
def frm (i : Nat) : Int × Int × List Nat × Option Nat := match i with | 0 => (0, 0, [2, 3], some 5) | 1 => (0, 1, [2, 3, 4], none) | 2 => (0, 2, [], none) | 3 => (0, 3, [2], none) | 4 => (0, 4, [2], none) | 5 => (0, 5, [2], none) | 6 => (0, 6, [2], none) | 7 => (0, 7, [2], none) | 8 => (1, 0, [8], none) | 9 => (2, 0, [7, 8], none) | 10 => (3, 0, [], some 9) | 11 => (4, 0, [7], none) | 12 => (5, 0, [7], none) | 13 => (6, 0, [], none) | 14 => (7, 0, [], none) | _ => (0, 0, [], none)
theorem wd_ne : ∀ i : Fin 15, ∀ j : Fin 15, i ≠ j → wd i ≠ wd j := by decide +kernel
theorem form_at_all : ∀ i : Fin 15, form (wd i) = some (frm i) := by decide +kernel
theorem form_at {i : Nat} (h : i < 15) : form (wd i) = some (frm i) := form_at_all ⟨i, h⟩
theorem form_no {s : ByteArray} (h : ∀ j, j < 15 → s ≠ wd j) : form s = none := by
  unfold form
  rw [if_neg (h 0 (by decide))]
  rw [if_neg (h 1 (by decide))]
  rw [if_neg (h 2 (by decide))]
  rw [if_neg (h 3 (by decide))]
  rw [if_neg (h 4 (by decide))]
  rw [if_neg (h 5 (by decide))]
  rw [if_neg (h 6 (by decide))]
  rw [if_neg (h 7 (by decide))]
  rw [if_neg (h 8 (by decide))]
  rw [if_neg (h 9 (by decide))]
  rw [if_neg (h 10 (by decide))]
  rw [if_neg (h 11 (by decide))]
  rw [if_neg (h 12 (by decide))]
  rw [if_neg (h 13 (by decide))]
  rw [if_neg (h 14 (by decide))]
theorem rword_all : ∀ i : Fin 15, revetmentref37_words.f (i.val : Int) = some (wd i, ((frm i).2.2.1.length : Int), (frm i).2.2.2.isSome, (frm i).1, (frm i).2.1) := by decide +kernel
theorem frm_small : ∀ i : Fin 15, (frm i).2.2.1.length ≤ 3 ∧ ((frm i).1 = 0 ∧ (frm i).2.1 = 0 ↔ i.val = 0) ∧ (i.val = 0 → (frm i).2.2.2.isSome = true) := by decide +kernel
theorem rword_c {i mn : Nat} (hi : i < 15) {bb : Bool} {kd cm : Int} (h1 : (frm i).2.2.1.length = mn) (h2 : (frm i).2.2.2.isSome = bb) (h3 : (frm i).1 = kd) (h4 : (frm i).2.1 = cm) (w : World) : Calls Tryd.prog 50 #[.int .i64 (i : Int)] w fun e w' => e = .returned (.tuple #[.string (wd i), .int .i64 mn, .bool bb, .int .i64 kd, .int .i64 cm]) ∧ Below w.heap.size w w' := by
  subst h1; subst h2; subst h3; subst h4
  exact revetmentref37_words.calls _ _ _ _ _ _ w (rword_all ⟨i, hi⟩)
theorem rnumber_c (t : ByteArray) {n : Int} {b : Bool} (h1 : (numb t).1 = n) (h2 : (numb t).2 = b) (w : World) : Calls Tryd.prog 51 #[.string t] w fun e w' => e = .returned (.tuple #[.int .i64 n, .bool b]) ∧ Below w.heap.size w w' := by
  obtain ⟨k, hk⟩ := ref_number t
  rw [show numb t = (n, b) from Prod.ext h1 h2] at hk
  refine (revetmentref37_Number.calls k t n b w hk).mono ?_
  rintro e w' ⟨rfl, hd⟩
  exact ⟨rfl, hd.below⟩
def nn (k : Nat) (l : List ByteArray) (j : Nat) : Int := if j < k then (numb (l.getD j ByteArray.empty)).1 else 0
theorem nn_put {k : Nat} {l : List ByteArray} {v : Int} (hk : k < 3) (hv : (numb (l.getD k ByteArray.empty)).1 = v) : (#[.int .i64 (nn k l 0), .int .i64 (nn k l 1), .int .i64 (nn k l 2)] : Array Value).setIfInBounds (0 + k) (.int .i64 v) = #[.int .i64 (nn (k + 1) l 0), .int .i64 (nn (k + 1) l 1), .int .i64 (nn (k + 1) l 2)] := by
  subst hv
  match k, hk with
  | 0, _ => rfl
  | 1, _ => rfl
  | 2, _ => rfl
theorem fil_fail {ps : List Nat} : ∀ {l : List ByteArray} {x : A10} (k : Nat), k < ps.length → ps.length ≤ l.length → (∀ j, j < k → (numb (l.getD j ByteArray.empty)).2 = true) → (numb (l.getD k ByteArray.empty)).2 = false → fil x ps l = none := by
  induction ps with
  | nil => intro l x k h; exact absurd h (Nat.not_lt_zero k)
  | cons p ps ih =>
    intro l x k hk hl ho hf
    cases l with
    | nil => rfl
    | cons t l =>
      unfold fil
      cases k with
      | zero =>
        have : (numb t).2 = false := hf
        rw [if_neg (by rw [this]; decide)]
      | succ k =>
        have h0 : (numb t).2 = true := ho 0 (Nat.succ_pos _)
        rw [if_pos h0]
        exact ih k (by simpa using hk) (by simpa using hl) (fun j hj => ho (j + 1) (by omega)) hf
theorem parse_no {hx : ByteArray → List Int × Bool} {s w0 : ByteArray} {l : List ByteArray} (hw : words s = w0 :: l) (h : ∀ j, j < 15 → w0 ≠ wd j) : parse hx s = (zA, false) := by
  unfold parse
  rw [hw]
  simp only [form_no h]
def nB (i : Nat) : Nat := needB (frm i).2.2.1 (frm i).2.2.2
theorem parse_at {hx : ByteArray → List Int × Bool} {s w0 : ByteArray} {l l2 : List ByteArray} {i : Nat} (hw : words s = w0 :: l) (hi : i < 15) (he : w0 = wd i) {fb : Bool} (hfb : fuaB (frm i).1 (frm i).2.1 l (nB i) = fb) (hl2 : (if fb = true then l.take (nB i) else l) = l2) :
    parse hx s = if l2.length = nB i then outA (hx (l2.getD (nB i - 1) ByteArray.empty)) (frm i).2.2.2 (fil (xF (frm i).1 (frm i).2.1 fb) (frm i).2.2.1 l2) else (zA, false) := by
  subst he
  unfold parse
  rw [hw]
  simp only [form_at hi]
  unfold nB at *
  obtain ⟨⟨kd, cm, ps, bs⟩, hf⟩ : ∃ q, frm i = q := ⟨_, rfl⟩
  rw [hf] at hfb hl2 ⊢
  simp only [] at hfb hl2 ⊢
  rw [hfb, hl2]
  split
  · show (match fil (xF kd cm fb) ps l2 with | none => _ | some x => _) = _
    cases fil (xF kd cm fb) ps l2 with
    | none => rfl
    | some x => cases bs <;> rfl
  · rfl
theorem fin_ok {i : Nat} (hi : i < 15) (fb : Bool) {l2 : List ByteArray} (hl : l2.length = nB i) (ok : ∀ j, j < (frm i).2.2.1.length → (numb (l2.getD j ByteArray.empty)).2 = true) (hb : List Int) (vb : Value) (hvb : (frm i).2.2.2 = none → vb = .slice none 0 0 ∧ hb = []) :
    ∃ x y vd vk, fil (xF (frm i).1 (frm i).2.1 fb) (frm i).2.2.1 l2 = some x ∧ outA (hb, true) (frm i).2.2.2 (some x) = (y, true) ∧ fillC (frm i).1 (frm i).2.1 fb (nn (frm i).2.2.1.length l2 0) (nn (frm i).2.2.1.length l2 1) (nn (frm i).2.2.1.length l2 2) vb = cellsA y vd vk ∧ ∀ (w : World) (base : Nat), Kd.R (Kd.int .u8) 5 w base (fun _ => True) vb hb → Kd.R (Kd.int .u8) 5 w base (fun _ => True) vd y.data ∧ Kd.R (Kd.int .u8) 5 w base (fun _ => True) vk y.keep := by
  match i, hi with
  | 0, _ =>
    match l2, hl with
    | [t0, t1, t2], _ =>
      have h0 : (numb t0).2 = true := ok 0 (by decide)
      have h1 : (numb t1).2 = true := ok 1 (by decide)
      refine ⟨(setP (setP (xF 0 0 fb) 2 (numb t0).1) 3 (numb t1).1), (setB (setP (setP (xF 0 0 fb) 2 (numb t0).1) 3 (numb t1).1) 5 hb), vb, .slice none 0 0, ?_, rfl, ?_, ?_⟩
      · show fil (xF 0 0 fb) [2, 3] [t0, t1, t2] = _
        simp only [fil, h0, if_true, h1, if_true]
      · show fillC 0 0 fb (numb t0).1 (numb t1).1 0 vb = _
        unfold fillC
        rw [if_pos rfl]
        rfl
      · exact fun w base h => ⟨h, Kd.R_nil _ _ _ _ _⟩
  | 1, _ =>
    match l2, hl with
    | [t0, t1, t2], _ =>
      have h0 : (numb t0).2 = true := ok 0 (by decide)
      have h1 : (numb t1).2 = true := ok 1 (by decide)
      have h2 : (numb t2).2 = true := ok 2 (by decide)
      obtain ⟨rfl, rfl⟩ := hvb rfl
      refine ⟨(setP (setP (setP (xF 0 1 fb) 2 (numb t0).1) 3 (numb t1).1) 4 (numb t2).1), (setP (setP (setP (xF 0 1 fb) 2 (numb t0).1) 3 (numb t1).1) 4 (numb t2).1), .slice none 0 0, .slice none 0 0, ?_, rfl, ?_, ?_⟩
      · show fil (xF 0 1 fb) [2, 3, 4] [t0, t1, t2] = _
        simp only [fil, h0, if_true, h1, if_true, h2, if_true]
      · show fillC 0 1 fb (numb t0).1 (numb t1).1 (numb t2).1 (.slice none 0 0) = _
        unfold fillC
        rw [if_pos rfl]
        rfl
      · exact fun w base h => ⟨Kd.R_nil _ _ _ _ _, Kd.R_nil _ _ _ _ _⟩
  | 2, _ =>
    match l2, hl with
    | [], _ =>
      obtain ⟨rfl, rfl⟩ := hvb rfl
      refine ⟨(xF 0 2 fb), (xF 0 2 fb), .slice none 0 0, .slice none 0 0, ?_, rfl, ?_, ?_⟩
      · show fil (xF 0 2 fb) [] [] = _
        simp only [fil]
      · show fillC 0 2 fb 0 0 0 (.slice none 0 0) = _
        unfold fillC
        rw [if_pos rfl]
        rfl
      · exact fun w base h => ⟨Kd.R_nil _ _ _ _ _, Kd.R_nil _ _ _ _ _⟩
  | 3, _ =>
    match l2, hl with
    | [t0], _ =>
      have h0 : (numb t0).2 = true := ok 0 (by decide)
      obtain ⟨rfl, rfl⟩ := hvb rfl
      refine ⟨(setP (xF 0 3 fb) 2 (numb t0).1), (setP (xF 0 3 fb) 2 (numb t0).1), .slice none 0 0, .slice none 0 0, ?_, rfl, ?_, ?_⟩
      · show fil (xF 0 3 fb) [2] [t0] = _
        simp only [fil, h0, if_true]
      · show fillC 0 3 fb (numb t0).1 0 0 (.slice none 0 0) = _
        unfold fillC
        rw [if_pos rfl]
        rfl
      · exact fun w base h => ⟨Kd.R_nil _ _ _ _ _, Kd.R_nil _ _ _ _ _⟩
  | 4, _ =>
    match l2, hl with
    | [t0], _ =>
      have h0 : (numb t0).2 = true := ok 0 (by decide)
      obtain ⟨rfl, rfl⟩ := hvb rfl
      refine ⟨(setP (xF 0 4 fb) 2 (numb t0).1), (setP (xF 0 4 fb) 2 (numb t0).1), .slice none 0 0, .slice none 0 0, ?_, rfl, ?_, ?_⟩
      · show fil (xF 0 4 fb) [2] [t0] = _
        simp only [fil, h0, if_true]
      · show fillC 0 4 fb (numb t0).1 0 0 (.slice none 0 0) = _
        unfold fillC
        rw [if_pos rfl]
        rfl
      · exact fun w base h => ⟨Kd.R_nil _ _ _ _ _, Kd.R_nil _ _ _ _ _⟩
  | 5, _ =>
    match l2, hl with
    | [t0], _ =>
      have h0 : (numb t0).2 = true := ok 0 (by decide)
      obtain ⟨rfl, rfl⟩ := hvb rfl
      refine ⟨(setP (xF 0 5 fb) 2 (numb t0).1), (setP (xF 0 5 fb) 2 (numb t0).1), .slice none 0 0, .slice none 0 0, ?_, rfl, ?_, ?_⟩
      · show fil (xF 0 5 fb) [2] [t0] = _
        simp only [fil, h0, if_true]
      · show fillC 0 5 fb (numb t0).1 0 0 (.slice none 0 0) = _
        unfold fillC
        rw [if_pos rfl]
        rfl
      · exact fun w base h => ⟨Kd.R_nil _ _ _ _ _, Kd.R_nil _ _ _ _ _⟩
  | 6, _ =>
    match l2, hl with
    | [t0], _ =>
      have h0 : (numb t0).2 = true := ok 0 (by decide)
      obtain ⟨rfl, rfl⟩ := hvb rfl
      refine ⟨(setP (xF 0 6 fb) 2 (numb t0).1), (setP (xF 0 6 fb) 2 (numb t0).1), .slice none 0 0, .slice none 0 0, ?_, rfl, ?_, ?_⟩
      · show fil (xF 0 6 fb) [2] [t0] = _
        simp only [fil, h0, if_true]
      · show fillC 0 6 fb (numb t0).1 0 0 (.slice none 0 0) = _
        unfold fillC
        rw [if_pos rfl]
        rfl
      · exact fun w base h => ⟨Kd.R_nil _ _ _ _ _, Kd.R_nil _ _ _ _ _⟩
  | 7, _ =>
    match l2, hl with
    | [t0], _ =>
      have h0 : (numb t0).2 = true := ok 0 (by decide)
      obtain ⟨rfl, rfl⟩ := hvb rfl
      refine ⟨(setP (xF 0 7 fb) 2 (numb t0).1), (setP (xF 0 7 fb) 2 (numb t0).1), .slice none 0 0, .slice none 0 0, ?_, rfl, ?_, ?_⟩
      · show fil (xF 0 7 fb) [2] [t0] = _
        simp only [fil, h0, if_true]
      · show fillC 0 7 fb (numb t0).1 0 0 (.slice none 0 0) = _
        unfold fillC
        rw [if_pos rfl]
        rfl
      · exact fun w base h => ⟨Kd.R_nil _ _ _ _ _, Kd.R_nil _ _ _ _ _⟩
  | 8, _ =>
    match l2, hl with
    | [t0], _ =>
      have h0 : (numb t0).2 = true := ok 0 (by decide)
      obtain ⟨rfl, rfl⟩ := hvb rfl
      refine ⟨(setP (xF 1 0 fb) 8 (numb t0).1), (setP (xF 1 0 fb) 8 (numb t0).1), .slice none 0 0, .slice none 0 0, ?_, rfl, ?_, ?_⟩
      · show fil (xF 1 0 fb) [8] [t0] = _
        simp only [fil, h0, if_true]
      · show fillC 1 0 fb (numb t0).1 0 0 (.slice none 0 0) = _
        unfold fillC
        rw [if_neg (by decide), if_pos rfl]
        rfl
      · exact fun w base h => ⟨Kd.R_nil _ _ _ _ _, Kd.R_nil _ _ _ _ _⟩
  | 9, _ =>
    match l2, hl with
    | [t0, t1], _ =>
      have h0 : (numb t0).2 = true := ok 0 (by decide)
      have h1 : (numb t1).2 = true := ok 1 (by decide)
      obtain ⟨rfl, rfl⟩ := hvb rfl
      refine ⟨(setP (setP (xF 2 0 fb) 7 (numb t0).1) 8 (numb t1).1), (setP (setP (xF 2 0 fb) 7 (numb t0).1) 8 (numb t1).1), .slice none 0 0, .slice none 0 0, ?_, rfl, ?_, ?_⟩
      · show fil (xF 2 0 fb) [7, 8] [t0, t1] = _
        simp only [fil, h0, if_true, h1, if_true]
      · show fillC 2 0 fb (numb t0).1 (numb t1).1 0 (.slice none 0 0) = _
        unfold fillC
        rw [if_neg (by decide), if_neg (by decide)]
        rfl
      · exact fun w base h => ⟨Kd.R_nil _ _ _ _ _, Kd.R_nil _ _ _ _ _⟩
  | 10, _ =>
    match l2, hl with
    | [t0], _ =>
      refine ⟨(xF 3 0 fb), (setB (xF 3 0 fb) 9 hb), .slice none 0 0, vb, ?_, rfl, ?_, ?_⟩
      · show fil (xF 3 0 fb) [] [t0] = _
        simp only [fil]
      · show fillC 3 0 fb 0 0 0 vb = _
        unfold fillC
        rw [if_neg (by decide), if_neg (by decide)]
        rfl
      · exact fun w base h => ⟨Kd.R_nil _ _ _ _ _, h⟩
  | 11, _ =>
    match l2, hl with
    | [t0], _ =>
      have h0 : (numb t0).2 = true := ok 0 (by decide)
      obtain ⟨rfl, rfl⟩ := hvb rfl
      refine ⟨(setP (xF 4 0 fb) 7 (numb t0).1), (setP (xF 4 0 fb) 7 (numb t0).1), .slice none 0 0, .slice none 0 0, ?_, rfl, ?_, ?_⟩
      · show fil (xF 4 0 fb) [7] [t0] = _
        simp only [fil, h0, if_true]
      · show fillC 4 0 fb (numb t0).1 0 0 (.slice none 0 0) = _
        unfold fillC
        rw [if_neg (by decide), if_neg (by decide)]
        rfl
      · exact fun w base h => ⟨Kd.R_nil _ _ _ _ _, Kd.R_nil _ _ _ _ _⟩
  | 12, _ =>
    match l2, hl with
    | [t0], _ =>
      have h0 : (numb t0).2 = true := ok 0 (by decide)
      obtain ⟨rfl, rfl⟩ := hvb rfl
      refine ⟨(setP (xF 5 0 fb) 7 (numb t0).1), (setP (xF 5 0 fb) 7 (numb t0).1), .slice none 0 0, .slice none 0 0, ?_, rfl, ?_, ?_⟩
      · show fil (xF 5 0 fb) [7] [t0] = _
        simp only [fil, h0, if_true]
      · show fillC 5 0 fb (numb t0).1 0 0 (.slice none 0 0) = _
        unfold fillC
        rw [if_neg (by decide), if_neg (by decide)]
        rfl
      · exact fun w base h => ⟨Kd.R_nil _ _ _ _ _, Kd.R_nil _ _ _ _ _⟩
  | 13, _ =>
    match l2, hl with
    | [], _ =>
      obtain ⟨rfl, rfl⟩ := hvb rfl
      refine ⟨(xF 6 0 fb), (xF 6 0 fb), .slice none 0 0, .slice none 0 0, ?_, rfl, ?_, ?_⟩
      · show fil (xF 6 0 fb) [] [] = _
        simp only [fil]
      · show fillC 6 0 fb 0 0 0 (.slice none 0 0) = _
        unfold fillC
        rw [if_neg (by decide), if_neg (by decide)]
        rfl
      · exact fun w base h => ⟨Kd.R_nil _ _ _ _ _, Kd.R_nil _ _ _ _ _⟩
  | 14, _ =>
    match l2, hl with
    | [], _ =>
      obtain ⟨rfl, rfl⟩ := hvb rfl
      refine ⟨(xF 7 0 fb), (xF 7 0 fb), .slice none 0 0, .slice none 0 0, ?_, rfl, ?_, ?_⟩
      · show fil (xF 7 0 fb) [] [] = _
        simp only [fil]
      · show fillC 7 0 fb 0 0 0 (.slice none 0 0) = _
        unfold fillC
        rw [if_neg (by decide), if_neg (by decide)]
        rfl
      · exact fun w base h => ⟨Kd.R_nil _ _ _ _ _, Kd.R_nil _ _ _ _ _⟩
end Go.Proofs.YtlhmpmmblnbmbaaDoor.Con
