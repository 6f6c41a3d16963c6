/- The texts of a report: numbers, words, states. -/
import Derived.Test.YtlhmpmmblnbmbaaDoorShelf
import Derived.Test.YtlhmpmmblnbmbaaDoorCells
import Derived.Test.YtlhmpmmblnbmbaaDoorPReportZonesx0
import Derived.Lib.AppendIntMem
namespace Go.Proofs.YtlhmpmmblnbmbaaDoor.Rep
open Go.Lib Go.RowKit Go.Proofs.YtlhmpmmblnbmbaaDoor.Cells Go.Proofs.YtlhmpmmblnbmbaaDoorW.PrintWords Go.Proofs.YtlhmpmmblnbmbaaDoorW.PrintLast Go.Proofs.YtlhmpmmblnbmbaaDoorW.PrintMore
/-- the library's table of powers stands as it was laid -/
def POW (w : World) : Prop := Go.Lib.TabIs Tryd.prog w "internal/strconv.uint64pow10" .u64 Go.Lib.pow10Tab
theorem POW.below {w w' : World} (h : POW w) (hb : Below w.heap.size w w') : POW w' := by
  unfold POW Go.Lib.TabIs World.var? at *
  obtain ⟨g, hg, hc⟩ := Option.bind_eq_some_iff.1 h
  rw [hg]
  simp only [Option.bind_some] at hc ⊢
  have hlt : g < w.heap.size := by
    by_cases hh : g < w.heap.size
    · exact hh
    · rw [Array.getElem?_eq_none (by omega)] at hc; simp at hc
  rw [hb.block g hlt]; exact hc
/-- an int -/
def I64 (n : Int) : Prop := -9223372036854775808 ≤ n ∧ n ≤ 9223372036854775807
def itoaB (n : Int) : ByteArray := ⟨(Go.Lib.itoa n).toArray⟩
theorem num_c (n : Int) (hn : I64 n) (w : World) (h : POW w) : Calls Tryd.prog 41 #[.int .i64 n] w fun e w' => e = .returned (.string (itoaB n)) ∧ Below w.heap.size w w' := by
  have HH := Aside0.mk h
  clear h
  go_enter Tryd.func41, Tryd.ntmps41
  go_wp2_with (go_at_call 56; refine (Tryd.strconv_Itoa n hn.1 hn.2 _ HH.out).mono ?_; rintro e w' ⟨rfl, k, os, rfl⟩)
  go_ret
  exact ⟨rfl, below_grow _ _ (Nat.le_refl _) _ _⟩
/-- a row of texts -/
def Strs (w : World) (v : Value) (l : List ByteArray) : Prop := ∃ bk o c, v = .slice (some ⟨bk, o, none⟩) l.length c ∧ l.length ≤ c ∧ bk < w.heap.size ∧ ∀ (j : Nat) s, l[j]? = some s → w.cell? ⟨bk, o + j, none⟩ = some (.string s)
theorem Strs.below {w w1 : World} {v : Value} {l : List ByteArray} (h : Strs w v l) (hb : Below w.heap.size w w1) : Strs w1 v l := by
  obtain ⟨bk, o, c, h1, h2, h3, h4⟩ := h
  exact ⟨bk, o, c, h1, h2, Nat.lt_of_lt_of_le h3 hb.size, fun j s hj => (hb.cell h3).trans (h4 j s hj)⟩
/-- texts with blanks between -/
def wordsB (l : List ByteArray) : ByteArray := ⟨(Go.Lib.join (l.map (·.data.toList)) [32]).toArray⟩
theorem words_c (l : List ByteArray) (v : Value) (w : World) (h : Strs w v l) (hn : l.length ≤ 140737488355328) (hlen : (wordsB l).size ≤ 140737488355328) : Calls Tryd.prog 42 #[v] w fun e w' => e = .returned (.string (wordsB l)) ∧ Below w.heap.size w w' := by
  obtain ⟨bk, o, c, rfl, h2, h3, h4⟩ := h
  have HC := Aside0.mk h4
  have HL := Aside0.mk (show (Go.Lib.join (l.map (·.data.toList)) (⟨#[32]⟩ : ByteArray).data.toList).length ≤ 140737488355328 by simpa [wordsB, ByteArray.size] using hlen)
  have HN := Aside0.mk hn
  clear h4 hlen hn
  go_enter Tryd.func42, Tryd.ntmps42
  go_wp2_with (go_at_call 57; refine (Tryd.strings_Join bk o c l ⟨#[32]⟩ _ HC.out h3 HN.out h2 HL.out).mono ?_; rintro e w' ⟨rfl, hb⟩)
  go_ret
  exact ⟨rfl, hb⟩
def nameB (n : Int) (l : List ByteArray) : ByteArray := if n < 0 then ⟨#[63]⟩ else l.getD n.toNat ⟨#[63]⟩
set_option maxRecDepth 100000 in
theorem name_c (n : Int) (l : List ByteArray) (v : Value) (w : World) (h : Strs w v l) : Calls Tryd.prog 43 #[.int .i64 n, v] w fun e w' => e = .returned (.string (nameB n l)) ∧ Below w.heap.size w w' := by
  obtain ⟨bk, o, c, rfl, h2, h3, h4⟩ := h
  have hu := Tryd.underlying79
  obtain ⟨m, HM⟩ : ∃ m, Aside0 (l.length = m) := ⟨_, ⟨rfl⟩⟩
  rw [HM.out] at h2 ⊢
  have HC := Aside0.mk h4
  clear h4
  by_cases h0 : n < 0
  · have hd : decide (n < 0) = true := decide_eq_true h0
    have HR := Aside0.mk (show nameB n l = ⟨#[63]⟩ by unfold nameB; rw [if_pos h0])
    go_enter Tryd.func43, Tryd.ntmps43
    go_wp2
    go_ret
    exact ⟨by rw [HR.out]; rfl, Below.refl _ _⟩
  · have hd : decide (n < 0) = false := decide_eq_false h0
    by_cases h1 : n < m
    · have hd1 : decide (n ≥ (m : Int)) = false := decide_eq_false (by omega)
      have hd2 : decide ((m : Int) ≤ n) = false := decide_eq_false (by omega)
      obtain ⟨j, rfl⟩ : ∃ j : Nat, n = j := ⟨n.toNat, by omega⟩
      have hj : j < l.length := by rw [HM.out]; omega
      obtain ⟨x, hx⟩ : ∃ x, l[j]? = some x := ⟨_, List.getElem?_eq_getElem hj⟩
      have hc := HC.out j x hx
      have HR := Aside0.mk (show nameB (j : Int) l = x by unfold nameB; rw [if_neg h0, Int.toNat_natCast, List.getD_eq_getElem?_getD, hx]; rfl)
      clear hx hj
      go_enter Tryd.func43, Tryd.ntmps43
      go_wp2
      go_ret
      exact ⟨by rw [HR.out]; rfl, Below.refl _ _⟩
    · have hd1 : decide (n ≥ (m : Int)) = true := decide_eq_true (by omega)
      have hd2 : decide ((m : Int) ≤ n) = true := decide_eq_true (by omega)
      have HR := Aside0.mk (show nameB n l = ⟨#[63]⟩ by unfold nameB; rw [if_neg h0, List.getD_eq_getElem?_getD, List.getElem?_eq_none (by rw [HM.out]; omega)]; rfl)
      go_enter Tryd.func43, Tryd.ntmps43
      go_wp2
      go_ret
      exact ⟨by rw [HR.out]; rfl, Below.refl _ _⟩
def stateL : List ByteArray := [⟨#[101, 109, 112, 116, 121]⟩, ⟨#[111, 112, 101, 110]⟩, ⟨#[99, 108, 111, 115, 101, 100]⟩, ⟨#[102, 117, 108, 108]⟩]
def stateB (n : Int) : ByteArray := nameB n stateL
theorem strs_new {w : World} {g : Nat} {l : List ByteArray} {t : TypeId} (h : w.heap[g]? = some (.cells (l.map Value.string).toArray t (0, 0))) : Strs w (.slice (some ⟨g, 0, none⟩) l.length l.length) l := by
  refine ⟨g, 0, l.length, rfl, Nat.le_refl _, blk_lt h, fun j s hj => ?_⟩
  rw [Nat.zero_add]
  refine (blk_cell h j).trans ?_
  simp [hj]
theorem state_c (n : Int) (w : World) : Calls Tryd.prog 14 #[.int .i64 n] w fun e w' => e = .returned (.string (stateB n)) ∧ Below w.heap.size w w' := by
  have hu := Tryd.underlying79
  go_enter Tryd.func14, Tryd.ntmps14
  go_wp2_with (first | ((with_reducible refine gate_dst (N := 4) rfl ?_); refine Cells.slice_event ?hg (N := 4) ?hd (n := 4) (cs := (stateL.map Value.string).toArray) (t := 9) ?hr ?_; (case hd => rfl); (case hg => rfl); (case hr => first | (go_simp; done) | (go_simp; rfl)); intro gb hgb wb kb hbb; have HS := Aside0.mk (strs_new kb); have HB := Aside0.mk hbb; clear hgb kb hbb) | (go_at_call 43; refine (name_c n stateL _ _ HS.out).mono ?_; rintro e wo ⟨rfl, hbo⟩; have HB2 := Aside0.mk (below_step HB.out hbo); clear HB hbo))
  go_ret
  exact ⟨rfl, HB2.out⟩
end Go.Proofs.YtlhmpmmblnbmbaaDoor.Rep
