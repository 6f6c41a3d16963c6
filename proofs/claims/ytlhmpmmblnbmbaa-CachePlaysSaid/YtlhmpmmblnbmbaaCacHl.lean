/- What is got is what was put last: in lists alone. -/
import Derived.Test.YtlhmpmmblnbmbaaCacMu
set_option linter.unusedVariables false
set_option linter.unusedSimpArgs false
namespace Go.Proofs.Ytlhmpmmblnbmbaa.Cac
open Go Go.RowKit Go.Proofs.Ytlhmpmmblnbmbaa.PCachePlays Go.Proofs.YtlhmpmmblnbmbaaW.PrintWords Go.Proofs.YtlhmpmmblnbmbaaW.PrintLast Go.Proofs.YtlhmpmmblnbmbaaW.PrintMore Go.Proofs.Ytlhmpmmblnbmbaa.FlowU Go.Proofs.Ytlhmpmmblnbmbaa.Ev Go.Proofs.Ytlhmpmmblnbmbaa.Ke Go.Proofs.Ytlhmpmmblnbmbaa.Cells
instance (a b : S36) : Decidable (a = b) := decidable_of_iff (same a b = true) same_iff
/-- What was put last under k. -/
def lp : List S38 → S36 → Option (List Int)
  | [], _ => none
  | a :: r, k => match lp r k with | some d => some d | none => if a.f0 = 1 ∧ a.f1 = k then some a.f2 else none
theorem lp_app (l : List S38) (a : S38) (k : S36) : lp (l ++ [a]) k = if a.f0 = 1 ∧ a.f1 = k then some a.f2 else lp l k := by
  induction l with
  | nil => simp only [List.nil_append, lp]
  | cons x r ih =>
    simp only [List.cons_append, lp, ih]
    by_cases h : a.f0 = 1 ∧ a.f1 = k
    · simp only [if_pos h]
    · simp only [if_neg h]
theorem lp_take {l : List S38} {i : Nat} {a : S38} (h : l[i]? = some a) (k : S36) : lp (l.take (i + 1)) k = if a.f0 = 1 ∧ a.f1 = k then some a.f2 else lp (l.take i) k := by
  obtain ⟨hl, rfl⟩ := List.getElem?_eq_some_iff.1 h
  rw [List.take_succ_eq_append_getElem hl, lp_app]
/-- What is held is what was put last; and it is never more than there is room for. -/
structure Hl (l : List S38) (i : Nat) (room : Int) (L : KL) : Prop where
  last : ∀ x ∈ L, lp (l.take i) x.1 = some x.2
  len : (L.length : Int) ≤ room
  d200 : ∀ x ∈ L, x.2.length ≤ 200
theorem fwo_mem {k : S36} {L : KL} {x : S36 × List Int} (h : x ∈ fwo k L) : x ∈ L ∧ x.1 ≠ k := ⟨(List.mem_filter.1 h).1, fun e => by
  have := (List.mem_filter.1 h).2
  rw [e, same_iff.2 rfl] at this
  simp at this⟩
theorem fat_mem {k : S36} {L : KL} {d : List Int} (h : fat k L = some d) : (k, d) ∈ L := by
  obtain ⟨x, hx, rfl⟩ := Option.map_eq_some_iff.1 h
  have h1 := List.mem_of_find?_eq_some hx
  have h2 : same x.1 k = true := by simpa using List.find?_some hx
  obtain rfl := same_iff.1 h2
  exact h1
theorem fwo_lt {k : S36} {L : KL} {d : List Int} (h : fat k L = some d) : (fwo k L).length < L.length := by
  unfold fwo
  exact List.length_filter_lt_length_iff_exists.2 ⟨(k, d), fat_mem h, by simp [same_iff.2]⟩
theorem fwo_le {k : S36} {L : KL} : (fwo k L).length ≤ L.length := List.length_filter_le _ _
theorem Hl.put {l : List S38} {i : Nat} {room : Int} {L : KL} {a : S38} (h : Hl l i room L) (hr : 0 ≤ room) (ha : l[i]? = some a) (h1 : a.f0 = 1) (h2 : a.f2.length ≤ 200) : Hl l (i + 1) room (putL room a.f1 a.f2 L) := by
  have hm : ∀ x ∈ (a.f1, a.f2) :: fwo a.f1 L, lp (l.take (i + 1)) x.1 = some x.2 ∧ x.2.length ≤ 200 := by
    intro x hx
    rw [lp_take ha]
    rcases List.mem_cons.1 hx with rfl | hx
    · exact ⟨if_pos ⟨h1, rfl⟩, h2⟩
    · obtain ⟨hx, hn⟩ := fwo_mem hx
      rw [if_neg (fun e => hn e.2.symm)]
      exact ⟨h.last x hx, h.d200 x hx⟩
  unfold putL
  by_cases h0 : room = 0
  · rw [if_pos h0]
    have hl := h.len
    have : L = [] := List.length_eq_zero_iff.1 (by omega)
    subst this
    exact ⟨fun x hx => absurd hx (by simp), hl, fun x hx => absurd hx (by simp)⟩
  · rw [if_neg h0]
    have hle := fwo_le (k := a.f1) (L := L)
    have hl := h.len
    split
    · exact ⟨fun x hx => (hm x ((List.dropLast_sublist _).subset hx)).1, by rw [List.length_dropLast, List.length_cons]; omega, fun x hx => (hm x ((List.dropLast_sublist _).subset hx)).2⟩
    · exact ⟨fun x hx => (hm x hx).1, by omega, fun x hx => (hm x hx).2⟩
theorem Hl.skip {l : List S38} {i : Nat} {room : Int} {L : KL} {a : S38} (h : Hl l i room L) (ha : l[i]? = some a) (h1 : ¬ a.f0 = 1) : Hl l (i + 1) room L := ⟨fun x hx => by rw [lp_take ha, if_neg (fun e => h1 e.1)]; exact h.last x hx, h.len, h.d200⟩
theorem Hl.get {l : List S38} {i : Nat} {room : Int} {L : KL} {k : S36} {d : List Int} (h : Hl l i room L) (hk : fat k L = some d) : Hl l i room ((k, d) :: fwo k L) := by
  have hlt := fwo_lt hk
  have hl := h.len
  have hm : ∀ x ∈ (k, d) :: fwo k L, x ∈ L := fun x hx => (List.mem_cons.1 hx).elim (fun e => e ▸ fat_mem hk) (fun hx => (fwo_mem hx).1)
  exact ⟨fun x hx => h.last x (hm x hx), by rw [List.length_cons]; omega, fun x hx => h.d200 x (hm x hx)⟩
theorem Hl.got {l : List S38} {i : Nat} {room : Int} {L : KL} {k : S36} {d : List Int} (h : Hl l i room L) (hk : fat k L = some d) : lp (l.take i) k = some d := h.last _ (fat_mem hk)
theorem Hl.none_ (l : List S38) {room : Int} (hr : 0 ≤ room) : Hl l 0 room [] := ⟨fun x hx => absurd hx (by simp), hr, fun x hx => absurd hx (by simp)⟩
/-- last and put, behind j of the calls. -/
def lstr (l : List S38) (j : Nat) (k : S36) : ByteArray := strOfNums ((lp (l.take j) k).getD [])
def lput (l : List S38) (j : Nat) (k : S36) : Bool := (lp (l.take j) k).isSome
theorem l_zero (l : List S38) (k : S36) : lstr l 0 k = ⟨#[]⟩ ∧ lput l 0 k = false := ⟨by unfold lstr; rw [List.take_zero]; rfl, by unfold lput; rw [List.take_zero]; rfl⟩
theorem l_yes {l : List S38} {j : Nat} {a : S38} {k : S36} (h : l[j]? = some a) (h1 : a.f0 = 1) (h2 : same a.f1 k = true) : lstr l (j + 1) k = strOfNums a.f2 ∧ lput l (j + 1) k = true := by
  unfold lstr lput
  rw [lp_take h, if_pos ⟨h1, same_iff.1 h2⟩]
  exact ⟨rfl, rfl⟩
theorem l_no {l : List S38} {j : Nat} {a : S38} {k : S36} (h : l[j]? = some a) (h1 : ¬ (a.f0 = 1 ∧ same a.f1 k = true)) : lstr l (j + 1) k = lstr l j k ∧ lput l (j + 1) k = lput l j k := by
  unfold lstr lput
  rw [lp_take h, if_neg (fun e => h1 ⟨e.1, same_iff.2 e.2⟩)]
  exact ⟨rfl, rfl⟩
theorem l_got {l : List S38} {j : Nat} {d : List Int} {k : S36} (h : lp (l.take j) k = some d) : lstr l j k = strOfNums d ∧ lput l j k = true := by
  unfold lstr lput
  rw [h]
  exact ⟨rfl, rfl⟩
end Go.Proofs.Ytlhmpmmblnbmbaa.Cac
