/- Laws of the calls: what is much, and reading them. -/
import Derived.Test.YtlhmpmmblnbmbaaCacL
import Derived.Test.YtlhmpmmblnbmbaaCacRef
set_option linter.unusedVariables false
set_option linter.unusedSimpArgs false
namespace Go.Proofs.Ytlhmpmmblnbmbaa.Cac
open Go Go.RowKit Go.Proofs.Ytlhmpmmblnbmbaa.PCachePlays Go.Proofs.YtlhmpmmblnbmbaaW.PrintWords Go.Proofs.YtlhmpmmblnbmbaaW.PrintLast Go.Proofs.YtlhmpmmblnbmbaaW.PrintMore Go.Proofs.Ytlhmpmmblnbmbaa.FlowU Go.Proofs.Ytlhmpmmblnbmbaa.Ev Go.Proofs.Ytlhmpmmblnbmbaa.Ke Go.Proofs.Ytlhmpmmblnbmbaa.Cells
theorem wr {i : Nat} (h : i ≤ 1000000) : wrap64 ((i : Int) + 1) = ((i + 1 : Nat) : Int) := by
  unfold wrap64; omega
theorem rd38 {l : List S38} {i : Nat} {x : S38} (h : l[i]? = some x) : rd_T38 l i = x := by
  unfold rd_T38
  rw [Int.toNat_natCast, List.getD_eq_getElem?_getD, h]; rfl
theorem much_from (l : List S38) : ∀ m i : Nat, i + m = 60 → (∀ j x, j < i → l[j]? = some x → x.f2.length ≤ 200) → ∃ k b, revetmentlaw35_much.l0 k l i = some b ∧ (b = false → l.length ≤ 50 ∧ ∀ x ∈ l, x.f2.length ≤ 200) := by
  intro m
  induction m with
  | zero =>
    intro i hi hp
    have h60 : ¬ (i : Int) < 60 := by omega
    refine ⟨2, decide ((l.length : Int) > 50), ?_, fun hb => ?_⟩
    · simp only [revetmentlaw35_much.l0, revetmentlaw35_much.j1, h60, decide_false]
      split <;> simp
    · have hb2 := of_decide_eq_false hb
      refine ⟨by omega, fun x hx => ?_⟩
      obtain ⟨j, hj, rfl⟩ := List.mem_iff_getElem.1 hx
      exact hp j _ (by omega) (List.getElem?_eq_getElem hj)
  | succ m ih =>
    intro i hi hp
    by_cases hl : i < l.length
    · have hl2 : (i : Int) < l.length := by omega
      have h60 : (i : Int) < 60 := by omega
      have h0 : (0 : Int) ≤ i := by omega
      obtain ⟨x, hx⟩ : ∃ x, l[i]? = some x := ⟨_, List.getElem?_eq_getElem hl⟩
      by_cases hb : (x.f2.length : Int) > 200
      · refine ⟨2, true, ?_, fun h => by cases h⟩
        simp only [revetmentlaw35_much.l0, revetmentlaw35_much.j1, h60, hl2, h0, rd38 hx, hb, decide_true, if_true]
      · obtain ⟨k, b, hk, hq⟩ := ih (i + 1) (by omega) (fun j y hj hy => by
          rcases Nat.lt_succ_iff_lt_or_eq.1 hj with hj | rfl
          · exact hp j y hj hy
          · rw [hx] at hy; obtain rfl := Option.some.inj hy; omega)
        refine ⟨k + 2, b, ?_, hq⟩
        simp only [revetmentlaw35_much.l0, revetmentlaw35_much.j1, h60, hl2, h0, rd38 hx, hb, decide_true, if_true, if_false]
        rw [wr (by omega)]; exact hk
    · have hl2 : ¬ (i : Int) < l.length := by omega
      refine ⟨2, decide ((l.length : Int) > 50), ?_, fun hb => ?_⟩
      · simp only [revetmentlaw35_much.l0, revetmentlaw35_much.j1, hl2, if_false]
        simp
      · have hb2 := of_decide_eq_false hb
        refine ⟨by omega, fun x hx => ?_⟩
        obtain ⟨j, hj, rfl⟩ := List.mem_iff_getElem.1 hx
        exact hp j _ (by omega) (List.getElem?_eq_getElem hj)
theorem much_l (l : List S38) : ∃ k b, revetmentlaw35_much.f k l = some b ∧ (b = false → l.length ≤ 50 ∧ ∀ x ∈ l, x.f2.length ≤ 200) := much_from l 60 0 rfl (fun j x h => absurd h (Nat.not_lt_zero j))
theorem much_c (A : Option Addr) (c : Nat) (l : List S38) (w : World) (hr : Kd.C k38 w A l.length l) (hc : l.length ≤ c) : ∃ b : Bool, (b = false → l.length ≤ 50 ∧ ∀ x ∈ l, x.f2.length ≤ 200) ∧ ∀ w', Below w.heap.size w w' → Calls Try.prog 15 #[.slice A l.length c] w' fun e w2 => e = .returned (.bool b) ∧ Below w'.heap.size w' w2 := by
  obtain ⟨k, b, hk, hb⟩ := much_l l
  exact ⟨b, hb, fun w' hw => Calls.mono (revetmentlaw35_much.calls k A c l b w' (Kd.C_below hr hw) hc hk) (fun e w2 h => ⟨h.1, h.2.below⟩)⟩
theorem C_some {α : Type} {d : Kd α} {w : World} {A : Option Addr} {n : Nat} {l : List α} (h : d.C w A n l) (h0 : 0 < n) : ∃ ad, A = some ad := by
  obtain ⟨ad, ha, _⟩ := h.2.2 h0
  exact ⟨ad, ha⟩
theorem at38 {w : World} {ad : Addr} {n i : Nat} {l : List S38} {x : S38} (h : Kd.C k38 w (some ad) n l) (hx : l[i]? = some x) : ∃ B cb, Lies w (ad.add (i * 5)) [.int .i64 x.f0, .int .i64 x.f1.f0, .int .i64 x.f1.f1, .int .i64 x.f1.f2, .slice B x.f2.length cb] ∧ x.f2.length ≤ cb ∧ (Kd.int .u8).C w B x.f2.length x.f2 := by
  have hlt := (List.getElem?_eq_some_iff.1 hx).1
  have hn := h.1
  obtain ⟨ad', e, hc⟩ := h.2.2 (by omega)
  obtain rfl := Option.some.inj e
  obtain ⟨c, hs, hK, hcell⟩ := hc i x hx
  obtain ⟨B, cb, rfl, l4, g4⟩ := k38_open hK
  exact ⟨B, cb, fun j u hj => by rw [add_add]; exact hcell j u hj, l4, g4⟩
theorem lies_sub {w : World} {ad : Addr} {c c2 : List Value} (h : Lies w ad c) (o : Nat) (hc : (c.drop o).take c2.length = c2) : Lies w (ad.add o) c2 := fun j u hj => by
  rw [add_add]
  rw [← hc] at hj
  have hl : j < c2.length := by
    have := (List.getElem?_eq_some_iff.1 hj).1
    rw [List.length_take] at this; omega
  rw [List.getElem?_take_of_lt hl, List.getElem?_drop] at hj
  exact h _ _ hj
attribute [local go_sem high] eqA36
theorem eq36 {o : Oper} {a : Act} {w : World} {x y : Operand} {k j : S36} (ho : o.op = .binOp .eql 36 x y 36) (hx : a.eval x = kv k) (hy : a.eval y = kv j) : (execOp a.eval o).run Try.prog w = .ok (.value (.bool (same k j))) w := by
  unfold execOp
  simp only [ho, hx, hy, kv]
  go_simp
  simp [same, Bool.and_assoc]
end Go.Proofs.Ytlhmpmmblnbmbaa.Cac
