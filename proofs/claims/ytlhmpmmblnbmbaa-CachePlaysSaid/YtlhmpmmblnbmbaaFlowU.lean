/- A region that draws its order, its operations' own relations between worlds: each finds what it hangs on, and what nobody else touches, whatever comes up first. -/
import Derived.Orders
import Derived.StillTail
import Derived.Below
import Derived.Test.YtlhmpmmblnbmbaaFlow
namespace Go.Proofs.Ytlhmpmmblnbmbaa.FlowU
open Go.RowKit
open Go.Proofs.Ytlhmpmmblnbmbaa.Flow (writer fine slotOf writer_some fine_dst fine_after getD_set behind behind_defers behind_size behind_slot flag_ext headFlags headFlags_size headFlags_get tableOf dstT freeT wantedT tab_get wantedT_eq putsT puts_behind)
section
variable {P : Program} {ops : Array Oper} {Q : Exit → Act → World → Prop} {a0 : Act} {w0 : World} {E : Nat → World → World → Prop} {G : World → World → Prop} {U : Nat → World → Prop} {T : Nat → Value → World → Prop} {TAB : List (Option Nat × List Nat)}
/-- What operation i must do, wherever it comes up. -/
def StepOk (P : Program) (ops : Array Oper) (Q : Exit → Act → World → Prop) (E : Nat → World → World → Prop) (G : World → World → Prop) (U : Nat → World → Prop) (T : Nat → Value → World → Prop) (a0 : Act) (w0 : World) (i : Nat) (o : Oper) : Prop :=
  ∀ (a : Act) (w : World), G w0 w → U i w → a.tmps.size = a0.tmps.size →
    (∀ k : Nat, (∀ (m : Nat) (om : Oper), ops[m]? = some om → om.dst = some k → ∃ e ∈ om.after, Region.binds .any e = true ∧ e.on = i) → a.tmps.getD k undef = a0.tmps.getD k undef) →
    (∀ j oj, ops[j]? = some oj → (∃ e ∈ o.after, Region.binds .any e = true ∧ e.on = j) → ∃ v, T j v w ∧ ∀ k : Nat, oj.dst = some k → a.tmps.getD k undef = v) →
    ∀ K : Act → World → Prop, (∀ v w', E i w w' → T i v w' → K (a.put o.dst v) w') →
      if Region.wanted o (yielded ops a.tmps) = true then o.wp P a w K Q else K (a.put o.dst undef) w
structure Inv (ops : Array Oper) (E : Nat → World → World → Prop) (G : World → World → Prop) (U : Nat → World → Prop) (T : Nat → Value → World → Prop) (a0 : Act) (w0 : World) (listed : Array Bool) (a : Act) (w : World) : Prop where
  size : listed.size = ops.size
  shut : ∀ i o, ops[i]? = some o → listed.getD i false = true → ∀ e ∈ o.after, Region.binds .any e = true → listed.getD e.on false = true
  ext : G w0 w
  defers : a.defers = a0.defers
  tsize : a.tmps.size = a0.tmps.size
  us : ∀ i, i < ops.size → listed.getD i false = false → U i w
  vals : ∃ vs : Nat → Value, (∀ i, listed.getD i false = true → T i (vs i) w) ∧ ∀ k, k < a0.tmps.size → a.tmps[k]? = slotOf ops listed vs a0 k
theorem inv_step (hf : fine ops = true) (trans : ∀ a b c, G a b → G b c → G a c) (eg : ∀ i a b, E i a b → G a b) (stay : ∀ i j v w w', i ≠ j → T i v w → E j w w' → T i v w') (ustay : ∀ i j w w', i ≠ j → U i w → E j w w' → U i w') {listed : Array Bool} {a : Act} {w : World} (hI : Inv ops E G U T a0 w0 listed a w)
    {i : Nat} {o : Oper} (ho : ops[i]? = some o) (hun : listed.getD i true = false) (hall : ∀ e ∈ o.after, Region.binds .any e = true → listed.getD e.on false = true) {v : Value} {w' : World} (hE : E i w w') (hT : T i v w') :
    Inv ops E G U T a0 w0 (listed.setIfInBounds i true) (a.put o.dst v) w' := by
  obtain ⟨hs, hsh, hx, hd, ht, hus, vs, hv, hk⟩ := hI
  have hi : i < ops.size := (Array.getElem?_eq_some_iff.1 ho).1
  have hil : i < listed.size := by omega
  have hun' : listed.getD i false = false := by
    simp only [Array.getD_eq_getD_getElem?, Array.getElem?_eq_getElem hil, Option.getD_some] at hun ⊢; exact hun
  refine ⟨by simpa using hs, ?_, trans _ _ _ hx (eg _ _ _ hE), ?_, ?_, ?_, fun j => if j = i then v else vs j, ?_, ?_⟩
  · intro j oj hj hl e he hb
    rw [getD_set _ _ _ hil] at hl ⊢
    by_cases hji : j = i
    · subst hji
      rw [ho] at hj; cases hj
      split
      · rfl
      · exact hall e he hb
    · rw [if_neg hji] at hl
      split
      · rfl
      · exact hsh j oj hj hl e he hb
  · cases o.dst <;> simp [Act.put, hd]
  · cases o.dst <;> simp [Act.put, ht]
  · intro j hjs hl
    rw [getD_set _ _ _ hil] at hl
    by_cases hji : j = i
    · rw [if_pos hji] at hl; cases hl
    · rw [if_neg hji] at hl
      exact ustay _ _ _ _ hji (hus j hjs hl) hE
  · intro j hj
    rw [getD_set _ _ _ hil] at hj
    by_cases hji : j = i
    · subst hji
      show T j (if j = j then v else vs j) w'
      rw [if_pos rfl]; exact hT
    · rw [if_neg hji] at hj
      show T j (if j = i then v else vs j) w'
      rw [if_neg hji]
      exact stay _ _ _ _ _ hji (hv j hj) hE
  · intro k hkk
    have old := hk k hkk
    cases hdst : o.dst with
    | none =>
      simp only [Act.put]
      rw [old]
      unfold slotOf
      cases hw : writer ops k with
      | none => rfl
      | some m =>
        have hmi : m ≠ i := by
          rintro rfl
          obtain ⟨o', ho', hd'⟩ := writer_some hw
          rw [ho] at ho'; cases ho'
          rw [hdst] at hd'; cases hd'
        simp only [getD_set _ _ _ hil, if_neg hmi]
    | some d =>
      have hwd := fine_dst hf ho hdst
      simp only [Act.put, Array.getElem?_setIfInBounds]
      by_cases hdk : d = k
      · subst hdk
        rw [if_pos rfl, if_pos (by omega)]
        unfold slotOf
        rw [hwd]
        simp only [getD_set _ _ _ hil, if_true]
      · rw [if_neg hdk, old]
        unfold slotOf
        cases hw : writer ops k with
        | none => rfl
        | some m =>
          have hmi : m ≠ i := by
            rintro rfl
            obtain ⟨o', ho', hd'⟩ := writer_some hw
            rw [ho] at ho'; cases ho'
            rw [hdst] at hd'; cases hd'
            exact hdk rfl
          simp only [getD_set _ _ _ hil, if_neg hmi]
theorem inv_any (hf : fine ops = true) (room : ∀ (i : Nat) (o : Oper) (k : Nat), ops[i]? = some o → o.dst = some k → k < a0.tmps.size) (trans : ∀ a b c, G a b → G b c → G a c) (eg : ∀ i a b, E i a b → G a b) (stay : ∀ i j v w w', i ≠ j → T i v w → E j w w' → T i v w') (ustay : ∀ i j w w', i ≠ j → U i w → E j w w' → U i w') (hstep : ∀ i o, ops[i]? = some o → StepOk P ops Q E G U T a0 w0 i o)
    (hend : ∀ vs w, G w0 w → (∀ i, i < ops.size → T i (vs i) w) → Q .normal (behind ops vs (List.range ops.size) a0) w) :
    ∀ (fuel : Nat) (listed : Array Bool) (a : Act) (w : World), ((List.range ops.size).filter fun i => !listed.getD i false).length ≤ fuel → Inv ops E G U T a0 w0 listed a w → wpAny P .any ops Q fuel listed a w := by
  have none_left : ∀ (listed : Array Bool) (a : Act) (w : World), Inv ops E G U T a0 w0 listed a w → Region.ready .any ops listed = [] → ∀ i, i < ops.size → listed.getD i false = true := by
    intro listed a w hI hr i
    induction i using Nat.strongRecOn with
    | ind i ih =>
      intro hi
      have hil : i < listed.size := by have := hI.size; omega
      cases hl : listed.getD i false with
      | true => rfl
      | false =>
        exfalso
        have hmem : i ∈ Region.ready .any ops listed := mem_ready.2 ⟨by
          simp only [Array.getD_eq_getD_getElem?, Array.getElem?_eq_getElem hil, Option.getD_some] at hl ⊢; exact hl, ops[i], Array.getElem?_eq_getElem hi, fun e he hb =>
            ih e.on (fine_after hf (Array.getElem?_eq_getElem hi) he hb) (by have := fine_after hf (Array.getElem?_eq_getElem hi) he hb; omega)⟩
        rw [hr] at hmem; cases hmem
  have at_end : ∀ (listed : Array Bool) (a : Act) (w : World), Inv ops E G U T a0 w0 listed a w → Region.ready .any ops listed = [] → Q .normal a w := by
    intro listed a w hI hr
    have hall := none_left listed a w hI hr
    obtain ⟨hs, hsh, hx, hd, ht, hus, vs, hv, hk⟩ := hI
    have h := hend vs w hx (fun i hi => hv i (hall i hi))
    have e : behind ops vs (List.range ops.size) a0 = a := by
      have e1 : (behind ops vs (List.range ops.size) a0).tmps = a.tmps := by
        apply Array.ext_getElem?
        intro k
        by_cases hkk : k < a0.tmps.size
        · rw [behind_slot hf vs _ a0 k hkk, hk k hkk]
          unfold slotOf
          cases hw : writer ops k with
          | none => rfl
          | some m =>
            obtain ⟨o', ho', _⟩ := writer_some hw
            have hm : m < ops.size := (Array.getElem?_eq_some_iff.1 ho').1
            simp [hm, hall m hm]
        · rw [Array.getElem?_eq_none (by rw [behind_size]; omega), Array.getElem?_eq_none (by omega)]
      have e2 := behind_defers (ops := ops) vs (List.range ops.size) a0
      cases a with
      | mk t d =>
        cases hb : behind ops vs (List.range ops.size) a0 with
        | mk t' d' =>
          rw [hb] at e1 e2
          simp only at e1 e2 hd
          rw [e1, e2, ← hd]
    rw [e] at h; exact h
  intro fuel
  induction fuel with
  | zero =>
    intro listed a w hc hI
    have hr : Region.ready .any ops listed = [] := by
      rw [List.eq_nil_iff_forall_not_mem]
      intro i hi
      obtain ⟨hl, o, ho, _⟩ := mem_ready.1 hi
      have hi' : i < ops.size := (Array.getElem?_eq_some_iff.1 ho).1
      have hil : i < listed.size := by have := hI.size; omega
      have : i ∈ (List.range ops.size).filter fun i => !listed.getD i false := List.mem_filter.2 ⟨List.mem_range.2 hi', by
        simp only [Array.getD_eq_getD_getElem?, Array.getElem?_eq_getElem hil, Option.getD_some] at hl ⊢; simp [hl]⟩
      have h0 : ((List.range ops.size).filter fun i => !listed.getD i false) = [] := List.length_eq_zero_iff.1 (by omega)
      rw [h0] at this
      cases this
    exact ⟨hr, at_end listed a w hI hr⟩
  | succ fuel ih =>
    intro listed a w hc hI
    refine ⟨at_end listed a w hI, fun i hi => ?_⟩
    obtain ⟨hl, o, ho, hall⟩ := mem_ready.1 hi
    have hi' : i < ops.size := (Array.getElem?_eq_some_iff.1 ho).1
    have hil : i < listed.size := by have := hI.size; omega
    have hK : ∀ v w', E i w w' → T i v w' → wpAny P .any ops Q fuel (listed.setIfInBounds i true) (a.put o.dst v) w' := fun v w' hE hT => by
      refine ih _ _ _ ?_ (inv_step hf trans eg stay ustay hI ho hl hall hE hT)
      have hlt : ((List.range ops.size).filter fun j => !(listed.setIfInBounds i true).getD j false).length < ((List.range ops.size).filter fun j => !listed.getD j false).length := by
        have hsub : ((List.range ops.size).filter fun j => !(listed.setIfInBounds i true).getD j false) = (((List.range ops.size).filter fun j => !listed.getD j false).filter fun j => decide (j ≠ i)) := by
          rw [List.filter_filter]
          apply List.filter_congr
          intro j _
          rw [getD_set _ _ _ hil]
          by_cases hji : j = i <;> simp [hji]
        rw [hsub]
        have hm : i ∈ (List.range ops.size).filter fun j => !listed.getD j false := List.mem_filter.2 ⟨List.mem_range.2 hi', by
          simp only [Array.getD_eq_getD_getElem?, Array.getElem?_eq_getElem hil, Option.getD_some] at hl ⊢; simp [hl]⟩
        exact List.length_filter_lt_length_iff_exists.2 ⟨i, hm, by simp⟩
      omega
    have hdep : ∀ j oj, ops[j]? = some oj → (∃ e ∈ o.after, Region.binds .any e = true ∧ e.on = j) → ∃ v, T j v w ∧ ∀ k : Nat, oj.dst = some k → a.tmps.getD k undef = v := by
      rintro j oj hj ⟨e, he, hb, rfl⟩
      obtain ⟨hs, hsh, hx, hd, ht, hus, vs, hv, hk⟩ := hI
      have hlj := hall e he hb
      refine ⟨vs e.on, hv _ hlj, fun k hdk => ?_⟩
      have hw := fine_dst hf hj hdk
      have hkk := room _ _ _ hj hdk
      rw [Array.getD_eq_getD_getElem?, hk k hkk]
      unfold slotOf
      rw [hw]; simp [hlj]
    have := hstep i o ho a w hI.ext (hI.us i hi' (getD_both hl)) hI.tsize (by
      intro k hw
      obtain ⟨hs, hsh, hx, hd, ht, hus, vs, hv, hk⟩ := hI
      by_cases hkk : k < a0.tmps.size
      · rw [Array.getD_eq_getD_getElem?, Array.getD_eq_getD_getElem?, hk k hkk]
        unfold slotOf
        cases hwr : writer ops k with
        | none => rfl
        | some m =>
          obtain ⟨om, hom, hdm⟩ := writer_some hwr
          simp only []
          rw [if_neg]
          intro hlm
          obtain ⟨e, he, hb, hei⟩ := hw m om hom hdm
          have hli := hsh m om hom hlm e he hb
          rw [hei] at hli
          simp only [Array.getD_eq_getD_getElem?, Array.getElem?_eq_getElem hil, Option.getD_some] at hl hli
          rw [hl] at hli; cases hli
      · rw [Array.getD_eq_getD_getElem?, Array.getD_eq_getD_getElem?, Array.getElem?_eq_none (xs := a.tmps) (by omega), Array.getElem?_eq_none (xs := a0.tmps) (by omega)]) hdep _ hK
    unfold wpOp
    rw [ho]
    simp only []
    split
    · next hw => rw [if_pos hw] at this; exact .inl this
    · next hw => rw [if_neg hw] at this; exact this
theorem inv_head {n : Nat} (hn : n < ops.size) (hf : fine ops = true) (hsi : Region.sinkB .any ops n = true) (hch : Region.chainB .any ops n = true) (hsq : Region.seqB .any ops (ops.size - n) n (headFlags n ops.size) = true)
    (room : ∀ (i : Nat) (o : Oper) (k : Nat), ops[i]? = some o → o.dst = some k → k < a0.tmps.size) (trans : ∀ a b c, G a b → G b c → G a c) (eg : ∀ i a b, E i a b → G a b) (stay : ∀ i j v w w', i ≠ j → T i v w → E j w w' → T i v w') (ustay : ∀ i j w w', i ≠ j → U i w → E j w w' → U i w') (hstep : ∀ i o, i < n → ops[i]? = some o → StepOk P ops Q E G U T a0 w0 i o)
    (hend : ∀ vs w, G w0 w → (∀ i, i < n → T i (vs i) w) → wpList P ops Q (ops.toList.drop n) (behind ops vs (List.range n) a0) w) :
    ∀ (fuel : Nat) (listed : Array Bool) (a : Act) (w : World), ((List.range n).filter fun i => !listed.getD i false).length = fuel → (∀ t, n ≤ t → t < ops.size → listed.getD t true = false) → Inv ops E G U T a0 w0 listed a w → wpAny P .any ops Q (fuel + (ops.size - n)) listed a w := by
  intro fuel
  induction fuel with
  | zero =>
    intro listed a w hcnt htl hI
    have hall : ∀ i, i < n → listed.getD i false = true := by
      intro i hi
      cases hl : listed.getD i false with
      | true => rfl
      | false =>
        have : i ∈ (List.range n).filter fun i => !listed.getD i false := List.mem_filter.2 ⟨List.mem_range.2 hi, by simp [hl]⟩
        rw [List.length_eq_zero_iff.1 hcnt] at this; cases this
    have hle : listed = headFlags n ops.size := by
      refine flag_ext (by rw [hI.size, headFlags_size (by omega)]) fun i hi => ?_
      rw [headFlags_get]
      by_cases h : i < n
      · rw [hall i h]; simp [h]
      · have := getD_both (htl i (by omega) (by have := hI.size; omega))
        rw [this]; simp [h]
    obtain ⟨hs, hsh, hx, hd, ht, hus, vs, hv, hk⟩ := hI
    have h := hend vs w hx (fun i hi => hv i (hall i hi))
    have e : behind ops vs (List.range n) a0 = a := by
      have e1 : (behind ops vs (List.range n) a0).tmps = a.tmps := by
        apply Array.ext_getElem?
        intro k
        by_cases hkk : k < a0.tmps.size
        · rw [behind_slot hf vs _ a0 k hkk, hk k hkk]
          unfold slotOf
          cases hw : writer ops k with
          | none => rfl
          | some m =>
            by_cases hm : m < n
            · simp [hm, hall m hm]
            · obtain ⟨o', ho', _⟩ := writer_some hw
              have hm' : m < ops.size := (Array.getElem?_eq_some_iff.1 ho').1
              have := getD_both (htl m (by omega) hm')
              simp [hm, this]
        · rw [Array.getElem?_eq_none (by rw [behind_size]; omega), Array.getElem?_eq_none (by omega)]
      have e2 := behind_defers (ops := ops) vs (List.range n) a0
      cases a with
      | mk t d =>
        cases hb : behind ops vs (List.range n) a0 with
        | mk t' d' =>
          rw [hb] at e1 e2
          simp only at e1 e2 hd
          rw [e1, e2, ← hd]
    rw [e] at h
    have hlen : (ops.toList.drop n).length = ops.size - n := by simp
    rw [Nat.zero_add, ← hlen]
    exact wpAny_of_seq _ n listed a w (fun j => by simp [List.getElem?_drop]) (by rw [hlen, hle]; exact hsq) h
  | succ fuel ih =>
    intro listed a w hcnt htl hI
    have hHI : HeadInv .any ops n listed := ⟨hI.size, hI.shut, htl⟩
    have hex : ∃ i, i < n ∧ listed.getD i true = false := by
      obtain ⟨i, hi⟩ : ∃ i, i ∈ (List.range n).filter fun i => !listed.getD i false := List.exists_mem_of_length_pos (by omega)
      obtain ⟨h1, h2⟩ := List.mem_filter.1 hi
      refine ⟨i, List.mem_range.1 h1, getD_in (by have := hI.size; have := List.mem_range.1 h1; omega) (by simpa using h2)⟩
    obtain ⟨i0, hi0, hu0⟩ := hex
    have hwait := tail_waits hsi hch hn hHI _ i0 rfl hi0 hu0
    rw [show fuel + 1 + (ops.size - n) = (fuel + (ops.size - n)) + 1 by omega]
    refine ⟨fun hr => ?_, fun i hi => ?_⟩
    · exfalso
      have all : ∀ i, i < n → listed.getD i false = true := by
        intro i
        induction i using Nat.strongRecOn with
        | ind i ih2 =>
          intro hi
          have hil : i < listed.size := by have := hI.size; omega
          cases hl : listed.getD i false with
          | true => rfl
          | false =>
            exfalso
            have hio : i < ops.size := by omega
            have hmem : i ∈ Region.ready .any ops listed := mem_ready.2 ⟨getD_in hil hl, ops[i], Array.getElem?_eq_getElem hio, fun e he hb =>
              ih2 e.on (fine_after hf (Array.getElem?_eq_getElem hio) he hb) (by have := fine_after hf (Array.getElem?_eq_getElem hio) he hb; omega)⟩
            rw [hr] at hmem; cases hmem
      have := all i0 hi0
      rw [getD_both hu0] at this
      cases this
    have hin : i < n := by
      by_cases h : i < n
      · exact h
      · exact absurd hi (hwait i (by omega))
    obtain ⟨hl, o, ho, hall⟩ := mem_ready.1 hi
    have hi' : i < ops.size := (Array.getElem?_eq_some_iff.1 ho).1
    have hil : i < listed.size := by have := hI.size; omega
    have hK : ∀ v w', E i w w' → T i v w' → wpAny P .any ops Q (fuel + (ops.size - n)) (listed.setIfInBounds i true) (a.put o.dst v) w' := fun v w' hE hT => by
      refine ih _ _ _ ?_ ?_ (inv_step hf trans eg stay ustay hI ho hl hall hE hT)
      · have hsub : ((List.range n).filter fun j => !(listed.setIfInBounds i true).getD j false) = (((List.range n).filter fun j => !listed.getD j false).filter fun j => decide (j ≠ i)) := by
          rw [List.filter_filter]
          apply List.filter_congr
          intro j _
          rw [getD_set _ _ _ hil]
          by_cases hji : j = i <;> simp [hji]
        rw [hsub]
        have hnd : ((List.range n).filter fun j => !listed.getD j false).Nodup := List.Pairwise.filter _ List.nodup_range
        have hm : i ∈ (List.range n).filter fun j => !listed.getD j false := List.mem_filter.2 ⟨List.mem_range.2 hin, by simp [getD_both hl]⟩
        have := List.Nodup.erase_eq_filter hnd i
        have hl2 := List.length_erase_of_mem hm
        rw [this] at hl2
        have hc2 : ∀ l : List Nat, (l.filter fun j => decide (j ≠ i)) = l.filter (· != i) := fun l => List.filter_congr fun j _ => by by_cases h : j = i <;> simp [h]
        rw [hc2, hl2]; omega
      · intro t h1 h2
        rw [getD_set_ne true (by omega)]
        exact htl t h1 h2
    have hdep : ∀ j oj, ops[j]? = some oj → (∃ e ∈ o.after, Region.binds .any e = true ∧ e.on = j) → ∃ v, T j v w ∧ ∀ k : Nat, oj.dst = some k → a.tmps.getD k undef = v := by
      rintro j oj hj ⟨e, he, hb, rfl⟩
      obtain ⟨hs, hsh, hx, hd, ht, hus, vs, hv, hk⟩ := hI
      have hlj := hall e he hb
      refine ⟨vs e.on, hv _ hlj, fun k hdk => ?_⟩
      have hw := fine_dst hf hj hdk
      have hkk := room _ _ _ hj hdk
      rw [Array.getD_eq_getD_getElem?, hk k hkk]
      unfold slotOf
      rw [hw]; simp [hlj]
    have := hstep i o hin ho a w hI.ext (hI.us i hi' (getD_both hl)) hI.tsize (by
      intro k hw
      obtain ⟨hs, hsh, hx, hd, ht, hus, vs, hv, hk⟩ := hI
      by_cases hkk : k < a0.tmps.size
      · rw [Array.getD_eq_getD_getElem?, Array.getD_eq_getD_getElem?, hk k hkk]
        unfold slotOf
        cases hwr : writer ops k with
        | none => rfl
        | some m =>
          obtain ⟨om, hom, hdm⟩ := writer_some hwr
          simp only []
          rw [if_neg]
          intro hlm
          obtain ⟨e, he, hb, hei⟩ := hw m om hom hdm
          have hli := hsh m om hom hlm e he hb
          rw [hei] at hli
          simp only [Array.getD_eq_getD_getElem?, Array.getElem?_eq_getElem hil, Option.getD_some] at hl hli
          rw [hl] at hli; cases hli
      · rw [Array.getD_eq_getD_getElem?, Array.getD_eq_getD_getElem?, Array.getElem?_eq_none (xs := a.tmps) (by omega), Array.getElem?_eq_none (xs := a0.tmps) (by omega)]) hdep _ hK
    unfold wpOp
    rw [ho]
    simp only []
    split
    · next hw => rw [if_pos hw] at this; exact .inl this
    · next hw => rw [if_neg hw] at this; exact this
/-- The region, whatever order it draws. -/
theorem flow {id : Nat} (hm : P.follows .mixedOrders = true) (hf : fine ops = true) (room : ((List.range ops.size).all fun i => match (ops[i]?).bind (·.dst) with | some k => decide (k < a0.tmps.size) | none => true) = true)
    (hE : G w0 w0.drew) (hu0 : ∀ i, U i w0.drew) (trans : ∀ a b c, G a b → G b c → G a c) (eg : ∀ i a b, E i a b → G a b) (stay : ∀ i j v w w', i ≠ j → T i v w → E j w w' → T i v w') (ustay : ∀ i j w w', i ≠ j → U i w → E j w w' → U i w') (hstep : ∀ i o, ops[i]? = some o → StepOk P ops Q E G U T a0 w0 i o)
    (hend : ∀ vs w, G w0 w → (∀ i, i < ops.size → T i (vs i) w) → Q .normal (behind ops vs (List.range ops.size) a0) w) : (Code.region id ops true).wp P Q a0 w0 := by
  refine wp_region_any hm (inv_any hf ?_ trans eg stay ustay hstep hend _ _ _ _ ?_ ⟨by simp, ?_, hE, rfl, rfl, fun i _ _ => hu0 i, fun _ => undef, ?_, ?_⟩)
  · intro i o k ho hd
    have := List.all_eq_true.1 room i (List.mem_range.2 (Array.getElem?_eq_some_iff.1 ho).1)
    simpa [ho, hd] using this
  · exact Nat.le_trans (List.length_filter_le _ _) (by simp)
  · intro i o ho hl
    simp [Array.getD_eq_getD_getElem?, Array.getElem?_replicate] at hl
    split at hl <;> simp at hl
  · intro i hl
    simp [Array.getD_eq_getD_getElem?, Array.getElem?_replicate] at hl
    split at hl <;> simp at hl
  · intro k hk
    unfold slotOf
    split
    · rw [if_neg]
      simp [Array.getD_eq_getD_getElem?, Array.getElem?_replicate]
      split <;> simp
    · rfl
/-- The region, its head in whatever order it draws, its tail in line. -/
theorem flow_head {id n : Nat} (hm : P.follows .mixedOrders = true) (hn : n < ops.size) (hf : fine ops = true) (hsi : Region.sinkB .any ops n = true) (hch : Region.chainB .any ops n = true) (hsq : Region.seqB .any ops (ops.size - n) n (headFlags n ops.size) = true)
    (room : ((List.range ops.size).all fun i => match (ops[i]?).bind (·.dst) with | some k => decide (k < a0.tmps.size) | none => true) = true)
    (hE : G w0 w0.drew) (hu0 : ∀ i, U i w0.drew) (trans : ∀ a b c, G a b → G b c → G a c) (eg : ∀ i a b, E i a b → G a b) (stay : ∀ i j v w w', i ≠ j → T i v w → E j w w' → T i v w') (ustay : ∀ i j w w', i ≠ j → U i w → E j w w' → U i w') (hstep : ∀ i o, i < n → ops[i]? = some o → StepOk P ops Q E G U T a0 w0 i o)
    (hend : ∀ vs w, G w0 w → (∀ i, i < n → T i (vs i) w) → wpList P ops Q (ops.toList.drop n) (behind ops vs (List.range n) a0) w) : (Code.region id ops true).wp P Q a0 w0 := by
  have hcnt : ((List.range n).filter fun i => !(Array.replicate ops.size false).getD i false).length = n := by
    rw [List.filter_eq_self.2 (fun i _ => by rw [getD_replicate_false]; rfl)]; simp
  have hsz : ops.size = n + (ops.size - n) := by omega
  refine wp_region_any hm ?_
  have := inv_head (Q := Q) hn hf hsi hch hsq ?_ trans eg stay ustay hstep hend n (Array.replicate ops.size false) a0 { w0 with drawn := w0.drawn + 1 } hcnt ?_ ⟨by simp, ?_, hE, rfl, rfl, fun i _ _ => hu0 i, fun _ => undef, ?_, ?_⟩
  · rw [← hsz] at this; exact this
  · intro i o k ho hd
    have := List.all_eq_true.1 room i (List.mem_range.2 (Array.getElem?_eq_some_iff.1 ho).1)
    simpa [ho, hd] using this
  · intro t _ h2
    exact getD_in (by simpa using h2) (getD_replicate_false _ _)
  · intro i o ho hl
    rw [getD_replicate_false] at hl; cases hl
  · intro i hl
    rw [getD_replicate_false] at hl; cases hl
  · intro k hk
    unfold slotOf
    split
    · rw [getD_replicate_false]; simp
    · rfl
def StepT (P : Program) (TAB : List (Option Nat × List Nat)) (Q : Exit → Act → World → Prop) (E : Nat → World → World → Prop) (G : World → World → Prop) (U : Nat → World → Prop) (T : Nat → Value → World → Prop) (a0 : Act) (w0 : World) (i : Nat) (o : Oper) (needs : List Nat) : Prop :=
  ∀ (a : Act) (w : World), G w0 w → U i w → (∀ k : Nat, freeT TAB i k = true → a.tmps.getD k undef = a0.tmps.getD k undef) →
    (∀ j ∈ needs, ∃ v, T j v w ∧ ∀ k : Nat, dstT TAB j = some k → a.tmps.getD k undef = v) →
    ∀ K : Act → World → Prop, (∀ v w', E i w w' → T i v w' → K (a.put o.dst v) w') →
      if wantedT TAB o.guard a.tmps = true then o.wp P a w K Q else K (a.put o.dst undef) w
def StepsT (P : Program) (TAB : List (Option Nat × List Nat)) (Q : Exit → Act → World → Prop) (E : Nat → World → World → Prop) (G : World → World → Prop) (U : Nat → World → Prop) (T : Nat → Value → World → Prop) (a0 : Act) (w0 : World) : Nat → List Oper → Prop
  | _, [] => True
  | i, o :: r => StepT P TAB Q E G U T a0 w0 i o (TAB.getD i (none, [])).2 ∧ StepsT P TAB Q E G U T a0 w0 (i + 1) r
theorem stepsT_get : ∀ (l : List Oper) (n i : Nat) (o : Oper), StepsT P TAB Q E G U T a0 w0 n l → l[i]? = some o → StepT P TAB Q E G U T a0 w0 (n + i) o (TAB.getD (n + i) (none, [])).2
  | [], _, _, _, _, h => by simp at h
  | o :: r, n, 0, o', hs, h => by
    simp only [List.getElem?_cons_zero, Option.some.injEq] at h
    subst h; exact hs.1
  | o :: r, n, i + 1, o', hs, h => by
    simp only [List.getElem?_cons_succ] at h
    have := stepsT_get r (n + 1) i o' hs.2 h
    rw [show n + (i + 1) = n + 1 + i by omega]; exact this
/-- The region by its table. -/
theorem flowT {id : Nat} (TAB : List (Option Nat × List Nat)) (T : Nat → Value → World → Prop) (hT : tableOf ops = TAB) (hm : P.follows .mixedOrders = true) (hf : fine ops = true) (room : (TAB.all fun r => match r.1 with | some k => decide (k < a0.tmps.size) | none => true) = true)
    (hE : G w0 w0.drew) (hu0 : ∀ i, U i w0.drew) (trans : ∀ a b c, G a b → G b c → G a c) (eg : ∀ i a b, E i a b → G a b) (stay : ∀ i j v w w', i ≠ j → T i v w → E j w w' → T i v w') (ustay : ∀ i j w w', i ≠ j → U i w → E j w w' → U i w') (hstep : StepsT P TAB Q E G U T a0 w0 0 ops.toList)
    (hend : ∀ vs w, G w0 w → (∀ i, i < TAB.length → T i (vs i) w) → Q .normal (putsT 0 TAB vs a0) w) : (Code.region id ops true).wp P Q a0 w0 := by
  have hlen : TAB.length = ops.size := by rw [← hT]; simp [tableOf]
  refine flow hm hf ?_ hE hu0 trans eg stay ustay (fun i o ho => ?_) (fun vs w hx ht => by
    have := hend vs w hx (fun i hi => ht i (by omega))
    have e := puts_behind hT vs ops.size 0 a0 (by omega)
    rw [List.drop_zero] at e
    rw [List.range_eq_range', e]; exact this)
  · refine List.all_eq_true.2 fun i hi => ?_
    have hi' := List.mem_range.1 hi
    have ho : ops[i]? = some ops[i] := Array.getElem?_eq_getElem hi'
    have h2 := List.all_eq_true.1 room _ (List.mem_of_getElem? (tab_get hT ho))
    rw [ho]; exact h2
  · intro a w hx hux hs hu hd K hK
    have ho' : ops.toList[i]? = some o := by rw [Array.getElem?_toList]; exact ho
    have hst := stepsT_get _ 0 i o hstep ho'
    rw [Nat.zero_add] at hst
    have hget := tab_get hT ho
    have := hst a w hx hux (fun k hk => hu k ?_) ?_ K hK
    · rw [← wantedT_eq hT]; exact this
    · intro m om hom hdm
      have h2 := List.all_eq_true.1 hk _ (List.mem_of_getElem? (tab_get hT hom))
      simp only [hdm, bne_self_eq_false, Bool.false_or, List.contains_iff_mem] at h2
      obtain ⟨e, he, hei⟩ := List.mem_map.1 h2
      obtain ⟨he1, he2⟩ := List.mem_filter.1 he
      exact ⟨e, Array.mem_toList_iff.1 he1, he2, hei⟩
    · intro j hj
      simp only [List.getD_eq_getElem?_getD, hget, Option.getD_some] at hj
      obtain ⟨e, he, rfl⟩ := List.mem_map.1 hj
      obtain ⟨he1, he2⟩ := List.mem_filter.1 he
      have hlt := fine_after hf ho (Array.mem_toList_iff.1 he1) he2
      have hi' : i < ops.size := (Array.getElem?_eq_some_iff.1 ho).1
      have hoj : ops[e.on]? = some (ops[e.on]'(by omega)) := Array.getElem?_eq_getElem (by omega)
      obtain ⟨v, hv, hk⟩ := hd e.on _ hoj ⟨e, Array.mem_toList_iff.1 he1, he2, rfl⟩
      refine ⟨v, hv, fun k hkk => hk k ?_⟩
      unfold dstT at hkk
      simpa [List.getD_eq_getElem?_getD, tab_get hT hoj] using hkk
/-- The obligations of the first n operations. -/
theorem flowT_head {id : Nat} (n : Nat) (TAB : List (Option Nat × List Nat)) (T : Nat → Value → World → Prop) (hT : tableOf ops = TAB) (hm : P.follows .mixedOrders = true)
    (hk : (decide (n < ops.size) && fine ops && Region.sinkB .any ops n && Region.chainB .any ops n && Region.seqB .any ops (ops.size - n) n (headFlags n ops.size)) = true) (room : (TAB.all fun r => match r.1 with | some k => decide (k < a0.tmps.size) | none => true) = true)
    (hE : G w0 w0.drew) (hu0 : ∀ i, U i w0.drew) (trans : ∀ a b c, G a b → G b c → G a c) (eg : ∀ i a b, E i a b → G a b) (stay : ∀ i j v w w', i ≠ j → T i v w → E j w w' → T i v w') (ustay : ∀ i j w w', i ≠ j → U i w → E j w w' → U i w') (hstep : StepsT P TAB Q E G U T a0 w0 0 (ops.toList.take n))
    (hend : ∀ vs w, G w0 w → (∀ i, i < n → T i (vs i) w) → wpList P ops Q (ops.toList.drop n) (putsT 0 (TAB.take n) vs a0) w) : (Code.region id ops true).wp P Q a0 w0 := by
  simp only [Bool.and_eq_true, decide_eq_true_eq] at hk
  obtain ⟨⟨⟨⟨hn, hf⟩, hsi⟩, hch⟩, hsq⟩ := hk
  refine flow_head hm hn hf hsi hch hsq ?_ hE hu0 trans eg stay ustay (fun i o hin ho => ?_) (fun vs w hx ht => ?_)
  · refine List.all_eq_true.2 fun i hi => ?_
    have hi' := List.mem_range.1 hi
    have ho : ops[i]? = some ops[i] := Array.getElem?_eq_getElem hi'
    have h2 := List.all_eq_true.1 room _ (List.mem_of_getElem? (tab_get hT ho))
    rw [ho]; exact h2
  · intro a w hx hux hs hu hd K hK
    have ho' : (ops.toList.take n)[i]? = some o := by rw [List.getElem?_take_of_lt hin, Array.getElem?_toList]; exact ho
    have hst := stepsT_get _ 0 i o hstep ho'
    rw [Nat.zero_add] at hst
    have hget := tab_get hT ho
    have := hst a w hx hux (fun k hk => hu k ?_) ?_ K hK
    · rw [← wantedT_eq hT]; exact this
    · intro m om hom hdm
      have h2 := List.all_eq_true.1 hk _ (List.mem_of_getElem? (tab_get hT hom))
      simp only [hdm, bne_self_eq_false, Bool.false_or, List.contains_iff_mem] at h2
      obtain ⟨e, he, hei⟩ := List.mem_map.1 h2
      obtain ⟨he1, he2⟩ := List.mem_filter.1 he
      exact ⟨e, Array.mem_toList_iff.1 he1, he2, hei⟩
    · intro j hj
      simp only [List.getD_eq_getElem?_getD, hget, Option.getD_some] at hj
      obtain ⟨e, he, rfl⟩ := List.mem_map.1 hj
      obtain ⟨he1, he2⟩ := List.mem_filter.1 he
      have hlt := fine_after hf ho (Array.mem_toList_iff.1 he1) he2
      have hi' : i < ops.size := (Array.getElem?_eq_some_iff.1 ho).1
      have hoj : ops[e.on]? = some (ops[e.on]'(by omega)) := Array.getElem?_eq_getElem (by omega)
      obtain ⟨v, hv, hk⟩ := hd e.on _ hoj ⟨e, Array.mem_toList_iff.1 he1, he2, rfl⟩
      refine ⟨v, hv, fun k hkk => hk k ?_⟩
      unfold dstT at hkk
      simpa [List.getD_eq_getElem?_getD, tab_get hT hoj] using hkk
  · have h := hend vs w hx ht
    have e : ∀ (n m : Nat) (a : Act), m + n ≤ ops.size → behind ops vs (List.range' m n) a = putsT m ((TAB.drop m).take n) vs a := by
      intro n
      induction n with
      | zero => intro m a _; simp [behind, putsT]
      | succ n ih =>
        intro m a h
        have hm : m < ops.size := by omega
        have ho : ops[m]? = some ops[m] := Array.getElem?_eq_getElem hm
        have hg := tab_get hT ho
        have hl : m < TAB.length := (List.getElem?_eq_some_iff.1 hg).1
        have hd : TAB.drop m = (ops[m].dst, (ops[m].after.toList.filter (fun e => Region.binds .any e)).map (·.on)) :: TAB.drop (m + 1) := by
          rw [List.drop_eq_getElem_cons hl]
          congr 1
          exact (List.getElem?_eq_some_iff.1 hg).2
        rw [List.range'_succ, hd, List.take_succ_cons]
        unfold behind
        rw [ho]
        simp only []
        rw [ih (m + 1) _ (by omega)]
        rfl
    have := e n 0 a0 (by omega)
    rw [List.drop_zero] at this
    rw [List.range_eq_range', this]; exact h
end
/-- A relation but for blocks of S; what is new is free. -/
structure KB (S : Nat → Prop) (u v : World) : Prop where
  os : v.os = u.os
  tape : v.tape = u.tape
  output : v.output = u.output
  size : u.heap.size ≤ v.heap.size
  block : ∀ k, k < u.heap.size → ¬ S k → v.heap[k]? = u.heap[k]?
section
variable {S S2 : Nat → Prop} {u v w : World} {g B : Nat}
theorem KB.refl (S : Nat → Prop) (u : World) : KB S u u := ⟨rfl, rfl, rfl, Nat.le_refl _, fun _ _ _ => rfl⟩
theorem KB.drew : KB S u u.drew := ⟨rfl, rfl, rfl, Nat.le_refl _, fun _ _ _ => rfl⟩
theorem KB.of_below (h : Below u.heap.size u v) : KB S u v := ⟨h.os, h.tape, h.output, h.size, fun k hk _ => h.block k hk⟩
theorem KB.trans (h : KB S u v) (k : KB S v w) : KB S u w := ⟨k.os.trans h.os, k.tape.trans h.tape, k.output.trans h.output, Nat.le_trans h.size k.size, fun i hi hn => (k.block i (Nat.lt_of_lt_of_le hi h.size) hn).trans (h.block i hi hn)⟩
theorem KB.step (h : KB S u v) (k : Below v.heap.size v w) : KB S u w := h.trans (KB.of_below k)
theorem KB.mono (h : KB S u v) (hs : ∀ k, S k → S2 k) : KB S2 u v := ⟨h.os, h.tape, h.output, h.size, fun i hi hn => h.block i hi (fun q => hn (hs i q))⟩
/-- A call that writes to blocks that are new since, or in S. -/
theorem KB.call (h : KB S u v) (k : KB S2 v w) (hs : ∀ i, S2 i → S i ∨ u.heap.size ≤ i) : KB S u w :=
  ⟨k.os.trans h.os, k.tape.trans h.tape, k.output.trans h.output, Nat.le_trans h.size k.size, fun i hi hn => (k.block i (Nat.lt_of_lt_of_le hi h.size) (fun q => (hs i q).elim hn (fun q => by omega))).trans (h.block i hi hn)⟩
theorem KB.store (h : KB S u v) (hf : ∀ k, k ≠ g → w.heap[k]? = v.heap[k]?) (hb : Below 0 v w) (hg : S g ∨ u.heap.size ≤ g) : KB S u w :=
  h.call (S2 := fun k => k = g) ⟨hb.os, hb.tape, hb.output, hb.size, fun k _ hn => hf k hn⟩ (fun _ hi => hi ▸ hg)
theorem KB.grown (h : KB S u v) (k : v.grownBy w (some g)) (hg : S g ∨ u.heap.size ≤ g) : KB S u w :=
  h.call (S2 := fun k => k = g) ⟨k.os, k.tape, k.output, k.size, fun i hi hn => k.block i hi (fun e => hn (Option.some.inj e))⟩ (fun _ hi => hi ▸ hg)
theorem KB.below (h : KB S u v) (hB : B ≤ u.heap.size) (hS : ∀ k, S k → B ≤ k) : Below B u v := ⟨h.os, h.tape, h.output, h.size, fun k hk => h.block k (by omega) (fun q => by have := hS k q; omega)⟩
theorem KB.of (h : Below B u v) (hB : ∀ k, k < u.heap.size → ¬ S k → k < B) : KB S u v := ⟨h.os, h.tape, h.output, h.size, fun k hk hn => h.block k (hB k hk hn)⟩
theorem KB.blk {O : Obj} (h : KB S u v) (hg : u.heap[g]? = some O) (hn : ¬ S g) : v.heap[g]? = some O := (h.block g (Array.getElem?_eq_some_iff.1 hg).1 hn).trans hg
end
/-- Nothing has turned. -/
def Still (u v : World) : Prop := v.os = u.os ∧ v.tape = u.tape ∧ v.output = u.output ∧ v.heap = u.heap
theorem Still.refl (u : World) : Still u u := ⟨rfl, rfl, rfl, rfl⟩
theorem Still.below {B : Nat} {u v : World} (h : Still u v) : Below B u v := ⟨h.1, h.2.1, h.2.2.1, by rw [h.2.2.2]; exact Nat.le_refl _, fun k _ => by rw [h.2.2.2]⟩
/-- Operations that do more than read and make: each with its relation. -/
def opE (Df : World → World → Prop) (L : List (Nat × (World → World → Prop))) (i : Nat) (u v : World) : Prop := match L.lookup i with | some X => X u v | none => Df u v
def StayL (T : Nat → Value → World → Prop) (U : Nat → World → Prop) : List (Nat × (World → World → Prop)) → Prop
  | [] => True
  | (j, X) :: r => (∀ i v w w', i ≠ j → T i v w → X w w' → T i v w') ∧ (∀ i w w', i ≠ j → U i w → X w w' → U i w') ∧ StayL T U r
theorem stay_get {T : Nat → Value → World → Prop} {U : Nat → World → Prop} : ∀ {L : List (Nat × (World → World → Prop))} {j : Nat} {X : World → World → Prop}, StayL T U L → L.lookup j = some X → (∀ i v w w', i ≠ j → T i v w → X w w' → T i v w') ∧ (∀ i w w', i ≠ j → U i w → X w w' → U i w')
  | [], j, X, _, h => by cases h
  | (k, Y) :: r, j, X, hs, h => by
    rw [List.lookup_cons] at h
    by_cases hjk : j = k
    · subst hjk
      rw [beq_self_eq_true] at h
      cases h
      exact ⟨hs.1, hs.2.1⟩
    · rw [beq_eq_false_iff_ne.2 hjk] at h
      exact stay_get hs.2.2 h
def GL (G : World → World → Prop) : List (Nat × (World → World → Prop)) → Prop
  | [] => True
  | (_, X) :: r => (∀ u v, X u v → G u v) ∧ GL G r
theorem gl_get {G : World → World → Prop} : ∀ {L : List (Nat × (World → World → Prop))} {j : Nat} {X : World → World → Prop}, GL G L → L.lookup j = some X → ∀ u v, X u v → G u v
  | [], j, X, _, h => by cases h
  | (k, Y) :: r, j, X, hs, h => by
    rw [List.lookup_cons] at h
    by_cases hjk : j = k
    · subst hjk
      rw [beq_self_eq_true] at h
      cases h
      exact hs.1
    · rw [beq_eq_false_iff_ne.2 hjk] at h
      exact gl_get hs.2 h
section
variable {P : Program} {ops : Array Oper} {Q : Exit → Act → World → Prop} {a0 : Act} {w0 : World} {G : World → World → Prop} {U : Nat → World → Prop}
theorem flowS {id : Nat} (Df : World → World → Prop) (L : List (Nat × (World → World → Prop))) (TAB : List (Option Nat × List Nat)) (T : Nat → Value → World → Prop) (hT : tableOf ops = TAB) (hm : P.follows .mixedOrders = true) (hf : fine ops = true) (room : (TAB.all fun r => match r.1 with | some k => decide (k < a0.tmps.size) | none => true) = true)
    (hE : G w0 w0.drew) (hu0 : ∀ i, U i w0.drew) (trans : ∀ a b c, G a b → G b c → G a c) (gb : ∀ a b, Df a b → G a b) (gl : GL G L)
    (stayB : ∀ i v w w', T i v w → Df w w' → T i v w') (ustayB : ∀ i w w', U i w → Df w w' → U i w') (stayL : StayL T U L) (hstep : StepsT P TAB Q (opE Df L) G U T a0 w0 0 ops.toList)
    (hend : ∀ vs w, G w0 w → (∀ i, i < TAB.length → T i (vs i) w) → Q .normal (putsT 0 TAB vs a0) w) : (Code.region id ops true).wp P Q a0 w0 := by
  refine flowT TAB T hT hm hf room hE hu0 trans ?_ ?_ ?_ hstep hend
  · intro i a b h
    unfold opE at h
    split at h
    · next X hl => exact gl_get gl hl _ _ h
    · exact gb _ _ h
  · intro i j v w w' hn ht h
    unfold opE at h
    split at h
    · next X hl => exact (stay_get stayL hl).1 i v w w' hn ht h
    · exact stayB _ _ _ _ ht h
  · intro i j w w' hn ht h
    unfold opE at h
    split at h
    · next X hl => exact (stay_get stayL hl).2 i w w' hn ht h
    · exact ustayB _ _ _ ht h
theorem flowS_head {id : Nat} (n : Nat) (Df : World → World → Prop) (L : List (Nat × (World → World → Prop))) (TAB : List (Option Nat × List Nat)) (T : Nat → Value → World → Prop) (hT : tableOf ops = TAB) (hm : P.follows .mixedOrders = true)
    (hk : (decide (n < ops.size) && fine ops && Region.sinkB .any ops n && Region.chainB .any ops n && Region.seqB .any ops (ops.size - n) n (headFlags n ops.size)) = true) (room : (TAB.all fun r => match r.1 with | some k => decide (k < a0.tmps.size) | none => true) = true)
    (hE : G w0 w0.drew) (hu0 : ∀ i, U i w0.drew) (trans : ∀ a b c, G a b → G b c → G a c) (gb : ∀ a b, Df a b → G a b) (gl : GL G L)
    (stayB : ∀ i v w w', T i v w → Df w w' → T i v w') (ustayB : ∀ i w w', U i w → Df w w' → U i w') (stayL : StayL T U L) (hstep : StepsT P TAB Q (opE Df L) G U T a0 w0 0 (ops.toList.take n))
    (hend : ∀ vs w, G w0 w → (∀ i, i < n → T i (vs i) w) → wpList P ops Q (ops.toList.drop n) (putsT 0 (TAB.take n) vs a0) w) : (Code.region id ops true).wp P Q a0 w0 := by
  refine flowT_head n TAB T hT hm hk room hE hu0 trans ?_ ?_ ?_ hstep hend
  · intro i a b h
    unfold opE at h
    split at h
    · next X hl => exact gl_get gl hl _ _ h
    · exact gb _ _ h
  · intro i j v w w' hn ht h
    unfold opE at h
    split at h
    · next X hl => exact (stay_get stayL hl).1 i v w w' hn ht h
    · exact stayB _ _ _ _ ht h
  · intro i j w w' hn ht h
    unfold opE at h
    split at h
    · next X hl => exact (stay_get stayL hl).2 i w w' hn ht h
    · exact ustayB _ _ _ ht h
end
end Go.Proofs.Ytlhmpmmblnbmbaa.FlowU
