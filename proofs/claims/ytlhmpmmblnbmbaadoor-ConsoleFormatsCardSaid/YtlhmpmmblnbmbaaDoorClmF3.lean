/- Own work and lines of the print, as much as consoleFormats_holds needs: part 3. -/
import Derived.Test.YtlhmpmmblnbmbaaDoorClmF2
import Derived.Orders
import Derived.StillTail
import Derived.Below
import Derived.Deep.MidRow
namespace Go.Proofs.YtlhmpmmblnbmbaaDoor.Flow
open Go.RowKit
/-- Which operation writes a slot. -/
def writer (ops : Array Oper) (k : Nat) : Option Nat := (List.range ops.size).find? fun i => ((ops[i]?).bind (·.dst)) == some k
/-- Each slot has one writer; what an operation waits for stands ahead of it. -/
def fine (ops : Array Oper) : Bool := (List.range ops.size).all fun i => match ops[i]? with
  | some o => (match o.dst with | some k => writer ops k == some i | none => true) && o.after.all (fun e => !Region.binds .any e || decide (e.on < i))
  | none => false
section
variable {P : Program} {ops : Array Oper} {Q : Exit → Act → World → Prop} {a0 : Act} {w0 : World} {E : World → World → Prop} {T : Nat → Value → World → Prop} {TAB : List (Option Nat × List Nat)}
/-- What operation i must do, wherever it comes up. -/
def StepOk (P : Program) (ops : Array Oper) (Q : Exit → Act → World → Prop) (E : World → World → Prop) (T : Nat → Value → World → Prop) (a0 : Act) (w0 : World) (i : Nat) (o : Oper) : Prop :=
  ∀ (a : Act) (w : World), E w0 w → a.tmps.size = a0.tmps.size →
    (∀ k : Nat, (∀ (m : Nat) (om : Oper), ops[m]? = some om → om.dst = some k → ∃ e ∈ om.after, Region.binds .any e = true ∧ e.on = i) → a.tmps.getD k undef = a0.tmps.getD k undef) →
    (∀ j oj, ops[j]? = some oj → (∃ e ∈ o.after, Region.binds .any e = true ∧ e.on = j) → ∃ v, T j v w ∧ ∀ k : Nat, oj.dst = some k → a.tmps.getD k undef = v) →
    ∀ K : Act → World → Prop, (∀ v w', E w w' → T i v w' → K (a.put o.dst v) w') →
      if Region.wanted o (yielded ops a.tmps) = true then o.wp P a w K Q else K (a.put o.dst undef) w
def slotOf (ops : Array Oper) (listed : Array Bool) (vs : Nat → Value) (a0 : Act) (k : Nat) : Option Value :=
  match writer ops k with
  | some i => if listed.getD i false = true then some (vs i) else a0.tmps[k]?
  | none => a0.tmps[k]?
structure Inv (ops : Array Oper) (E : World → World → Prop) (T : Nat → Value → World → Prop) (a0 : Act) (w0 : World) (listed : Array Bool) (a : Act) (w : World) : Prop where
  size : listed.size = ops.size
  shut : ∀ i o, ops[i]? = some o → listed.getD i false = true → ∀ e ∈ o.after, Region.binds .any e = true → listed.getD e.on false = true
  ext : E w0 w
  defers : a.defers = a0.defers
  tsize : a.tmps.size = a0.tmps.size
  vals : ∃ vs : Nat → Value, (∀ i, listed.getD i false = true → T i (vs i) w) ∧ ∀ k, k < a0.tmps.size → a.tmps[k]? = slotOf ops listed vs a0 k
theorem writer_some {k i : Nat} (h : writer ops k = some i) : ∃ o, ops[i]? = some o ∧ o.dst = some k := by
  have := List.find?_some h
  cases ho : ops[i]? with
  | none => simp [ho] at this
  | some o => exact ⟨o, rfl, by simpa [ho] using this⟩
theorem fine_dst (hf : fine ops = true) {i : Nat} {o : Oper} {k : Nat} (ho : ops[i]? = some o) (hd : o.dst = some k) : writer ops k = some i := by
  have hi : i < ops.size := (Array.getElem?_eq_some_iff.1 ho).1
  have := List.all_eq_true.1 hf i (List.mem_range.2 hi)
  simp only [ho, hd, Bool.and_eq_true] at this
  simpa using this.1
theorem fine_after (hf : fine ops = true) {i : Nat} {o : Oper} (ho : ops[i]? = some o) {e : Edge} (he : e ∈ o.after) (hb : Region.binds .any e = true) : e.on < i := by
  have hi : i < ops.size := (Array.getElem?_eq_some_iff.1 ho).1
  have := List.all_eq_true.1 hf i (List.mem_range.2 hi)
  simp only [ho, Bool.and_eq_true] at this
  have h2 := Array.all_eq_true_iff_forall_mem.1 this.2 e he
  simpa [hb] using h2
theorem getD_set (l : Array Bool) (i j : Nat) (hi : i < l.size) : (l.setIfInBounds i true).getD j false = (if j = i then true else l.getD j false) := by
  simp only [Array.getD_eq_getD_getElem?, Array.getElem?_setIfInBounds]
  by_cases h : i = j
  · subst h; simp [hi]
  · simp [h, Ne.symm h]
theorem inv_step (hf : fine ops = true) (trans : ∀ a b c, E a b → E b c → E a c) (stay : ∀ i v w w', T i v w → E w w' → T i v w') {listed : Array Bool} {a : Act} {w : World} (hI : Inv ops E T a0 w0 listed a w)
    {i : Nat} {o : Oper} (ho : ops[i]? = some o) (hun : listed.getD i true = false) (hall : ∀ e ∈ o.after, Region.binds .any e = true → listed.getD e.on false = true) {v : Value} {w' : World} (hE : E w w') (hT : T i v w') :
    Inv ops E T a0 w0 (listed.setIfInBounds i true) (a.put o.dst v) w' := by
  obtain ⟨hs, hsh, hx, hd, ht, vs, hv, hk⟩ := hI
  have hi : i < ops.size := (Array.getElem?_eq_some_iff.1 ho).1
  have hil : i < listed.size := by omega
  have hun' : listed.getD i false = false := by
    simp only [Array.getD_eq_getD_getElem?, Array.getElem?_eq_getElem hil, Option.getD_some] at hun ⊢; exact hun
  refine ⟨by simpa using hs, ?_, trans _ _ _ hx hE, ?_, ?_, fun j => if j = i then v else vs j, ?_, ?_⟩
  · intro j oj hj hl e he hb
    rw [getD_set _ _ _ hil] at hl ⊢
    by_cases hji : j = i
    · subst hji
      rw [ho] at hj; cases hj
      split
      · rfl
      · exact hall e he hb
    · rw [if_neg hji] at hl
      split
      · rfl
      · exact hsh j oj hj hl e he hb
  · cases o.dst <;> simp [Act.put, hd]
  · cases o.dst <;> simp [Act.put, ht]
  · intro j hj
    rw [getD_set _ _ _ hil] at hj
    by_cases hji : j = i
    · subst hji
      show T j (if j = j then v else vs j) w'
      rw [if_pos rfl]; exact hT
    · rw [if_neg hji] at hj
      show T j (if j = i then v else vs j) w'
      rw [if_neg hji]
      exact stay _ _ _ _ (hv j hj) hE
  · intro k hkk
    have old := hk k hkk
    cases hdst : o.dst with
    | none =>
      simp only [Act.put]
      rw [old]
      unfold slotOf
      cases hw : writer ops k with
      | none => rfl
      | some m =>
        have hmi : m ≠ i := by
          rintro rfl
          obtain ⟨o', ho', hd'⟩ := writer_some hw
          rw [ho] at ho'; cases ho'
          rw [hdst] at hd'; cases hd'
        simp only [getD_set _ _ _ hil, if_neg hmi]
    | some d =>
      have hwd := fine_dst hf ho hdst
      simp only [Act.put, Array.getElem?_setIfInBounds]
      by_cases hdk : d = k
      · subst hdk
        rw [if_pos rfl, if_pos (by omega)]
        unfold slotOf
        rw [hwd]
        simp only [getD_set _ _ _ hil, if_true]
      · rw [if_neg hdk, old]
        unfold slotOf
        cases hw : writer ops k with
        | none => rfl
        | some m =>
          have hmi : m ≠ i := by
            rintro rfl
            obtain ⟨o', ho', hd'⟩ := writer_some hw
            rw [ho] at ho'; cases ho'
            rw [hdst] at hd'; cases hd'
            exact hdk rfl
          simp only [getD_set _ _ _ hil, if_neg hmi]
/-- The frame behind the region. -/
def behind (ops : Array Oper) (vs : Nat → Value) : List Nat → Act → Act
  | [], a => a
  | i :: r, a => behind ops vs r (match ops[i]? with | some o => a.put o.dst (vs i) | none => a)
theorem behind_defers (vs : Nat → Value) : ∀ (l : List Nat) (a : Act), (behind ops vs l a).defers = a.defers
  | [], _ => rfl
  | i :: r, a => by
    unfold behind
    rw [behind_defers vs r]
    cases ops[i]? with
    | none => rfl
    | some o => cases h : o.dst <;> simp [Act.put, h]
theorem behind_size (vs : Nat → Value) : ∀ (l : List Nat) (a : Act), (behind ops vs l a).tmps.size = a.tmps.size
  | [], _ => rfl
  | i :: r, a => by
    unfold behind
    rw [behind_size vs r]
    cases ops[i]? with
    | none => rfl
    | some o => cases h : o.dst <;> simp [Act.put, h]
theorem behind_slot (hf : fine ops = true) (vs : Nat → Value) : ∀ (l : List Nat) (a : Act) (k : Nat), k < a.tmps.size →
    (behind ops vs l a).tmps[k]? = (match writer ops k with | some i => if i ∈ l then some (vs i) else a.tmps[k]? | none => a.tmps[k]?)
  | [], a, k, _ => by
    unfold behind
    cases writer ops k <;> simp
  | i :: r, a, k, hk => by
    unfold behind
    cases ho : ops[i]? with
    | none =>
      simp only []
      rw [behind_slot hf vs r a k hk]
      cases hw : writer ops k with
      | none => rfl
      | some m =>
        have hmi : m ≠ i := by
          rintro rfl
          obtain ⟨o', ho', _⟩ := writer_some hw
          rw [ho] at ho'; cases ho'
        simp [hmi]
    | some o =>
      simp only []
      have hsz : (a.put o.dst (vs i)).tmps.size = a.tmps.size := by cases o.dst <;> simp [Act.put]
      rw [behind_slot hf vs r _ k (by omega)]
      cases hw : writer ops k with
      | none =>
        cases hdst : o.dst with
        | none => rfl
        | some d =>
          have := fine_dst hf ho hdst
          have hdk : d ≠ k := by rintro rfl; rw [hw] at this; cases this
          simp [Act.put, hdk]
      | some m =>
        by_cases hmi : m = i
        · subst hmi
          obtain ⟨o', ho', hd'⟩ := writer_some hw
          rw [ho] at ho'; cases ho'
          simp only [List.mem_cons, true_or, if_true]
          split
          · rfl
          · simp [Act.put, hd', hk]
        · simp only [List.mem_cons, hmi, false_or]
          split
          · rfl
          · cases hdst : o.dst with
            | none => rfl
            | some d =>
              have := fine_dst hf ho hdst
              have hdk : d ≠ k := by rintro rfl; rw [hw] at this; cases this; exact hmi rfl
              simp [Act.put, hdk]
theorem inv_any (hf : fine ops = true) (room : ∀ (i : Nat) (o : Oper) (k : Nat), ops[i]? = some o → o.dst = some k → k < a0.tmps.size) (trans : ∀ a b c, E a b → E b c → E a c) (stay : ∀ i v w w', T i v w → E w w' → T i v w') (hstep : ∀ i o, ops[i]? = some o → StepOk P ops Q E T a0 w0 i o)
    (hend : ∀ vs w, E w0 w → (∀ i, i < ops.size → T i (vs i) w) → Q .normal (behind ops vs (List.range ops.size) a0) w) :
    ∀ (fuel : Nat) (listed : Array Bool) (a : Act) (w : World), ((List.range ops.size).filter fun i => !listed.getD i false).length ≤ fuel → Inv ops E T a0 w0 listed a w → wpAny P .any ops Q fuel listed a w := by
  have none_left : ∀ (listed : Array Bool) (a : Act) (w : World), Inv ops E T a0 w0 listed a w → Region.ready .any ops listed = [] → ∀ i, i < ops.size → listed.getD i false = true := by
    intro listed a w hI hr i
    induction i using Nat.strongRecOn with
    | ind i ih =>
      intro hi
      have hil : i < listed.size := by have := hI.size; omega
      cases hl : listed.getD i false with
      | true => rfl
      | false =>
        exfalso
        have hmem : i ∈ Region.ready .any ops listed := mem_ready.2 ⟨by
          simp only [Array.getD_eq_getD_getElem?, Array.getElem?_eq_getElem hil, Option.getD_some] at hl ⊢; exact hl, ops[i], Array.getElem?_eq_getElem hi, fun e he hb =>
            ih e.on (fine_after hf (Array.getElem?_eq_getElem hi) he hb) (by have := fine_after hf (Array.getElem?_eq_getElem hi) he hb; omega)⟩
        rw [hr] at hmem; cases hmem
  have at_end : ∀ (listed : Array Bool) (a : Act) (w : World), Inv ops E T a0 w0 listed a w → Region.ready .any ops listed = [] → Q .normal a w := by
    intro listed a w hI hr
    have hall := none_left listed a w hI hr
    obtain ⟨hs, hsh, hx, hd, ht, vs, hv, hk⟩ := hI
    have h := hend vs w hx (fun i hi => hv i (hall i hi))
    have e : behind ops vs (List.range ops.size) a0 = a := by
      have e1 : (behind ops vs (List.range ops.size) a0).tmps = a.tmps := by
        apply Array.ext_getElem?
        intro k
        by_cases hkk : k < a0.tmps.size
        · rw [behind_slot hf vs _ a0 k hkk, hk k hkk]
          unfold slotOf
          cases hw : writer ops k with
          | none => rfl
          | some m =>
            obtain ⟨o', ho', _⟩ := writer_some hw
            have hm : m < ops.size := (Array.getElem?_eq_some_iff.1 ho').1
            simp [hm, hall m hm]
        · rw [Array.getElem?_eq_none (by rw [behind_size]; omega), Array.getElem?_eq_none (by omega)]
      have e2 := behind_defers (ops := ops) vs (List.range ops.size) a0
      cases a with
      | mk t d =>
        cases hb : behind ops vs (List.range ops.size) a0 with
        | mk t' d' =>
          rw [hb] at e1 e2
          simp only at e1 e2 hd
          rw [e1, e2, ← hd]
    rw [e] at h; exact h
  intro fuel
  induction fuel with
  | zero =>
    intro listed a w hc hI
    have hr : Region.ready .any ops listed = [] := by
      rw [List.eq_nil_iff_forall_not_mem]
      intro i hi
      obtain ⟨hl, o, ho, _⟩ := mem_ready.1 hi
      have hi' : i < ops.size := (Array.getElem?_eq_some_iff.1 ho).1
      have hil : i < listed.size := by have := hI.size; omega
      have : i ∈ (List.range ops.size).filter fun i => !listed.getD i false := List.mem_filter.2 ⟨List.mem_range.2 hi', by
        simp only [Array.getD_eq_getD_getElem?, Array.getElem?_eq_getElem hil, Option.getD_some] at hl ⊢; simp [hl]⟩
      have h0 : ((List.range ops.size).filter fun i => !listed.getD i false) = [] := List.length_eq_zero_iff.1 (by omega)
      rw [h0] at this
      cases this
    exact ⟨hr, at_end listed a w hI hr⟩
  | succ fuel ih =>
    intro listed a w hc hI
    refine ⟨at_end listed a w hI, fun i hi => ?_⟩
    obtain ⟨hl, o, ho, hall⟩ := mem_ready.1 hi
    have hi' : i < ops.size := (Array.getElem?_eq_some_iff.1 ho).1
    have hil : i < listed.size := by have := hI.size; omega
    have hK : ∀ v w', E w w' → T i v w' → wpAny P .any ops Q fuel (listed.setIfInBounds i true) (a.put o.dst v) w' := fun v w' hE hT => by
      refine ih _ _ _ ?_ (inv_step hf trans stay hI ho hl hall hE hT)
      have hlt : ((List.range ops.size).filter fun j => !(listed.setIfInBounds i true).getD j false).length < ((List.range ops.size).filter fun j => !listed.getD j false).length := by
        have hsub : ((List.range ops.size).filter fun j => !(listed.setIfInBounds i true).getD j false) = (((List.range ops.size).filter fun j => !listed.getD j false).filter fun j => decide (j ≠ i)) := by
          rw [List.filter_filter]
          apply List.filter_congr
          intro j _
          rw [getD_set _ _ _ hil]
          by_cases hji : j = i <;> simp [hji]
        rw [hsub]
        have hm : i ∈ (List.range ops.size).filter fun j => !listed.getD j false := List.mem_filter.2 ⟨List.mem_range.2 hi', by
          simp only [Array.getD_eq_getD_getElem?, Array.getElem?_eq_getElem hil, Option.getD_some] at hl ⊢; simp [hl]⟩
        exact List.length_filter_lt_length_iff_exists.2 ⟨i, hm, by simp⟩
      omega
    have hdep : ∀ j oj, ops[j]? = some oj → (∃ e ∈ o.after, Region.binds .any e = true ∧ e.on = j) → ∃ v, T j v w ∧ ∀ k : Nat, oj.dst = some k → a.tmps.getD k undef = v := by
      rintro j oj hj ⟨e, he, hb, rfl⟩
      obtain ⟨hs, hsh, hx, hd, ht, vs, hv, hk⟩ := hI
      have hlj := hall e he hb
      refine ⟨vs e.on, hv _ hlj, fun k hdk => ?_⟩
      have hw := fine_dst hf hj hdk
      have hkk := room _ _ _ hj hdk
      rw [Array.getD_eq_getD_getElem?, hk k hkk]
      unfold slotOf
      rw [hw]; simp [hlj]
    have := hstep i o ho a w hI.ext hI.tsize (by
      intro k hw
      obtain ⟨hs, hsh, hx, hd, ht, vs, hv, hk⟩ := hI
      by_cases hkk : k < a0.tmps.size
      · rw [Array.getD_eq_getD_getElem?, Array.getD_eq_getD_getElem?, hk k hkk]
        unfold slotOf
        cases hwr : writer ops k with
        | none => rfl
        | some m =>
          obtain ⟨om, hom, hdm⟩ := writer_some hwr
          simp only []
          rw [if_neg]
          intro hlm
          obtain ⟨e, he, hb, hei⟩ := hw m om hom hdm
          have hli := hsh m om hom hlm e he hb
          rw [hei] at hli
          simp only [Array.getD_eq_getD_getElem?, Array.getElem?_eq_getElem hil, Option.getD_some] at hl hli
          rw [hl] at hli; cases hli
      · rw [Array.getD_eq_getD_getElem?, Array.getD_eq_getD_getElem?, Array.getElem?_eq_none (xs := a.tmps) (by omega), Array.getElem?_eq_none (xs := a0.tmps) (by omega)]) hdep _ hK
    unfold wpOp
    rw [ho]
    simp only []
    split
    · next hw => rw [if_pos hw] at this; exact .inl this
    · next hw => rw [if_neg hw] at this; exact this
theorem flag_ext {a b : Array Bool} (hs : a.size = b.size) (h : ∀ i, i < a.size → a.getD i false = b.getD i false) : a = b := by
  apply Array.ext hs
  intro i h1 h2
  have := h i h1
  simpa [Array.getD_eq_getD_getElem?, Array.getElem?_eq_getElem h1, Array.getElem?_eq_getElem h2] using this
def headFlags (n m : Nat) : Array Bool := (List.replicate n true ++ List.replicate (m - n) false).toArray
theorem headFlags_size {n m : Nat} (h : n ≤ m) : (headFlags n m).size = m := by simp [headFlags]; omega
theorem headFlags_get {n m i : Nat} : (headFlags n m).getD i false = decide (i < n) := by
  unfold headFlags
  simp only [Array.getD_eq_getD_getElem?, List.getElem?_toArray]
  by_cases h : i < n
  · rw [List.getElem?_append_left (by simpa using h)]; simp [h]
  · rw [List.getElem?_append_right (by simpa using h), List.getElem?_replicate]
    split <;> simp [h]
theorem inv_head {n : Nat} (hn : n < ops.size) (hf : fine ops = true) (hsi : Region.sinkB .any ops n = true) (hch : Region.chainB .any ops n = true) (hsq : Region.seqB .any ops (ops.size - n) n (headFlags n ops.size) = true)
    (room : ∀ (i : Nat) (o : Oper) (k : Nat), ops[i]? = some o → o.dst = some k → k < a0.tmps.size) (trans : ∀ a b c, E a b → E b c → E a c) (stay : ∀ i v w w', T i v w → E w w' → T i v w') (hstep : ∀ i o, i < n → ops[i]? = some o → StepOk P ops Q E T a0 w0 i o)
    (hend : ∀ vs w, E w0 w → (∀ i, i < n → T i (vs i) w) → wpList P ops Q (ops.toList.drop n) (behind ops vs (List.range n) a0) w) :
    ∀ (fuel : Nat) (listed : Array Bool) (a : Act) (w : World), ((List.range n).filter fun i => !listed.getD i false).length = fuel → (∀ t, n ≤ t → t < ops.size → listed.getD t true = false) → Inv ops E T a0 w0 listed a w → wpAny P .any ops Q (fuel + (ops.size - n)) listed a w := by
  intro fuel
  induction fuel with
  | zero =>
    intro listed a w hcnt htl hI
    have hall : ∀ i, i < n → listed.getD i false = true := by
      intro i hi
      cases hl : listed.getD i false with
      | true => rfl
      | false =>
        have : i ∈ (List.range n).filter fun i => !listed.getD i false := List.mem_filter.2 ⟨List.mem_range.2 hi, by simp [hl]⟩
        rw [List.length_eq_zero_iff.1 hcnt] at this; cases this
    have hle : listed = headFlags n ops.size := by
      refine flag_ext (by rw [hI.size, headFlags_size (by omega)]) fun i hi => ?_
      rw [headFlags_get]
      by_cases h : i < n
      · rw [hall i h]; simp [h]
      · have := getD_both (htl i (by omega) (by have := hI.size; omega))
        rw [this]; simp [h]
    obtain ⟨hs, hsh, hx, hd, ht, vs, hv, hk⟩ := hI
    have h := hend vs w hx (fun i hi => hv i (hall i hi))
    have e : behind ops vs (List.range n) a0 = a := by
      have e1 : (behind ops vs (List.range n) a0).tmps = a.tmps := by
        apply Array.ext_getElem?
        intro k
        by_cases hkk : k < a0.tmps.size
        · rw [behind_slot hf vs _ a0 k hkk, hk k hkk]
          unfold slotOf
          cases hw : writer ops k with
          | none => rfl
          | some m =>
            by_cases hm : m < n
            · simp [hm, hall m hm]
            · obtain ⟨o', ho', _⟩ := writer_some hw
              have hm' : m < ops.size := (Array.getElem?_eq_some_iff.1 ho').1
              have := getD_both (htl m (by omega) hm')
              simp [hm, this]
        · rw [Array.getElem?_eq_none (by rw [behind_size]; omega), Array.getElem?_eq_none (by omega)]
      have e2 := behind_defers (ops := ops) vs (List.range n) a0
      cases a with
      | mk t d =>
        cases hb : behind ops vs (List.range n) a0 with
        | mk t' d' =>
          rw [hb] at e1 e2
          simp only at e1 e2 hd
          rw [e1, e2, ← hd]
    rw [e] at h
    have hlen : (ops.toList.drop n).length = ops.size - n := by simp
    rw [Nat.zero_add, ← hlen]
    exact wpAny_of_seq _ n listed a w (fun j => by simp [List.getElem?_drop]) (by rw [hlen, hle]; exact hsq) h
  | succ fuel ih =>
    intro listed a w hcnt htl hI
    have hHI : HeadInv .any ops n listed := ⟨hI.size, hI.shut, htl⟩
    have hex : ∃ i, i < n ∧ listed.getD i true = false := by
      obtain ⟨i, hi⟩ : ∃ i, i ∈ (List.range n).filter fun i => !listed.getD i false := List.exists_mem_of_length_pos (by omega)
      obtain ⟨h1, h2⟩ := List.mem_filter.1 hi
      refine ⟨i, List.mem_range.1 h1, getD_in (by have := hI.size; have := List.mem_range.1 h1; omega) (by simpa using h2)⟩
    obtain ⟨i0, hi0, hu0⟩ := hex
    have hwait := tail_waits hsi hch hn hHI _ i0 rfl hi0 hu0
    rw [show fuel + 1 + (ops.size - n) = (fuel + (ops.size - n)) + 1 by omega]
    refine ⟨fun hr => ?_, fun i hi => ?_⟩
    · exfalso
      have all : ∀ i, i < n → listed.getD i false = true := by
        intro i
        induction i using Nat.strongRecOn with
        | ind i ih2 =>
          intro hi
          have hil : i < listed.size := by have := hI.size; omega
          cases hl : listed.getD i false with
          | true => rfl
          | false =>
            exfalso
            have hio : i < ops.size := by omega
            have hmem : i ∈ Region.ready .any ops listed := mem_ready.2 ⟨getD_in hil hl, ops[i], Array.getElem?_eq_getElem hio, fun e he hb =>
              ih2 e.on (fine_after hf (Array.getElem?_eq_getElem hio) he hb) (by have := fine_after hf (Array.getElem?_eq_getElem hio) he hb; omega)⟩
            rw [hr] at hmem; cases hmem
      have := all i0 hi0
      rw [getD_both hu0] at this
      cases this
    have hin : i < n := by
      by_cases h : i < n
      · exact h
      · exact absurd hi (hwait i (by omega))
    obtain ⟨hl, o, ho, hall⟩ := mem_ready.1 hi
    have hi' : i < ops.size := (Array.getElem?_eq_some_iff.1 ho).1
    have hil : i < listed.size := by have := hI.size; omega
    have hK : ∀ v w', E w w' → T i v w' → wpAny P .any ops Q (fuel + (ops.size - n)) (listed.setIfInBounds i true) (a.put o.dst v) w' := fun v w' hE hT => by
      refine ih _ _ _ ?_ ?_ (inv_step hf trans stay hI ho hl hall hE hT)
      · have hsub : ((List.range n).filter fun j => !(listed.setIfInBounds i true).getD j false) = (((List.range n).filter fun j => !listed.getD j false).filter fun j => decide (j ≠ i)) := by
          rw [List.filter_filter]
          apply List.filter_congr
          intro j _
          rw [getD_set _ _ _ hil]
          by_cases hji : j = i <;> simp [hji]
        rw [hsub]
        have hnd : ((List.range n).filter fun j => !listed.getD j false).Nodup := List.Pairwise.filter _ List.nodup_range
        have hm : i ∈ (List.range n).filter fun j => !listed.getD j false := List.mem_filter.2 ⟨List.mem_range.2 hin, by simp [getD_both hl]⟩
        have := List.Nodup.erase_eq_filter hnd i
        have hl2 := List.length_erase_of_mem hm
        rw [this] at hl2
        have hc2 : ∀ l : List Nat, (l.filter fun j => decide (j ≠ i)) = l.filter (· != i) := fun l => List.filter_congr fun j _ => by by_cases h : j = i <;> simp [h]
        rw [hc2, hl2]; omega
      · intro t h1 h2
        rw [getD_set_ne true (by omega)]
        exact htl t h1 h2
    have hdep : ∀ j oj, ops[j]? = some oj → (∃ e ∈ o.after, Region.binds .any e = true ∧ e.on = j) → ∃ v, T j v w ∧ ∀ k : Nat, oj.dst = some k → a.tmps.getD k undef = v := by
      rintro j oj hj ⟨e, he, hb, rfl⟩
      obtain ⟨hs, hsh, hx, hd, ht, vs, hv, hk⟩ := hI
      have hlj := hall e he hb
      refine ⟨vs e.on, hv _ hlj, fun k hdk => ?_⟩
      have hw := fine_dst hf hj hdk
      have hkk := room _ _ _ hj hdk
      rw [Array.getD_eq_getD_getElem?, hk k hkk]
      unfold slotOf
      rw [hw]; simp [hlj]
    have := hstep i o hin ho a w hI.ext hI.tsize (by
      intro k hw
      obtain ⟨hs, hsh, hx, hd, ht, vs, hv, hk⟩ := hI
      by_cases hkk : k < a0.tmps.size
      · rw [Array.getD_eq_getD_getElem?, Array.getD_eq_getD_getElem?, hk k hkk]
        unfold slotOf
        cases hwr : writer ops k with
        | none => rfl
        | some m =>
          obtain ⟨om, hom, hdm⟩ := writer_some hwr
          simp only []
          rw [if_neg]
          intro hlm
          obtain ⟨e, he, hb, hei⟩ := hw m om hom hdm
          have hli := hsh m om hom hlm e he hb
          rw [hei] at hli
          simp only [Array.getD_eq_getD_getElem?, Array.getElem?_eq_getElem hil, Option.getD_some] at hl hli
          rw [hl] at hli; cases hli
      · rw [Array.getD_eq_getD_getElem?, Array.getD_eq_getD_getElem?, Array.getElem?_eq_none (xs := a.tmps) (by omega), Array.getElem?_eq_none (xs := a0.tmps) (by omega)]) hdep _ hK
    unfold wpOp
    rw [ho]
    simp only []
    split
    · next hw => rw [if_pos hw] at this; exact .inl this
    · next hw => rw [if_neg hw] at this; exact this
/-- The region, whatever order it draws. -/
theorem flow {id : Nat} (hm : P.follows .mixedOrders = true) (hf : fine ops = true) (room : ((List.range ops.size).all fun i => match (ops[i]?).bind (·.dst) with | some k => decide (k < a0.tmps.size) | none => true) = true)
    (hE : E w0 w0.drew) (trans : ∀ a b c, E a b → E b c → E a c) (stay : ∀ i v w w', T i v w → E w w' → T i v w') (hstep : ∀ i o, ops[i]? = some o → StepOk P ops Q E T a0 w0 i o)
    (hend : ∀ vs w, E w0 w → (∀ i, i < ops.size → T i (vs i) w) → Q .normal (behind ops vs (List.range ops.size) a0) w) : (Code.region id ops true).wp P Q a0 w0 := by
  refine wp_region_any hm (inv_any hf ?_ trans stay hstep hend _ _ _ _ ?_ ⟨by simp, ?_, hE, rfl, rfl, fun _ => undef, ?_, ?_⟩)
  · intro i o k ho hd
    have := List.all_eq_true.1 room i (List.mem_range.2 (Array.getElem?_eq_some_iff.1 ho).1)
    simpa [ho, hd] using this
  · exact Nat.le_trans (List.length_filter_le _ _) (by simp)
  · intro i o ho hl
    simp [Array.getD_eq_getD_getElem?, Array.getElem?_replicate] at hl
    split at hl <;> simp at hl
  · intro i hl
    simp [Array.getD_eq_getD_getElem?, Array.getElem?_replicate] at hl
    split at hl <;> simp at hl
  · intro k hk
    unfold slotOf
    split
    · rw [if_neg]
      simp [Array.getD_eq_getD_getElem?, Array.getElem?_replicate]
      split <;> simp
    · rfl
/-- The region, its head in whatever order it draws, its tail in line. -/
theorem flow_head {id n : Nat} (hm : P.follows .mixedOrders = true) (hn : n < ops.size) (hf : fine ops = true) (hsi : Region.sinkB .any ops n = true) (hch : Region.chainB .any ops n = true) (hsq : Region.seqB .any ops (ops.size - n) n (headFlags n ops.size) = true)
    (room : ((List.range ops.size).all fun i => match (ops[i]?).bind (·.dst) with | some k => decide (k < a0.tmps.size) | none => true) = true)
    (hE : E w0 w0.drew) (trans : ∀ a b c, E a b → E b c → E a c) (stay : ∀ i v w w', T i v w → E w w' → T i v w') (hstep : ∀ i o, i < n → ops[i]? = some o → StepOk P ops Q E T a0 w0 i o)
    (hend : ∀ vs w, E w0 w → (∀ i, i < n → T i (vs i) w) → wpList P ops Q (ops.toList.drop n) (behind ops vs (List.range n) a0) w) : (Code.region id ops true).wp P Q a0 w0 := by
  have hcnt : ((List.range n).filter fun i => !(Array.replicate ops.size false).getD i false).length = n := by
    rw [List.filter_eq_self.2 (fun i _ => by rw [getD_replicate_false]; rfl)]; simp
  have hsz : ops.size = n + (ops.size - n) := by omega
  refine wp_region_any hm ?_
  have := inv_head (Q := Q) hn hf hsi hch hsq ?_ trans stay hstep hend n (Array.replicate ops.size false) a0 { w0 with drawn := w0.drawn + 1 } hcnt ?_ ⟨by simp, ?_, hE, rfl, rfl, fun _ => undef, ?_, ?_⟩
  · rw [← hsz] at this; exact this
  · intro i o k ho hd
    have := List.all_eq_true.1 room i (List.mem_range.2 (Array.getElem?_eq_some_iff.1 ho).1)
    simpa [ho, hd] using this
  · intro t _ h2
    exact getD_in (by simpa using h2) (getD_replicate_false _ _)
  · intro i o ho hl
    rw [getD_replicate_false] at hl; cases hl
  · intro i hl
    rw [getD_replicate_false] at hl; cases hl
  · intro k hk
    unfold slotOf
    split
    · rw [getD_replicate_false]; simp
    · rfl
/-- The region's table: what each operation writes, what it waits for. -/
def tableOf (ops : Array Oper) : List (Option Nat × List Nat) := ops.toList.map fun o => (o.dst, (o.after.toList.filter (fun e => Region.binds .any e)).map (·.on))
def dstT (TAB : List (Option Nat × List Nat)) (j : Nat) : Option Nat := (TAB.getD j (none, [])).1
/-- Whatever writes slot k waits for operation i. -/
def freeT (TAB : List (Option Nat × List Nat)) (i k : Nat) : Bool := TAB.all fun r => r.1 != some k || r.2.contains i
/-- May the operation be carried out? -/
def wantedT (TAB : List (Option Nat × List Nat)) (g : Option (Nat × Bool)) (tmps : Array Value) : Bool := match g with
  | none => true
  | some (j, b) => match dstT TAB j with
    | some k => (match tmps.getD k undef with | .bool c => c == b | _ => false)
    | none => false
def StepT (P : Program) (TAB : List (Option Nat × List Nat)) (Q : Exit → Act → World → Prop) (E : World → World → Prop) (T : Nat → Value → World → Prop) (a0 : Act) (w0 : World) (i : Nat) (o : Oper) (needs : List Nat) : Prop :=
  ∀ (a : Act) (w : World), E w0 w → (∀ k : Nat, freeT TAB i k = true → a.tmps.getD k undef = a0.tmps.getD k undef) →
    (∀ j ∈ needs, ∃ v, T j v w ∧ ∀ k : Nat, dstT TAB j = some k → a.tmps.getD k undef = v) →
    ∀ K : Act → World → Prop, (∀ v w', E w w' → T i v w' → K (a.put o.dst v) w') →
      if wantedT TAB o.guard a.tmps = true then o.wp P a w K Q else K (a.put o.dst undef) w
def StepsT (P : Program) (TAB : List (Option Nat × List Nat)) (Q : Exit → Act → World → Prop) (E : World → World → Prop) (T : Nat → Value → World → Prop) (a0 : Act) (w0 : World) : Nat → List Oper → Prop
  | _, [] => True
  | i, o :: r => StepT P TAB Q E T a0 w0 i o (TAB.getD i (none, [])).2 ∧ StepsT P TAB Q E T a0 w0 (i + 1) r
theorem stepsT_get : ∀ (l : List Oper) (n i : Nat) (o : Oper), StepsT P TAB Q E T a0 w0 n l → l[i]? = some o → StepT P TAB Q E T a0 w0 (n + i) o (TAB.getD (n + i) (none, [])).2
  | [], _, _, _, _, h => by simp at h
  | o :: r, n, 0, o', hs, h => by
    simp only [List.getElem?_cons_zero, Option.some.injEq] at h
    subst h; exact hs.1
  | o :: r, n, i + 1, o', hs, h => by
    simp only [List.getElem?_cons_succ] at h
    have := stepsT_get r (n + 1) i o' hs.2 h
    rw [show n + (i + 1) = n + 1 + i by omega]; exact this
theorem tab_get {i : Nat} {o : Oper} (hT : tableOf ops = TAB) (ho : ops[i]? = some o) : TAB[i]? = some (o.dst, (o.after.toList.filter (fun e => Region.binds .any e)).map (·.on)) := by
  rw [← hT]; unfold tableOf
  rw [List.getElem?_map, Array.getElem?_toList, ho]; rfl
theorem wantedT_eq (hT : tableOf ops = TAB) (o : Oper) (tmps : Array Value) : wantedT TAB o.guard tmps = Region.wanted o (yielded ops tmps) := by
  unfold wantedT Region.wanted
  cases hg : o.guard with
  | none => rfl
  | some g =>
    obtain ⟨j, b⟩ := g
    simp only []
    unfold yielded dstT
    cases hj : ops[j]? with
    | none =>
      have : TAB[j]? = none := by
        rw [← hT]; unfold tableOf
        rw [List.getElem?_map, Array.getElem?_toList, hj]; rfl
      simp [List.getD_eq_getElem?_getD, this]
    | some oj =>
      have := tab_get hT hj
      simp only [List.getD_eq_getElem?_getD, this, Option.getD_some]
      cases hk : oj.dst with
      | none => simp [hk]
      | some k =>
        simp only [Option.bind_some, hk, Array.getD_eq_getD_getElem?]
        cases hv : tmps[k]? with
        | none => rfl
        | some v => cases v <;> simp
/-- The frame behind the region, by its table. -/
def putsT : Nat → List (Option Nat × List Nat) → (Nat → Value) → Act → Act
  | _, [], _, a => a
  | i, r :: l, vs, a => putsT (i + 1) l vs (a.put r.1 (vs i))
theorem puts_behind (hT : tableOf ops = TAB) (vs : Nat → Value) : ∀ (n m : Nat) (a : Act), m + n = ops.size → behind ops vs (List.range' m n) a = putsT m (TAB.drop m) vs a
  | 0, m, a, h => by
    have : TAB.drop m = [] := by
      rw [List.drop_eq_nil_iff, ← hT]; simp [tableOf]; omega
    rw [this]; rfl
  | n + 1, m, a, h => by
    have hm : m < ops.size := by omega
    have ho : ops[m]? = some ops[m] := Array.getElem?_eq_getElem hm
    have hg := tab_get hT ho
    have hl : m < TAB.length := (List.getElem?_eq_some_iff.1 hg).1
    have hd : TAB.drop m = (ops[m].dst, (ops[m].after.toList.filter (fun e => Region.binds .any e)).map (·.on)) :: TAB.drop (m + 1) := by
      rw [List.drop_eq_getElem_cons hl]
      congr 1
      exact (List.getElem?_eq_some_iff.1 hg).2
    rw [List.range'_succ, hd]
    unfold behind
    rw [ho]
    simp only []
    rw [puts_behind hT vs n (m + 1) _ (by omega)]
    rfl
/-- The region by its table. -/
theorem flowT {id : Nat} (TAB : List (Option Nat × List Nat)) (T : Nat → Value → World → Prop) (hT : tableOf ops = TAB) (hm : P.follows .mixedOrders = true) (hf : fine ops = true) (room : (TAB.all fun r => match r.1 with | some k => decide (k < a0.tmps.size) | none => true) = true)
    (hE : E w0 w0.drew) (trans : ∀ a b c, E a b → E b c → E a c) (stay : ∀ i v w w', T i v w → E w w' → T i v w') (hstep : StepsT P TAB Q E T a0 w0 0 ops.toList)
    (hend : ∀ vs w, E w0 w → (∀ i, i < TAB.length → T i (vs i) w) → Q .normal (putsT 0 TAB vs a0) w) : (Code.region id ops true).wp P Q a0 w0 := by
  have hlen : TAB.length = ops.size := by rw [← hT]; simp [tableOf]
  refine flow hm hf ?_ hE trans stay (fun i o ho => ?_) (fun vs w hx ht => by
    have := hend vs w hx (fun i hi => ht i (by omega))
    have e := puts_behind hT vs ops.size 0 a0 (by omega)
    rw [List.drop_zero] at e
    rw [List.range_eq_range', e]; exact this)
  · refine List.all_eq_true.2 fun i hi => ?_
    have hi' := List.mem_range.1 hi
    have ho : ops[i]? = some ops[i] := Array.getElem?_eq_getElem hi'
    have h2 := List.all_eq_true.1 room _ (List.mem_of_getElem? (tab_get hT ho))
    rw [ho]; exact h2
  · intro a w hx hs hu hd K hK
    have ho' : ops.toList[i]? = some o := by rw [Array.getElem?_toList]; exact ho
    have hst := stepsT_get _ 0 i o hstep ho'
    rw [Nat.zero_add] at hst
    have hget := tab_get hT ho
    have := hst a w hx (fun k hk => hu k ?_) ?_ K hK
    · rw [← wantedT_eq hT]; exact this
    · intro m om hom hdm
      have h2 := List.all_eq_true.1 hk _ (List.mem_of_getElem? (tab_get hT hom))
      simp only [hdm, bne_self_eq_false, Bool.false_or, List.contains_iff_mem] at h2
      obtain ⟨e, he, hei⟩ := List.mem_map.1 h2
      obtain ⟨he1, he2⟩ := List.mem_filter.1 he
      exact ⟨e, Array.mem_toList_iff.1 he1, he2, hei⟩
    · intro j hj
      simp only [List.getD_eq_getElem?_getD, hget, Option.getD_some] at hj
      obtain ⟨e, he, rfl⟩ := List.mem_map.1 hj
      obtain ⟨he1, he2⟩ := List.mem_filter.1 he
      have hlt := fine_after hf ho (Array.mem_toList_iff.1 he1) he2
      have hi' : i < ops.size := (Array.getElem?_eq_some_iff.1 ho).1
      have hoj : ops[e.on]? = some (ops[e.on]'(by omega)) := Array.getElem?_eq_getElem (by omega)
      obtain ⟨v, hv, hk⟩ := hd e.on _ hoj ⟨e, Array.mem_toList_iff.1 he1, he2, rfl⟩
      refine ⟨v, hv, fun k hkk => hk k ?_⟩
      unfold dstT at hkk
      simpa [List.getD_eq_getElem?_getD, tab_get hT hoj] using hkk
/-- The obligations of the first n operations. -/
theorem flowT_head {id : Nat} (n : Nat) (TAB : List (Option Nat × List Nat)) (T : Nat → Value → World → Prop) (hT : tableOf ops = TAB) (hm : P.follows .mixedOrders = true)
    (hk : (decide (n < ops.size) && fine ops && Region.sinkB .any ops n && Region.chainB .any ops n && Region.seqB .any ops (ops.size - n) n (headFlags n ops.size)) = true) (room : (TAB.all fun r => match r.1 with | some k => decide (k < a0.tmps.size) | none => true) = true)
    (hE : E w0 w0.drew) (trans : ∀ a b c, E a b → E b c → E a c) (stay : ∀ i v w w', T i v w → E w w' → T i v w') (hstep : StepsT P TAB Q E T a0 w0 0 (ops.toList.take n))
    (hend : ∀ vs w, E w0 w → (∀ i, i < n → T i (vs i) w) → wpList P ops Q (ops.toList.drop n) (putsT 0 (TAB.take n) vs a0) w) : (Code.region id ops true).wp P Q a0 w0 := by
  simp only [Bool.and_eq_true, decide_eq_true_eq] at hk
  obtain ⟨⟨⟨⟨hn, hf⟩, hsi⟩, hch⟩, hsq⟩ := hk
  refine flow_head hm hn hf hsi hch hsq ?_ hE trans stay (fun i o hin ho => ?_) (fun vs w hx ht => ?_)
  · refine List.all_eq_true.2 fun i hi => ?_
    have hi' := List.mem_range.1 hi
    have ho : ops[i]? = some ops[i] := Array.getElem?_eq_getElem hi'
    have h2 := List.all_eq_true.1 room _ (List.mem_of_getElem? (tab_get hT ho))
    rw [ho]; exact h2
  · intro a w hx hs hu hd K hK
    have ho' : (ops.toList.take n)[i]? = some o := by rw [List.getElem?_take_of_lt hin, Array.getElem?_toList]; exact ho
    have hst := stepsT_get _ 0 i o hstep ho'
    rw [Nat.zero_add] at hst
    have hget := tab_get hT ho
    have := hst a w hx (fun k hk => hu k ?_) ?_ K hK
    · rw [← wantedT_eq hT]; exact this
    · intro m om hom hdm
      have h2 := List.all_eq_true.1 hk _ (List.mem_of_getElem? (tab_get hT hom))
      simp only [hdm, bne_self_eq_false, Bool.false_or, List.contains_iff_mem] at h2
      obtain ⟨e, he, hei⟩ := List.mem_map.1 h2
      obtain ⟨he1, he2⟩ := List.mem_filter.1 he
      exact ⟨e, Array.mem_toList_iff.1 he1, he2, hei⟩
    · intro j hj
      simp only [List.getD_eq_getElem?_getD, hget, Option.getD_some] at hj
      obtain ⟨e, he, rfl⟩ := List.mem_map.1 hj
      obtain ⟨he1, he2⟩ := List.mem_filter.1 he
      have hlt := fine_after hf ho (Array.mem_toList_iff.1 he1) he2
      have hi' : i < ops.size := (Array.getElem?_eq_some_iff.1 ho).1
      have hoj : ops[e.on]? = some (ops[e.on]'(by omega)) := Array.getElem?_eq_getElem (by omega)
      obtain ⟨v, hv, hk⟩ := hd e.on _ hoj ⟨e, Array.mem_toList_iff.1 he1, he2, rfl⟩
      refine ⟨v, hv, fun k hkk => hk k ?_⟩
      unfold dstT at hkk
      simpa [List.getD_eq_getElem?_getD, tab_get hT hoj] using hkk
  · have h := hend vs w hx ht
    have e : ∀ (n m : Nat) (a : Act), m + n ≤ ops.size → behind ops vs (List.range' m n) a = putsT m ((TAB.drop m).take n) vs a := by
      intro n
      induction n with
      | zero => intro m a _; simp [behind, putsT]
      | succ n ih =>
        intro m a h
        have hm : m < ops.size := by omega
        have ho : ops[m]? = some ops[m] := Array.getElem?_eq_getElem hm
        have hg := tab_get hT ho
        have hl : m < TAB.length := (List.getElem?_eq_some_iff.1 hg).1
        have hd : TAB.drop m = (ops[m].dst, (ops[m].after.toList.filter (fun e => Region.binds .any e)).map (·.on)) :: TAB.drop (m + 1) := by
          rw [List.drop_eq_getElem_cons hl]
          congr 1
          exact (List.getElem?_eq_some_iff.1 hg).2
        rw [List.range'_succ, hd, List.take_succ_cons]
        unfold behind
        rw [ho]
        simp only []
        rw [ih (m + 1) _ (by omega)]
        rfl
    have := e n 0 a0 (by omega)
    rw [List.drop_zero] at this
    rw [List.range_eq_range', this]; exact h
/-- Slots that no operation from m on, ahead of i, writes. -/
def freeS (TAB : List (Option Nat × List Nat)) (m i k : Nat) : Bool := ((TAB.drop m).take (i - m)).all fun r => r.1 != some k
/-- Operation j stands from m on, ahead of i, and what it wrote has not been written over. -/
def lastS (TAB : List (Option Nat × List Nat)) (m i j : Nat) : Bool := decide (m ≤ j) && decide (j < i) && ((TAB.drop (j + 1)).take (i - (j + 1))).all fun r => r.1 != dstT TAB j
def StepS (P : Program) (TAB : List (Option Nat × List Nat)) (Q : Exit → Act → World → Prop) (E : World → World → Prop) (T : Nat → Value → World → Prop) (a0 : Act) (w0 : World) (m i : Nat) (o : Oper) : Prop :=
  ∀ (a : Act) (w : World), E w0 w → (∀ k : Nat, freeS TAB m i k = true → a.tmps.getD k undef = a0.tmps.getD k undef) →
    (∀ j, lastS TAB m i j = true → ∃ v, T j v w ∧ ∀ k : Nat, dstT TAB j = some k → a.tmps.getD k undef = v) →
    ∀ K : Act → World → Prop, (∀ v w', E w w' → T i v w' → K (a.put o.dst v) w') →
      if wantedT TAB o.guard a.tmps = true then o.wp P a w K Q else K (a.put o.dst undef) w
def StepsS (P : Program) (TAB : List (Option Nat × List Nat)) (Q : Exit → Act → World → Prop) (E : World → World → Prop) (T : Nat → Value → World → Prop) (a0 : Act) (w0 : World) (m : Nat) : Nat → List Oper → Prop
  | _, [] => True
  | i, o :: r => StepS P TAB Q E T a0 w0 m i o ∧ StepsS P TAB Q E T a0 w0 m (i + 1) r
theorem putsT_snoc (vs : Nat → Value) (r : Option Nat × List Nat) : ∀ (l : List (Option Nat × List Nat)) (i : Nat) (a : Act), putsT i (l ++ [r]) vs a = (putsT i l vs a).put r.1 (vs (i + l.length))
  | [], i, a => rfl
  | x :: l, i, a => by
    show putsT (i + 1) (l ++ [r]) vs (a.put x.1 (vs i)) = (putsT (i + 1) l vs (a.put x.1 (vs i))).put r.1 (vs (i + (l.length + 1)))
    rw [putsT_snoc vs r l (i + 1), show i + 1 + l.length = i + (l.length + 1) by omega]
theorem put_size (a : Act) (d : Option Nat) (v : Value) : (a.put d v).tmps.size = a.tmps.size := by cases d <;> simp [Act.put]
theorem put_same (a : Act) (k : Nat) (v : Value) (h : k < a.tmps.size) : (a.put (some k) v).tmps.getD k undef = v := by simp [Act.put, Array.getD_eq_getD_getElem?, h]
theorem put_other (a : Act) (d : Option Nat) (k : Nat) (v : Value) (h : d ≠ some k) : (a.put d v).tmps.getD k undef = a.tmps.getD k undef := by
  cases d with
  | none => rfl
  | some d =>
    have : d ≠ k := fun e => h (by rw [e])
    simp [Act.put, Array.getD_eq_getD_getElem?, this]
theorem putsT_size (vs : Nat → Value) : ∀ (l : List (Option Nat × List Nat)) (i : Nat) (a : Act), (putsT i l vs a).tmps.size = a.tmps.size
  | [], _, _ => rfl
  | x :: l, i, a => by
    show (putsT (i + 1) l vs (a.put x.1 (vs i))).tmps.size = _
    rw [putsT_size vs l, put_size]
theorem putsT_congr (vs us : Nat → Value) : ∀ (l : List (Option Nat × List Nat)) (i : Nat) (a : Act), (∀ j, i ≤ j → j < i + l.length → vs j = us j) → putsT i l vs a = putsT i l us a
  | [], _, _, _ => rfl
  | x :: l, i, a, h => by
    show putsT (i + 1) l vs (a.put x.1 (vs i)) = putsT (i + 1) l us (a.put x.1 (us i))
    rw [h i (Nat.le_refl _) (by simp), putsT_congr vs us l (i + 1) _ (fun j h1 h2 => h j (by omega) (by simp only [List.length_cons]; omega))]
theorem putsT_free (vs : Nat → Value) (k : Nat) : ∀ (l : List (Option Nat × List Nat)) (i : Nat) (a : Act), (l.all fun r => r.1 != some k) = true → (putsT i l vs a).tmps.getD k undef = a.tmps.getD k undef
  | [], _, _, _ => rfl
  | x :: l, i, a, h => by
    simp only [List.all_cons, Bool.and_eq_true, bne_iff_ne, ne_eq] at h
    show (putsT (i + 1) l vs (a.put x.1 (vs i))).tmps.getD k undef = _
    rw [putsT_free vs k l (i + 1) _ h.2, put_other _ _ _ _ h.1]
theorem putsT_append (vs : Nat → Value) (l' : List (Option Nat × List Nat)) : ∀ (l : List (Option Nat × List Nat)) (i : Nat) (a : Act), putsT i (l ++ l') vs a = putsT (i + l.length) l' vs (putsT i l vs a)
  | [], i, a => rfl
  | x :: l, i, a => by
    show putsT (i + 1) (l ++ l') vs (a.put x.1 (vs i)) = putsT (i + (l.length + 1)) l' vs (putsT (i + 1) l vs (a.put x.1 (vs i)))
    rw [putsT_append vs l' l (i + 1), show i + 1 + l.length = i + (l.length + 1) by omega]
/-- Some operations of a region that stands in line. -/
theorem seqL (m n : Nat) (TAB : List (Option Nat × List Nat)) (T : Nat → Value → World → Prop) (hT : tableOf ops = TAB) (hmn : m + n ≤ TAB.length) (room : (TAB.all fun r => match r.1 with | some k => decide (k < a0.tmps.size) | none => true) = true)
    (refl : E w0 w0) (trans : ∀ a b c, E a b → E b c → E a c) (stay : ∀ i v w w', T i v w → E w w' → T i v w') (hstep : StepsS P TAB Q E T a0 w0 m m ((ops.toList.drop m).take n))
    (hend : ∀ vs w, E w0 w → (∀ i, m ≤ i → i < m + n → T i (vs i) w) → wpList P ops Q (ops.toList.drop (m + n)) (putsT m ((TAB.drop m).take n) vs a0) w) : wpList P ops Q (ops.toList.drop m) a0 w0 := by
  have hlen : TAB.length = ops.size := by rw [← hT]; simp [tableOf]
  have hget : ∀ (l : List Oper) (d i : Nat) (o : Oper), StepsS P TAB Q E T a0 w0 m d l → l[i]? = some o → StepS P TAB Q E T a0 w0 m (d + i) o := by
    intro l
    induction l with
    | nil => intro d i o _ h; simp at h
    | cons x l ih =>
      intro d i o hs h
      cases i with
      | zero => simp only [List.getElem?_cons_zero, Option.some.injEq] at h; subst h; exact hs.1
      | succ i =>
        simp only [List.getElem?_cons_succ] at h
        have := ih (d + 1) i o hs.2 h
        rw [show d + (i + 1) = d + 1 + i by omega]; exact this
  have key : ∀ (r c : Nat), c + r = n → ∀ (vs : Nat → Value) (w : World), E w0 w → (∀ i, m ≤ i → i < m + c → T i (vs i) w) → wpList P ops Q (ops.toList.drop (m + c)) (putsT m ((TAB.drop m).take c) vs a0) w := by
    intro r
    induction r with
    | zero =>
      intro c hc vs w hE hv
      obtain rfl : c = n := by omega
      exact hend vs w hE hv
    | succ r ih =>
      intro c hc vs w hE hv
      have hi : m + c < ops.size := by omega
      have ho : ops[m + c]? = some ops[m + c] := Array.getElem?_eq_getElem hi
      have hol : ops.toList[m + c]? = some ops[m + c] := by rw [Array.getElem?_toList]; exact ho
      have hd : ops.toList.drop (m + c) = ops[m + c] :: ops.toList.drop (m + c + 1) := by
        rw [List.drop_eq_getElem_cons (by simpa using hi)]; simp
      have htk : ((ops.toList.drop m).take n)[c]? = some ops[m + c] := by
        rw [List.getElem?_take_of_lt (by omega), List.getElem?_drop]; exact hol
      have hst := hget _ m c _ hstep htk
      have hg := tab_get hT ho
      have hroom := List.all_eq_true.1 room _ (List.mem_of_getElem? hg)
      have htl : ((TAB.drop m).take c).length = c := by rw [List.length_take, List.length_drop]; omega
      have hpre : (TAB.drop m).take (c + 1) = (TAB.drop m).take c ++ [(ops[m + c].dst, (ops[m + c].after.toList.filter (fun e => Region.binds .any e)).map (·.on))] := by
        have hg' : (TAB.drop m)[c]? = some (ops[m + c].dst, (ops[m + c].after.toList.filter (fun e => Region.binds .any e)).map (·.on)) := by rw [List.getElem?_drop]; exact hg
        rw [List.take_add_one, hg']; rfl
      have := hst (putsT m ((TAB.drop m).take c) vs a0) w hE ?_ ?_ (wpList P ops Q (ops.toList.drop (m + c + 1))) ?_
      · rw [hd]
        unfold wpList
        rw [← wantedT_eq hT]
        split
        · next h => rw [if_pos h] at this; exact .inl this
        · next h => rw [if_neg h] at this; exact this
      · intro k hk
        unfold freeS at hk
        rw [show m + c - m = c by omega] at hk
        exact putsT_free vs k _ m a0 hk
      · intro j hj
        unfold lastS at hj
        simp only [Bool.and_eq_true, decide_eq_true_eq] at hj
        obtain ⟨⟨h1, h2⟩, h3⟩ := hj
        refine ⟨vs j, hv j h1 h2, fun k hk => ?_⟩
        have hjl : j < TAB.length := by omega
        have hjo : ops[j]? = some (ops[j]'(by omega)) := Array.getElem?_eq_getElem (by omega)
        have hgj := tab_get hT hjo
        have hrj := List.all_eq_true.1 room _ (List.mem_of_getElem? hgj)
        have hsplit : (TAB.drop m).take c = (TAB.drop m).take (j - m) ++ (TAB.getD j (none, []) :: ((TAB.drop (j + 1)).take (m + c - (j + 1)))) := by
          have e1 : (TAB.drop m).take c = (TAB.drop m).take (j - m) ++ ((TAB.drop m).drop (j - m)).take (c - (j - m)) := by
            rw [← List.take_add]; congr 1; omega
          rw [e1, List.drop_drop, show m + (j - m) = j by omega, List.drop_eq_getElem_cons hjl, show c - (j - m) = (m + c - (j + 1)) + 1 by omega, List.take_succ_cons, List.getD_eq_getElem?_getD, List.getElem?_eq_getElem hjl]
          rfl
        rw [hsplit, putsT_append]
        have hlj : ((TAB.drop m).take (j - m)).length = j - m := by rw [List.length_take, List.length_drop]; omega
        rw [hlj, show m + (j - m) = j by omega]
        show (putsT (j + 1) _ vs (Act.put _ (TAB.getD j (none, [])).1 (vs j))).tmps.getD k undef = vs j
        have hdk : (TAB.getD j (none, [])).1 = some k := hk
        rw [hk] at h3
        rw [putsT_free vs k _ _ _ h3, hdk]
        refine put_same _ _ _ ?_
        rw [putsT_size]
        have : (ops[j]'(by omega)).dst = some k := by
          rw [List.getD_eq_getElem?_getD, hgj] at hdk; exact hdk
        simp only [this, decide_eq_true_eq] at hrj
        exact hrj
      · intro v w' hEw hTw
        have h2 := ih (c + 1) (by omega) (fun j => if j = m + c then v else vs j) w' (trans _ _ _ hE hEw) (fun i h1 h2 => by
          show T i (if i = m + c then v else vs i) w'
          by_cases h : i = m + c
          · rw [if_pos h, h]; exact hTw
          · rw [if_neg h]; exact stay _ _ _ _ (hv i h1 (by omega)) hEw)
        rw [hpre, putsT_snoc, htl] at h2
        simp only [if_true] at h2
        rw [putsT_congr _ vs _ m a0 (fun j h1 h2 => if_neg (by omega))] at h2
        exact h2
  exact key n 0 (by omega) (fun _ => undef) w0 refl (fun i h1 h2 => by omega)
/-- A region that stands in line, by its table. -/
theorem seqT {id : Nat} (TAB : List (Option Nat × List Nat)) (T : Nat → Value → World → Prop) (hT : tableOf ops = TAB) (room : (TAB.all fun r => match r.1 with | some k => decide (k < a0.tmps.size) | none => true) = true)
    (refl : E w0 w0) (trans : ∀ a b c, E a b → E b c → E a c) (stay : ∀ i v w w', T i v w → E w w' → T i v w') (hstep : StepsS P TAB Q E T a0 w0 0 0 ops.toList)
    (hend : ∀ vs w, E w0 w → (∀ i, i < TAB.length → T i (vs i) w) → Q .normal (putsT 0 TAB vs a0) w) : (Code.region id ops false).wp P Q a0 w0 := by
  have hlen : TAB.length = ops.size := by rw [← hT]; simp [tableOf]
  refine wp_region_list ?_
  have := seqL (Q := Q) 0 TAB.length TAB T hT (by omega) room refl trans stay (by rw [List.drop_zero, List.take_of_length_le (by simp [hlen])]; exact hstep) (fun vs w h1 h2 => by
    have h3 := hend vs w h1 (fun i hi => h2 i (Nat.zero_le _) (by omega))
    rw [List.drop_eq_nil_of_le (by simp [hlen]), List.drop_zero, List.take_of_length_le (Nat.le_refl _)]
    exact h3)
  rwa [List.drop_zero] at this
/-- Its first n operations. -/
theorem seqT_head {id : Nat} (n : Nat) (TAB : List (Option Nat × List Nat)) (T : Nat → Value → World → Prop) (hT : tableOf ops = TAB) (hn : n ≤ TAB.length) (room : (TAB.all fun r => match r.1 with | some k => decide (k < a0.tmps.size) | none => true) = true)
    (refl : E w0 w0) (trans : ∀ a b c, E a b → E b c → E a c) (stay : ∀ i v w w', T i v w → E w w' → T i v w') (hstep : StepsS P TAB Q E T a0 w0 0 0 (ops.toList.take n))
    (hend : ∀ vs w, E w0 w → (∀ i, i < n → T i (vs i) w) → wpList P ops Q (ops.toList.drop n) (putsT 0 (TAB.take n) vs a0) w) : (Code.region id ops false).wp P Q a0 w0 := by
  refine wp_region_list ?_
  have := seqL (Q := Q) 0 n TAB T hT (by omega) room refl trans stay (by rw [List.drop_zero]; exact hstep) (fun vs w h1 h2 => by
    have h3 := hend vs w h1 (fun i hi => h2 i (Nat.zero_le _) (by omega))
    rw [Nat.zero_add, List.drop_zero]
    exact h3)
  rwa [List.drop_zero] at this
theorem want {c : Prop} [Decidable c] {A B : Prop} (h : c) (hA : A) : if c then A else B := by rw [if_pos h]; exact hA
theorem spare {c : Prop} [Decidable c] {A B : Prop} (h : ¬ c) (hB : B) : if c then A else B := by rw [if_neg h]; exact hB
theorem guard_of {j k : Nat} {b c : Bool} {tmps : Array Value} (hd : dstT TAB j = some k) (he : tmps.getD k undef = .bool c) : wantedT TAB (some (j, b)) tmps = (c == b) := by
  unfold wantedT
  simp only [hd, he]
theorem want_of {j k : Nat} {b : Bool} {tmps : Array Value} (hd : dstT TAB j = some k) (he : tmps.getD k undef = .bool b) : wantedT TAB (some (j, b)) tmps = true := by
  rw [guard_of hd he]; simp
theorem spare_of {j k : Nat} {b c : Bool} {tmps : Array Value} (hd : dstT TAB j = some k) (he : tmps.getD k undef = .bool c) (hc : (c == b) = false) : ¬ wantedT TAB (some (j, b)) tmps = true := by
  rw [guard_of hd he, hc]; simp
variable {o : Oper} {a : Act} {w : World} {K : Act → World → Prop}
theorem val_run {w' : World} {v : Value} (hrun : (execOp a.eval o).run P w = .ok (.value v) w') (h : K (a.put o.dst v) w') : o.wp P a w K Q := by
  unfold Oper.wp; rw [hrun]; exact h
theorem skip_run {w' : World} (hrun : (execOp a.eval o).run P w = .ok .skip w') (h : K (a.put o.dst undef) w') : o.wp P a w K Q := by
  unfold Oper.wp; rw [hrun]; exact h
theorem run1 {c : Prop} [Decidable c] {X : Prop} {w' : World} {v : Value} (hc : c) (hrun : (execOp a.eval o).run P w = .ok (.value v) w') (h : K (a.put o.dst v) w') : if c then o.wp P a w K Q else X := by rw [if_pos hc]; exact val_run hrun h
theorem got {V : Value} {R : Value → Prop} (h : ∃ v, v = V ∧ R v) : R V := by
  obtain ⟨_, rfl, h⟩ := h; exact h
theorem eqn {v V : Value} (h : v = V) : v = V := h
theorem r_move {x : Operand} {v : Value} (ho : o.op = .move x) (hx : a.eval x = v) : (execOp a.eval o).run P w = .ok (.value v) w := by
  unfold execOp; simp only [ho, hx]; rfl
theorem r_assign {x : Operand} {v : Value} (ho : o.op = .assign x) (hx : a.eval x = v) : (execOp a.eval o).run P w = .ok (.value v) w := by
  unfold execOp; simp only [ho, hx]; rfl
theorem r_pick {x y z : Operand} {b : Bool} {v : Value} (ho : o.op = .pick x y z) (hx : a.eval x = .bool b) (hv : a.eval (if b = true then y else z) = v) : (execOp a.eval o).run P w = .ok (.value v) w := by
  unfold execOp; simp only [ho, hx]; cases b <;> (simp only [Bool.false_eq_true, if_true, if_false] at hv; rw [← hv]; rfl)
theorem r_not {x : Operand} {t : TypeId} {b : Bool} (ho : o.op = .unOp .not t x) (hx : a.eval x = .bool b) : (execOp a.eval o).run P w = .ok (.value (.bool (!b))) w := by
  unfold execOp; simp only [ho, hx]; rfl
theorem val_call {f : FuncId} {as1 : Array Operand} {ts : Array TypeId} {fn : Func} {args : Array Value} (ho : o.op = .call { callee := .value (.func f), args := as1, argTypes := ts }) (hf : P.funcs[f]? = some fn) (hname : (fn.name == "runtime.NumGoroutine") = false) (hb : fn.body.isSome = true)
    (ha : as1.map a.eval = args) {R : Ending → World → Prop} (hc : Calls P f args w R) (h : ∀ e w', R e w' → ∃ v, e = .returned v ∧ K (a.put o.dst v) w') : o.wp P a w K Q := by
  have hrun : (execOp a.eval o).run P w = .ok (.enter f args) w := by
    have h1 : fn.name ≠ "runtime.NumGoroutine" := by simpa using hname
    obtain ⟨c, hcb⟩ := Option.isSome_iff_exists.1 hb
    have he : (callFunc f args).run P w = .ok (.enter f args) w := by simp [callFunc, hf, h1, hcb]
    unfold execOp
    simp [ho, resolve, Deferred.ofValue, invoke, Act.eval, ha, he]
  unfold Oper.wp
  rw [hrun]
  exact Calls.mono hc (fun e w' hR => by
    obtain ⟨v, rfl, hk⟩ := h e w' hR
    exact hk)
end
end Go.Proofs.YtlhmpmmblnbmbaaDoor.Flow
namespace Go.Proofs.YtlhmpmmblnbmbaaDoor.Ev
open Go.RowKit Go.Proofs.YtlhmpmmblnbmbaaDoorW.PrintWords Go.Proofs.YtlhmpmmblnbmbaaDoorW.PrintLast Go.Proofs.YtlhmpmmblnbmbaaDoorW.PrintMore Go.Proofs.YtlhmpmmblnbmbaaDoor.Cells
section
variable {P : Program} {o : Oper} {a : Act} {w : World} {x y : Operand} {T T' : TypeId} {k : IntKind} {i j : Int} {s t : ByteArray}
theorem ld {ty : TypeId} {ad : Addr} {v : Value} {d : TypeDesc} (ho : o.op = .load ty x) (hx : a.eval x = .pointer (some ad)) (hc : w.cell? ad = some v) (hu : P.underlying ty = some d) (hd : d.isRow = false) : (execOp a.eval o).run P w = .ok (.value v) w := by
  have hagg : (isAgg ty).run P w = .ok false w := by
    unfold isAgg
    rw [Sem.run_bind, run_underlying hu w]
    cases d <;> simp_all [TypeDesc.isRow]
  unfold execOp
  simp only [ho, hx, Instr.loadAt, Instr.sureAddr, Sem.run_bind, Sem.run_pure, Result.andThen_ok]
  simp [loadVar, Sem.run_bind, hagg, hc]
theorem ldrow {ty : TypeId} {ad : Addr} {c : List Value} {d : TypeDesc} (ho : o.op = .load ty x) (hx : a.eval x = .pointer (some ad)) (hc : Lies w ad c) (hu : P.underlying ty = some d) (hd : d.isRow = true) (hi : (P.info? ty).map (·.size) = some c.length) : (execOp a.eval o).run P w = .ok (.value (.agg c.toArray)) w := by
  unfold execOp
  simp only [ho, hx, Instr.loadAt, Instr.sureAddr, Sem.run_bind, Sem.run_pure, Result.andThen_ok, run_load_at hc hu hd hi]
theorem fa {i : Nat} {p q : Option Addr} (ho : o.op = .fieldAddr T x i) (hx : a.eval x = .pointer p) (hrun : (Instr.fieldAt T (.pointer p) i).run P w = .ok (.pointer q) w) : (execOp a.eval o).run P w = .ok (.value (.pointer q)) w := by
  unfold execOp
  simp only [ho, hx, Sem.run_bind, hrun, Result.andThen_ok, Sem.run_pure]
theorem cat {m n : Nat} (ho : o.op = .binOp .add T x y T') (hx : a.eval x = .string s) (hy : a.eval y = .string t) (hs : s.size ≤ m) (ht : t.size ≤ n) (h : m + n ≤ 9223372036854775807) : (execOp a.eval o).run P w = .ok (.value (.string (s ++ t))) w := by
  have h2 : ¬ 9223372036854775807 < s.size + t.size := by omega
  unfold execOp
  simp only [ho, hx, hy]
  simp [go_sem, h2]
theorem szapp {x y : ByteArray} {a b c : Nat} (hx : x.size ≤ a) (hy : y.size ≤ b) (h : a + b ≤ c) : (x ++ y).size ≤ c := by
  rw [ByteArray.size_append]; omega
theorem lss (ho : o.op = .binOp .lss T x y T') (hx : a.eval x = .int k i) (hy : a.eval y = .int k j) : (execOp a.eval o).run P w = .ok (.value (.bool (decide (i < j)))) w := by
  unfold execOp
  simp only [ho, hx, hy]
  simp [go_sem]
theorem gtr (ho : o.op = .binOp .gtr T x y T') (hx : a.eval x = .int k i) (hy : a.eval y = .int k j) : (execOp a.eval o).run P w = .ok (.value (.bool (decide (i > j)))) w := by
  unfold execOp
  simp only [ho, hx, hy]
  simp [go_sem]
theorem geq (ho : o.op = .binOp .geq T x y T') (hx : a.eval x = .int k i) (hy : a.eval y = .int k j) : (execOp a.eval o).run P w = .ok (.value (.bool (decide (i ≥ j)))) w := by
  unfold execOp
  simp only [ho, hx, hy]
  simp [go_sem]
theorem eql (ho : o.op = .binOp .eql T x y T') (hx : a.eval x = .int k i) (hy : a.eval y = .int k j) : (execOp a.eval o).run P w = .ok (.value (.bool (i == j))) w := by
  unfold execOp
  simp only [ho, hx, hy]
  simp [go_sem]
theorem neq (ho : o.op = .binOp .neq T x y T') (hx : a.eval x = .int k i) (hy : a.eval y = .int k j) : (execOp a.eval o).run P w = .ok (.value (.bool (i != j))) w := by
  unfold execOp
  simp only [ho, hx, hy]
  simp [go_sem]
theorem yes {b : Bool} (h : (execOp a.eval o).run P w = .ok (.value (.bool b)) w) (hb : b = true) : (execOp a.eval o).run P w = .ok (.value (.bool true)) w := hb ▸ h
theorem no {b : Bool} (h : (execOp a.eval o).run P w = .ok (.value (.bool b)) w) (hb : b = false) : (execOp a.eval o).run P w = .ok (.value (.bool false)) w := hb ▸ h
theorem add (ho : o.op = .binOp .add T x y T') (hx : a.eval x = .int .i64 i) (hy : a.eval y = .int .i64 j) (h0 : -9223372036854775808 ≤ i + j) (h1 : i + j ≤ 9223372036854775807) : (execOp a.eval o).run P w = .ok (.value (.int .i64 (i + j))) w := by
  have h2 : IntKind.i64.wrap (i + j) = i + j := IntWalk.i64_in _ ⟨h0, h1⟩
  unfold execOp
  simp only [ho, hx, hy]
  simp [go_sem, h2]
theorem seq (ho : o.op = .binOp .eql T x y T') (hx : a.eval x = .string s) (hy : a.eval y = .string t) (h : s = t) : (execOp a.eval o).run P w = .ok (.value (.bool true)) w := by
  subst h
  unfold execOp
  simp only [ho, hx, hy]
  simp [go_sem]
theorem lenL {e : TypeId} {A : Option Addr} {n c : Nat} (hT : P.underlying T = some (.slice e)) (ho : o.op = .call { callee := .builtin .len, args := #[x], argTypes := #[T] }) (hx : a.eval x = .slice A n c) : (execOp a.eval o).run P w = .ok (.value (.int .i64 n)) w := by
  have h : (Builtin.len_ #[T] o.type #[.slice A n c]).run P w = .ok (.int .i64 n) w := by
    unfold Builtin.len_
    simp only [List.getElem?_toArray, List.getElem?_cons_zero, Sem.run_bind, run_underlying hT w, Result.andThen_ok, Sem.run_pure, goInt]
  unfold execOp
  simp only [ho, resolve, invoke, builtin, Sem.run_bind, Sem.run_pure, Result.andThen_ok, List.map_toArray, List.map_cons, List.map_nil, hx, h]
theorem ix {e : TypeId} {ad : Addr} {n c m : Nat} {i : Nat} (hT : P.underlying T = some (.slice e)) (hs : (P.info? e).map (·.size) = some m) (ho : o.op = .indexAddr T x y) (hx : a.eval x = .slice (some ad) n c) (hy : a.eval y = .int .i64 i) (h : i < n) : (execOp a.eval o).run P w = .ok (.value (.pointer (some (ad.add (i * m))))) w := by
  obtain ⟨inf, hi, hz⟩ := Option.map_eq_some_iff.1 hs
  have h1 : (0 : Int) ≤ i ∧ (i : Int) < n := by omega
  have hr : (Instr.indexAt T (.slice (some ad) n c) (.int .i64 i)).run P w = .ok (.pointer (some (ad.add (i * m)))) w := by
    unfold Instr.indexAt
    simp only [Sem.run_bind, run_underlying hT w, Result.andThen_ok, Sem.run_pure, asIntOf]
    rw [if_pos h1]
    simp [sizeOf, typeInfo, hi, hz, Sem.run_bind]
  unfold execOp
  simp only [ho, hx, hy, Sem.run_bind, hr, Result.andThen_ok, Sem.run_pure]
end
/-- A slice over a block of its own that is new since B. -/
def SliceAt (cs : Array Value) (T n B : Nat) (v : Value) (w : World) : Prop := ∃ g, v = .slice (some ⟨g, 0, none⟩) n n ∧ B ≤ g ∧ w.heap[g]? = some (.cells cs T (0, 0))
theorem slice_below {cs : Array Value} {T n B : Nat} {v : Value} {w w1 : World} (h : SliceAt cs T n B v w) (hb : Below w.heap.size w w1) : SliceAt cs T n B v w1 := by
  obtain ⟨g, h1, h2, h3⟩ := h
  exact ⟨g, h1, h2, blk_below h3 hb⟩
theorem slice_new {cs : Array Value} {T n B : Nat} {w : World} (h : B ≤ w.heap.size) : SliceAt cs T n B (.slice (some ⟨w.heap.size, 0, none⟩) n n) (w.alloc (.cells cs T (0, 0))) := ⟨_, rfl, h, blk_new _ _⟩
section
variable {P : Program} {ops : Array Oper} {rest : List Oper} {o : Oper} {a : Act} {Q : Exit → Act → World → Prop} {w : World} {T : TypeId}
theorem lies_part {g o : Nat} {cs : Array Value} {c : List Value} {w : World} (h : w.heap[g]? = some (.cells cs T (0, 0))) (hc : (cs.toList.drop o).take c.length = c) : Lies w ⟨g, o, none⟩ c := fun j u hj => by
  rw [Addr.add_mid, cell_of_row w g (o + j) _ _ _ h]
  rw [← hc] at hj
  have hl : j < c.length := by
    have := (List.getElem?_eq_some_iff.1 hj).1
    rw [List.length_take] at this; omega
  rw [List.getElem?_take_of_lt hl, List.getElem?_drop, Array.getElem?_toList] at hj
  exact hj
theorem row_cell {α : Type} (enc : α → Value) (d : α) {g k : Nat} {l : List α} {w : World} (h : w.heap[g]? = some (.cells (l.map enc).toArray T (0, 0))) (hk : k < l.length) : w.cell? ⟨g, k, none⟩ = some (enc (l.getD k d)) := by
  refine (blk_cell h k).trans ?_
  rw [List.getElem?_toArray, List.getElem?_map, List.getD_eq_getElem?_getD, List.getElem?_eq_getElem hk]; rfl
theorem row_C {α : Type} (enc : α → Value) (d : α) (h1 : ∀ x, (enc x).oneCell' = true) {g : Nat} {l : List α} {w : World} (h : w.heap[g]? = some (.cells (l.map enc).toArray T (0, 0))) (hm : l.length ≤ 9223372036854775807) : (Kd.scalar enc h1).C w (some ⟨g, 0, none⟩) l.length l :=
  Kd.C_of_reads (d := d) ⟨rfl, hm, fun _ => ⟨_, rfl, fun j hj => by rw [add_plain]; exact row_cell enc d h hj⟩⟩
theorem ixr {e : TypeId} {x y : Operand} {g n c : Nat} {i : Nat} (hT : P.underlying T = some (.slice e)) (hs : (P.info? e).map (·.size) = some 1) (ho : o.op = .indexAddr T x y) (hx : a.eval x = .slice (some ⟨g, 0, none⟩) n c) (hy : a.eval y = .int .i64 i) (h : i < n) : (execOp a.eval o).run P w = .ok (.value (.pointer (some ⟨g, i, none⟩))) w := by
  have := ix (w := w) hT hs ho hx hy h
  rw [add_plain, Nat.mul_one] at this
  exact this
theorem napp {α : Type} {xs ys : List α} {n m : Nat} (h : xs.length ≤ n) (h2 : ys.length = m) : (xs ++ ys).length ≤ n + m := by rw [List.length_append]; omega
theorem is {b c : Bool} {o : Oper} {a : Act} {w : World} (h : (execOp a.eval o).run P w = .ok (.value (.bool b)) w) (hb : b = c) : (execOp a.eval o).run P w = .ok (.value (.bool c)) w := hb ▸ h
/-- A literal row, to be appended to. -/
theorem R_row {α : Type} (enc : α → Value) (h1 : ∀ x, (enc x).oneCell' = true) {g base : Nat} {l : List α} {w : World} (h : w.heap[g]? = some (.cells (l.map enc).toArray T (0, 0))) (hg : base ≤ g) (hm : l.length ≤ maxLen) : (Kd.scalar enc h1).R T w base (fun _ => True) (.slice (some ⟨g, 0, none⟩) l.length l.length) l :=
  Kd.R_of_own ⟨by simp [encs], .inr ⟨g, l.length, _, rfl, hg, h, Nat.le_refl _, hm, by simp, by rw [Nat.mul_one, encs]; exact List.take_of_length_le (by simp)⟩⟩ (fun _ _ => trivial)
/-- A block of another type was written. -/
theorem R_far {α : Type} {d : Kd α} {e base : Nat} {ok : Nat → Prop} {v : Value} {xs : List α} {w w1 : World} {g t : Nat} {cs : Array Value} (h : d.R e w base ok v xs) (hk : w.heap[g]? = some (.cells cs t (0, 0))) (ht : t ∉ e :: d.E) (hfar : ∀ k, k ≠ g → w1.heap[k]? = w.heap[k]?) : d.R e w1 base ok v xs :=
  Kd.R_mono (Kd.R_move (Kd.R_bound h) (fun k hk2 => hfar k (by
    rintro rfl
    obtain ⟨_, _, _, q, hq, cells, hc⟩ := hk2
    rw [hk] at hc
    injection hc with hc
    injection hc with _ hc _
    exact ht (hc ▸ hq)))) (fun _ hk2 => hk2.1)
/-- append of a row that lies whole in a block. -/
theorem eapp {α : Type} (enc : α → Value) (d : α) {h1 : ∀ x, (enc x).oneCell' = true} {w0 : World} {base : Nat} (hgd : o.guard = none) {s x : Operand} {t e : TypeId} {z : Value} {bytes : Nat}
    (ho : o.op = .call { callee := .builtin .append, args := #[s, x], argTypes := #[t, t] })
    (ht : P.underlying t = some (.slice e)) (hinfo : (P.info? e).map (fun i => (i.zero, i.size, i.bytes)) = some (some z, 1, bytes)) (hz : z.cells.size = 1) (hb0 : 0 < bytes)
    {v : Value} {xs ys : List α} {g : Nat} (hs : a.eval s = v) (hx : a.eval x = .slice (some ⟨g, 0, none⟩) ys.length ys.length)
    (HO : (Kd.scalar enc h1).R e w base (fun _ => True) v xs) (HY : w.heap[g]? = some (.cells (ys.map enc).toArray e (0, 0))) (HB : Below base w0 w) (hbase : base ≤ w.heap.size) (hl : (xs.length + ys.length) * bytes ≤ 140737488355328)
    (h : ∀ v1 w1, (Kd.scalar enc h1).R e w1 base (fun _ => True) v1 (xs ++ ys) → Below base w0 w1 → w.grownBy w1 v.ownBlock → wpList P ops Q rest (a.put o.dst v1) w1) : wpList P ops Q (o :: rest) a w := by
  have hm : ys.length ≤ 9223372036854775807 := by
    have := Nat.le_mul_of_pos_right (xs.length + ys.length) hb0
    omega
  exact Kd.R_append_row enc d base hgd s x t e z bytes ho ht hinfo hz hb0 v xs ys _ _ _ (fun _ => True) hs hx (fun _ _ => trivial) HO (row_C enc d h1 HY hm) HB hbase hl (fun v1 w1 a1 a2 a3 _ => h v1 w1 a1 a2 a3)
theorem ebox {v : Value} {x : Operand} (hgd : o.guard = none) (ho : o.op = .box T x) (hx : a.eval x = v)
    (h : ∀ g, g = w.heap.size → ∀ w1, w1.heap[g]? = some (.cells v.cells T (0, 0)) → Below w.heap.size w w1 → wpList P ops Q rest (a.put o.dst (.pointer (some ⟨g, 0, none⟩))) w1) : wpList P ops Q (o :: rest) a w := by
  refine Kd.event_run hgd (w1 := w.alloc (.cells v.cells T (0, 0))) (v := .pointer (some ⟨w.heap.size, 0, none⟩)) ?_ (h _ rfl _ (blk_new w _) (below_alloc (Below.refl _ _) _))
  unfold execOp
  simp only [ho, hx]
  simp [Instr.box, newVar, newRow, go_sem]
theorem ealloc {z : Value} (hgd : o.guard = none) (ho : o.op = .alloc T) (hz : (P.info? T).map (·.zero) = some (some z))
    (h : ∀ g, g = w.heap.size → ∀ w1, w1.heap[g]? = some (.cells z.cells T (0, 0)) → Below w.heap.size w w1 → wpList P ops Q rest (a.put o.dst (.pointer (some ⟨g, 0, none⟩))) w1) : wpList P ops Q (o :: rest) a w := by
  obtain ⟨i, hi, hzz⟩ := Option.map_eq_some_iff.1 hz
  refine Kd.event_run hgd (w1 := w.alloc (.cells z.cells T (0, 0))) (v := .pointer (some ⟨w.heap.size, 0, none⟩)) ?_ (h _ rfl _ (blk_new w _) (below_alloc (Below.refl _ _) _))
  unfold execOp
  simp only [ho]
  simp [zeroValue, typeInfo, hi, hzz, newVar, newRow, Sem.run_bind, go_sem]
end
section
variable {P : Program} {o : Oper} {a : Act} {w : World} {x y z : Operand} {T T' : TypeId} {k k' : IntKind} {i j : Int} {s t : ByteArray}
theorem shr4 (ho : o.op = .binOp .shr T x y T') (hx : a.eval x = .int .u8 i) (hy : a.eval y = .int .u64 4) : (execOp a.eval o).run P w = .ok (.value (.int .u8 (i / 16))) w := by
  unfold execOp
  simp only [ho, hx, hy]
  go_simp
theorem and15 (ho : o.op = .binOp .and T x y T') (hx : a.eval x = .int .u8 i) (hy : a.eval y = .int .u8 j) : (execOp a.eval o).run P w = .ok (.value (.int .u8 (bits .and .u8 i j))) w := by
  unfold execOp
  simp only [ho, hx, hy]
  simp [go_sem]
theorem strix (hT : P.underlying T = some .string) (ho : o.op = .index T x y) (hx : a.eval x = .string s) (hy : a.eval y = .int k i) (h0 : 0 ≤ i) (h1 : i < s.size) : (execOp a.eval o).run P w = .ok (.value (.int .u8 (bt s i))) w := by
  have h2 : i.toNat < s.size := by omega
  have hb : ((s[i.toNat]'h2).toNat : Int) = bt s i := bt_at s i h2
  unfold execOp
  simp only [ho, hx, hy]
  go_simp
theorem cv8 (hT : P.underlying T = some (.int .u8)) (hT' : P.underlying T' = some (.int .i64)) (ho : o.op = .convert T T' x) (hx : a.eval x = .int .u8 i) (h0 : 0 ≤ i) (h1 : i ≤ 255) : (execOp a.eval o).run P w = .ok (.value (.int .i64 i)) w := by
  unfold execOp
  simp only [ho, hx]
  go_simp
  exact IntWalk.i64_in _ ⟨by omega, by omega⟩
theorem quo16 (ho : o.op = .binOp .quo T x y T') (hx : a.eval x = .int .i64 i) (hy : a.eval y = .int .i64 16) (h0 : 0 ≤ i) (h1 : i ≤ 255) : (execOp a.eval o).run P w = .ok (.value (.int .i64 (i / 16))) w := by
  unfold execOp
  simp only [ho, hx, hy]
  go_simp
  rw [Int.tdiv_eq_ediv_of_nonneg h0]
  exact IntWalk.i64_in _ ⟨by omega, by omega⟩
theorem rem16 (ho : o.op = .binOp .rem T x y T') (hx : a.eval x = .int .i64 i) (hy : a.eval y = .int .i64 16) (h0 : 0 ≤ i) : (execOp a.eval o).run P w = .ok (.value (.int .i64 (i % 16))) w := by
  unfold execOp
  simp only [ho, hx, hy]
  go_simp
  exact Int.tmod_eq_emod_of_nonneg h0
theorem cvs {A : Option Addr} {n c : Nat} (ho : o.op = .convert T T' x) (hx : a.eval x = .slice A n c) (hrun : (convert T T' (.slice A n c)).run P w = .ok (.string s) w) : (execOp a.eval o).run P w = .ok (.value (.string s)) w := by
  unfold execOp
  simp only [ho, hx, Sem.run_bind, hrun, Result.andThen_ok, Sem.run_pure]
theorem cut1 (hT : P.underlying T = some .string) (ho : o.op = .slice T x (some y) (some z) none) (hx : a.eval x = .string s) (hy : a.eval y = .int .i64 i) (hz : a.eval z = .int .i64 j) (h0 : 0 ≤ i) (h1 : i ≤ j) (h2 : j ≤ s.size) : (execOp a.eval o).run P w = .ok (.value (.string (s.extract i.toNat j.toNat))) w := by
  have hr := run_slice_string (P := P) w T s .i64 .i64 i j hT h0 h1 h2
  unfold execOp
  simp only [ho, hx, Option.map_some, Option.map_none, hy, hz]
  unfold Instr.sliceAt
  simp only [Sem.run_bind, run_underlying hT w, Result.andThen_ok, hr, Sem.run_pure]
end
end Go.Proofs.YtlhmpmmblnbmbaaDoor.Ev
namespace Go.Proofs.YtlhmpmmblnbmbaaDoor.Ke
open Go.Lib Go.RowKit Go.Proofs.YtlhmpmmblnbmbaaDoor.Ev Go.Proofs.YtlhmpmmblnbmbaaDoor.Cells Go.Proofs.YtlhmpmmblnbmbaaDoorW.PrintWords Go.Proofs.YtlhmpmmblnbmbaaDoorW.PrintLast Go.Proofs.YtlhmpmmblnbmbaaDoorW.PrintMore
variable {P : Program} {o : Oper} {a : Act}
theorem store1 {ty t : TypeId} {x y : Operand} {g p : Nat} {v : Value} {cs : Array Value} {w : World} (ho : o.op = .store ty x y) (hx : a.eval x = .pointer (some ⟨g, p, none⟩)) (hy : a.eval y = v) (hv : v.oneCell' = true)
    (hi : (P.info? ty).map (·.size) = some 1) (hk : w.heap[g]? = some (.cells cs t (0, 0))) (hp : p < cs.size) : (execOp a.eval o).run P w = .ok .skip (w.setCell ⟨g, p, none⟩ v) := by
  have hc : v.cells = #[v] := by cases v <;> first | rfl | (simp [Value.oneCell'] at hv)
  have hcell : w.cell? ⟨g, p, none⟩ = some (cs[p]'hp) := by rw [blk_cell hk p]; simp [hp]
  have := run_storeCells_cells (P := P) g p [v] 0 w (fun j hj => by obtain rfl : j = 0 := by simp at hj; omega
                                                                    rw [show (⟨g, p + 0 + 0, none⟩ : Addr) = ⟨g, p, none⟩ from rfl, hcell]; rfl) (fun j hj => by simp [World.frozen?, hk]) (fun u hu => by simp at hu; rw [hu]; exact hv)
  unfold execOp
  simp only [ho, hx, hy, Instr.storeAt, Instr.sureAddr, Sem.run_bind, Sem.run_pure, Result.andThen_ok]
  cases hq : P.info? ty with
  | none => simp [hq] at hi
  | some i =>
    have hs : i.size = 1 := by simp [hq] at hi; omega
    simp only [Nat.add_zero] at this
    simp [storeVar, sizeOf, typeInfo, hq, hc, hs, this, World.setCells]
/-- Nothing but the block g has turned, and a cell of it that has its last value keeps it. -/
def Ke (g : Nat) (t : TypeId) (F : List Value) (base : Nat) (u v : World) : Prop :=
  Below base u v ∧ (∀ k, k ≠ g → k < u.heap.size → v.heap[k]? = u.heap[k]?) ∧ ∀ cs : Array Value, u.heap[g]? = some (.cells cs t (0, 0)) → ∃ cs' : Array Value, v.heap[g]? = some (.cells cs' t (0, 0)) ∧ cs'.size = cs.size ∧ ∀ p : Nat, cs[p]? = F[p]? → cs'[p]? = F[p]?
def Has (g : Nat) (t : TypeId) (F : List Value) (p : Nat) (w : World) : Prop := ∃ cs : Array Value, w.heap[g]? = some (.cells cs t (0, 0)) ∧ cs.size = F.length ∧ cs[p]? = F[p]?
variable {g : Nat} {t : TypeId} {F : List Value} {base : Nat} {u v w : World}
theorem Ke.refl : Ke g t F base w w := ⟨Below.refl _ _, fun _ _ _ => rfl, fun cs h => ⟨cs, h, rfl, fun _ h => h⟩⟩
theorem Ke.trans (h : Ke g t F base u v) (k : Ke g t F base v w) : Ke g t F base u w := by
  refine ⟨h.1.trans k.1, fun i hi hlt => (k.2.1 i hi (Nat.lt_of_lt_of_le hlt h.1.size)).trans (h.2.1 i hi hlt), fun cs hc => ?_⟩
  obtain ⟨c1, h1, h2, h3⟩ := h.2.2 cs hc
  obtain ⟨c2, k1, k2, k3⟩ := k.2.2 c1 h1
  exact ⟨c2, k1, k2.trans h2, fun p hp => k3 p (h3 p hp)⟩
theorem Ke.drew : Ke g t F base w w.drew := ⟨(Below.refl _ _).drew, fun _ _ _ => rfl, fun cs h => ⟨cs, h, rfl, fun _ h => h⟩⟩
theorem Has.keep {p : Nat} (h : Has g t F p u) (k : Ke g t F base u v) : Has g t F p v := by
  obtain ⟨cs, h1, h2, h3⟩ := h
  obtain ⟨c1, k1, k2, k3⟩ := k.2.2 cs h1
  exact ⟨c1, k1, k2.trans h2, k3 p h3⟩
theorem Ke.blk {k : Nat} {O : Obj} (h : Ke g t F base u v) (hk : k ≠ g) (hb : u.heap[k]? = some O) : v.heap[k]? = some O := (h.2.1 k hk (Array.getElem?_eq_some_iff.1 hb).1).trans hb
/-- one store -/
theorem Has.put {p q : Nat} {x : Value} (h : Has g t F q w) (hp : F[p]? = some x) (hb : base ≤ g) : Ke g t F base w (w.setCell ⟨g, p, none⟩ x) ∧ Has g t F p (w.setCell ⟨g, p, none⟩ x) := by
  obtain ⟨cs, h1, h2, h3⟩ := h
  have hlt : p < cs.size := by rw [h2]; exact (List.getElem?_eq_some_iff.1 hp).1
  have hn : ∀ c : Array Value, w.heap[g]? = some (.cells c t (0, 0)) → (w.setCell ⟨g, p, none⟩ x).heap[g]? = some (.cells (c.setIfInBounds p x) t (0, 0)) := fun c hc => blk_put hc p x rfl
  refine ⟨⟨(Below.refl _ _).setCell hb x, fun k hk _ => Below.heap_setCell _ _ _ _ hk, fun c hc => ⟨_, hn c hc, by simp, fun i hi => ?_⟩⟩, ⟨_, hn cs h1, by simpa using h2, by rw [hp]; simp [hlt]⟩⟩
  rw [Array.getElem?_setIfInBounds]
  split
  · rename_i e
    subst e
    have hs : c.size = cs.size := by
      rw [h1] at hc; injection hc with hc; injection hc with hc; rw [hc]
    rw [if_pos (by omega), hp]
  · exact hi
theorem Has.lt {p : Nat} (h : Has g t F p w) : ∃ cs : Array Value, w.heap[g]? = some (.cells cs t (0, 0)) ∧ cs.size = F.length := by
  obtain ⟨cs, h1, h2, _⟩ := h; exact ⟨cs, h1, h2⟩
theorem has_of {cs : Array Value} (h : w.heap[g]? = some (.cells cs t (0, 0))) (hs : cs.size = F.length) (p : Nat) (hp : cs[p]? = F[p]?) : Has g t F p w := ⟨cs, h, hs, hp⟩
theorem has_all (hl : 0 < F.length) (h : ∀ p, p < F.length → Has g t F p w) : w.heap[g]? = some (.cells F.toArray t (0, 0)) := by
  obtain ⟨cs, h1, h2, _⟩ := h 0 hl
  rw [h1]
  congr 2
  apply Array.toList_inj.1
  rw [List.toList_toArray]
  apply List.ext_getElem?
  intro p
  by_cases hp : p < F.length
  · obtain ⟨c, k1, k2, k3⟩ := h p hp
    rw [h1] at k1; injection k1 with k1; injection k1 with k1; subst k1
    rw [Array.getElem?_toList]; exact k3
  · rw [List.getElem?_eq_none (by simp; omega), List.getElem?_eq_none (by simp; omega)]
/-- A store into one cell, in its place in the order: the block is known before and behind it. -/
theorem put_event (hgd : o.guard = none) (hN : o.dst = none) {ops : Array Oper} {Q : Exit → Act → World → Prop} {rest : List Oper} (ty : TypeId) (x y : Operand) (ho : o.op = .store ty x y) (g p : Nat) (v : Value) (cs cs1 : Array Value) (hx : a.eval x = .pointer (some ⟨g, p, none⟩)) (hy : a.eval y = v) (hv : v.oneCell' = true)
    (hi : (P.info? ty).map (·.size) = some 1) (hk : w.heap[g]? = some (.cells cs t (0, 0))) (hp : p < cs.size) (he : cs.setIfInBounds p v = cs1)
    (h : ∀ w1, w1.heap[g]? = some (.cells cs1 t (0, 0)) → (∀ k, k ≠ g → w1.heap[k]? = w.heap[k]?) → (∀ B, B ≤ g → Below B w w1) → wpList P ops Q rest a w1) : wpList P ops Q (o :: rest) a w := by
  refine wpList_plain hgd fun K hK => ?_
  refine Flow.skip_run (store1 (v := v) ho hx hy hv hi hk hp) (hK _ _ ?_)
  rw [hN]
  exact h _ (he ▸ blk_put hk p v rfl) (fun k hk => Below.heap_setCell _ _ _ _ hk) (fun B hB => (Below.refl _ _).setCell hB v)
theorem sneq {T T' : TypeId} {x y : Operand} {s t : ByteArray} {b : Bool} (ho : o.op = .binOp .neq T x y T') (hx : a.eval x = .string s) (hy : a.eval y = .string t) (h : (s.toList != t.toList) = b) : (execOp a.eval o).run P w = .ok (.value (.bool b)) w := by
  subst h
  unfold execOp
  simp only [ho, hx, hy]
  go_simp
  simp [bne]
theorem seqb {T T' : TypeId} {x y : Operand} {s t : ByteArray} {b : Bool} (ho : o.op = .binOp .eql T x y T') (hx : a.eval x = .string s) (hy : a.eval y = .string t) (h : (s.toList == t.toList) = b) : (execOp a.eval o).run P w = .ok (.value (.bool b)) w := by
  subst h
  unfold execOp
  simp only [ho, hx, hy]
  go_simp
/-- An element of an array's variable. -/
theorem ixa {T : TypeId} {x y : Operand} {g p m i : Nat} {e : TypeId} (hT : P.underlying T = some (.array (P.arrayLen T) (P.elem T))) (hl : P.arrayLen T = m) (he : P.elem T = e) (hs : (P.info? e).map (·.size) = some 1) (ho : o.op = .indexAddr T x y) (hx : a.eval x = .pointer (some ⟨g, p, none⟩)) (hy : a.eval y = .int .i64 i) (h : i < m) : (execOp a.eval o).run P w = .ok (.value (.pointer (some ⟨g, p + i, none⟩))) w := by
  unfold execOp
  simp only [ho, hx, hy]
  have hr := run_indexAt_array (P := P) (w := w) T ⟨g, p, none⟩ .i64 i hT
  rw [hl, if_pos (by omega), he] at hr
  cases hq : P.info? e with
  | none => simp [hq] at hs
  | some i2 =>
    have hz : i2.size = 1 := by simp [hq] at hs; omega
    simp only [Sem.run_bind]
    rw [show (Instr.indexAt T (.pointer (some ⟨g, p, none⟩)) (.int .i64 i)).run P w = .ok (.pointer (some ⟨g, p + i, none⟩)) w by
      rw [hr]; simp [sizeOf, typeInfo, hq, hz, Addr.add]]
    rfl
theorem extr {x : Operand} {k : Nat} {vs : Array Value} {v : Value} (ho : o.op = .extract x k) (hx : a.eval x = .tuple vs) (hv : vs[k]? = some v) : (execOp a.eval o).run P w = .ok (.value v) w := by
  unfold execOp
  simp only [ho, hx]
  simp [Instr.extract, hv]
theorem addk {T T' : TypeId} {x y : Operand} {i j k : Int} (ho : o.op = .binOp .add T x y T') (hx : a.eval x = .int .i64 i) (hy : a.eval y = .int .i64 j) (h : i + j = k) (h0 : -9223372036854775808 ≤ k) (h1 : k ≤ 9223372036854775807) : (execOp a.eval o).run P w = .ok (.value (.int .i64 k)) w := by
  subst h; exact add ho hx hy h0 h1
theorem beqb {T T' : TypeId} {x y : Operand} {b c : Bool} (hT : P.underlying T = some .bool) (ho : o.op = .binOp .eql T x y T') (hx : a.eval x = .bool b) (hy : a.eval y = .bool c) : (execOp a.eval o).run P w = .ok (.value (.bool (b == c))) w := by
  unfold execOp
  simp only [ho, hx, hy]
  simp [go_sem, hT]
end Go.Proofs.YtlhmpmmblnbmbaaDoor.Ke
namespace Go.Proofs.YtlhmpmmblnbmbaaDoor.Con
open Go.RowKit Go.Proofs.YtlhmpmmblnbmbaaDoor.Ev Go.Proofs.YtlhmpmmblnbmbaaDoor.Cells Go.Proofs.YtlhmpmmblnbmbaaDoorW.PrintWords Go.Proofs.YtlhmpmmblnbmbaaDoorW.PrintLast Go.Proofs.YtlhmpmmblnbmbaaDoorW.PrintMore
theorem fa54_0 (g o : Nat) (w : World) : (Instr.fieldAt 54 (.pointer (some ⟨g, o, none⟩)) 0).run Tryd.prog w = .ok (.pointer (some ⟨g, o, none⟩)) w := by
  have hu := Tryd.underlying54
  go_simp
theorem fa54_1 (g o : Nat) (w : World) : (Instr.fieldAt 54 (.pointer (some ⟨g, o, none⟩)) 1).run Tryd.prog w = .ok (.pointer (some ⟨g, o + 1, none⟩)) w := by
  have hu := Tryd.underlying54
  go_simp
theorem fa54_2 (g o : Nat) (w : World) : (Instr.fieldAt 54 (.pointer (some ⟨g, o, none⟩)) 2).run Tryd.prog w = .ok (.pointer (some ⟨g, o + 2, none⟩)) w := by
  have hu := Tryd.underlying54
  go_simp
theorem fa54_3 (g o : Nat) (w : World) : (Instr.fieldAt 54 (.pointer (some ⟨g, o, none⟩)) 3).run Tryd.prog w = .ok (.pointer (some ⟨g, o + 3, none⟩)) w := by
  have hu := Tryd.underlying54
  go_simp
theorem fa54_4 (g o : Nat) (w : World) : (Instr.fieldAt 54 (.pointer (some ⟨g, o, none⟩)) 4).run Tryd.prog w = .ok (.pointer (some ⟨g, o + 4, none⟩)) w := by
  have hu := Tryd.underlying54
  go_simp
theorem fa54_5 (g o : Nat) (w : World) : (Instr.fieldAt 54 (.pointer (some ⟨g, o, none⟩)) 5).run Tryd.prog w = .ok (.pointer (some ⟨g, o + 5, none⟩)) w := by
  have hu := Tryd.underlying54
  go_simp
theorem fa56_0 (g o : Nat) (w : World) : (Instr.fieldAt 56 (.pointer (some ⟨g, o, none⟩)) 0).run Tryd.prog w = .ok (.pointer (some ⟨g, o, none⟩)) w := by
  have hu := Tryd.underlying56
  go_simp
theorem fa56_1 (g o : Nat) (w : World) : (Instr.fieldAt 56 (.pointer (some ⟨g, o, none⟩)) 1).run Tryd.prog w = .ok (.pointer (some ⟨g, o + 1, none⟩)) w := by
  have hu := Tryd.underlying56
  go_simp
theorem fa56_2 (g o : Nat) (w : World) : (Instr.fieldAt 56 (.pointer (some ⟨g, o, none⟩)) 2).run Tryd.prog w = .ok (.pointer (some ⟨g, o + 7, none⟩)) w := by
  have hu := Tryd.underlying56
  go_simp
theorem fa56_3 (g o : Nat) (w : World) : (Instr.fieldAt 56 (.pointer (some ⟨g, o, none⟩)) 3).run Tryd.prog w = .ok (.pointer (some ⟨g, o + 8, none⟩)) w := by
  have hu := Tryd.underlying56
  go_simp
theorem fa56_4 (g o : Nat) (w : World) : (Instr.fieldAt 56 (.pointer (some ⟨g, o, none⟩)) 4).run Tryd.prog w = .ok (.pointer (some ⟨g, o + 9, none⟩)) w := by
  have hu := Tryd.underlying56
  go_simp
theorem size3 : (Tryd.prog.info? 3).map (·.size) = some 1 := by kernel_rfl
theorem size43 : (Tryd.prog.info? 43).map (·.size) = some 1 := by kernel_rfl
theorem size54 : (Tryd.prog.info? 54).map (·.size) = some 6 := by kernel_rfl
theorem size104 : (Tryd.prog.info? 104).map (·.size) = some 3 := by kernel_rfl
theorem zero54_is : (Tryd.prog.info? 54).map (·.zero) = some (some (.agg #[.int .i64 0, .int .i64 0, .int .i64 0, .int .i64 0, .slice none 0 0, .bool false])) := by kernel_rfl
theorem zero56_is : (Tryd.prog.info? 56).map (·.zero) = some (some (.agg #[.int .i64 0, .int .i64 0, .int .i64 0, .int .i64 0, .int .i64 0, .slice none 0 0, .bool false, .int .i64 0, .int .i64 0, .slice none 0 0])) := by kernel_rfl
theorem zero104_is : (Tryd.prog.info? 104).map (·.zero) = some (some (.agg #[.int .i64 0, .int .i64 0, .int .i64 0])) := by kernel_rfl
theorem arr104_l : Tryd.prog.arrayLen 104 = 3 := by kernel_rfl
theorem arr104_e : Tryd.prog.elem 104 = 3 := by kernel_rfl
theorem arr104_u : Tryd.prog.underlying 104 = some (.array (Tryd.prog.arrayLen 104) (Tryd.prog.elem 104)) := by rw [arr104_l, arr104_e]; exact Tryd.underlying104
theorem bld56_0_1 {o : Oper} {a : Act} {w : World} {x0 x1 : Operand} {i c z t n : Int} {d : Value} {f : Bool} (ho : o.op = .build 56 #[(0, x0), (1, x1)]) (h0 : a.eval x0 = .int .i64 i) (h1 : a.eval x1 = .agg #[.int .i64 c, .int .i64 z, .int .i64 t, .int .i64 n, d, .bool f]) : (execOp a.eval o).run Tryd.prog w = .ok (.value (.agg #[.int .i64 i, .int .i64 c, .int .i64 z, .int .i64 t, .int .i64 n, d, .bool f, .int .i64 0, .int .i64 0, .slice none 0 0])) w := by
  have hu := Tryd.underlying56
  have hu2 := Tryd.underlying54
  unfold execOp
  simp only [ho, List.map_toArray, List.map_cons, List.map_nil, h0, h1]
  clear ho h0 h1
  first
  | (go_simp; done)
  | (go_simp; rfl)
theorem bldz56 {o : Oper} {a : Act} {w : World} (ho : o.op = .build 56 #[]) : (execOp a.eval o).run Tryd.prog w = .ok (.value (.agg #[.int .i64 0, .int .i64 0, .int .i64 0, .int .i64 0, .int .i64 0, .slice none 0 0, .bool false, .int .i64 0, .int .i64 0, .slice none 0 0])) w := by
  have hu := Tryd.underlying56
  have hu2 := Tryd.underlying54
  unfold execOp
  simp only [ho]
  clear ho
  first
  | (go_simp; done)
  | (go_simp; rfl)
end Go.Proofs.YtlhmpmmblnbmbaaDoor.Con
set_option linter.unusedVariables false
set_option linter.unusedSimpArgs false
namespace Go.Proofs.YtlhmpmmblnbmbaaDoor.Con
open Go.Lib Go.RowKit Go.Proofs.YtlhmpmmblnbmbaaDoor.Ev Go.Proofs.YtlhmpmmblnbmbaaDoor.Ke Go.Proofs.YtlhmpmmblnbmbaaDoor.Cells Go.Proofs.YtlhmpmmblnbmbaaDoor.PConsoleParses Go.Proofs.YtlhmpmmblnbmbaaDoorW.PrintWords Go.Proofs.YtlhmpmmblnbmbaaDoorW.PrintLast Go.Proofs.YtlhmpmmblnbmbaaDoorW.PrintMore WordsPlain NumberPlain
def fillC (kind cmd : Int) (fua : Bool) (n0 n1 n2 : Int) (b : Value) : List Value := if kind = 0 then [.int .i64 kind, .int .i64 cmd, .int .i64 n0, .int .i64 n1, .int .i64 n2, b, .bool fua, .int .i64 0, .int .i64 0, .slice none 0 0] else if kind = 1 then [.int .i64 kind, .int .i64 cmd, .int .i64 0, .int .i64 0, .int .i64 0, .slice none 0 0, .bool fua, .int .i64 0, .int .i64 n0, b] else [.int .i64 kind, .int .i64 cmd, .int .i64 0, .int .i64 0, .int .i64 0, .slice none 0 0, .bool fua, .int .i64 n0, .int .i64 n1, b]
set_option maxHeartbeats 4000000 in
set_option maxRecDepth 100000 in
theorem fill_c (kind cmd : Int) (fua : Bool) (n0 n1 n2 : Int) (A : Option Addr) (nb cb : Nat) (w : World) : Calls Tryd.prog 53 #[.agg #[.int .i64 kind, .int .i64 cmd, .int .i64 0, .int .i64 0, .int .i64 0, .slice none 0 0, .bool fua, .int .i64 0, .int .i64 0, .slice none 0 0], .agg #[.int .i64 n0, .int .i64 n1, .int .i64 n2], .slice A nb cb] w fun e w' => e = .returned (.agg (fillC kind cmd fua n0 n1 n2 (.slice A nb cb)).toArray) ∧ Below w.heap.size w w' := by
 go_enter Tryd.func53, Tryd.ntmps53
 go_upto_region 0 with fail
 refine wp_region_lit ?_
 refine ebox (v := (.agg #[.int .i64 kind, .int .i64 cmd, .int .i64 0, .int .i64 0, .int .i64 0, .slice none 0 0, .bool fua, .int .i64 0, .int .i64 0, .slice none 0 0])) rfl rfl rfl ?_
 intro g1 hg1 W1 hk1 hb1
 have Kg1 := Aside0.mk hk1
 have HB1 := Aside0.mk hb1
 clear hb1
 have Gg1 := Aside0.mk (show w.heap.size ≤ g1 by rw [hg1]; exact Nat.le_refl _)
 clear hg1 hk1
 simp only [Act.put, List.setIfInBounds_toArray, List.set_cons_zero, List.set_cons_succ]
 refine ebox (v := (.agg #[.int .i64 n0, .int .i64 n1, .int .i64 n2])) rfl rfl rfl ?_
 intro g2 hg2 W2 hk2 hb2
 have Kg2 := Aside0.mk hk2
 have Ng2_g1 := Aside0.mk (show g1 ≠ g2 by have := (Array.getElem?_eq_some_iff.1 Kg1.out).1; omega)
 have Ng1_g2 := Aside0.mk (Ne.symm Ng2_g1.out)
 have HB2 := Aside0.mk (below_step HB1.out hb2)
 have Kg1_2 := Aside0.mk (blk_below Kg1.out hb2)
 clear hb2
 have Gg2 := Aside0.mk (show w.heap.size ≤ g2 by rw [hg2]; exact HB1.out.size)
 clear hg2 hk2
 simp only [Act.put, List.setIfInBounds_toArray, List.set_cons_zero, List.set_cons_succ]
 refine ealloc rfl rfl zero56_is ?_
 intro g3 hg3 W3 hk3 hb3
 have Kg3 := Aside0.mk hk3
 have Ng3_g1 := Aside0.mk (show g1 ≠ g3 by have := (Array.getElem?_eq_some_iff.1 Kg1_2.out).1; omega)
 have Ng1_g3 := Aside0.mk (Ne.symm Ng3_g1.out)
 have Ng3_g2 := Aside0.mk (show g2 ≠ g3 by have := (Array.getElem?_eq_some_iff.1 Kg2.out).1; omega)
 have Ng2_g3 := Aside0.mk (Ne.symm Ng3_g2.out)
 have HB3 := Aside0.mk (below_step HB2.out hb3)
 have Kg1_2_3 := Aside0.mk (blk_below Kg1_2.out hb3)
 have Kg2_3 := Aside0.mk (blk_below Kg2.out hb3)
 clear hb3
 have Gg3 := Aside0.mk (show w.heap.size ≤ g3 by rw [hg3]; exact HB2.out.size)
 clear hg3 hk3
 simp only [Act.put, List.setIfInBounds_toArray, List.set_cons_zero, List.set_cons_succ]
 by_cases hk : kind = 0
 ·have hk1 := hk
  go_upto_region 1 with fail
  refine Flow.seqT (E := fun u v => Below u.heap.size u v) [(some 7, []), (some 8, [0]), (some 9, [1])] (fun iQ vQ wQ => match iQ with | 0 => vQ = (.pointer (some ⟨g1, 0, none⟩)) | 1 => vQ = (.int .i64 kind) | 2 => vQ = (.bool true) | _ => True) rfl (by kernel_rfl) (Below.refl _ _) (fun _ _ _ h k => h.trans (k.mono h.size)) (fun _ _ _ _ h _ => h) ?_ ?_
  ·refine ⟨?_, ?_, ?_, trivial⟩
   ·intro a w' hx hu hd K hK; have e3 : a.tmps.getD 3 undef = (.pointer (some ⟨g1, 0, none⟩)) := hu 3 rfl; exact Flow.run1 rfl (fa rfl e3 (fa56_0 _ _ _)) (hK _ _ (Below.refl _ _) rfl)
   ·intro a w' hx hu hd K hK; have e7 := Flow.got (hd 0 rfl) 7 rfl; exact Flow.run1 rfl (ld rfl e7 ((blk_cell (blk_below Kg1_2_3.out hx) 0).trans rfl) Tryd.underlying3 rfl) (hK _ _ (Below.refl _ _) rfl)
   ·intro a w' hx hu hd K hK; have e8 := Flow.got (hd 1 rfl) 8 rfl; exact Flow.run1 rfl (yes (eql rfl e8 rfl) (beq_iff_eq.2 hk)) (hK _ _ (Below.refl _ _) rfl)
  ·intro vs W4 hb4 hT
   have v0 := Flow.eqn (hT 0 (by decide))
   have v1 := Flow.eqn (hT 1 (by decide))
   have v2 := Flow.eqn (hT 2 (by decide))
   simp only [Flow.putsT, v0, v1, v2, Act.put, List.setIfInBounds_toArray, List.set_cons_zero, List.set_cons_succ]
   clear hT v0 v1 v2
   have HB4 := Aside0.mk (below_step HB3.out hb4)
   have Kg1_2_3_4 := Aside0.mk (blk_below Kg1_2_3.out hb4)
   have Kg2_3_4 := Aside0.mk (blk_below Kg2_3.out hb4)
   have Kg3_4 := Aside0.mk (blk_below Kg3.out hb4)
   clear hb4
   go_upto_region 2 with fail
   have HP0_5 : Has g1 56 [.int .i64 kind, .int .i64 cmd, .int .i64 n0, .int .i64 n1, .int .i64 n2, .slice A nb cb, .bool fua, .int .i64 0, .int .i64 0, .slice none 0 0] 0 W4 := ⟨_, Kg1_2_3_4.out, rfl, rfl⟩
   refine Flow.flowT (E := Ke g1 56 [.int .i64 kind, .int .i64 cmd, .int .i64 n0, .int .i64 n1, .int .i64 n2, .slice A nb cb, .bool fua, .int .i64 0, .int .i64 0, .slice none 0 0] w.heap.size) [(some 10, []), (some 11, [0]), (some 12, []), (some 13, [2]), (some 14, []), (some 15, [4]), (some 16, []), (some 17, [0, 1]), (some 18, [7, 0, 1]), (none, [8, 1, 0, 1]), (some 19, [0, 1, 2, 3, 7, 8, 9]), (some 20, [10, 0, 1, 2, 3, 7, 8, 9]), (none, [11, 3, 9, 0, 1, 2, 3, 7, 8, 9]), (some 21, [0, 1, 2, 3, 4, 5, 7, 8, 9, 10, 11, 12]), (some 22, [13, 0, 1, 2, 3, 4, 5, 7, 8, 9, 10, 11, 12]), (none, [14, 5, 12, 0, 1, 2, 3, 4, 5, 7, 8, 9, 10, 11, 12]), (some 23, [0, 1, 2, 3, 4, 5, 6, 7, 8, 9, 10, 11, 12, 13, 14, 15]), (some 24, [16, 0, 1, 2, 3, 4, 5, 6, 7, 8, 9, 10, 11, 12, 13, 14, 15]), (none, [17, 6, 15, 0, 1, 2, 3, 4, 5, 6, 7, 8, 9, 10, 11, 12, 13, 14, 15])] (fun iQ vQ wQ => match iQ with | 0 => vQ = (.pointer (some ⟨g2, 0, none⟩)) | 1 => vQ = (.int .i64 n0) | 2 => vQ = (.pointer (some ⟨g2, 1, none⟩)) | 3 => vQ = (.int .i64 n1) | 4 => vQ = (.pointer (some ⟨g2, 2, none⟩)) | 5 => vQ = (.int .i64 n2) | 6 => vQ = (.slice A nb cb) | 7 => vQ = (.pointer (some ⟨g1, 1, none⟩)) | 8 => vQ = (.pointer (some ⟨g1, 2, none⟩)) | 9 => Has g1 56 [.int .i64 kind, .int .i64 cmd, .int .i64 n0, .int .i64 n1, .int .i64 n2, .slice A nb cb, .bool fua, .int .i64 0, .int .i64 0, .slice none 0 0] 2 wQ | 10 => vQ = (.pointer (some ⟨g1, 1, none⟩)) | 11 => vQ = (.pointer (some ⟨g1, 3, none⟩)) | 12 => Has g1 56 [.int .i64 kind, .int .i64 cmd, .int .i64 n0, .int .i64 n1, .int .i64 n2, .slice A nb cb, .bool fua, .int .i64 0, .int .i64 0, .slice none 0 0] 3 wQ | 13 => vQ = (.pointer (some ⟨g1, 1, none⟩)) | 14 => vQ = (.pointer (some ⟨g1, 4, none⟩)) | 15 => Has g1 56 [.int .i64 kind, .int .i64 cmd, .int .i64 n0, .int .i64 n1, .int .i64 n2, .slice A nb cb, .bool fua, .int .i64 0, .int .i64 0, .slice none 0 0] 4 wQ | 16 => vQ = (.pointer (some ⟨g1, 1, none⟩)) | 17 => vQ = (.pointer (some ⟨g1, 5, none⟩)) | 18 => Has g1 56 [.int .i64 kind, .int .i64 cmd, .int .i64 n0, .int .i64 n1, .int .i64 n2, .slice A nb cb, .bool fua, .int .i64 0, .int .i64 0, .slice none 0 0] 5 wQ | _ => True) rfl (by kernel_rfl) (by kernel_rfl) (by kernel_rfl) Ke.drew (fun _ _ _ h k => h.trans k) (fun iQ vQ w1Q w2Q hQ hEQ => match iQ, hQ with | 0, hQ => hQ | 1, hQ => hQ | 2, hQ => hQ | 3, hQ => hQ | 4, hQ => hQ | 5, hQ => hQ | 6, hQ => hQ | 7, hQ => hQ | 8, hQ => hQ | 9, hQ => hQ.keep hEQ | 10, hQ => hQ | 11, hQ => hQ | 12, hQ => hQ.keep hEQ | 13, hQ => hQ | 14, hQ => hQ | 15, hQ => hQ.keep hEQ | 16, hQ => hQ | 17, hQ => hQ | 18, hQ => hQ.keep hEQ | _ + 19, _ => trivial) ?_ ?_
   ·refine ⟨?_, ?_, ?_, ?_, ?_, ?_, ?_, ?_, ?_, ?_, ?_, ?_, ?_, ?_, ?_, ?_, ?_, ?_, ?_, trivial⟩
    ·intro a w' hx hu hd K hK; have e4 : a.tmps.getD 4 undef = (.pointer (some ⟨g2, 0, none⟩)) := hu 4 rfl; exact Flow.run1 rfl (ixa (i := 0) arr104_u arr104_l arr104_e size3 rfl e4 rfl (by decide)) (hK _ _ Ke.refl rfl)
    ·intro a w' hx hu hd K hK; have e10 := Flow.got (hd 0 (by decide)) 10 rfl; exact Flow.run1 rfl (ld rfl e10 ((blk_cell (Ke.blk hx Ng1_g2.out Kg2_3_4.out) 0).trans rfl) Tryd.underlying3 rfl) (hK _ _ Ke.refl rfl)
    ·intro a w' hx hu hd K hK; have e4 : a.tmps.getD 4 undef = (.pointer (some ⟨g2, 0, none⟩)) := hu 4 rfl; exact Flow.run1 rfl (ixa (i := 1) arr104_u arr104_l arr104_e size3 rfl e4 rfl (by decide)) (hK _ _ Ke.refl rfl)
    ·intro a w' hx hu hd K hK; have e12 := Flow.got (hd 2 (by decide)) 12 rfl; exact Flow.run1 rfl (ld rfl e12 ((blk_cell (Ke.blk hx Ng1_g2.out Kg2_3_4.out) 1).trans rfl) Tryd.underlying3 rfl) (hK _ _ Ke.refl rfl)
    ·intro a w' hx hu hd K hK; have e4 : a.tmps.getD 4 undef = (.pointer (some ⟨g2, 0, none⟩)) := hu 4 rfl; exact Flow.run1 rfl (ixa (i := 2) arr104_u arr104_l arr104_e size3 rfl e4 rfl (by decide)) (hK _ _ Ke.refl rfl)
    ·intro a w' hx hu hd K hK; have e14 := Flow.got (hd 4 (by decide)) 14 rfl; exact Flow.run1 rfl (ld rfl e14 ((blk_cell (Ke.blk hx Ng1_g2.out Kg2_3_4.out) 2).trans rfl) Tryd.underlying3 rfl) (hK _ _ Ke.refl rfl)
    ·intro a w' hx hu hd K hK; have e2 : a.tmps.getD 2 undef = (.slice A nb cb) := hu 2 rfl; exact Flow.run1 rfl (Flow.r_move rfl e2) (hK _ _ Ke.refl rfl)
    ·intro a w' hx hu hd K hK; have e3 : a.tmps.getD 3 undef = (.pointer (some ⟨g1, 0, none⟩)) := hu 3 rfl; exact Flow.run1 rfl (fa rfl e3 (fa56_1 _ _ _)) (hK _ _ Ke.refl rfl)
    ·intro a w' hx hu hd K hK; have e17 := Flow.got (hd 7 (by decide)) 17 rfl; exact Flow.run1 rfl (fa rfl e17 (fa54_1 _ _ _)) (hK _ _ Ke.refl rfl)
    ·intro a w' hx hu hd K hK; have e18 := Flow.got (hd 8 (by decide)) 18 rfl; have e11 := Flow.got (hd 1 (by decide)) 11 rfl; refine Flow.want rfl ?_; obtain ⟨csQ, kQ, sQ⟩ := (HP0_5.keep hx).lt; obtain ⟨h1Q, h2Q⟩ := (HP0_5.keep hx).put (p := 2) (x := (.int .i64 n0)) rfl Gg1.out; exact Flow.skip_run (store1 (v := (.int .i64 n0)) rfl e18 e11 rfl size3 kQ (by rw [sQ]; exact (show 2 < 10 by decide))) (hK _ _ h1Q h2Q)
    ·intro a w' hx hu hd K hK; have e3 : a.tmps.getD 3 undef = (.pointer (some ⟨g1, 0, none⟩)) := hu 3 rfl; exact Flow.run1 rfl (fa rfl e3 (fa56_1 _ _ _)) (hK _ _ Ke.refl rfl)
    ·intro a w' hx hu hd K hK; have e19 := Flow.got (hd 10 (by decide)) 19 rfl; exact Flow.run1 rfl (fa rfl e19 (fa54_2 _ _ _)) (hK _ _ Ke.refl rfl)
    ·intro a w' hx hu hd K hK; have e20 := Flow.got (hd 11 (by decide)) 20 rfl; have e13 := Flow.got (hd 3 (by decide)) 13 rfl; refine Flow.want rfl ?_; obtain ⟨csQ, kQ, sQ⟩ := (HP0_5.keep hx).lt; obtain ⟨h1Q, h2Q⟩ := (HP0_5.keep hx).put (p := 3) (x := (.int .i64 n1)) rfl Gg1.out; exact Flow.skip_run (store1 (v := (.int .i64 n1)) rfl e20 e13 rfl size3 kQ (by rw [sQ]; exact (show 3 < 10 by decide))) (hK _ _ h1Q h2Q)
    ·intro a w' hx hu hd K hK; have e3 : a.tmps.getD 3 undef = (.pointer (some ⟨g1, 0, none⟩)) := hu 3 rfl; exact Flow.run1 rfl (fa rfl e3 (fa56_1 _ _ _)) (hK _ _ Ke.refl rfl)
    ·intro a w' hx hu hd K hK; have e21 := Flow.got (hd 13 (by decide)) 21 rfl; exact Flow.run1 rfl (fa rfl e21 (fa54_3 _ _ _)) (hK _ _ Ke.refl rfl)
    ·intro a w' hx hu hd K hK; have e22 := Flow.got (hd 14 (by decide)) 22 rfl; have e15 := Flow.got (hd 5 (by decide)) 15 rfl; refine Flow.want rfl ?_; obtain ⟨csQ, kQ, sQ⟩ := (HP0_5.keep hx).lt; obtain ⟨h1Q, h2Q⟩ := (HP0_5.keep hx).put (p := 4) (x := (.int .i64 n2)) rfl Gg1.out; exact Flow.skip_run (store1 (v := (.int .i64 n2)) rfl e22 e15 rfl size3 kQ (by rw [sQ]; exact (show 4 < 10 by decide))) (hK _ _ h1Q h2Q)
    ·intro a w' hx hu hd K hK; have e3 : a.tmps.getD 3 undef = (.pointer (some ⟨g1, 0, none⟩)) := hu 3 rfl; exact Flow.run1 rfl (fa rfl e3 (fa56_1 _ _ _)) (hK _ _ Ke.refl rfl)
    ·intro a w' hx hu hd K hK; have e23 := Flow.got (hd 16 (by decide)) 23 rfl; exact Flow.run1 rfl (fa rfl e23 (fa54_4 _ _ _)) (hK _ _ Ke.refl rfl)
    ·intro a w' hx hu hd K hK; have e24 := Flow.got (hd 17 (by decide)) 24 rfl; have e16 := Flow.got (hd 6 (by decide)) 16 rfl; refine Flow.want rfl ?_; obtain ⟨csQ, kQ, sQ⟩ := (HP0_5.keep hx).lt; obtain ⟨h1Q, h2Q⟩ := (HP0_5.keep hx).put (p := 5) (x := (.slice A nb cb)) rfl Gg1.out; exact Flow.skip_run (store1 (v := (.slice A nb cb)) rfl e24 e16 rfl size43 kQ (by rw [sQ]; exact (show 5 < 10 by decide))) (hK _ _ h1Q h2Q)
   ·intro vs W5 hb5 hT
    have hk5 : W5.heap[g1]? = some (.cells ([.int .i64 kind, .int .i64 cmd, .int .i64 n0, .int .i64 n1, .int .i64 n2, .slice A nb cb, .bool fua, .int .i64 0, .int .i64 0, .slice none 0 0] : List Value).toArray 56 (0, 0)) := has_all (show 0 < 10 by decide) (fun p hp => by
     match p, hp with
     | 0, _ => exact Has.keep (has_of Kg1_2_3_4.out rfl 0 rfl) hb5
     | 1, _ => exact Has.keep (has_of Kg1_2_3_4.out rfl 1 rfl) hb5
     | 2, _ => exact hT 9 (by decide)
     | 3, _ => exact hT 12 (by decide)
     | 4, _ => exact hT 15 (by decide)
     | 5, _ => exact hT 18 (by decide)
     | 6, _ => exact Has.keep (has_of Kg1_2_3_4.out rfl 6 rfl) hb5
     | 7, _ => exact Has.keep (has_of Kg1_2_3_4.out rfl 7 rfl) hb5
     | 8, _ => exact Has.keep (has_of Kg1_2_3_4.out rfl 8 rfl) hb5
     | 9, _ => exact Has.keep (has_of Kg1_2_3_4.out rfl 9 rfl) hb5
     | p + 10, hp => exact absurd hp (by simp))
    have v0 := Flow.eqn (hT 0 (by decide))
    have v1 := Flow.eqn (hT 1 (by decide))
    have v2 := Flow.eqn (hT 2 (by decide))
    have v3 := Flow.eqn (hT 3 (by decide))
    have v4 := Flow.eqn (hT 4 (by decide))
    have v5 := Flow.eqn (hT 5 (by decide))
    have v6 := Flow.eqn (hT 6 (by decide))
    have v7 := Flow.eqn (hT 7 (by decide))
    have v8 := Flow.eqn (hT 8 (by decide))
    have v10 := Flow.eqn (hT 10 (by decide))
    have v11 := Flow.eqn (hT 11 (by decide))
    have v13 := Flow.eqn (hT 13 (by decide))
    have v14 := Flow.eqn (hT 14 (by decide))
    have v16 := Flow.eqn (hT 16 (by decide))
    have v17 := Flow.eqn (hT 17 (by decide))
    simp only [Flow.putsT, v0, v1, v2, v3, v4, v5, v6, v7, v8, v10, v11, v13, v14, v16, v17, Act.put, List.setIfInBounds_toArray, List.set_cons_zero, List.set_cons_succ]
    clear hT v0 v1 v2 v3 v4 v5 v6 v7 v8 v10 v11 v13 v14 v16 v17
    have HB5 := Aside0.mk (HB4.out.trans hb5.1)
    have Kg1_5 := Aside0.mk hk5
    have Kg2_3_4_5 := Aside0.mk (Ke.blk hb5 Ng1_g2.out Kg2_3_4.out)
    have Kg3_4_5 := Aside0.mk (Ke.blk hb5 Ng1_g3.out Kg3_4.out)
    clear hb5 hk5
    go_upto_region 3 with fail
    refine Flow.seqT_head (E := fun u v => Below u.heap.size u v) 1 [(some 25, []), (none, [0, 0])] (fun iQ vQ wQ => match iQ with | 0 => vQ = (.agg #[.int .i64 kind, .int .i64 cmd, .int .i64 n0, .int .i64 n1, .int .i64 n2, .slice A nb cb, .bool fua, .int .i64 0, .int .i64 0, .slice none 0 0]) | _ => True) rfl (by decide) (by kernel_rfl) (Below.refl _ _) (fun _ _ _ h k => h.trans (k.mono h.size)) (fun _ _ _ _ h _ => h) ?_ ?_
    ·refine ⟨?_, trivial⟩
     ·intro a w' hx hu hd K hK; have e3 : a.tmps.getD 3 undef = (.pointer (some ⟨g1, 0, none⟩)) := hu 3 rfl; exact Flow.run1 rfl (ldrow rfl e3 (lies_block (blk_below Kg1_5.out hx)) Tryd.underlying56 rfl size56) (hK _ _ (Below.refl _ _) rfl)
    ·intro vs W6 hb6 hT
     have v0 := Flow.eqn (hT 0 (by decide))
     simp only [Flow.putsT, v0, Act.put, List.setIfInBounds_toArray, List.set_cons_zero, List.set_cons_succ, List.drop_succ_cons, List.drop_zero, List.take_succ_cons, List.take_zero]
     clear hT v0
     have HB6 := Aside0.mk (below_step HB5.out hb6)
     have Kg1_5_6 := Aside0.mk (blk_below Kg1_5.out hb6)
     have Kg2_3_4_5_6 := Aside0.mk (blk_below Kg2_3_4_5.out hb6)
     have Kg3_4_5_6 := Aside0.mk (blk_below Kg3_4_5.out hb6)
     clear hb6
     refine Cells.store_whole rfl rfl 56 _ _ rfl g3 [.int .i64 kind, .int .i64 cmd, .int .i64 n0, .int .i64 n1, .int .i64 n2, .slice A nb cb, .bool fua, .int .i64 0, .int .i64 0, .slice none 0 0] #[.int .i64 0, .int .i64 0, .int .i64 0, .int .i64 0, .int .i64 0, .slice none 0 0, .bool false, .int .i64 0, .int .i64 0, .slice none 0 0] rfl rfl Kg3_4_5_6.out rfl size56 rfl ?_
     intro W7 hk7 hf7 hb7
     have HB7 := Aside0.mk (HB6.out.trans (hb7 _ Gg3.out))
     have Kg1_5_6_7 := Aside0.mk ((hf7 _ Ng3_g1.out).trans Kg1_5_6.out)
     have Kg2_3_4_5_6_7 := Aside0.mk ((hf7 _ Ng3_g2.out).trans Kg2_3_4_5_6.out)
     have Kg3_7 := Aside0.mk hk7
     clear hk7 hf7 hb7
     have HFC : fillC kind cmd fua n0 n1 n2 (.slice A nb cb) = [.int .i64 kind, .int .i64 cmd, .int .i64 n0, .int .i64 n1, .int .i64 n2, .slice A nb cb, .bool fua, .int .i64 0, .int .i64 0, .slice none 0 0] := by unfold fillC; rw [if_pos hk]
     go_wp2_with fail
     exact bodyPost_ret (results_cell_row Tryd.results53 _ _ g3 56 _ _ _ rfl Kg3_7.out Tryd.underlying56 rfl size56) rfl ⟨by rw [HFC], HB7.out⟩
 ·have hk1 := hk
  go_upto_region 1 with fail
  refine Flow.seqT (E := fun u v => Below u.heap.size u v) [(some 7, []), (some 8, [0]), (some 9, [1])] (fun iQ vQ wQ => match iQ with | 0 => vQ = (.pointer (some ⟨g1, 0, none⟩)) | 1 => vQ = (.int .i64 kind) | 2 => vQ = (.bool false) | _ => True) rfl (by kernel_rfl) (Below.refl _ _) (fun _ _ _ h k => h.trans (k.mono h.size)) (fun _ _ _ _ h _ => h) ?_ ?_
  ·refine ⟨?_, ?_, ?_, trivial⟩
   ·intro a w' hx hu hd K hK; have e3 : a.tmps.getD 3 undef = (.pointer (some ⟨g1, 0, none⟩)) := hu 3 rfl; exact Flow.run1 rfl (fa rfl e3 (fa56_0 _ _ _)) (hK _ _ (Below.refl _ _) rfl)
   ·intro a w' hx hu hd K hK; have e7 := Flow.got (hd 0 rfl) 7 rfl; exact Flow.run1 rfl (ld rfl e7 ((blk_cell (blk_below Kg1_2_3.out hx) 0).trans rfl) Tryd.underlying3 rfl) (hK _ _ (Below.refl _ _) rfl)
   ·intro a w' hx hu hd K hK; have e8 := Flow.got (hd 1 rfl) 8 rfl; exact Flow.run1 rfl (no (eql rfl e8 rfl) (beq_eq_false_iff_ne.2 hk)) (hK _ _ (Below.refl _ _) rfl)
  ·intro vs W8 hb8 hT
   have v0 := Flow.eqn (hT 0 (by decide))
   have v1 := Flow.eqn (hT 1 (by decide))
   have v2 := Flow.eqn (hT 2 (by decide))
   simp only [Flow.putsT, v0, v1, v2, Act.put, List.setIfInBounds_toArray, List.set_cons_zero, List.set_cons_succ]
   clear hT v0 v1 v2
   have HB8 := Aside0.mk (below_step HB3.out hb8)
   have Kg1_2_3_8 := Aside0.mk (blk_below Kg1_2_3.out hb8)
   have Kg2_3_8 := Aside0.mk (blk_below Kg2_3.out hb8)
   have Kg3_8 := Aside0.mk (blk_below Kg3.out hb8)
   clear hb8
   go_upto_region 4 with fail
   refine Flow.seqT_head (E := fun u v => Below u.heap.size u v) 2 [(some 26, []), (some 27, [0]), (none, [1, 0, 0])] (fun iQ vQ wQ => match iQ with | 0 => vQ = (.slice A nb cb) | 1 => vQ = (.pointer (some ⟨g1, 9, none⟩)) | _ => True) rfl (by decide) (by kernel_rfl) (Below.refl _ _) (fun _ _ _ h k => h.trans (k.mono h.size)) (fun _ _ _ _ h _ => h) ?_ ?_
   ·refine ⟨?_, ?_, trivial⟩
    ·intro a w' hx hu hd K hK; have e2 : a.tmps.getD 2 undef = (.slice A nb cb) := hu 2 rfl; exact Flow.run1 rfl (Flow.r_move rfl e2) (hK _ _ (Below.refl _ _) rfl)
    ·intro a w' hx hu hd K hK; have e3 : a.tmps.getD 3 undef = (.pointer (some ⟨g1, 0, none⟩)) := hu 3 rfl; exact Flow.run1 rfl (fa rfl e3 (fa56_4 _ _ _)) (hK _ _ (Below.refl _ _) rfl)
   ·intro vs W9 hb9 hT
    have v0 := Flow.eqn (hT 0 (by decide))
    have v1 := Flow.eqn (hT 1 (by decide))
    simp only [Flow.putsT, v0, v1, Act.put, List.setIfInBounds_toArray, List.set_cons_zero, List.set_cons_succ, List.drop_succ_cons, List.drop_zero, List.take_succ_cons, List.take_zero]
    clear hT v0 v1
    have HB9 := Aside0.mk (below_step HB8.out hb9)
    have Kg1_2_3_8_9 := Aside0.mk (blk_below Kg1_2_3_8.out hb9)
    have Kg2_3_8_9 := Aside0.mk (blk_below Kg2_3_8.out hb9)
    have Kg3_8_9 := Aside0.mk (blk_below Kg3_8.out hb9)
    clear hb9
    refine put_event rfl rfl 43 _ _ rfl g1 (9) (.slice A nb cb) #[.int .i64 kind, .int .i64 cmd, .int .i64 0, .int .i64 0, .int .i64 0, .slice none 0 0, .bool fua, .int .i64 0, .int .i64 0, .slice none 0 0] #[.int .i64 kind, .int .i64 cmd, .int .i64 0, .int .i64 0, .int .i64 0, .slice none 0 0, .bool fua, .int .i64 0, .int .i64 0, .slice A nb cb] rfl rfl rfl size43 Kg1_2_3_8_9.out (show 9 < 10 by decide) rfl ?_
    intro W10 hk10 hf10 hb10
    have HB10 := Aside0.mk (HB9.out.trans (hb10 _ Gg1.out))
    have Kg1_10 := Aside0.mk hk10
    have Kg2_3_8_9_10 := Aside0.mk ((hf10 _ Ng1_g2.out).trans Kg2_3_8_9.out)
    have Kg3_8_9_10 := Aside0.mk ((hf10 _ Ng1_g3.out).trans Kg3_8_9.out)
    clear hk10 hf10 hb10
    by_cases hk2 : kind = 1
    ·have hk3 := hk2
     go_upto_region 5 with fail
     refine Flow.seqT (E := fun u v => Below u.heap.size u v) [(some 28, []), (some 29, [0]), (some 30, [1])] (fun iQ vQ wQ => match iQ with | 0 => vQ = (.pointer (some ⟨g1, 0, none⟩)) | 1 => vQ = (.int .i64 kind) | 2 => vQ = (.bool true) | _ => True) rfl (by kernel_rfl) (Below.refl _ _) (fun _ _ _ h k => h.trans (k.mono h.size)) (fun _ _ _ _ h _ => h) ?_ ?_
     ·refine ⟨?_, ?_, ?_, trivial⟩
      ·intro a w' hx hu hd K hK; have e3 : a.tmps.getD 3 undef = (.pointer (some ⟨g1, 0, none⟩)) := hu 3 rfl; exact Flow.run1 rfl (fa rfl e3 (fa56_0 _ _ _)) (hK _ _ (Below.refl _ _) rfl)
      ·intro a w' hx hu hd K hK; have e28 := Flow.got (hd 0 rfl) 28 rfl; exact Flow.run1 rfl (ld rfl e28 ((blk_cell (blk_below Kg1_10.out hx) 0).trans rfl) Tryd.underlying3 rfl) (hK _ _ (Below.refl _ _) rfl)
      ·intro a w' hx hu hd K hK; have e29 := Flow.got (hd 1 rfl) 29 rfl; exact Flow.run1 rfl (yes (eql rfl e29 rfl) (beq_iff_eq.2 hk2)) (hK _ _ (Below.refl _ _) rfl)
     ·intro vs W11 hb11 hT
      have v0 := Flow.eqn (hT 0 (by decide))
      have v1 := Flow.eqn (hT 1 (by decide))
      have v2 := Flow.eqn (hT 2 (by decide))
      simp only [Flow.putsT, v0, v1, v2, Act.put, List.setIfInBounds_toArray, List.set_cons_zero, List.set_cons_succ]
      clear hT v0 v1 v2
      have HB11 := Aside0.mk (below_step HB10.out hb11)
      have Kg1_10_11 := Aside0.mk (blk_below Kg1_10.out hb11)
      have Kg2_3_8_9_10_11 := Aside0.mk (blk_below Kg2_3_8_9_10.out hb11)
      have Kg3_8_9_10_11 := Aside0.mk (blk_below Kg3_8_9_10.out hb11)
      clear hb11
      go_upto_region 6 with fail
      refine Flow.seqT_head (E := fun u v => Below u.heap.size u v) 3 [(some 31, []), (some 32, [0]), (some 33, [0, 1]), (none, [2, 1, 0, 1])] (fun iQ vQ wQ => match iQ with | 0 => vQ = (.pointer (some ⟨g2, 0, none⟩)) | 1 => vQ = (.int .i64 n0) | 2 => vQ = (.pointer (some ⟨g1, 8, none⟩)) | _ => True) rfl (by decide) (by kernel_rfl) (Below.refl _ _) (fun _ _ _ h k => h.trans (k.mono h.size)) (fun _ _ _ _ h _ => h) ?_ ?_
      ·refine ⟨?_, ?_, ?_, trivial⟩
       ·intro a w' hx hu hd K hK; have e4 : a.tmps.getD 4 undef = (.pointer (some ⟨g2, 0, none⟩)) := hu 4 rfl; exact Flow.run1 rfl (ixa (i := 0) arr104_u arr104_l arr104_e size3 rfl e4 rfl (by decide)) (hK _ _ (Below.refl _ _) rfl)
       ·intro a w' hx hu hd K hK; have e31 := Flow.got (hd 0 rfl) 31 rfl; exact Flow.run1 rfl (ld rfl e31 ((blk_cell (blk_below Kg2_3_8_9_10_11.out hx) 0).trans rfl) Tryd.underlying3 rfl) (hK _ _ (Below.refl _ _) rfl)
       ·intro a w' hx hu hd K hK; have e3 : a.tmps.getD 3 undef = (.pointer (some ⟨g1, 0, none⟩)) := hu 3 rfl; exact Flow.run1 rfl (fa rfl e3 (fa56_3 _ _ _)) (hK _ _ (Below.refl _ _) rfl)
      ·intro vs W12 hb12 hT
       have v0 := Flow.eqn (hT 0 (by decide))
       have v1 := Flow.eqn (hT 1 (by decide))
       have v2 := Flow.eqn (hT 2 (by decide))
       simp only [Flow.putsT, v0, v1, v2, Act.put, List.setIfInBounds_toArray, List.set_cons_zero, List.set_cons_succ, List.drop_succ_cons, List.drop_zero, List.take_succ_cons, List.take_zero]
       clear hT v0 v1 v2
       have HB12 := Aside0.mk (below_step HB11.out hb12)
       have Kg1_10_11_12 := Aside0.mk (blk_below Kg1_10_11.out hb12)
       have Kg2_3_8_9_10_11_12 := Aside0.mk (blk_below Kg2_3_8_9_10_11.out hb12)
       have Kg3_8_9_10_11_12 := Aside0.mk (blk_below Kg3_8_9_10_11.out hb12)
       clear hb12
       refine put_event rfl rfl 3 _ _ rfl g1 (8) (.int .i64 n0) #[.int .i64 kind, .int .i64 cmd, .int .i64 0, .int .i64 0, .int .i64 0, .slice none 0 0, .bool fua, .int .i64 0, .int .i64 0, .slice A nb cb] #[.int .i64 kind, .int .i64 cmd, .int .i64 0, .int .i64 0, .int .i64 0, .slice none 0 0, .bool fua, .int .i64 0, .int .i64 n0, .slice A nb cb] rfl rfl rfl size3 Kg1_10_11_12.out (show 8 < 10 by decide) rfl ?_
       intro W13 hk13 hf13 hb13
       have HB13 := Aside0.mk (HB12.out.trans (hb13 _ Gg1.out))
       have Kg1_13 := Aside0.mk hk13
       have Kg2_3_8_9_10_11_12_13 := Aside0.mk ((hf13 _ Ng1_g2.out).trans Kg2_3_8_9_10_11_12.out)
       have Kg3_8_9_10_11_12_13 := Aside0.mk ((hf13 _ Ng1_g3.out).trans Kg3_8_9_10_11_12.out)
       clear hk13 hf13 hb13
       go_upto_region 7 with fail
       refine Flow.seqT_head (E := fun u v => Below u.heap.size u v) 1 [(some 34, []), (none, [0, 0])] (fun iQ vQ wQ => match iQ with | 0 => vQ = (.agg #[.int .i64 kind, .int .i64 cmd, .int .i64 0, .int .i64 0, .int .i64 0, .slice none 0 0, .bool fua, .int .i64 0, .int .i64 n0, .slice A nb cb]) | _ => True) rfl (by decide) (by kernel_rfl) (Below.refl _ _) (fun _ _ _ h k => h.trans (k.mono h.size)) (fun _ _ _ _ h _ => h) ?_ ?_
       ·refine ⟨?_, trivial⟩
        ·intro a w' hx hu hd K hK; have e3 : a.tmps.getD 3 undef = (.pointer (some ⟨g1, 0, none⟩)) := hu 3 rfl; exact Flow.run1 rfl (ldrow rfl e3 (lies_block (blk_below Kg1_13.out hx)) Tryd.underlying56 rfl size56) (hK _ _ (Below.refl _ _) rfl)
       ·intro vs W14 hb14 hT
        have v0 := Flow.eqn (hT 0 (by decide))
        simp only [Flow.putsT, v0, Act.put, List.setIfInBounds_toArray, List.set_cons_zero, List.set_cons_succ, List.drop_succ_cons, List.drop_zero, List.take_succ_cons, List.take_zero]
        clear hT v0
        have HB14 := Aside0.mk (below_step HB13.out hb14)
        have Kg1_13_14 := Aside0.mk (blk_below Kg1_13.out hb14)
        have Kg2_3_8_9_10_11_12_13_14 := Aside0.mk (blk_below Kg2_3_8_9_10_11_12_13.out hb14)
        have Kg3_8_9_10_11_12_13_14 := Aside0.mk (blk_below Kg3_8_9_10_11_12_13.out hb14)
        clear hb14
        refine Cells.store_whole rfl rfl 56 _ _ rfl g3 [.int .i64 kind, .int .i64 cmd, .int .i64 0, .int .i64 0, .int .i64 0, .slice none 0 0, .bool fua, .int .i64 0, .int .i64 n0, .slice A nb cb] #[.int .i64 0, .int .i64 0, .int .i64 0, .int .i64 0, .int .i64 0, .slice none 0 0, .bool false, .int .i64 0, .int .i64 0, .slice none 0 0] rfl rfl Kg3_8_9_10_11_12_13_14.out rfl size56 rfl ?_
        intro W15 hk15 hf15 hb15
        have HB15 := Aside0.mk (HB14.out.trans (hb15 _ Gg3.out))
        have Kg1_13_14_15 := Aside0.mk ((hf15 _ Ng3_g1.out).trans Kg1_13_14.out)
        have Kg2_3_8_9_10_11_12_13_14_15 := Aside0.mk ((hf15 _ Ng3_g2.out).trans Kg2_3_8_9_10_11_12_13_14.out)
        have Kg3_15 := Aside0.mk hk15
        clear hk15 hf15 hb15
        have HFC : fillC kind cmd fua n0 n1 n2 (.slice A nb cb) = [.int .i64 kind, .int .i64 cmd, .int .i64 0, .int .i64 0, .int .i64 0, .slice none 0 0, .bool fua, .int .i64 0, .int .i64 n0, .slice A nb cb] := by unfold fillC; rw [if_neg hk, if_pos hk2]
        go_wp2_with fail
        exact bodyPost_ret (results_cell_row Tryd.results53 _ _ g3 56 _ _ _ rfl Kg3_15.out Tryd.underlying56 rfl size56) rfl ⟨by rw [HFC], HB15.out⟩
    ·have hk3 := hk2
     go_upto_region 5 with fail
     refine Flow.seqT (E := fun u v => Below u.heap.size u v) [(some 28, []), (some 29, [0]), (some 30, [1])] (fun iQ vQ wQ => match iQ with | 0 => vQ = (.pointer (some ⟨g1, 0, none⟩)) | 1 => vQ = (.int .i64 kind) | 2 => vQ = (.bool false) | _ => True) rfl (by kernel_rfl) (Below.refl _ _) (fun _ _ _ h k => h.trans (k.mono h.size)) (fun _ _ _ _ h _ => h) ?_ ?_
     ·refine ⟨?_, ?_, ?_, trivial⟩
      ·intro a w' hx hu hd K hK; have e3 : a.tmps.getD 3 undef = (.pointer (some ⟨g1, 0, none⟩)) := hu 3 rfl; exact Flow.run1 rfl (fa rfl e3 (fa56_0 _ _ _)) (hK _ _ (Below.refl _ _) rfl)
      ·intro a w' hx hu hd K hK; have e28 := Flow.got (hd 0 rfl) 28 rfl; exact Flow.run1 rfl (ld rfl e28 ((blk_cell (blk_below Kg1_10.out hx) 0).trans rfl) Tryd.underlying3 rfl) (hK _ _ (Below.refl _ _) rfl)
      ·intro a w' hx hu hd K hK; have e29 := Flow.got (hd 1 rfl) 29 rfl; exact Flow.run1 rfl (no (eql rfl e29 rfl) (beq_eq_false_iff_ne.2 hk2)) (hK _ _ (Below.refl _ _) rfl)
     ·intro vs W16 hb16 hT
      have v0 := Flow.eqn (hT 0 (by decide))
      have v1 := Flow.eqn (hT 1 (by decide))
      have v2 := Flow.eqn (hT 2 (by decide))
      simp only [Flow.putsT, v0, v1, v2, Act.put, List.setIfInBounds_toArray, List.set_cons_zero, List.set_cons_succ]
      clear hT v0 v1 v2
      have HB16 := Aside0.mk (below_step HB10.out hb16)
      have Kg1_10_16 := Aside0.mk (blk_below Kg1_10.out hb16)
      have Kg2_3_8_9_10_16 := Aside0.mk (blk_below Kg2_3_8_9_10.out hb16)
      have Kg3_8_9_10_16 := Aside0.mk (blk_below Kg3_8_9_10.out hb16)
      clear hb16
      go_upto_region 8 with fail
      have HP0_17 : Has g1 56 [.int .i64 kind, .int .i64 cmd, .int .i64 0, .int .i64 0, .int .i64 0, .slice none 0 0, .bool fua, .int .i64 n0, .int .i64 n1, .slice A nb cb] 0 W16 := ⟨_, Kg1_10_16.out, rfl, rfl⟩
      refine Flow.flowT (E := Ke g1 56 [.int .i64 kind, .int .i64 cmd, .int .i64 0, .int .i64 0, .int .i64 0, .slice none 0 0, .bool fua, .int .i64 n0, .int .i64 n1, .slice A nb cb] w.heap.size) [(some 35, []), (some 36, [0]), (some 37, []), (some 38, [2]), (some 39, [0, 1]), (none, [4, 1, 0, 1]), (some 40, [0, 1, 2, 3, 4, 5]), (none, [6, 3, 5, 0, 1, 2, 3, 4, 5])] (fun iQ vQ wQ => match iQ with | 0 => vQ = (.pointer (some ⟨g2, 0, none⟩)) | 1 => vQ = (.int .i64 n0) | 2 => vQ = (.pointer (some ⟨g2, 1, none⟩)) | 3 => vQ = (.int .i64 n1) | 4 => vQ = (.pointer (some ⟨g1, 7, none⟩)) | 5 => Has g1 56 [.int .i64 kind, .int .i64 cmd, .int .i64 0, .int .i64 0, .int .i64 0, .slice none 0 0, .bool fua, .int .i64 n0, .int .i64 n1, .slice A nb cb] 7 wQ | 6 => vQ = (.pointer (some ⟨g1, 8, none⟩)) | 7 => Has g1 56 [.int .i64 kind, .int .i64 cmd, .int .i64 0, .int .i64 0, .int .i64 0, .slice none 0 0, .bool fua, .int .i64 n0, .int .i64 n1, .slice A nb cb] 8 wQ | _ => True) rfl (by kernel_rfl) (by kernel_rfl) (by kernel_rfl) Ke.drew (fun _ _ _ h k => h.trans k) (fun iQ vQ w1Q w2Q hQ hEQ => match iQ, hQ with | 0, hQ => hQ | 1, hQ => hQ | 2, hQ => hQ | 3, hQ => hQ | 4, hQ => hQ | 5, hQ => hQ.keep hEQ | 6, hQ => hQ | 7, hQ => hQ.keep hEQ | _ + 8, _ => trivial) ?_ ?_
      ·refine ⟨?_, ?_, ?_, ?_, ?_, ?_, ?_, ?_, trivial⟩
       ·intro a w' hx hu hd K hK; have e4 : a.tmps.getD 4 undef = (.pointer (some ⟨g2, 0, none⟩)) := hu 4 rfl; exact Flow.run1 rfl (ixa (i := 0) arr104_u arr104_l arr104_e size3 rfl e4 rfl (by decide)) (hK _ _ Ke.refl rfl)
       ·intro a w' hx hu hd K hK; have e35 := Flow.got (hd 0 (by decide)) 35 rfl; exact Flow.run1 rfl (ld rfl e35 ((blk_cell (Ke.blk hx Ng1_g2.out Kg2_3_8_9_10_16.out) 0).trans rfl) Tryd.underlying3 rfl) (hK _ _ Ke.refl rfl)
       ·intro a w' hx hu hd K hK; have e4 : a.tmps.getD 4 undef = (.pointer (some ⟨g2, 0, none⟩)) := hu 4 rfl; exact Flow.run1 rfl (ixa (i := 1) arr104_u arr104_l arr104_e size3 rfl e4 rfl (by decide)) (hK _ _ Ke.refl rfl)
       ·intro a w' hx hu hd K hK; have e37 := Flow.got (hd 2 (by decide)) 37 rfl; exact Flow.run1 rfl (ld rfl e37 ((blk_cell (Ke.blk hx Ng1_g2.out Kg2_3_8_9_10_16.out) 1).trans rfl) Tryd.underlying3 rfl) (hK _ _ Ke.refl rfl)
       ·intro a w' hx hu hd K hK; have e3 : a.tmps.getD 3 undef = (.pointer (some ⟨g1, 0, none⟩)) := hu 3 rfl; exact Flow.run1 rfl (fa rfl e3 (fa56_2 _ _ _)) (hK _ _ Ke.refl rfl)
       ·intro a w' hx hu hd K hK; have e39 := Flow.got (hd 4 (by decide)) 39 rfl; have e36 := Flow.got (hd 1 (by decide)) 36 rfl; refine Flow.want rfl ?_; obtain ⟨csQ, kQ, sQ⟩ := (HP0_17.keep hx).lt; obtain ⟨h1Q, h2Q⟩ := (HP0_17.keep hx).put (p := 7) (x := (.int .i64 n0)) rfl Gg1.out; exact Flow.skip_run (store1 (v := (.int .i64 n0)) rfl e39 e36 rfl size3 kQ (by rw [sQ]; exact (show 7 < 10 by decide))) (hK _ _ h1Q h2Q)
       ·intro a w' hx hu hd K hK; have e3 : a.tmps.getD 3 undef = (.pointer (some ⟨g1, 0, none⟩)) := hu 3 rfl; exact Flow.run1 rfl (fa rfl e3 (fa56_3 _ _ _)) (hK _ _ Ke.refl rfl)
       ·intro a w' hx hu hd K hK; have e40 := Flow.got (hd 6 (by decide)) 40 rfl; have e38 := Flow.got (hd 3 (by decide)) 38 rfl; refine Flow.want rfl ?_; obtain ⟨csQ, kQ, sQ⟩ := (HP0_17.keep hx).lt; obtain ⟨h1Q, h2Q⟩ := (HP0_17.keep hx).put (p := 8) (x := (.int .i64 n1)) rfl Gg1.out; exact Flow.skip_run (store1 (v := (.int .i64 n1)) rfl e40 e38 rfl size3 kQ (by rw [sQ]; exact (show 8 < 10 by decide))) (hK _ _ h1Q h2Q)
      ·intro vs W17 hb17 hT
       have hk17 : W17.heap[g1]? = some (.cells ([.int .i64 kind, .int .i64 cmd, .int .i64 0, .int .i64 0, .int .i64 0, .slice none 0 0, .bool fua, .int .i64 n0, .int .i64 n1, .slice A nb cb] : List Value).toArray 56 (0, 0)) := has_all (show 0 < 10 by decide) (fun p hp => by
        match p, hp with
        | 0, _ => exact Has.keep (has_of Kg1_10_16.out rfl 0 rfl) hb17
        | 1, _ => exact Has.keep (has_of Kg1_10_16.out rfl 1 rfl) hb17
        | 2, _ => exact Has.keep (has_of Kg1_10_16.out rfl 2 rfl) hb17
        | 3, _ => exact Has.keep (has_of Kg1_10_16.out rfl 3 rfl) hb17
        | 4, _ => exact Has.keep (has_of Kg1_10_16.out rfl 4 rfl) hb17
        | 5, _ => exact Has.keep (has_of Kg1_10_16.out rfl 5 rfl) hb17
        | 6, _ => exact Has.keep (has_of Kg1_10_16.out rfl 6 rfl) hb17
        | 7, _ => exact hT 5 (by decide)
        | 8, _ => exact hT 7 (by decide)
        | 9, _ => exact Has.keep (has_of Kg1_10_16.out rfl 9 rfl) hb17
        | p + 10, hp => exact absurd hp (by simp))
       have v0 := Flow.eqn (hT 0 (by decide))
       have v1 := Flow.eqn (hT 1 (by decide))
       have v2 := Flow.eqn (hT 2 (by decide))
       have v3 := Flow.eqn (hT 3 (by decide))
       have v4 := Flow.eqn (hT 4 (by decide))
       have v6 := Flow.eqn (hT 6 (by decide))
       simp only [Flow.putsT, v0, v1, v2, v3, v4, v6, Act.put, List.setIfInBounds_toArray, List.set_cons_zero, List.set_cons_succ]
       clear hT v0 v1 v2 v3 v4 v6
       have HB17 := Aside0.mk (HB16.out.trans hb17.1)
       have Kg1_17 := Aside0.mk hk17
       have Kg2_3_8_9_10_16_17 := Aside0.mk (Ke.blk hb17 Ng1_g2.out Kg2_3_8_9_10_16.out)
       have Kg3_8_9_10_16_17 := Aside0.mk (Ke.blk hb17 Ng1_g3.out Kg3_8_9_10_16.out)
       clear hb17 hk17
       go_upto_region 9 with fail
       refine Flow.seqT_head (E := fun u v => Below u.heap.size u v) 1 [(some 41, []), (none, [0, 0])] (fun iQ vQ wQ => match iQ with | 0 => vQ = (.agg #[.int .i64 kind, .int .i64 cmd, .int .i64 0, .int .i64 0, .int .i64 0, .slice none 0 0, .bool fua, .int .i64 n0, .int .i64 n1, .slice A nb cb]) | _ => True) rfl (by decide) (by kernel_rfl) (Below.refl _ _) (fun _ _ _ h k => h.trans (k.mono h.size)) (fun _ _ _ _ h _ => h) ?_ ?_
       ·refine ⟨?_, trivial⟩
        ·intro a w' hx hu hd K hK; have e3 : a.tmps.getD 3 undef = (.pointer (some ⟨g1, 0, none⟩)) := hu 3 rfl; exact Flow.run1 rfl (ldrow rfl e3 (lies_block (blk_below Kg1_17.out hx)) Tryd.underlying56 rfl size56) (hK _ _ (Below.refl _ _) rfl)
       ·intro vs W18 hb18 hT
        have v0 := Flow.eqn (hT 0 (by decide))
        simp only [Flow.putsT, v0, Act.put, List.setIfInBounds_toArray, List.set_cons_zero, List.set_cons_succ, List.drop_succ_cons, List.drop_zero, List.take_succ_cons, List.take_zero]
        clear hT v0
        have HB18 := Aside0.mk (below_step HB17.out hb18)
        have Kg1_17_18 := Aside0.mk (blk_below Kg1_17.out hb18)
        have Kg2_3_8_9_10_16_17_18 := Aside0.mk (blk_below Kg2_3_8_9_10_16_17.out hb18)
        have Kg3_8_9_10_16_17_18 := Aside0.mk (blk_below Kg3_8_9_10_16_17.out hb18)
        clear hb18
        refine Cells.store_whole rfl rfl 56 _ _ rfl g3 [.int .i64 kind, .int .i64 cmd, .int .i64 0, .int .i64 0, .int .i64 0, .slice none 0 0, .bool fua, .int .i64 n0, .int .i64 n1, .slice A nb cb] #[.int .i64 0, .int .i64 0, .int .i64 0, .int .i64 0, .int .i64 0, .slice none 0 0, .bool false, .int .i64 0, .int .i64 0, .slice none 0 0] rfl rfl Kg3_8_9_10_16_17_18.out rfl size56 rfl ?_
        intro W19 hk19 hf19 hb19
        have HB19 := Aside0.mk (HB18.out.trans (hb19 _ Gg3.out))
        have Kg1_17_18_19 := Aside0.mk ((hf19 _ Ng3_g1.out).trans Kg1_17_18.out)
        have Kg2_3_8_9_10_16_17_18_19 := Aside0.mk ((hf19 _ Ng3_g2.out).trans Kg2_3_8_9_10_16_17_18.out)
        have Kg3_19 := Aside0.mk hk19
        clear hk19 hf19 hb19
        have HFC : fillC kind cmd fua n0 n1 n2 (.slice A nb cb) = [.int .i64 kind, .int .i64 cmd, .int .i64 0, .int .i64 0, .int .i64 0, .slice none 0 0, .bool fua, .int .i64 n0, .int .i64 n1, .slice A nb cb] := by unfold fillC; rw [if_neg hk, if_neg hk2]
        go_wp2_with fail
        exact bodyPost_ret (results_cell_row Tryd.results53 _ _ g3 56 _ _ _ rfl Kg3_19.out Tryd.underlying56 rfl size56) rfl ⟨by rw [HFC], HB19.out⟩
end Go.Proofs.YtlhmpmmblnbmbaaDoor.Con
set_option linter.unusedVariables false
set_option linter.unusedSimpArgs false
namespace Go.Proofs.YtlhmpmmblnbmbaaDoor.Con
open Go.Lib Go.RowKit Go.Proofs.YtlhmpmmblnbmbaaDoor.Ev Go.Proofs.YtlhmpmmblnbmbaaDoor.Ke Go.Proofs.YtlhmpmmblnbmbaaDoor.Cells Go.Proofs.YtlhmpmmblnbmbaaDoor.PConsoleParses Go.Proofs.YtlhmpmmblnbmbaaDoorW.PrintWords Go.Proofs.YtlhmpmmblnbmbaaDoorW.PrintLast Go.Proofs.YtlhmpmmblnbmbaaDoorW.PrintMore WordsPlain NumberPlain
def hv (b : Int) : Int := if 48 ≤ b ∧ b ≤ 57 then b - 48 else if 97 ≤ b ∧ b ≤ 102 then b - 87 else -1
theorem con_value (k : Nat) (b : Int) : console_value.f (k + 1) b = some (hv b) := by
  unfold console_value.f hv
  by_cases h1 : b ≥ 48
  · rw [if_pos h1]
    by_cases h2 : b ≤ 57
    · rw [decide_eq_true h2, if_pos ⟨h1, h2⟩, console_value.j0, if_pos rfl]; congr 1; omega
    · rw [decide_eq_false h2, if_neg (fun h => h2 h.2), console_value.j0, if_neg Bool.false_ne_true]
      by_cases h3 : b ≥ 97
      · rw [if_pos h3]
        by_cases h4 : b ≤ 102
        · rw [if_pos h4, if_pos ⟨h3, h4⟩]; congr 1; omega
        · rw [if_neg h4, if_neg (fun h => h4 h.2)]
      · rw [if_neg h3, if_neg (fun h => h3 h.1)]
  · rw [if_neg h1, console_value.j0, if_neg Bool.false_ne_true, if_neg (show ¬ b ≥ 97 by omega), if_neg (fun h => h1 h.1), if_neg (fun h => by omega)]
def frm (i : Nat) : Int × Int × List Nat × Option Nat := match i with | 0 => (0, 0, [2, 3], some 5) | 1 => (0, 1, [2, 3, 4], none) | 2 => (0, 2, [], none) | 3 => (0, 3, [2], none) | 4 => (0, 4, [2], none) | 5 => (0, 5, [2], none) | 6 => (0, 6, [2], none) | 7 => (0, 7, [2], none) | 8 => (1, 0, [8], none) | 9 => (2, 0, [7, 8], none) | 10 => (3, 0, [], some 9) | 11 => (4, 0, [7], none) | 12 => (5, 0, [7], none) | 13 => (6, 0, [], none) | 14 => (7, 0, [], none) | _ => (0, 0, [], none)
theorem form_at_all : ∀ i : Fin 15, form (wd i) = some (frm i) := by decide +kernel
theorem form_at {i : Nat} (h : i < 15) : form (wd i) = some (frm i) := form_at_all ⟨i, h⟩
theorem rword_all : ∀ i : Fin 15, revetmentref37_words.f (i.val : Int) = some (wd i, ((frm i).2.2.1.length : Int), (frm i).2.2.2.isSome, (frm i).1, (frm i).2.1) := by decide +kernel
theorem frm_small : ∀ i : Fin 15, (frm i).2.2.1.length ≤ 3 ∧ ((frm i).1 = 0 ∧ (frm i).2.1 = 0 ↔ i.val = 0) ∧ (i.val = 0 → (frm i).2.2.2.isSome = true) := by decide +kernel
theorem rword_c {i mn : Nat} (hi : i < 15) {bb : Bool} {kd cm : Int} (h1 : (frm i).2.2.1.length = mn) (h2 : (frm i).2.2.2.isSome = bb) (h3 : (frm i).1 = kd) (h4 : (frm i).2.1 = cm) (w : World) : Calls Tryd.prog 50 #[.int .i64 (i : Int)] w fun e w' => e = .returned (.tuple #[.string (wd i), .int .i64 mn, .bool bb, .int .i64 kd, .int .i64 cm]) ∧ Below w.heap.size w w' := by
  subst h1; subst h2; subst h3; subst h4
  exact revetmentref37_words.calls _ _ _ _ _ _ w (rword_all ⟨i, hi⟩)
def nn (k : Nat) (l : List ByteArray) (j : Nat) : Int := if j < k then (numb (l.getD j ByteArray.empty)).1 else 0
def nB (i : Nat) : Nat := needB (frm i).2.2.1 (frm i).2.2.2
theorem parse_at {hx : ByteArray → List Int × Bool} {s w0 : ByteArray} {l l2 : List ByteArray} {i : Nat} (hw : words s = w0 :: l) (hi : i < 15) (he : w0 = wd i) {fb : Bool} (hfb : fuaB (frm i).1 (frm i).2.1 l (nB i) = fb) (hl2 : (if fb = true then l.take (nB i) else l) = l2) :
    parse hx s = if l2.length = nB i then outA (hx (l2.getD (nB i - 1) ByteArray.empty)) (frm i).2.2.2 (fil (xF (frm i).1 (frm i).2.1 fb) (frm i).2.2.1 l2) else (zA, false) := by
  subst he
  unfold parse
  rw [hw]
  simp only [form_at hi]
  unfold nB at *
  obtain ⟨⟨kd, cm, ps, bs⟩, hf⟩ : ∃ q, frm i = q := ⟨_, rfl⟩
  rw [hf] at hfb hl2 ⊢
  simp only [] at hfb hl2 ⊢
  rw [hfb, hl2]
  split
  · show (match fil (xF kd cm fb) ps l2 with | none => _ | some x => _) = _
    cases fil (xF kd cm fb) ps l2 with
    | none => rfl
    | some x => cases bs <;> rfl
  · rfl
theorem fill_at {kd cm : Int} {fb : Bool} {n0 n1 n2 : Int} {A : Option Addr} {nb cb : Nat} {F : List Value} (h : fillC kd cm fb n0 n1 n2 (.slice A nb cb) = F) (w : World) : Calls Tryd.prog 53 #[.agg #[.int .i64 kd, .int .i64 cm, .int .i64 0, .int .i64 0, .int .i64 0, .slice none 0 0, .bool fb, .int .i64 0, .int .i64 0, .slice none 0 0], .agg #[.int .i64 n0, .int .i64 n1, .int .i64 n2], .slice A nb cb] w fun e w' => e = .returned (.agg F.toArray) ∧ Below w.heap.size w w' := by
  subst h; exact fill_c _ _ _ _ _ _ _ _ _ w
theorem fua_eq {i : Nat} (hi : i < 15) (l : List ByteArray) : fuaB (frm i).1 (frm i).2.1 l (nB i) = (decide (i = 0) && decide (l.length = nB i + 1) && ((l.getD (nB i) ByteArray.empty).toList == (⟨#[102, 117, 97]⟩ : ByteArray).toList)) := by
  have h := (frm_small ⟨i, hi⟩).2.1
  simp only at h
  have e : (⟨#[102, 117, 97]⟩ : ByteArray).toList = [102, 117, 97] := by rw [ByteArray.toList_eq]
  unfold fuaB
  rw [e]
  congr 1
  rw [show (l.length == nB i + 1) = decide (l.length = nB i + 1) from rfl]
  congr 1
  by_cases h0 : i = 0
  · obtain ⟨h1, h2⟩ := h.2 h0
    rw [h1, h2, decide_eq_true h0]; rfl
  · rw [decide_eq_false h0]
    by_cases h1 : (frm i).1 = 0
    · have : (frm i).2.1 ≠ 0 := fun h2 => h0 (h.1 ⟨h1, h2⟩)
      rw [beq_eq_false_iff_ne.2 this, Bool.and_false]
    · rw [beq_eq_false_iff_ne.2 h1, Bool.false_and]
theorem scan_mem (s : ByteArray) : ∀ p, ∀ t ∈ (scan s p).2, t.size ≤ s.size := by
  intro p
  induction p with
  | zero => intro t ht; cases ht
  | succ p ih =>
    intro t ht
    unfold scan at ht
    simp only at ht
    split at ht
    · split at ht
      · rcases List.mem_append.1 ht with h | h
        · exact ih t h
        · obtain rfl := List.mem_singleton.1 h
          rw [ByteArray.size_extract]; omega
      · exact ih t ht
    · split at ht
      · exact ih t ht
      · exact ih t ht
theorem words_mem {s t : ByteArray} (h : t ∈ words s) : t.size ≤ s.size := by
  unfold words at h
  simp only at h
  split at h
  · rcases List.mem_append.1 h with h | h
    · exact scan_mem s _ t h
    · obtain rfl := List.mem_singleton.1 h
      rw [ByteArray.size_extract]; omega
  · exact scan_mem s _ t h
open Classical in
theorem toList_nilS {s : ByteArray} : s.toList = [] ↔ s.size = 0 := by
  rw [ByteArray.toList_eq]
  exact List.length_eq_zero_iff.symm
theorem hexlS (s : ByteArray) (hs : s.size ≤ 1000000) : ∀ (m i : Nat) (acc : List Int), i + 2 * m = s.size → acc.length ≤ i → ∃ r, console_Hex.l0 (m + 2) s acc (i : Int) = some r := by
  intro m
  induction m with
  | zero =>
    intro i acc hi _
    exact ⟨(acc, true), by rw [show 0 + 2 = 1 + 1 from rfl, console_Hex.l0, if_neg (by omega)]⟩
  | succ m ih =>
    intro i acc hi ha
    have w1 : wrap64 ((i : Int) + 1) = (i : Int) + 1 := by unfold wrap64; omega
    have w2 : wrap64 ((i : Int) + 2) = ((i + 2 : Nat) : Int) := by unfold wrap64; omega
    rw [show m + 1 + 2 = (m + 2) + 1 from rfl, console_Hex.l0]
    rw [if_pos (by omega), if_pos (by omega), w1, w2]
    rw [show m + 2 = (m + 1) + 1 from rfl, con_value, con_value]
    simp only [Option.bind_some]
    rw [if_pos (by omega), if_pos (by omega)]
    by_cases h1 : hv (bt s (i : Int)) < 0
    · rw [if_pos h1]; exact ⟨_, rfl⟩
    · rw [if_neg h1]
      by_cases h2 : hv (bt s ((i : Int) + 1)) < 0
      · rw [if_pos h2]; exact ⟨_, rfl⟩
      · rw [if_neg h2, if_pos (by omega)]
        exact ih (i + 2) _ (by omega) (by rw [List.length_append]; simp; omega)
theorem hex_con (s : ByteArray) (hs : s.size ≤ 1000000) : ∃ r, ∃ k, console_Hex.f k s = some r := by
  by_cases h1 : s.toList = ([45] : List UInt8)
  · exact ⟨_, 1, by unfold console_Hex.f; rw [if_pos h1]⟩
  · by_cases h2 : s.size = 0
    · exact ⟨_, 1, by unfold console_Hex.f; rw [if_neg h1, if_pos (toList_nilS.2 h2), console_Hex.j0, if_pos rfl]⟩
    · by_cases h3 : s.size % 2 = 1
      · exact ⟨_, 1, by unfold console_Hex.f; rw [if_neg h1, if_neg (fun e => h2 (toList_nilS.1 e)), console_Hex.j0, if_pos (bne_iff_ne.2 (by omega))]⟩
      · obtain ⟨r, hr⟩ := hexlS s hs (s.size / 2) 0 [] (by omega) (Nat.zero_le _)
        exact ⟨r, s.size / 2 + 2 + 1, by unfold console_Hex.f; rw [if_neg h1, if_neg (fun e => h2 (toList_nilS.1 e)), console_Hex.j0, if_neg (by simp; omega)]; exact hr⟩
open Classical in
noncomputable def hexF (t : ByteArray) : List Int × Bool := if h : ∃ r, ∃ k, console_Hex.f k t = some r then Classical.choose h else ([], false)
theorem hexF_is {t : ByteArray} (h : t.size ≤ 1000000) : ∃ k, console_Hex.f k t = some (hexF t) := by
  have he := hex_con t h
  unfold hexF
  rw [dif_pos he]
  exact Classical.choose_spec he
theorem parse_all (s : ByteArray) (hs : s.size ≤ 1000000) (w : World) : Calls Tryd.prog 28 #[.string s] w (ParsePost w (parse hexF s).1 (parse hexF s).2) :=
  parse_c hexF s hs (fun t ht => hexF_is (Nat.le_trans (words_mem (List.mem_of_mem_tail ht)) hs)) w
end Go.Proofs.YtlhmpmmblnbmbaaDoor.Con
namespace Go.Proofs.YtlhmpmmblnbmbaaDoor.Flow2
open Go.RowKit Go.Proofs.YtlhmpmmblnbmbaaDoor.Flow
section
variable {P : Program} {ops : Array Oper} {Q : Exit → Act → World → Prop} {a0 : Act} {w0 : World} {E : World → World → Prop} {T : Nat → (Nat → Value) → World → Prop} {TAB : List (Option Nat × List Nat)}
def Deps (o : Oper) (j : Nat) : Prop := ∃ e ∈ o.after, Region.binds .any e = true ∧ e.on = j
def Hat (ops : Array Oper) (T : Nat → (Nat → Value) → World → Prop) (i : Nat) (vs : Nat → Value) (w : World) : Prop := ∀ us : Nat → Value, us i = vs i → (∀ o j, ops[i]? = some o → Deps o j → us j = vs j) → T i us w
def StepOk (P : Program) (ops : Array Oper) (Q : Exit → Act → World → Prop) (E : World → World → Prop) (T : Nat → (Nat → Value) → World → Prop) (a0 : Act) (w0 : World) (i : Nat) (o : Oper) : Prop :=
  ∀ (a : Act) (w : World), E w0 w → a.tmps.size = a0.tmps.size →
    (∀ k : Nat, (∀ (m : Nat) (om : Oper), ops[m]? = some om → om.dst = some k → ∃ e ∈ om.after, Region.binds .any e = true ∧ e.on = i) → a.tmps.getD k undef = a0.tmps.getD k undef) →
    ∀ vs : Nat → Value, (∀ j oj, ops[j]? = some oj → Deps o j → T j vs w ∧ ∀ k : Nat, oj.dst = some k → a.tmps.getD k undef = vs j) →
    ∀ K : Act → World → Prop, (∀ v w', E w w' → (∀ us : Nat → Value, us i = v → (∀ j, Deps o j → us j = vs j) → T i us w') → K (a.put o.dst v) w') →
      if Region.wanted o (yielded ops a.tmps) = true then o.wp P a w K Q else K (a.put o.dst undef) w
structure Inv (ops : Array Oper) (E : World → World → Prop) (T : Nat → (Nat → Value) → World → Prop) (a0 : Act) (w0 : World) (vs : Nat → Value) (listed : Array Bool) (a : Act) (w : World) : Prop where
  size : listed.size = ops.size
  shut : ∀ i o, ops[i]? = some o → listed.getD i false = true → ∀ e ∈ o.after, Region.binds .any e = true → listed.getD e.on false = true
  ext : E w0 w
  defers : a.defers = a0.defers
  tsize : a.tmps.size = a0.tmps.size
  vals : ∀ i, listed.getD i false = true → Hat ops T i vs w
  slots : ∀ k, k < a0.tmps.size → a.tmps[k]? = slotOf ops listed vs a0 k
theorem inv_step (hf : fine ops = true) (trans : ∀ a b c, E a b → E b c → E a c) (stay : ∀ i vs w w', T i vs w → E w w' → T i vs w') {vs : Nat → Value} {listed : Array Bool} {a : Act} {w : World} (hI : Inv ops E T a0 w0 vs listed a w)
    {i : Nat} {o : Oper} (ho : ops[i]? = some o) (hun : listed.getD i true = false) (hall : ∀ e ∈ o.after, Region.binds .any e = true → listed.getD e.on false = true) {v : Value} {w' : World} (hE : E w w') (hT : ∀ us : Nat → Value, us i = v → (∀ j, Deps o j → us j = vs j) → T i us w') :
    Inv ops E T a0 w0 (fun j => if j = i then v else vs j) (listed.setIfInBounds i true) (a.put o.dst v) w' := by
  obtain ⟨hs, hsh, hx, hd, ht, hv, hk⟩ := hI
  have hi : i < ops.size := (Array.getElem?_eq_some_iff.1 ho).1
  have hil : i < listed.size := by omega
  have hun' : listed.getD i false = false := by
    simp only [Array.getD_eq_getD_getElem?, Array.getElem?_eq_getElem hil, Option.getD_some] at hun ⊢; exact hun
  refine ⟨by simpa using hs, ?_, trans _ _ _ hx hE, ?_, ?_, ?_, ?_⟩
  · intro j oj hj hl e he hb
    rw [getD_set _ _ _ hil] at hl ⊢
    by_cases hji : j = i
    · subst hji
      rw [ho] at hj; cases hj
      split
      · rfl
      · exact hall e he hb
    · rw [if_neg hji] at hl
      split
      · rfl
      · exact hsh j oj hj hl e he hb
  · cases o.dst <;> simp [Act.put, hd]
  · cases o.dst <;> simp [Act.put, ht]
  · intro j hj
    rw [getD_set _ _ _ hil] at hj
    have hdi : ∀ om m, ops[j]? = some om → Deps om m → listed.getD j false = true → m ≠ i := by
      rintro om m hj2 ⟨e, he, hb, rfl⟩ hl rfl
      rw [hsh j om hj2 hl e he hb] at hun'; cases hun'
    by_cases hji : j = i
    · subst hji
      intro us h1 h2
      refine hT us (by simpa using h1) (fun m hm => ?_)
      have := h2 o m ho hm
      obtain ⟨e, he, hb, rfl⟩ := hm
      have hne : e.on ≠ j := by
        intro h
        have := fine_after hf ho he hb
        omega
      simpa [hne] using this
    · rw [if_neg hji] at hj
      intro us h1 h2
      refine stay _ _ _ _ (hv j hj us (by simpa [hji] using h1) (fun om m hj2 hm => ?_)) hE
      have := h2 om m hj2 hm
      have hne := hdi om m hj2 hm hj
      simpa [hne] using this
  · intro k hkk
    have old := hk k hkk
    cases hdst : o.dst with
    | none =>
      simp only [Act.put]
      rw [old]
      unfold slotOf
      cases hw : writer ops k with
      | none => rfl
      | some m =>
        have hmi : m ≠ i := by
          rintro rfl
          obtain ⟨o', ho', hd'⟩ := writer_some hw
          rw [ho] at ho'; cases ho'
          rw [hdst] at hd'; cases hd'
        simp only [getD_set _ _ _ hil, if_neg hmi]
    | some d =>
      have hwd := fine_dst hf ho hdst
      simp only [Act.put, Array.getElem?_setIfInBounds]
      by_cases hdk : d = k
      · subst hdk
        rw [if_pos rfl, if_pos (by omega)]
        unfold slotOf
        rw [hwd]
        simp only [getD_set _ _ _ hil, if_true]
      · rw [if_neg hdk, old]
        unfold slotOf
        cases hw : writer ops k with
        | none => rfl
        | some m =>
          have hmi : m ≠ i := by
            rintro rfl
            obtain ⟨o', ho', hd'⟩ := writer_some hw
            rw [ho] at ho'; cases ho'
            rw [hdst] at hd'; cases hd'
            exact hdk rfl
          simp only [getD_set _ _ _ hil, if_neg hmi]
theorem inv_any (hf : fine ops = true) (room : ∀ (i : Nat) (o : Oper) (k : Nat), ops[i]? = some o → o.dst = some k → k < a0.tmps.size) (trans : ∀ a b c, E a b → E b c → E a c) (stay : ∀ i vs w w', T i vs w → E w w' → T i vs w') (hstep : ∀ i o, ops[i]? = some o → StepOk P ops Q E T a0 w0 i o)
    (hend : ∀ vs w, E w0 w → (∀ i, i < ops.size → T i vs w) → Q .normal (behind ops vs (List.range ops.size) a0) w) :
    ∀ (fuel : Nat) (listed : Array Bool) (a : Act) (w : World) (vs : Nat → Value), ((List.range ops.size).filter fun i => !listed.getD i false).length ≤ fuel → Inv ops E T a0 w0 vs listed a w → wpAny P .any ops Q fuel listed a w := by
  have none_left : ∀ (listed : Array Bool) (a : Act) (w : World) (vs : Nat → Value), Inv ops E T a0 w0 vs listed a w → Region.ready .any ops listed = [] → ∀ i, i < ops.size → listed.getD i false = true := by
    intro listed a w vs hI hr i
    induction i using Nat.strongRecOn with
    | ind i ih =>
      intro hi
      have hil : i < listed.size := by have := hI.size; omega
      cases hl : listed.getD i false with
      | true => rfl
      | false =>
        exfalso
        have hmem : i ∈ Region.ready .any ops listed := mem_ready.2 ⟨by
          simp only [Array.getD_eq_getD_getElem?, Array.getElem?_eq_getElem hil, Option.getD_some] at hl ⊢; exact hl, ops[i], Array.getElem?_eq_getElem hi, fun e he hb =>
            ih e.on (fine_after hf (Array.getElem?_eq_getElem hi) he hb) (by have := fine_after hf (Array.getElem?_eq_getElem hi) he hb; omega)⟩
        rw [hr] at hmem; cases hmem
  have at_end : ∀ (listed : Array Bool) (a : Act) (w : World) (vs : Nat → Value), Inv ops E T a0 w0 vs listed a w → Region.ready .any ops listed = [] → Q .normal a w := by
    intro listed a w vs hI hr
    have hall := none_left listed a w vs hI hr
    obtain ⟨hs, hsh, hx, hd, ht, hv, hk⟩ := hI
    have h := hend vs w hx (fun i hi => hv i (hall i hi) vs rfl (fun _ _ _ _ => rfl))
    have e : behind ops vs (List.range ops.size) a0 = a := by
      have e1 : (behind ops vs (List.range ops.size) a0).tmps = a.tmps := by
        apply Array.ext_getElem?
        intro k
        by_cases hkk : k < a0.tmps.size
        · rw [behind_slot hf vs _ a0 k hkk, hk k hkk]
          unfold slotOf
          cases hw : writer ops k with
          | none => rfl
          | some m =>
            obtain ⟨o', ho', _⟩ := writer_some hw
            have hm : m < ops.size := (Array.getElem?_eq_some_iff.1 ho').1
            simp [hm, hall m hm]
        · rw [Array.getElem?_eq_none (by rw [behind_size]; omega), Array.getElem?_eq_none (by omega)]
      have e2 := behind_defers (ops := ops) vs (List.range ops.size) a0
      cases a with
      | mk t d =>
        cases hb : behind ops vs (List.range ops.size) a0 with
        | mk t' d' =>
          rw [hb] at e1 e2
          simp only at e1 e2 hd
          rw [e1, e2, ← hd]
    rw [e] at h; exact h
  intro fuel
  induction fuel with
  | zero =>
    intro listed a w vs hc hI
    have hr : Region.ready .any ops listed = [] := by
      rw [List.eq_nil_iff_forall_not_mem]
      intro i hi
      obtain ⟨hl, o, ho, _⟩ := mem_ready.1 hi
      have hi' : i < ops.size := (Array.getElem?_eq_some_iff.1 ho).1
      have hil : i < listed.size := by have := hI.size; omega
      have : i ∈ (List.range ops.size).filter fun i => !listed.getD i false := List.mem_filter.2 ⟨List.mem_range.2 hi', by
        simp only [Array.getD_eq_getD_getElem?, Array.getElem?_eq_getElem hil, Option.getD_some] at hl ⊢; simp [hl]⟩
      have h0 : ((List.range ops.size).filter fun i => !listed.getD i false) = [] := List.length_eq_zero_iff.1 (by omega)
      rw [h0] at this
      cases this
    exact ⟨hr, at_end listed a w vs hI hr⟩
  | succ fuel ih =>
    intro listed a w vs hc hI
    refine ⟨at_end listed a w vs hI, fun i hi => ?_⟩
    obtain ⟨hl, o, ho, hall⟩ := mem_ready.1 hi
    have hi' : i < ops.size := (Array.getElem?_eq_some_iff.1 ho).1
    have hil : i < listed.size := by have := hI.size; omega
    have hK : ∀ v w', E w w' → (∀ us : Nat → Value, us i = v → (∀ j, Deps o j → us j = vs j) → T i us w') → wpAny P .any ops Q fuel (listed.setIfInBounds i true) (a.put o.dst v) w' := fun v w' hE hT => by
      refine ih _ _ _ _ ?_ (inv_step hf trans stay hI ho hl hall hE hT)
      have hlt : ((List.range ops.size).filter fun j => !(listed.setIfInBounds i true).getD j false).length < ((List.range ops.size).filter fun j => !listed.getD j false).length := by
        have hsub : ((List.range ops.size).filter fun j => !(listed.setIfInBounds i true).getD j false) = (((List.range ops.size).filter fun j => !listed.getD j false).filter fun j => decide (j ≠ i)) := by
          rw [List.filter_filter]
          apply List.filter_congr
          intro j _
          rw [getD_set _ _ _ hil]
          by_cases hji : j = i <;> simp [hji]
        rw [hsub]
        have hm : i ∈ (List.range ops.size).filter fun j => !listed.getD j false := List.mem_filter.2 ⟨List.mem_range.2 hi', by
          simp only [Array.getD_eq_getD_getElem?, Array.getElem?_eq_getElem hil, Option.getD_some] at hl ⊢; simp [hl]⟩
        exact List.length_filter_lt_length_iff_exists.2 ⟨i, hm, by simp⟩
      omega
    have hdep : ∀ j oj, ops[j]? = some oj → Deps o j → T j vs w ∧ ∀ k : Nat, oj.dst = some k → a.tmps.getD k undef = vs j := by
      rintro j oj hj ⟨e, he, hb, rfl⟩
      obtain ⟨hs, hsh, hx, hd, ht, hv, hk⟩ := hI
      have hlj := hall e he hb
      refine ⟨hv _ hlj vs rfl (fun _ _ _ _ => rfl), fun k hdk => ?_⟩
      have hw := fine_dst hf hj hdk
      have hkk := room _ _ _ hj hdk
      rw [Array.getD_eq_getD_getElem?, hk k hkk]
      unfold slotOf
      rw [hw]; simp [hlj]
    have := hstep i o ho a w hI.ext hI.tsize (by
      intro k hw
      obtain ⟨hs, hsh, hx, hd, ht, hv, hk⟩ := hI
      by_cases hkk : k < a0.tmps.size
      · rw [Array.getD_eq_getD_getElem?, Array.getD_eq_getD_getElem?, hk k hkk]
        unfold slotOf
        cases hwr : writer ops k with
        | none => rfl
        | some m =>
          obtain ⟨om, hom, hdm⟩ := writer_some hwr
          simp only []
          rw [if_neg]
          intro hlm
          obtain ⟨e, he, hb, hei⟩ := hw m om hom hdm
          have hli := hsh m om hom hlm e he hb
          rw [hei] at hli
          simp only [Array.getD_eq_getD_getElem?, Array.getElem?_eq_getElem hil, Option.getD_some] at hl hli
          rw [hl] at hli; cases hli
      · rw [Array.getD_eq_getD_getElem?, Array.getD_eq_getD_getElem?, Array.getElem?_eq_none (xs := a.tmps) (by omega), Array.getElem?_eq_none (xs := a0.tmps) (by omega)]) vs hdep _ hK
    unfold wpOp
    rw [ho]
    simp only []
    split
    · next hw => rw [if_pos hw] at this; exact .inl this
    · next hw => rw [if_neg hw] at this; exact this
theorem flow {id : Nat} (hm : P.follows .mixedOrders = true) (hf : fine ops = true) (room : ((List.range ops.size).all fun i => match (ops[i]?).bind (·.dst) with | some k => decide (k < a0.tmps.size) | none => true) = true)
    (hE : E w0 w0.drew) (trans : ∀ a b c, E a b → E b c → E a c) (stay : ∀ i vs w w', T i vs w → E w w' → T i vs w') (hstep : ∀ i o, ops[i]? = some o → StepOk P ops Q E T a0 w0 i o)
    (hend : ∀ vs w, E w0 w → (∀ i, i < ops.size → T i vs w) → Q .normal (behind ops vs (List.range ops.size) a0) w) : (Code.region id ops true).wp P Q a0 w0 := by
  refine wp_region_any hm (inv_any hf ?_ trans stay hstep hend _ _ _ _ (fun _ => undef) ?_ ⟨by simp, ?_, hE, rfl, rfl, ?_, ?_⟩)
  · intro i o k ho hd
    have := List.all_eq_true.1 room i (List.mem_range.2 (Array.getElem?_eq_some_iff.1 ho).1)
    simpa [ho, hd] using this
  · exact Nat.le_trans (List.length_filter_le _ _) (by simp)
  · intro i o ho hl
    simp [Array.getD_eq_getD_getElem?, Array.getElem?_replicate] at hl
    split at hl <;> simp at hl
  · intro i hl
    simp [Array.getD_eq_getD_getElem?, Array.getElem?_replicate] at hl
    split at hl <;> simp at hl
  · intro k hk
    unfold slotOf
    split
    · rw [if_neg]
      simp [Array.getD_eq_getD_getElem?, Array.getElem?_replicate]
      split <;> simp
    · rfl
def StepT (P : Program) (TAB : List (Option Nat × List Nat)) (Q : Exit → Act → World → Prop) (E : World → World → Prop) (T : Nat → (Nat → Value) → World → Prop) (a0 : Act) (w0 : World) (i : Nat) (o : Oper) (needs : List Nat) : Prop :=
  ∀ (a : Act) (w : World), E w0 w → (∀ k : Nat, freeT TAB i k = true → a.tmps.getD k undef = a0.tmps.getD k undef) →
    ∀ vs : Nat → Value, (∀ j ∈ needs, T j vs w ∧ ∀ k : Nat, dstT TAB j = some k → a.tmps.getD k undef = vs j) →
    ∀ K : Act → World → Prop, (∀ v w', E w w' → (∀ us : Nat → Value, us i = v → (∀ j ∈ needs, us j = vs j) → T i us w') → K (a.put o.dst v) w') →
      if wantedT TAB o.guard a.tmps = true then o.wp P a w K Q else K (a.put o.dst undef) w
def StepsT (P : Program) (TAB : List (Option Nat × List Nat)) (Q : Exit → Act → World → Prop) (E : World → World → Prop) (T : Nat → (Nat → Value) → World → Prop) (a0 : Act) (w0 : World) : Nat → List Oper → Prop
  | _, [] => True
  | i, o :: r => StepT P TAB Q E T a0 w0 i o (TAB.getD i (none, [])).2 ∧ StepsT P TAB Q E T a0 w0 (i + 1) r
theorem stepsT_get : ∀ (l : List Oper) (n i : Nat) (o : Oper), StepsT P TAB Q E T a0 w0 n l → l[i]? = some o → StepT P TAB Q E T a0 w0 (n + i) o (TAB.getD (n + i) (none, [])).2
  | [], _, _, _, _, h => by simp at h
  | o :: r, n, 0, o', hs, h => by
    simp only [List.getElem?_cons_zero, Option.some.injEq] at h
    subst h; exact hs.1
  | o :: r, n, i + 1, o', hs, h => by
    simp only [List.getElem?_cons_succ] at h
    have := stepsT_get r (n + 1) i o' hs.2 h
    rw [show n + (i + 1) = n + 1 + i by omega]; exact this
theorem flowT {id : Nat} (TAB : List (Option Nat × List Nat)) (T : Nat → (Nat → Value) → World → Prop) (hT : tableOf ops = TAB) (hm : P.follows .mixedOrders = true) (hf : fine ops = true) (room : (TAB.all fun r => match r.1 with | some k => decide (k < a0.tmps.size) | none => true) = true)
    (hE : E w0 w0.drew) (trans : ∀ a b c, E a b → E b c → E a c) (stay : ∀ i vs w w', T i vs w → E w w' → T i vs w') (hstep : StepsT P TAB Q E T a0 w0 0 ops.toList)
    (hend : ∀ vs w, E w0 w → (∀ i, i < TAB.length → T i vs w) → Q .normal (putsT 0 TAB vs a0) w) : (Code.region id ops true).wp P Q a0 w0 := by
  have hlen : TAB.length = ops.size := by rw [← hT]; simp [tableOf]
  refine flow hm hf ?_ hE trans stay (fun i o ho => ?_) (fun vs w hx ht => by
    have := hend vs w hx (fun i hi => ht i (by omega))
    have e := puts_behind hT vs ops.size 0 a0 (by omega)
    rw [List.drop_zero] at e
    rw [List.range_eq_range', e]; exact this)
  · refine List.all_eq_true.2 fun i hi => ?_
    have hi' := List.mem_range.1 hi
    have ho : ops[i]? = some ops[i] := Array.getElem?_eq_getElem hi'
    have h2 := List.all_eq_true.1 room _ (List.mem_of_getElem? (tab_get hT ho))
    rw [ho]; exact h2
  · intro a w hx hs hu vs hd K hK
    have ho' : ops.toList[i]? = some o := by rw [Array.getElem?_toList]; exact ho
    have hst := stepsT_get _ 0 i o hstep ho'
    rw [Nat.zero_add] at hst
    have hget := tab_get hT ho
    have hneed : ∀ j, j ∈ (TAB.getD i (none, [])).2 ↔ Deps o j := by
      intro j
      simp only [List.getD_eq_getElem?_getD, hget, Option.getD_some]
      constructor
      · intro hj
        obtain ⟨e, he, rfl⟩ := List.mem_map.1 hj
        obtain ⟨he1, he2⟩ := List.mem_filter.1 he
        exact ⟨e, Array.mem_toList_iff.1 he1, he2, rfl⟩
      · rintro ⟨e, he, hb, rfl⟩
        exact List.mem_map.2 ⟨e, List.mem_filter.2 ⟨Array.mem_toList_iff.2 he, hb⟩, rfl⟩
    have := hst a w hx (fun k hk => hu k ?_) vs ?_ K (fun v w' h1 h2 => hK v w' h1 (fun us e1 e2 => h2 us e1 (fun j hj => e2 j ((hneed j).1 hj))))
    · rw [← wantedT_eq hT]; exact this
    · intro m om hom hdm
      have h2 := List.all_eq_true.1 hk _ (List.mem_of_getElem? (tab_get hT hom))
      simp only [hdm, bne_self_eq_false, Bool.false_or, List.contains_iff_mem] at h2
      obtain ⟨e, he, hei⟩ := List.mem_map.1 h2
      obtain ⟨he1, he2⟩ := List.mem_filter.1 he
      exact ⟨e, Array.mem_toList_iff.1 he1, he2, hei⟩
    · intro j hj
      obtain ⟨e, he, hb, rfl⟩ := (hneed j).1 hj
      have hlt := fine_after hf ho he hb
      have hi' : i < ops.size := (Array.getElem?_eq_some_iff.1 ho).1
      have hoj : ops[e.on]? = some (ops[e.on]'(by omega)) := Array.getElem?_eq_getElem (by omega)
      obtain ⟨hv, hk⟩ := hd e.on _ hoj ⟨e, he, hb, rfl⟩
      refine ⟨hv, fun k hkk => hk k ?_⟩
      unfold dstT at hkk
      simpa [List.getD_eq_getElem?_getD, tab_get hT hoj] using hkk
end
end Go.Proofs.YtlhmpmmblnbmbaaDoor.Flow2
set_option linter.unusedVariables false
set_option linter.unusedSimpArgs false
namespace Go.Proofs.YtlhmpmmblnbmbaaDoor.Con
open Go.Lib Go.RowKit Go.Proofs.YtlhmpmmblnbmbaaDoor.Ev Go.Proofs.YtlhmpmmblnbmbaaDoor.Ke Go.Proofs.YtlhmpmmblnbmbaaDoor.Cells Go.Proofs.YtlhmpmmblnbmbaaDoor.PConsoleParses Go.Proofs.YtlhmpmmblnbmbaaDoorW.PrintWords Go.Proofs.YtlhmpmmblnbmbaaDoorW.PrintLast Go.Proofs.YtlhmpmmblnbmbaaDoorW.PrintMore WordsPlain NumberPlain
theorem store_run {P : Program} {o : Oper} {a : Act} {w : World} {ty : TypeId} {x y : Operand} {g : Nat} {c : List Value} {cs0 : Array Value} (ho : o.op = .store ty x y) (hx : a.eval x = .pointer (some ⟨g, 0, none⟩)) (hy : a.eval y = .agg c.toArray) (hg : w.heap[g]? = some (.cells cs0 ty (0, 0))) (hs : cs0.size = c.length) (hi : (P.info? ty).map (·.size) = some c.length) (h1 : c.all (·.oneCell') = true) :
  ∃ w1, (execOp a.eval o).run P w = .ok .skip w1 ∧ w1.heap[g]? = some (.cells c.toArray ty (0, 0)) ∧ (∀ k, k ≠ g → w1.heap[k]? = w.heap[k]?) ∧ ∀ B, B ≤ g → Below B w w1 := by
 have hrun := run_storeVar_mid (P := P) w g 0 ty c.toArray (fun j hj => by
  rw [Nat.zero_add, cell_of_row w g j _ _ _ hg]
  have hj' : j < cs0.size := by simpa [hs] using hj
  exact ⟨by simp [Array.getElem?_eq_getElem hj'], by simp [World.frozen?, hg]⟩) (by simpa using hi) (all_oneCell_toArray (fun v hv => List.all_eq_true.1 h1 v hv))
 obtain ⟨cur', hc1, hc2, hc3⟩ := setCells_row c 0 w cs0 hg (by omega)
 have e : cur' = c.toArray := by
  apply Array.toList_inj.1
  rw [hc3]; simp [List.drop_eq_nil_of_le, hs]
 subst e
 obtain ⟨s1, s2, s3, s4⟩ := setCells_same g c 0 w
 refine ⟨w.setCells g 0 c, ?_, hc1, fun k hk => setCells_far c 0 k hk, fun B hB => ⟨s1, s2, s3, by rw [s4]; exact Nat.le_refl _, fun k hk => setCells_far c 0 k (by omega)⟩⟩
 unfold execOp
 simp only [ho, hx, hy, Instr.storeAt, Instr.sureAddr, Sem.run_bind, Sem.run_pure, Result.andThen_ok]
 rw [hrun]
 simp
theorem store_k {P : Program} {o : Oper} {a : Act} {w : World} {K : Act → World → Prop} {Q : Exit → Act → World → Prop} {ty : TypeId} {x y : Operand} {g : Nat} {c : List Value} {cs0 : Array Value} (ho : o.op = .store ty x y) (hx : a.eval x = .pointer (some ⟨g, 0, none⟩)) (hy : a.eval y = .agg c.toArray) (hg : w.heap[g]? = some (.cells cs0 ty (0, 0))) (hs : cs0.size = c.length) (hi : (P.info? ty).map (·.size) = some c.length) (h1 : c.all (·.oneCell') = true)
  (h : ∀ w1, w1.heap[g]? = some (.cells c.toArray ty (0, 0)) → (∀ k, k ≠ g → w1.heap[k]? = w.heap[k]?) → (∀ B, B ≤ g → Below B w w1) → K (a.put o.dst undef) w1) : o.wp P a w K Q := by
 obtain ⟨w1, hr, k1, hf, hB⟩ := store_run ho hx hy hg hs hi h1
 exact Flow.skip_run hr (h w1 k1 hf hB)
theorem alloc_run {P : Program} {o : Oper} {a : Act} {w : World} {t : TypeId} {z : Value} (ho : o.op = .alloc t) (hz : (P.info? t).map (·.zero) = some (some z)) : (execOp a.eval o).run P w = .ok (.value (.pointer (some ⟨w.heap.size, 0, none⟩))) (w.alloc (.cells z.cells t (0, 0))) := by
 obtain ⟨i, hi, hzz⟩ := Option.map_eq_some_iff.1 hz
 unfold execOp
 simp only [ho]
 simp [zeroValue, typeInfo, hi, hzz, newVar, newRow, Sem.run_bind, go_sem]
def GoodAt (x : A10) (W0 : World) (g : Nat) (w : World) : Prop := ∃ A c, w.heap[g]? = some (.cells #[.int .i64 x.cmd, .int .i64 x.zone, .int .i64 x.at_, .int .i64 x.n, .slice A x.data.length c, .bool x.fua] 54 (0, 0)) ∧ (Kd.int .u8).C W0 A x.data.length x.data
def Shape (g : Nat) (w : World) : Prop := ∃ cs : Array Value, w.heap[g]? = some (.cells cs 54 (0, 0)) ∧ cs.size = 6
def Es (x : A10) (W0 : World) (base : Nat) (u v : World) : Prop := Below base u v ∧ (∀ g, GoodAt x W0 g u → GoodAt x W0 g v) ∧ ∀ g, Shape g u → Shape g v
def PtrTo (v : Value) (g : Nat) : Prop := v = .pointer (some ⟨g, 0, none⟩)
theorem Es.refl {x : A10} {W0 : World} {b : Nat} {w : World} : Es x W0 b w w := ⟨Below.refl _ _, fun _ h => h, fun _ h => h⟩
theorem Es.drew {x : A10} {W0 : World} {b : Nat} {w : World} : Es x W0 b w w.drew := ⟨(Below.refl _ _).drew, fun _ h => h, fun _ h => h⟩
theorem Es.trans {x : A10} {W0 : World} {b : Nat} {u v w : World} (h : Es x W0 b u v) (k : Es x W0 b v w) : Es x W0 b u w := ⟨h.1.trans k.1, fun g hg => k.2.1 g (h.2.1 g hg), fun g hg => k.2.2 g (h.2.2 g hg)⟩
theorem Es.alloc {x : A10} {W0 : World} {b : Nat} {w : World} (hb : b ≤ w.heap.size) (O : Obj) : Es x W0 b w (w.alloc O) := by
 have hs : ∀ {g : Nat} {C : Obj}, w.heap[g]? = some C → (w.alloc O).heap[g]? = some C := fun h => blk_alloc h O
 exact ⟨(Below.refl _ _).alloc hb O, fun g ⟨A, c, h1, h2⟩ => ⟨A, c, hs h1, h2⟩, fun g ⟨cs, h1, h2⟩ => ⟨cs, hs h1, h2⟩⟩
theorem Es.put {x : A10} {W0 : World} {b : Nat} {w w1 : World} {g : Nat} {A : Option Addr} {c : Nat} (hb : b ≤ g) (k : w1.heap[g]? = some (.cells #[.int .i64 x.cmd, .int .i64 x.zone, .int .i64 x.at_, .int .i64 x.n, .slice A x.data.length c, .bool x.fua] 54 (0, 0))) (hC : (Kd.int .u8).C W0 A x.data.length x.data) (hf : ∀ k, k ≠ g → w1.heap[k]? = w.heap[k]?) (hB : ∀ B, B ≤ g → Below B w w1) : Es x W0 b w w1 ∧ GoodAt x W0 g w1 := by
 have hg : GoodAt x W0 g w1 := ⟨A, c, k, hC⟩
 refine ⟨⟨hB b hb, fun q hq => ?_, fun q hq => ?_⟩, hg⟩
 ·by_cases e : q = g
  ·rw [e]; exact hg
  ·obtain ⟨A2, c2, h1, h2⟩ := hq
   exact ⟨A2, c2, (hf q e).trans h1, h2⟩
 ·by_cases e : q = g
  ·rw [e]; exact ⟨_, k, rfl⟩
  ·obtain ⟨cs, h1, h2⟩ := hq
   exact ⟨cs, (hf q e).trans h1, h2⟩
set_option maxHeartbeats 4000000 in
set_option maxRecDepth 100000 in
theorem same_c (x : A10) (A0 B0 A1 B1 : Option Addr) (c0 d0 c1 d1 : Nat) (w : World) (h0 : (Kd.int .u8).C w A0 x.data.length x.data) (h1 : (Kd.int .u8).C w B0 x.keep.length x.keep) (h2 : (Kd.int .u8).C w A1 x.data.length x.data) (h3 : (Kd.int .u8).C w B1 x.keep.length x.keep) : Calls Tryd.prog 32 #[.agg #[.int .i64 x.kind, .int .i64 x.cmd, .int .i64 x.zone, .int .i64 x.at_, .int .i64 x.n, .slice A0 x.data.length c0, .bool x.fua, .int .i64 x.m, .int .i64 x.k, .slice B0 x.keep.length d0], .agg #[.int .i64 x.kind, .int .i64 x.cmd, .int .i64 x.zone, .int .i64 x.at_, .int .i64 x.n, .slice A1 x.data.length c1, .bool x.fua, .int .i64 x.m, .int .i64 x.k, .slice B1 x.keep.length d1]] w fun e w' => e = .returned (.bool true) ∧ Below w.heap.size w w' := by
 have HD0 := Aside0.mk h0
 have HK0 := Aside0.mk h1
 have HD1 := Aside0.mk h2
 have HK1 := Aside0.mk h3
 clear h0 h1 h2 h3
 go_enter Tryd.func32, Tryd.ntmps32
 go_upto_region 0 with fail
 refine wp_region_lit ?_
 refine ebox (v := (.agg #[.int .i64 x.kind, .int .i64 x.cmd, .int .i64 x.zone, .int .i64 x.at_, .int .i64 x.n, .slice A0 x.data.length c0, .bool x.fua, .int .i64 x.m, .int .i64 x.k, .slice B0 x.keep.length d0])) rfl rfl rfl ?_
 intro g1 hg1 W1 hk1 hb1
 have Kg1 := Aside0.mk hk1
 have HB1 := Aside0.mk hb1
 clear hb1
 have Gg1 := Aside0.mk (show w.heap.size ≤ g1 by rw [hg1]; exact Nat.le_refl _)
 clear hg1 hk1
 simp only [Act.put, List.setIfInBounds_toArray, List.set_cons_zero, List.set_cons_succ]
 refine ebox (v := (.agg #[.int .i64 x.kind, .int .i64 x.cmd, .int .i64 x.zone, .int .i64 x.at_, .int .i64 x.n, .slice A1 x.data.length c1, .bool x.fua, .int .i64 x.m, .int .i64 x.k, .slice B1 x.keep.length d1])) rfl rfl rfl ?_
 intro g2 hg2 W2 hk2 hb2
 have Kg2 := Aside0.mk hk2
 have Ng2_g1 := Aside0.mk (show g1 ≠ g2 by have := (Array.getElem?_eq_some_iff.1 Kg1.out).1; omega)
 have Ng1_g2 := Aside0.mk (Ne.symm Ng2_g1.out)
 have HB2 := Aside0.mk (below_step HB1.out hb2)
 have Kg1_2 := Aside0.mk (blk_below Kg1.out hb2)
 clear hb2
 have Gg2 := Aside0.mk (show w.heap.size ≤ g2 by rw [hg2]; exact HB1.out.size)
 clear hg2 hk2
 simp only [Act.put, List.setIfInBounds_toArray, List.set_cons_zero, List.set_cons_succ]
 refine Flow.seqL (E := fun u v => Below u.heap.size u v) 2 1 [(some 2, []), (some 3, []), (some 4, [])] (fun iQ vQ wQ => match iQ with | 2 => vQ = (.bool false) | _ => True) rfl (by decide) (by kernel_rfl) (Below.refl _ _) (fun _ _ _ h k => h.trans (k.mono h.size)) (fun _ _ _ _ h _ => h) ?_ ?_
 ·refine ⟨?_, trivial⟩
  ·intro a w' hx hu hd K hK; exact Flow.run1 rfl (Flow.r_assign rfl rfl) (hK _ _ (Below.refl _ _) rfl)
 intro vs W3 hb3 hT
 have v2 := Flow.eqn (hT 2 (by decide) (by decide))
 simp only [Flow.putsT, v2, Act.put, List.setIfInBounds_toArray, List.set_cons_zero, List.set_cons_succ, List.drop_succ_cons, List.drop_zero, List.take_succ_cons, List.take_zero]
 clear hT v2
 have HB3 := Aside0.mk (below_step HB2.out hb3)
 have Kg1_2_3 := Aside0.mk (blk_below Kg1_2.out hb3)
 have Kg2_3 := Aside0.mk (blk_below Kg2.out hb3)
 clear hb3
 go_upto_region 1 with fail
 refine Flow.seqT (E := fun u v => Below u.heap.size u v) [(some 7, []), (some 8, [0]), (some 9, []), (some 10, [2]), (some 11, [1, 3]), (some 12, [4]), (some 13, [5]), (some 14, [6, 5]), (some 15, [5]), (some 16, [8, 5]), (some 17, [7, 9, 5]), (some 18, [5, 10]), (some 19, [11, 5]), (some 20, [12]), (some 21, [13, 12]), (some 22, [12]), (some 23, [15, 12]), (some 24, [14, 16, 12]), (some 25, [12, 17]), (some 26, [18, 12]), (some 27, [19]), (some 28, [20, 19]), (some 29, [21, 19]), (some 30, [19]), (some 31, [23, 19]), (some 32, [24, 19]), (some 33, [22, 25, 19]), (some 34, [19, 26])] (fun iQ vQ wQ => match iQ with | 0 => vQ = (.pointer (some ⟨g1, 0, none⟩)) | 1 => vQ = (.int .i64 x.kind) | 2 => vQ = (.pointer (some ⟨g2, 0, none⟩)) | 3 => vQ = (.int .i64 x.kind) | 4 => vQ = (.bool false) | 5 => vQ = (.bool false) | 6 => vQ = (.pointer (some ⟨g1, 7, none⟩)) | 7 => vQ = (.int .i64 x.m) | 8 => vQ = (.pointer (some ⟨g2, 7, none⟩)) | 9 => vQ = (.int .i64 x.m) | 10 => vQ = (.bool false) | 11 => vQ = (.bool false) | 12 => vQ = (.bool false) | 13 => vQ = (.pointer (some ⟨g1, 8, none⟩)) | 14 => vQ = (.int .i64 x.k) | 15 => vQ = (.pointer (some ⟨g2, 8, none⟩)) | 16 => vQ = (.int .i64 x.k) | 17 => vQ = (.bool false) | 18 => vQ = (.bool false) | 19 => vQ = (.bool false) | 20 => vQ = (.pointer (some ⟨g1, 9, none⟩)) | 21 => vQ = (.slice B0 x.keep.length d0) | 22 => vQ = (.string (strOfNums x.keep)) | 23 => vQ = (.pointer (some ⟨g2, 9, none⟩)) | 24 => vQ = (.slice B1 x.keep.length d1) | 25 => vQ = (.string (strOfNums x.keep)) | 26 => vQ = (.bool false) | 27 => vQ = (.bool false) | _ => True) rfl (by kernel_rfl) (Below.refl _ _) (fun _ _ _ h k => h.trans (k.mono h.size)) (fun _ _ _ _ h _ => h) ?_ ?_
 ·refine ⟨?_, ?_, ?_, ?_, ?_, ?_, ?_, ?_, ?_, ?_, ?_, ?_, ?_, ?_, ?_, ?_, ?_, ?_, ?_, ?_, ?_, ?_, ?_, ?_, ?_, ?_, ?_, ?_, trivial⟩
  ·intro a w' hx hu hd K hK; have e2 : a.tmps.getD 2 undef = (.pointer (some ⟨g1, 0, none⟩)) := hu 2 rfl; exact Flow.run1 rfl (fa rfl e2 (fa56_0 _ _ _)) (hK _ _ (Below.refl _ _) rfl)
  ·intro a w' hx hu hd K hK; have e7 := Flow.got (hd 0 rfl) 7 rfl; exact Flow.run1 rfl (ld rfl e7 ((blk_cell (blk_below Kg1_2_3.out hx) 0).trans rfl) Tryd.underlying3 rfl) (hK _ _ (Below.refl _ _) rfl)
  ·intro a w' hx hu hd K hK; have e3 : a.tmps.getD 3 undef = (.pointer (some ⟨g2, 0, none⟩)) := hu 3 rfl; exact Flow.run1 rfl (fa rfl e3 (fa56_0 _ _ _)) (hK _ _ (Below.refl _ _) rfl)
  ·intro a w' hx hu hd K hK; have e9 := Flow.got (hd 2 rfl) 9 rfl; exact Flow.run1 rfl (ld rfl e9 ((blk_cell (blk_below Kg2_3.out hx) 0).trans rfl) Tryd.underlying3 rfl) (hK _ _ (Below.refl _ _) rfl)
  ·intro a w' hx hu hd K hK; have e8 := Flow.got (hd 1 rfl) 8 rfl; have e10 := Flow.got (hd 3 rfl) 10 rfl; exact Flow.run1 rfl (no (neq rfl e8 e10) (bne_eq_false_iff_eq.2 rfl)) (hK _ _ (Below.refl _ _) rfl)
  ·intro a w' hx hu hd K hK; have e11 := Flow.got (hd 4 rfl) 11 rfl; exact Flow.run1 rfl (Flow.r_move rfl e11) (hK _ _ (Below.refl _ _) rfl)
  ·intro a w' hx hu hd K hK; have e2 : a.tmps.getD 2 undef = (.pointer (some ⟨g1, 0, none⟩)) := hu 2 rfl; have e12 := Flow.got (hd 5 rfl) 12 rfl; exact Flow.run1 (Flow.want_of (k := 12) rfl e12) (fa rfl e2 (fa56_2 _ _ _)) (hK _ _ (Below.refl _ _) rfl)
  ·intro a w' hx hu hd K hK; have e13 := Flow.got (hd 6 rfl) 13 rfl; have e12 := Flow.got (hd 5 rfl) 12 rfl; exact Flow.run1 (Flow.want_of (k := 12) rfl e12) (ld rfl e13 ((blk_cell (blk_below Kg1_2_3.out hx) 7).trans rfl) Tryd.underlying3 rfl) (hK _ _ (Below.refl _ _) rfl)
  ·intro a w' hx hu hd K hK; have e3 : a.tmps.getD 3 undef = (.pointer (some ⟨g2, 0, none⟩)) := hu 3 rfl; have e12 := Flow.got (hd 5 rfl) 12 rfl; exact Flow.run1 (Flow.want_of (k := 12) rfl e12) (fa rfl e3 (fa56_2 _ _ _)) (hK _ _ (Below.refl _ _) rfl)
  ·intro a w' hx hu hd K hK; have e15 := Flow.got (hd 8 rfl) 15 rfl; have e12 := Flow.got (hd 5 rfl) 12 rfl; exact Flow.run1 (Flow.want_of (k := 12) rfl e12) (ld rfl e15 ((blk_cell (blk_below Kg2_3.out hx) 7).trans rfl) Tryd.underlying3 rfl) (hK _ _ (Below.refl _ _) rfl)
  ·intro a w' hx hu hd K hK; have e14 := Flow.got (hd 7 rfl) 14 rfl; have e16 := Flow.got (hd 9 rfl) 16 rfl; have e12 := Flow.got (hd 5 rfl) 12 rfl; exact Flow.run1 (Flow.want_of (k := 12) rfl e12) (no (neq rfl e14 e16) (bne_eq_false_iff_eq.2 rfl)) (hK _ _ (Below.refl _ _) rfl)
  ·intro a w' hx hu hd K hK; have e12 := Flow.got (hd 5 rfl) 12 rfl; have e17 := Flow.got (hd 10 rfl) 17 rfl; exact Flow.run1 rfl (Flow.r_pick rfl e12 e17) (hK _ _ (Below.refl _ _) rfl)
  ·intro a w' hx hu hd K hK; have e18 := Flow.got (hd 11 rfl) 18 rfl; exact Flow.run1 rfl (Flow.r_move rfl e18) (hK _ _ (Below.refl _ _) rfl)
  ·intro a w' hx hu hd K hK; have e2 : a.tmps.getD 2 undef = (.pointer (some ⟨g1, 0, none⟩)) := hu 2 rfl; have e19 := Flow.got (hd 12 rfl) 19 rfl; exact Flow.run1 (Flow.want_of (k := 19) rfl e19) (fa rfl e2 (fa56_3 _ _ _)) (hK _ _ (Below.refl _ _) rfl)
  ·intro a w' hx hu hd K hK; have e20 := Flow.got (hd 13 rfl) 20 rfl; have e19 := Flow.got (hd 12 rfl) 19 rfl; exact Flow.run1 (Flow.want_of (k := 19) rfl e19) (ld rfl e20 ((blk_cell (blk_below Kg1_2_3.out hx) 8).trans rfl) Tryd.underlying3 rfl) (hK _ _ (Below.refl _ _) rfl)
  ·intro a w' hx hu hd K hK; have e3 : a.tmps.getD 3 undef = (.pointer (some ⟨g2, 0, none⟩)) := hu 3 rfl; have e19 := Flow.got (hd 12 rfl) 19 rfl; exact Flow.run1 (Flow.want_of (k := 19) rfl e19) (fa rfl e3 (fa56_3 _ _ _)) (hK _ _ (Below.refl _ _) rfl)
  ·intro a w' hx hu hd K hK; have e22 := Flow.got (hd 15 rfl) 22 rfl; have e19 := Flow.got (hd 12 rfl) 19 rfl; exact Flow.run1 (Flow.want_of (k := 19) rfl e19) (ld rfl e22 ((blk_cell (blk_below Kg2_3.out hx) 8).trans rfl) Tryd.underlying3 rfl) (hK _ _ (Below.refl _ _) rfl)
  ·intro a w' hx hu hd K hK; have e21 := Flow.got (hd 14 rfl) 21 rfl; have e23 := Flow.got (hd 16 rfl) 23 rfl; have e19 := Flow.got (hd 12 rfl) 19 rfl; exact Flow.run1 (Flow.want_of (k := 19) rfl e19) (no (neq rfl e21 e23) (bne_eq_false_iff_eq.2 rfl)) (hK _ _ (Below.refl _ _) rfl)
  ·intro a w' hx hu hd K hK; have e19 := Flow.got (hd 12 rfl) 19 rfl; have e24 := Flow.got (hd 17 rfl) 24 rfl; exact Flow.run1 rfl (Flow.r_pick rfl e19 e24) (hK _ _ (Below.refl _ _) rfl)
  ·intro a w' hx hu hd K hK; have e25 := Flow.got (hd 18 rfl) 25 rfl; exact Flow.run1 rfl (Flow.r_move rfl e25) (hK _ _ (Below.refl _ _) rfl)
  ·intro a w' hx hu hd K hK; have e2 : a.tmps.getD 2 undef = (.pointer (some ⟨g1, 0, none⟩)) := hu 2 rfl; have e26 := Flow.got (hd 19 rfl) 26 rfl; exact Flow.run1 (Flow.want_of (k := 26) rfl e26) (fa rfl e2 (fa56_4 _ _ _)) (hK _ _ (Below.refl _ _) rfl)
  ·intro a w' hx hu hd K hK; have e27 := Flow.got (hd 20 rfl) 27 rfl; have e26 := Flow.got (hd 19 rfl) 26 rfl; exact Flow.run1 (Flow.want_of (k := 26) rfl e26) (ld rfl e27 ((blk_cell (blk_below Kg1_2_3.out hx) 9).trans rfl) Tryd.underlying43 rfl) (hK _ _ (Below.refl _ _) rfl)
  ·intro a w' hx hu hd K hK; have e28 := Flow.got (hd 21 rfl) 28 rfl; have e26 := Flow.got (hd 19 rfl) 26 rfl; exact Flow.run1 (Flow.want_of (k := 26) rfl e26) (cvs rfl e28 (Kd.C_string Tryd.underlying43 Tryd.underlying5 Tryd.underlying9 (Kd.C_below HK0.out (below_step HB3.out hx)))) (hK _ _ (Below.refl _ _) rfl)
  ·intro a w' hx hu hd K hK; have e3 : a.tmps.getD 3 undef = (.pointer (some ⟨g2, 0, none⟩)) := hu 3 rfl; have e26 := Flow.got (hd 19 rfl) 26 rfl; exact Flow.run1 (Flow.want_of (k := 26) rfl e26) (fa rfl e3 (fa56_4 _ _ _)) (hK _ _ (Below.refl _ _) rfl)
  ·intro a w' hx hu hd K hK; have e30 := Flow.got (hd 23 rfl) 30 rfl; have e26 := Flow.got (hd 19 rfl) 26 rfl; exact Flow.run1 (Flow.want_of (k := 26) rfl e26) (ld rfl e30 ((blk_cell (blk_below Kg2_3.out hx) 9).trans rfl) Tryd.underlying43 rfl) (hK _ _ (Below.refl _ _) rfl)
  ·intro a w' hx hu hd K hK; have e31 := Flow.got (hd 24 rfl) 31 rfl; have e26 := Flow.got (hd 19 rfl) 26 rfl; exact Flow.run1 (Flow.want_of (k := 26) rfl e26) (cvs rfl e31 (Kd.C_string Tryd.underlying43 Tryd.underlying5 Tryd.underlying9 (Kd.C_below HK1.out (below_step HB3.out hx)))) (hK _ _ (Below.refl _ _) rfl)
  ·intro a w' hx hu hd K hK; have e29 := Flow.got (hd 22 rfl) 29 rfl; have e32 := Flow.got (hd 25 rfl) 32 rfl; have e26 := Flow.got (hd 19 rfl) 26 rfl; exact Flow.run1 (Flow.want_of (k := 26) rfl e26) (sneq rfl e29 e32 (bne_self_eq_false _)) (hK _ _ (Below.refl _ _) rfl)
  ·intro a w' hx hu hd K hK; have e26 := Flow.got (hd 19 rfl) 26 rfl; have e33 := Flow.got (hd 26 rfl) 33 rfl; exact Flow.run1 rfl (Flow.r_pick rfl e26 e33) (hK _ _ (Below.refl _ _) rfl)
 intro vs W4 hb4 hT
 have v0 := Flow.eqn (hT 0 (by decide))
 have v1 := Flow.eqn (hT 1 (by decide))
 have v2 := Flow.eqn (hT 2 (by decide))
 have v3 := Flow.eqn (hT 3 (by decide))
 have v4 := Flow.eqn (hT 4 (by decide))
 have v5 := Flow.eqn (hT 5 (by decide))
 have v6 := Flow.eqn (hT 6 (by decide))
 have v7 := Flow.eqn (hT 7 (by decide))
 have v8 := Flow.eqn (hT 8 (by decide))
 have v9 := Flow.eqn (hT 9 (by decide))
 have v10 := Flow.eqn (hT 10 (by decide))
 have v11 := Flow.eqn (hT 11 (by decide))
 have v12 := Flow.eqn (hT 12 (by decide))
 have v13 := Flow.eqn (hT 13 (by decide))
 have v14 := Flow.eqn (hT 14 (by decide))
 have v15 := Flow.eqn (hT 15 (by decide))
 have v16 := Flow.eqn (hT 16 (by decide))
 have v17 := Flow.eqn (hT 17 (by decide))
 have v18 := Flow.eqn (hT 18 (by decide))
 have v19 := Flow.eqn (hT 19 (by decide))
 have v20 := Flow.eqn (hT 20 (by decide))
 have v21 := Flow.eqn (hT 21 (by decide))
 have v22 := Flow.eqn (hT 22 (by decide))
 have v23 := Flow.eqn (hT 23 (by decide))
 have v24 := Flow.eqn (hT 24 (by decide))
 have v25 := Flow.eqn (hT 25 (by decide))
 have v26 := Flow.eqn (hT 26 (by decide))
 have v27 := Flow.eqn (hT 27 (by decide))
 simp only [Flow.putsT, v0, v1, v2, v3, v4, v5, v6, v7, v8, v9, v10, v11, v12, v13, v14, v15, v16, v17, v18, v19, v20, v21, v22, v23, v24, v25, v26, v27, Act.put, List.setIfInBounds_toArray, List.set_cons_zero, List.set_cons_succ]
 clear hT v0 v1 v2 v3 v4 v5 v6 v7 v8 v9 v10 v11 v12 v13 v14 v15 v16 v17 v18 v19 v20 v21 v22 v23 v24 v25 v26 v27
 have HB4 := Aside0.mk (below_step HB3.out hb4)
 have Kg1_2_3_4 := Aside0.mk (blk_below Kg1_2_3.out hb4)
 have Kg2_3_4 := Aside0.mk (blk_below Kg2_3.out hb4)
 clear hb4
 go_upto_region 3 with fail
 refine Flow2.flowT (E := Es x w W4.heap.size) [(some 35, []), (some 36, [0]), (some 37, []), (some 38, [2]), (some 5, []), (some 6, []), (none, [4, 1, 0, 1, 4, 5]), (none, [5, 3, 6, 0, 1, 2, 3, 4, 5, 6])] (fun iQ vs wQ => match iQ with | 0 => vs 0 = .pointer (some ⟨g1, 1, none⟩) | 1 => vs 1 = .agg #[.int .i64 x.cmd, .int .i64 x.zone, .int .i64 x.at_, .int .i64 x.n, .slice A0 x.data.length c0, .bool x.fua] | 2 => vs 2 = .pointer (some ⟨g2, 1, none⟩) | 3 => vs 3 = .agg #[.int .i64 x.cmd, .int .i64 x.zone, .int .i64 x.at_, .int .i64 x.n, .slice A1 x.data.length c1, .bool x.fua] | 4 => ∃ g, PtrTo (vs 4) g ∧ W4.heap.size ≤ g ∧ Shape g wQ | 5 => ∃ g, PtrTo (vs 5) g ∧ W4.heap.size ≤ g ∧ Shape g wQ | 6 => ∃ g, PtrTo (vs 4) g ∧ GoodAt x w g wQ | 7 => ∃ g, PtrTo (vs 5) g ∧ GoodAt x w g wQ | _ => True) rfl (by kernel_rfl) (by kernel_rfl) (by kernel_rfl) Es.drew (fun _ _ _ h k => h.trans k) (fun iQ vs w1Q w2Q hQ hEQ => match iQ, hQ with | 0, hQ => hQ | 1, hQ => hQ | 2, hQ => hQ | 3, hQ => hQ | 4, hQ => (match hQ with | ⟨g, h1, h2, h3⟩ => ⟨g, h1, h2, hEQ.2.2 g h3⟩) | 5, hQ => (match hQ with | ⟨g, h1, h2, h3⟩ => ⟨g, h1, h2, hEQ.2.2 g h3⟩) | 6, hQ => (match hQ with | ⟨g, h1, h2⟩ => ⟨g, h1, hEQ.2.1 g h2⟩) | 7, hQ => (match hQ with | ⟨g, h1, h2⟩ => ⟨g, h1, hEQ.2.1 g h2⟩) | _ + 8, _ => trivial) ?_ ?_
 ·refine ⟨?_, ?_, ?_, ?_, ?_, ?_, ?_, ?_, trivial⟩
  ·intro a w' hx hu vs hd K hK; have e2 : a.tmps.getD 2 undef = .pointer (some ⟨g1, 0, none⟩) := hu 2 rfl; exact Flow.run1 rfl (fa rfl e2 (fa56_1 _ _ _)) (hK _ _ Es.refl (fun us e1 _ => e1))
  ·intro a w' hx hu vs hd K hK; have e35 := ((hd 0 (by decide)).2 35 rfl).trans (hd 0 (by decide)).1; exact Flow.run1 rfl (ldrow (c := [.int .i64 x.cmd, .int .i64 x.zone, .int .i64 x.at_, .int .i64 x.n, .slice A0 x.data.length c0, .bool x.fua]) rfl e35 (lies_part (blk_below Kg1_2_3_4.out hx.1) rfl) Tryd.underlying54 rfl size54) (hK _ _ Es.refl (fun us e1 _ => e1))
  ·intro a w' hx hu vs hd K hK; have e3 : a.tmps.getD 3 undef = .pointer (some ⟨g2, 0, none⟩) := hu 3 rfl; exact Flow.run1 rfl (fa rfl e3 (fa56_1 _ _ _)) (hK _ _ Es.refl (fun us e1 _ => e1))
  ·intro a w' hx hu vs hd K hK; have e37 := ((hd 2 (by decide)).2 37 rfl).trans (hd 2 (by decide)).1; exact Flow.run1 rfl (ldrow (c := [.int .i64 x.cmd, .int .i64 x.zone, .int .i64 x.at_, .int .i64 x.n, .slice A1 x.data.length c1, .bool x.fua]) rfl e37 (lies_part (blk_below Kg2_3_4.out hx.1) rfl) Tryd.underlying54 rfl size54) (hK _ _ Es.refl (fun us e1 _ => e1))
  ·intro a w' hx hu vs hd K hK; exact Flow.run1 rfl (alloc_run rfl zero54_is) (hK _ _ (Es.alloc hx.1.size _) (fun us e1 _ => ⟨_, e1, hx.1.size, ⟨_, blk_new _ _, rfl⟩⟩))
  ·intro a w' hx hu vs hd K hK; exact Flow.run1 rfl (alloc_run rfl zero54_is) (hK _ _ (Es.alloc hx.1.size _) (fun us e1 _ => ⟨_, e1, hx.1.size, ⟨_, blk_new _ _, rfl⟩⟩))
  ·intro a w' hx hu vs hd K hK; obtain ⟨g, hp, hb, cs, hcs, hsz⟩ := (hd 4 (by decide)).1; have e5 := ((hd 4 (by decide)).2 5 rfl).trans hp; have e36 := ((hd 1 (by decide)).2 36 rfl).trans (hd 1 (by decide)).1; refine Flow.want rfl (store_k (ty := 54) (c := [.int .i64 x.cmd, .int .i64 x.zone, .int .i64 x.at_, .int .i64 x.n, .slice A0 x.data.length c0, .bool x.fua]) rfl e5 e36 hcs hsz size54 rfl ?_); intro w1 k1 hf hB; obtain ⟨hE, hG⟩ := Es.put hb k1 HD0.out hf hB; exact hK undef _ hE (fun us _ e2 => ⟨g, (e2 4 (by decide)).trans hp, hG⟩)
  ·intro a w' hx hu vs hd K hK; obtain ⟨g, hp, hb, cs, hcs, hsz⟩ := (hd 5 (by decide)).1; have e5 := ((hd 5 (by decide)).2 6 rfl).trans hp; have e36 := ((hd 3 (by decide)).2 38 rfl).trans (hd 3 (by decide)).1; refine Flow.want rfl (store_k (ty := 54) (c := [.int .i64 x.cmd, .int .i64 x.zone, .int .i64 x.at_, .int .i64 x.n, .slice A1 x.data.length c1, .bool x.fua]) rfl e5 e36 hcs hsz size54 rfl ?_); intro w1 k1 hf hB; obtain ⟨hE, hG⟩ := Es.put hb k1 HD1.out hf hB; exact hK undef _ hE (fun us _ e2 => ⟨g, (e2 5 (by decide)).trans hp, hG⟩)
 intro vs W900 hb900 hT
 have v0 := Flow.eqn (hT 0 (by decide))
 have v1 := Flow.eqn (hT 1 (by decide))
 have v2 := Flow.eqn (hT 2 (by decide))
 have v3 := Flow.eqn (hT 3 (by decide))
 obtain ⟨g5, v4, A5, c5, k5, hC5⟩ := hT 6 (by decide)
 obtain ⟨g6, v5, A6, c6, k6, hC6⟩ := hT 7 (by decide)
 unfold PtrTo at v4 v5
 have K5 := Aside0.mk k5
 have K6 := Aside0.mk k6
 have HC5 := Aside0.mk hC5
 have HC6 := Aside0.mk hC6
 simp only [Flow.putsT, v0, v1, v2, v3, v4, v5, Act.put, List.setIfInBounds_toArray, List.set_cons_zero, List.set_cons_succ]
 clear hT v0 v1 v2 v3 v4 v5 k5 k6 hC5 hC6
 have HB900 := Aside0.mk (below_step HB4.out hb900.1)
 clear hb900
 go_upto_region 4 with fail
 refine Flow.seqT (E := fun u v => Below u.heap.size u v) [(some 39, []), (some 40, [0]), (some 41, []), (some 42, [2]), (some 43, [1, 3]), (some 44, [4]), (some 45, [5]), (some 46, [6, 5]), (some 47, [5]), (some 48, [8, 5]), (some 49, [7, 9, 5]), (some 50, [5, 10]), (some 51, [11, 5]), (some 52, [12]), (some 53, [13, 12]), (some 54, [12]), (some 55, [15, 12]), (some 56, [14, 16, 12]), (some 57, [12, 17]), (some 58, [18, 12]), (some 59, [19]), (some 60, [20, 19]), (some 61, [19]), (some 62, [22, 19]), (some 63, [21, 23, 19]), (some 64, [19, 24]), (some 65, [25, 19]), (some 66, [26]), (some 67, [27, 26]), (some 68, [26]), (some 69, [29, 26]), (some 70, [28, 30, 26]), (some 71, [26, 31]), (some 72, [32, 26]), (some 73, [33]), (some 74, [34, 33]), (some 75, [35, 33]), (some 76, [33]), (some 77, [37, 33]), (some 78, [38, 33]), (some 79, [36, 39, 33]), (some 80, [33, 40]), (some 4, [41, 33, 0, 1, 2, 3, 4, 5, 6, 7, 8, 9, 10, 11, 12, 13, 14, 15, 16, 17, 18, 19, 20, 21, 22, 23, 24, 25, 26, 27, 28, 29, 30, 31, 32, 33, 34, 35, 36, 37, 38, 39, 40, 41])] (fun iQ vQ wQ => match iQ with | 0 => vQ = (.pointer (some ⟨g5, 0, none⟩)) | 1 => vQ = (.int .i64 x.cmd) | 2 => vQ = (.pointer (some ⟨g6, 0, none⟩)) | 3 => vQ = (.int .i64 x.cmd) | 4 => vQ = (.bool true) | 5 => vQ = (.bool true) | 6 => vQ = (.pointer (some ⟨g5, 1, none⟩)) | 7 => vQ = (.int .i64 x.zone) | 8 => vQ = (.pointer (some ⟨g6, 1, none⟩)) | 9 => vQ = (.int .i64 x.zone) | 10 => vQ = (.bool true) | 11 => vQ = (.bool true) | 12 => vQ = (.bool true) | 13 => vQ = (.pointer (some ⟨g5, 2, none⟩)) | 14 => vQ = (.int .i64 x.at_) | 15 => vQ = (.pointer (some ⟨g6, 2, none⟩)) | 16 => vQ = (.int .i64 x.at_) | 17 => vQ = (.bool true) | 18 => vQ = (.bool true) | 19 => vQ = (.bool true) | 20 => vQ = (.pointer (some ⟨g5, 3, none⟩)) | 21 => vQ = (.int .i64 x.n) | 22 => vQ = (.pointer (some ⟨g6, 3, none⟩)) | 23 => vQ = (.int .i64 x.n) | 24 => vQ = (.bool true) | 25 => vQ = (.bool true) | 26 => vQ = (.bool true) | 27 => vQ = (.pointer (some ⟨g5, 5, none⟩)) | 28 => vQ = (.bool x.fua) | 29 => vQ = (.pointer (some ⟨g6, 5, none⟩)) | 30 => vQ = (.bool x.fua) | 31 => vQ = (.bool true) | 32 => vQ = (.bool true) | 33 => vQ = (.bool true) | 34 => vQ = (.pointer (some ⟨g5, 4, none⟩)) | 35 => vQ = (.slice A5 x.data.length c5) | 36 => vQ = (.string (strOfNums x.data)) | 37 => vQ = (.pointer (some ⟨g6, 4, none⟩)) | 38 => vQ = (.slice A6 x.data.length c6) | 39 => vQ = (.string (strOfNums x.data)) | 40 => vQ = (.bool true) | 41 => vQ = (.bool true) | 42 => vQ = (.bool true) | _ => True) rfl (by kernel_rfl) (Below.refl _ _) (fun _ _ _ h k => h.trans (k.mono h.size)) (fun _ _ _ _ h _ => h) ?_ ?_
 ·refine ⟨?_, ?_, ?_, ?_, ?_, ?_, ?_, ?_, ?_, ?_, ?_, ?_, ?_, ?_, ?_, ?_, ?_, ?_, ?_, ?_, ?_, ?_, ?_, ?_, ?_, ?_, ?_, ?_, ?_, ?_, ?_, ?_, ?_, ?_, ?_, ?_, ?_, ?_, ?_, ?_, ?_, ?_, ?_, trivial⟩
  ·intro a w' hx hu hd K hK; have e5 : a.tmps.getD 5 undef = (.pointer (some ⟨g5, 0, none⟩)) := hu 5 rfl; exact Flow.run1 rfl (fa rfl e5 (fa54_0 _ _ _)) (hK _ _ (Below.refl _ _) rfl)
  ·intro a w' hx hu hd K hK; have e39 := Flow.got (hd 0 rfl) 39 rfl; exact Flow.run1 rfl (ld rfl e39 ((blk_cell (blk_below K5.out hx) 0).trans rfl) Tryd.underlying3 rfl) (hK _ _ (Below.refl _ _) rfl)
  ·intro a w' hx hu hd K hK; have e6 : a.tmps.getD 6 undef = (.pointer (some ⟨g6, 0, none⟩)) := hu 6 rfl; exact Flow.run1 rfl (fa rfl e6 (fa54_0 _ _ _)) (hK _ _ (Below.refl _ _) rfl)
  ·intro a w' hx hu hd K hK; have e41 := Flow.got (hd 2 rfl) 41 rfl; exact Flow.run1 rfl (ld rfl e41 ((blk_cell (blk_below K6.out hx) 0).trans rfl) Tryd.underlying3 rfl) (hK _ _ (Below.refl _ _) rfl)
  ·intro a w' hx hu hd K hK; have e40 := Flow.got (hd 1 rfl) 40 rfl; have e42 := Flow.got (hd 3 rfl) 42 rfl; exact Flow.run1 rfl (yes (eql rfl e40 e42) (beq_iff_eq.2 rfl)) (hK _ _ (Below.refl _ _) rfl)
  ·intro a w' hx hu hd K hK; have e43 := Flow.got (hd 4 rfl) 43 rfl; exact Flow.run1 rfl (Flow.r_move rfl e43) (hK _ _ (Below.refl _ _) rfl)
  ·intro a w' hx hu hd K hK; have e5 : a.tmps.getD 5 undef = (.pointer (some ⟨g5, 0, none⟩)) := hu 5 rfl; have e44 := Flow.got (hd 5 rfl) 44 rfl; exact Flow.run1 (Flow.want_of (k := 44) rfl e44) (fa rfl e5 (fa54_1 _ _ _)) (hK _ _ (Below.refl _ _) rfl)
  ·intro a w' hx hu hd K hK; have e45 := Flow.got (hd 6 rfl) 45 rfl; have e44 := Flow.got (hd 5 rfl) 44 rfl; exact Flow.run1 (Flow.want_of (k := 44) rfl e44) (ld rfl e45 ((blk_cell (blk_below K5.out hx) 1).trans rfl) Tryd.underlying3 rfl) (hK _ _ (Below.refl _ _) rfl)
  ·intro a w' hx hu hd K hK; have e6 : a.tmps.getD 6 undef = (.pointer (some ⟨g6, 0, none⟩)) := hu 6 rfl; have e44 := Flow.got (hd 5 rfl) 44 rfl; exact Flow.run1 (Flow.want_of (k := 44) rfl e44) (fa rfl e6 (fa54_1 _ _ _)) (hK _ _ (Below.refl _ _) rfl)
  ·intro a w' hx hu hd K hK; have e47 := Flow.got (hd 8 rfl) 47 rfl; have e44 := Flow.got (hd 5 rfl) 44 rfl; exact Flow.run1 (Flow.want_of (k := 44) rfl e44) (ld rfl e47 ((blk_cell (blk_below K6.out hx) 1).trans rfl) Tryd.underlying3 rfl) (hK _ _ (Below.refl _ _) rfl)
  ·intro a w' hx hu hd K hK; have e46 := Flow.got (hd 7 rfl) 46 rfl; have e48 := Flow.got (hd 9 rfl) 48 rfl; have e44 := Flow.got (hd 5 rfl) 44 rfl; exact Flow.run1 (Flow.want_of (k := 44) rfl e44) (yes (eql rfl e46 e48) (beq_iff_eq.2 rfl)) (hK _ _ (Below.refl _ _) rfl)
  ·intro a w' hx hu hd K hK; have e44 := Flow.got (hd 5 rfl) 44 rfl; have e49 := Flow.got (hd 10 rfl) 49 rfl; exact Flow.run1 rfl (Flow.r_pick rfl e44 e49) (hK _ _ (Below.refl _ _) rfl)
  ·intro a w' hx hu hd K hK; have e50 := Flow.got (hd 11 rfl) 50 rfl; exact Flow.run1 rfl (Flow.r_move rfl e50) (hK _ _ (Below.refl _ _) rfl)
  ·intro a w' hx hu hd K hK; have e5 : a.tmps.getD 5 undef = (.pointer (some ⟨g5, 0, none⟩)) := hu 5 rfl; have e51 := Flow.got (hd 12 rfl) 51 rfl; exact Flow.run1 (Flow.want_of (k := 51) rfl e51) (fa rfl e5 (fa54_2 _ _ _)) (hK _ _ (Below.refl _ _) rfl)
  ·intro a w' hx hu hd K hK; have e52 := Flow.got (hd 13 rfl) 52 rfl; have e51 := Flow.got (hd 12 rfl) 51 rfl; exact Flow.run1 (Flow.want_of (k := 51) rfl e51) (ld rfl e52 ((blk_cell (blk_below K5.out hx) 2).trans rfl) Tryd.underlying3 rfl) (hK _ _ (Below.refl _ _) rfl)
  ·intro a w' hx hu hd K hK; have e6 : a.tmps.getD 6 undef = (.pointer (some ⟨g6, 0, none⟩)) := hu 6 rfl; have e51 := Flow.got (hd 12 rfl) 51 rfl; exact Flow.run1 (Flow.want_of (k := 51) rfl e51) (fa rfl e6 (fa54_2 _ _ _)) (hK _ _ (Below.refl _ _) rfl)
  ·intro a w' hx hu hd K hK; have e54 := Flow.got (hd 15 rfl) 54 rfl; have e51 := Flow.got (hd 12 rfl) 51 rfl; exact Flow.run1 (Flow.want_of (k := 51) rfl e51) (ld rfl e54 ((blk_cell (blk_below K6.out hx) 2).trans rfl) Tryd.underlying3 rfl) (hK _ _ (Below.refl _ _) rfl)
  ·intro a w' hx hu hd K hK; have e53 := Flow.got (hd 14 rfl) 53 rfl; have e55 := Flow.got (hd 16 rfl) 55 rfl; have e51 := Flow.got (hd 12 rfl) 51 rfl; exact Flow.run1 (Flow.want_of (k := 51) rfl e51) (yes (eql rfl e53 e55) (beq_iff_eq.2 rfl)) (hK _ _ (Below.refl _ _) rfl)
  ·intro a w' hx hu hd K hK; have e51 := Flow.got (hd 12 rfl) 51 rfl; have e56 := Flow.got (hd 17 rfl) 56 rfl; exact Flow.run1 rfl (Flow.r_pick rfl e51 e56) (hK _ _ (Below.refl _ _) rfl)
  ·intro a w' hx hu hd K hK; have e57 := Flow.got (hd 18 rfl) 57 rfl; exact Flow.run1 rfl (Flow.r_move rfl e57) (hK _ _ (Below.refl _ _) rfl)
  ·intro a w' hx hu hd K hK; have e5 : a.tmps.getD 5 undef = (.pointer (some ⟨g5, 0, none⟩)) := hu 5 rfl; have e58 := Flow.got (hd 19 rfl) 58 rfl; exact Flow.run1 (Flow.want_of (k := 58) rfl e58) (fa rfl e5 (fa54_3 _ _ _)) (hK _ _ (Below.refl _ _) rfl)
  ·intro a w' hx hu hd K hK; have e59 := Flow.got (hd 20 rfl) 59 rfl; have e58 := Flow.got (hd 19 rfl) 58 rfl; exact Flow.run1 (Flow.want_of (k := 58) rfl e58) (ld rfl e59 ((blk_cell (blk_below K5.out hx) 3).trans rfl) Tryd.underlying3 rfl) (hK _ _ (Below.refl _ _) rfl)
  ·intro a w' hx hu hd K hK; have e6 : a.tmps.getD 6 undef = (.pointer (some ⟨g6, 0, none⟩)) := hu 6 rfl; have e58 := Flow.got (hd 19 rfl) 58 rfl; exact Flow.run1 (Flow.want_of (k := 58) rfl e58) (fa rfl e6 (fa54_3 _ _ _)) (hK _ _ (Below.refl _ _) rfl)
  ·intro a w' hx hu hd K hK; have e61 := Flow.got (hd 22 rfl) 61 rfl; have e58 := Flow.got (hd 19 rfl) 58 rfl; exact Flow.run1 (Flow.want_of (k := 58) rfl e58) (ld rfl e61 ((blk_cell (blk_below K6.out hx) 3).trans rfl) Tryd.underlying3 rfl) (hK _ _ (Below.refl _ _) rfl)
  ·intro a w' hx hu hd K hK; have e60 := Flow.got (hd 21 rfl) 60 rfl; have e62 := Flow.got (hd 23 rfl) 62 rfl; have e58 := Flow.got (hd 19 rfl) 58 rfl; exact Flow.run1 (Flow.want_of (k := 58) rfl e58) (yes (eql rfl e60 e62) (beq_iff_eq.2 rfl)) (hK _ _ (Below.refl _ _) rfl)
  ·intro a w' hx hu hd K hK; have e58 := Flow.got (hd 19 rfl) 58 rfl; have e63 := Flow.got (hd 24 rfl) 63 rfl; exact Flow.run1 rfl (Flow.r_pick rfl e58 e63) (hK _ _ (Below.refl _ _) rfl)
  ·intro a w' hx hu hd K hK; have e64 := Flow.got (hd 25 rfl) 64 rfl; exact Flow.run1 rfl (Flow.r_move rfl e64) (hK _ _ (Below.refl _ _) rfl)
  ·intro a w' hx hu hd K hK; have e5 : a.tmps.getD 5 undef = (.pointer (some ⟨g5, 0, none⟩)) := hu 5 rfl; have e65 := Flow.got (hd 26 rfl) 65 rfl; exact Flow.run1 (Flow.want_of (k := 65) rfl e65) (fa rfl e5 (fa54_5 _ _ _)) (hK _ _ (Below.refl _ _) rfl)
  ·intro a w' hx hu hd K hK; have e66 := Flow.got (hd 27 rfl) 66 rfl; have e65 := Flow.got (hd 26 rfl) 65 rfl; exact Flow.run1 (Flow.want_of (k := 65) rfl e65) (ld rfl e66 ((blk_cell (blk_below K5.out hx) 5).trans rfl) Tryd.underlying4 rfl) (hK _ _ (Below.refl _ _) rfl)
  ·intro a w' hx hu hd K hK; have e6 : a.tmps.getD 6 undef = (.pointer (some ⟨g6, 0, none⟩)) := hu 6 rfl; have e65 := Flow.got (hd 26 rfl) 65 rfl; exact Flow.run1 (Flow.want_of (k := 65) rfl e65) (fa rfl e6 (fa54_5 _ _ _)) (hK _ _ (Below.refl _ _) rfl)
  ·intro a w' hx hu hd K hK; have e68 := Flow.got (hd 29 rfl) 68 rfl; have e65 := Flow.got (hd 26 rfl) 65 rfl; exact Flow.run1 (Flow.want_of (k := 65) rfl e65) (ld rfl e68 ((blk_cell (blk_below K6.out hx) 5).trans rfl) Tryd.underlying4 rfl) (hK _ _ (Below.refl _ _) rfl)
  ·intro a w' hx hu hd K hK; have e67 := Flow.got (hd 28 rfl) 67 rfl; have e69 := Flow.got (hd 30 rfl) 69 rfl; have e65 := Flow.got (hd 26 rfl) 65 rfl; exact Flow.run1 (Flow.want_of (k := 65) rfl e65) (is (beqb Tryd.underlying4 rfl e67 e69) (beq_self_eq_true _)) (hK _ _ (Below.refl _ _) rfl)
  ·intro a w' hx hu hd K hK; have e65 := Flow.got (hd 26 rfl) 65 rfl; have e70 := Flow.got (hd 31 rfl) 70 rfl; exact Flow.run1 rfl (Flow.r_pick rfl e65 e70) (hK _ _ (Below.refl _ _) rfl)
  ·intro a w' hx hu hd K hK; have e71 := Flow.got (hd 32 rfl) 71 rfl; exact Flow.run1 rfl (Flow.r_move rfl e71) (hK _ _ (Below.refl _ _) rfl)
  ·intro a w' hx hu hd K hK; have e5 : a.tmps.getD 5 undef = (.pointer (some ⟨g5, 0, none⟩)) := hu 5 rfl; have e72 := Flow.got (hd 33 rfl) 72 rfl; exact Flow.run1 (Flow.want_of (k := 72) rfl e72) (fa rfl e5 (fa54_4 _ _ _)) (hK _ _ (Below.refl _ _) rfl)
  ·intro a w' hx hu hd K hK; have e73 := Flow.got (hd 34 rfl) 73 rfl; have e72 := Flow.got (hd 33 rfl) 72 rfl; exact Flow.run1 (Flow.want_of (k := 72) rfl e72) (ld rfl e73 ((blk_cell (blk_below K5.out hx) 4).trans rfl) Tryd.underlying43 rfl) (hK _ _ (Below.refl _ _) rfl)
  ·intro a w' hx hu hd K hK; have e74 := Flow.got (hd 35 rfl) 74 rfl; have e72 := Flow.got (hd 33 rfl) 72 rfl; exact Flow.run1 (Flow.want_of (k := 72) rfl e72) (cvs rfl e74 (Kd.C_string Tryd.underlying43 Tryd.underlying5 Tryd.underlying9 (Kd.C_below HC5.out (below_step HB900.out hx)))) (hK _ _ (Below.refl _ _) rfl)
  ·intro a w' hx hu hd K hK; have e6 : a.tmps.getD 6 undef = (.pointer (some ⟨g6, 0, none⟩)) := hu 6 rfl; have e72 := Flow.got (hd 33 rfl) 72 rfl; exact Flow.run1 (Flow.want_of (k := 72) rfl e72) (fa rfl e6 (fa54_4 _ _ _)) (hK _ _ (Below.refl _ _) rfl)
  ·intro a w' hx hu hd K hK; have e76 := Flow.got (hd 37 rfl) 76 rfl; have e72 := Flow.got (hd 33 rfl) 72 rfl; exact Flow.run1 (Flow.want_of (k := 72) rfl e72) (ld rfl e76 ((blk_cell (blk_below K6.out hx) 4).trans rfl) Tryd.underlying43 rfl) (hK _ _ (Below.refl _ _) rfl)
  ·intro a w' hx hu hd K hK; have e77 := Flow.got (hd 38 rfl) 77 rfl; have e72 := Flow.got (hd 33 rfl) 72 rfl; exact Flow.run1 (Flow.want_of (k := 72) rfl e72) (cvs rfl e77 (Kd.C_string Tryd.underlying43 Tryd.underlying5 Tryd.underlying9 (Kd.C_below HC6.out (below_step HB900.out hx)))) (hK _ _ (Below.refl _ _) rfl)
  ·intro a w' hx hu hd K hK; have e75 := Flow.got (hd 36 rfl) 75 rfl; have e78 := Flow.got (hd 39 rfl) 78 rfl; have e72 := Flow.got (hd 33 rfl) 72 rfl; exact Flow.run1 (Flow.want_of (k := 72) rfl e72) (seq rfl e75 e78 rfl) (hK _ _ (Below.refl _ _) rfl)
  ·intro a w' hx hu hd K hK; have e72 := Flow.got (hd 33 rfl) 72 rfl; have e79 := Flow.got (hd 40 rfl) 79 rfl; exact Flow.run1 rfl (Flow.r_pick rfl e72 e79) (hK _ _ (Below.refl _ _) rfl)
  ·intro a w' hx hu hd K hK; have e80 := Flow.got (hd 41 rfl) 80 rfl; exact Flow.run1 rfl (Flow.r_assign rfl e80) (hK _ _ (Below.refl _ _) rfl)
 intro vs W902 hb902 hT
 have v0 := Flow.eqn (hT 0 (by decide))
 have v1 := Flow.eqn (hT 1 (by decide))
 have v2 := Flow.eqn (hT 2 (by decide))
 have v3 := Flow.eqn (hT 3 (by decide))
 have v4 := Flow.eqn (hT 4 (by decide))
 have v5 := Flow.eqn (hT 5 (by decide))
 have v6 := Flow.eqn (hT 6 (by decide))
 have v7 := Flow.eqn (hT 7 (by decide))
 have v8 := Flow.eqn (hT 8 (by decide))
 have v9 := Flow.eqn (hT 9 (by decide))
 have v10 := Flow.eqn (hT 10 (by decide))
 have v11 := Flow.eqn (hT 11 (by decide))
 have v12 := Flow.eqn (hT 12 (by decide))
 have v13 := Flow.eqn (hT 13 (by decide))
 have v14 := Flow.eqn (hT 14 (by decide))
 have v15 := Flow.eqn (hT 15 (by decide))
 have v16 := Flow.eqn (hT 16 (by decide))
 have v17 := Flow.eqn (hT 17 (by decide))
 have v18 := Flow.eqn (hT 18 (by decide))
 have v19 := Flow.eqn (hT 19 (by decide))
 have v20 := Flow.eqn (hT 20 (by decide))
 have v21 := Flow.eqn (hT 21 (by decide))
 have v22 := Flow.eqn (hT 22 (by decide))
 have v23 := Flow.eqn (hT 23 (by decide))
 have v24 := Flow.eqn (hT 24 (by decide))
 have v25 := Flow.eqn (hT 25 (by decide))
 have v26 := Flow.eqn (hT 26 (by decide))
 have v27 := Flow.eqn (hT 27 (by decide))
 have v28 := Flow.eqn (hT 28 (by decide))
 have v29 := Flow.eqn (hT 29 (by decide))
 have v30 := Flow.eqn (hT 30 (by decide))
 have v31 := Flow.eqn (hT 31 (by decide))
 have v32 := Flow.eqn (hT 32 (by decide))
 have v33 := Flow.eqn (hT 33 (by decide))
 have v34 := Flow.eqn (hT 34 (by decide))
 have v35 := Flow.eqn (hT 35 (by decide))
 have v36 := Flow.eqn (hT 36 (by decide))
 have v37 := Flow.eqn (hT 37 (by decide))
 have v38 := Flow.eqn (hT 38 (by decide))
 have v39 := Flow.eqn (hT 39 (by decide))
 have v40 := Flow.eqn (hT 40 (by decide))
 have v41 := Flow.eqn (hT 41 (by decide))
 have v42 := Flow.eqn (hT 42 (by decide))
 simp only [Flow.putsT, v0, v1, v2, v3, v4, v5, v6, v7, v8, v9, v10, v11, v12, v13, v14, v15, v16, v17, v18, v19, v20, v21, v22, v23, v24, v25, v26, v27, v28, v29, v30, v31, v32, v33, v34, v35, v36, v37, v38, v39, v40, v41, v42, Act.put, List.setIfInBounds_toArray, List.set_cons_zero, List.set_cons_succ]
 clear hT v0 v1 v2 v3 v4 v5 v6 v7 v8 v9 v10 v11 v12 v13 v14 v15 v16 v17 v18 v19 v20 v21 v22 v23 v24 v25 v26 v27 v28 v29 v30 v31 v32 v33 v34 v35 v36 v37 v38 v39 v40 v41 v42
 have HB902 := Aside0.mk (below_step HB900.out hb902)
 have K5_902 := Aside0.mk (blk_below K5.out hb902)
 have K6_902 := Aside0.mk (blk_below K6.out hb902)
 clear hb902
 go_wp2
 go_ret
 exact ⟨rfl, HB902.out⟩
end Go.Proofs.YtlhmpmmblnbmbaaDoor.Con
