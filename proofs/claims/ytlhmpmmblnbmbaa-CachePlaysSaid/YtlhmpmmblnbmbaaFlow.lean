/- A region that draws its order, by a fact for each operation: whatever comes up first, each operation finds what it hangs on, and what was found stays found. -/
import Derived.Orders
import Derived.StillTail
import Derived.Below
namespace Go.Proofs.Ytlhmpmmblnbmbaa.Flow
open Go.RowKit
/-- Which operation writes a slot. -/
def writer (ops : Array Oper) (k : Nat) : Option Nat := (List.range ops.size).find? fun i => ((ops[i]?).bind (·.dst)) == some k
/-- Each slot has one writer; what an operation waits for stands ahead of it. -/
def fine (ops : Array Oper) : Bool := (List.range ops.size).all fun i => match ops[i]? with
  | some o => (match o.dst with | some k => writer ops k == some i | none => true) && o.after.all (fun e => !Region.binds .any e || decide (e.on < i))
  | none => false
section
variable {P : Program} {ops : Array Oper} {Q : Exit → Act → World → Prop} {a0 : Act} {w0 : World} {E : World → World → Prop} {T : Nat → Value → World → Prop} {TAB : List (Option Nat × List Nat)}
/-- What operation i must do, wherever it comes up. -/
def StepOk (P : Program) (ops : Array Oper) (Q : Exit → Act → World → Prop) (E : World → World → Prop) (T : Nat → Value → World → Prop) (a0 : Act) (w0 : World) (i : Nat) (o : Oper) : Prop :=
  ∀ (a : Act) (w : World), E w0 w → a.tmps.size = a0.tmps.size →
    (∀ k : Nat, (∀ (m : Nat) (om : Oper), ops[m]? = some om → om.dst = some k → ∃ e ∈ om.after, Region.binds .any e = true ∧ e.on = i) → a.tmps.getD k undef = a0.tmps.getD k undef) →
    (∀ j oj, ops[j]? = some oj → (∃ e ∈ o.after, Region.binds .any e = true ∧ e.on = j) → ∃ v, T j v w ∧ ∀ k : Nat, oj.dst = some k → a.tmps.getD k undef = v) →
    ∀ K : Act → World → Prop, (∀ v w', E w w' → T i v w' → K (a.put o.dst v) w') →
      if Region.wanted o (yielded ops a.tmps) = true then o.wp P a w K Q else K (a.put o.dst undef) w
def slotOf (ops : Array Oper) (listed : Array Bool) (vs : Nat → Value) (a0 : Act) (k : Nat) : Option Value :=
  match writer ops k with
  | some i => if listed.getD i false = true then some (vs i) else a0.tmps[k]?
  | none => a0.tmps[k]?
structure Inv (ops : Array Oper) (E : World → World → Prop) (T : Nat → Value → World → Prop) (a0 : Act) (w0 : World) (listed : Array Bool) (a : Act) (w : World) : Prop where
  size : listed.size = ops.size
  shut : ∀ i o, ops[i]? = some o → listed.getD i false = true → ∀ e ∈ o.after, Region.binds .any e = true → listed.getD e.on false = true
  ext : E w0 w
  defers : a.defers = a0.defers
  tsize : a.tmps.size = a0.tmps.size
  vals : ∃ vs : Nat → Value, (∀ i, listed.getD i false = true → T i (vs i) w) ∧ ∀ k, k < a0.tmps.size → a.tmps[k]? = slotOf ops listed vs a0 k
theorem writer_some {k i : Nat} (h : writer ops k = some i) : ∃ o, ops[i]? = some o ∧ o.dst = some k := by
  have := List.find?_some h
  cases ho : ops[i]? with
  | none => simp [ho] at this
  | some o => exact ⟨o, rfl, by simpa [ho] using this⟩
theorem fine_dst (hf : fine ops = true) {i : Nat} {o : Oper} {k : Nat} (ho : ops[i]? = some o) (hd : o.dst = some k) : writer ops k = some i := by
  have hi : i < ops.size := (Array.getElem?_eq_some_iff.1 ho).1
  have := List.all_eq_true.1 hf i (List.mem_range.2 hi)
  simp only [ho, hd, Bool.and_eq_true] at this
  simpa using this.1
theorem fine_after (hf : fine ops = true) {i : Nat} {o : Oper} (ho : ops[i]? = some o) {e : Edge} (he : e ∈ o.after) (hb : Region.binds .any e = true) : e.on < i := by
  have hi : i < ops.size := (Array.getElem?_eq_some_iff.1 ho).1
  have := List.all_eq_true.1 hf i (List.mem_range.2 hi)
  simp only [ho, Bool.and_eq_true] at this
  have h2 := Array.all_eq_true_iff_forall_mem.1 this.2 e he
  simpa [hb] using h2
theorem getD_set (l : Array Bool) (i j : Nat) (hi : i < l.size) : (l.setIfInBounds i true).getD j false = (if j = i then true else l.getD j false) := by
  simp only [Array.getD_eq_getD_getElem?, Array.getElem?_setIfInBounds]
  by_cases h : i = j
  · subst h; simp [hi]
  · simp [h, Ne.symm h]
theorem inv_step (hf : fine ops = true) (trans : ∀ a b c, E a b → E b c → E a c) (stay : ∀ i v w w', T i v w → E w w' → T i v w') {listed : Array Bool} {a : Act} {w : World} (hI : Inv ops E T a0 w0 listed a w)
    {i : Nat} {o : Oper} (ho : ops[i]? = some o) (hun : listed.getD i true = false) (hall : ∀ e ∈ o.after, Region.binds .any e = true → listed.getD e.on false = true) {v : Value} {w' : World} (hE : E w w') (hT : T i v w') :
    Inv ops E T a0 w0 (listed.setIfInBounds i true) (a.put o.dst v) w' := by
  obtain ⟨hs, hsh, hx, hd, ht, vs, hv, hk⟩ := hI
  have hi : i < ops.size := (Array.getElem?_eq_some_iff.1 ho).1
  have hil : i < listed.size := by omega
  have hun' : listed.getD i false = false := by
    simp only [Array.getD_eq_getD_getElem?, Array.getElem?_eq_getElem hil, Option.getD_some] at hun ⊢; exact hun
  refine ⟨by simpa using hs, ?_, trans _ _ _ hx hE, ?_, ?_, fun j => if j = i then v else vs j, ?_, ?_⟩
  · intro j oj hj hl e he hb
    rw [getD_set _ _ _ hil] at hl ⊢
    by_cases hji : j = i
    · subst hji
      rw [ho] at hj; cases hj
      split
      · rfl
      · exact hall e he hb
    · rw [if_neg hji] at hl
      split
      · rfl
      · exact hsh j oj hj hl e he hb
  · cases o.dst <;> simp [Act.put, hd]
  · cases o.dst <;> simp [Act.put, ht]
  · intro j hj
    rw [getD_set _ _ _ hil] at hj
    by_cases hji : j = i
    · subst hji
      show T j (if j = j then v else vs j) w'
      rw [if_pos rfl]; exact hT
    · rw [if_neg hji] at hj
      show T j (if j = i then v else vs j) w'
      rw [if_neg hji]
      exact stay _ _ _ _ (hv j hj) hE
  · intro k hkk
    have old := hk k hkk
    cases hdst : o.dst with
    | none =>
      simp only [Act.put]
      rw [old]
      unfold slotOf
      cases hw : writer ops k with
      | none => rfl
      | some m =>
        have hmi : m ≠ i := by
          rintro rfl
          obtain ⟨o', ho', hd'⟩ := writer_some hw
          rw [ho] at ho'; cases ho'
          rw [hdst] at hd'; cases hd'
        simp only [getD_set _ _ _ hil, if_neg hmi]
    | some d =>
      have hwd := fine_dst hf ho hdst
      simp only [Act.put, Array.getElem?_setIfInBounds]
      by_cases hdk : d = k
      · subst hdk
        rw [if_pos rfl, if_pos (by omega)]
        unfold slotOf
        rw [hwd]
        simp only [getD_set _ _ _ hil, if_true]
      · rw [if_neg hdk, old]
        unfold slotOf
        cases hw : writer ops k with
        | none => rfl
        | some m =>
          have hmi : m ≠ i := by
            rintro rfl
            obtain ⟨o', ho', hd'⟩ := writer_some hw
            rw [ho] at ho'; cases ho'
            rw [hdst] at hd'; cases hd'
            exact hdk rfl
          simp only [getD_set _ _ _ hil, if_neg hmi]
/-- The frame behind the region. -/
def behind (ops : Array Oper) (vs : Nat → Value) : List Nat → Act → Act
  | [], a => a
  | i :: r, a => behind ops vs r (match ops[i]? with | some o => a.put o.dst (vs i) | none => a)
theorem behind_defers (vs : Nat → Value) : ∀ (l : List Nat) (a : Act), (behind ops vs l a).defers = a.defers
  | [], _ => rfl
  | i :: r, a => by
    unfold behind
    rw [behind_defers vs r]
    cases ops[i]? with
    | none => rfl
    | some o => cases h : o.dst <;> simp [Act.put, h]
theorem behind_size (vs : Nat → Value) : ∀ (l : List Nat) (a : Act), (behind ops vs l a).tmps.size = a.tmps.size
  | [], _ => rfl
  | i :: r, a => by
    unfold behind
    rw [behind_size vs r]
    cases ops[i]? with
    | none => rfl
    | some o => cases h : o.dst <;> simp [Act.put, h]
theorem behind_slot (hf : fine ops = true) (vs : Nat → Value) : ∀ (l : List Nat) (a : Act) (k : Nat), k < a.tmps.size →
    (behind ops vs l a).tmps[k]? = (match writer ops k with | some i => if i ∈ l then some (vs i) else a.tmps[k]? | none => a.tmps[k]?)
  | [], a, k, _ => by
    unfold behind
    cases writer ops k <;> simp
  | i :: r, a, k, hk => by
    unfold behind
    cases ho : ops[i]? with
    | none =>
      simp only []
      rw [behind_slot hf vs r a k hk]
      cases hw : writer ops k with
      | none => rfl
      | some m =>
        have hmi : m ≠ i := by
          rintro rfl
          obtain ⟨o', ho', _⟩ := writer_some hw
          rw [ho] at ho'; cases ho'
        simp [hmi]
    | some o =>
      simp only []
      have hsz : (a.put o.dst (vs i)).tmps.size = a.tmps.size := by cases o.dst <;> simp [Act.put]
      rw [behind_slot hf vs r _ k (by omega)]
      cases hw : writer ops k with
      | none =>
        cases hdst : o.dst with
        | none => rfl
        | some d =>
          have := fine_dst hf ho hdst
          have hdk : d ≠ k := by rintro rfl; rw [hw] at this; cases this
          simp [Act.put, hdk]
      | some m =>
        by_cases hmi : m = i
        · subst hmi
          obtain ⟨o', ho', hd'⟩ := writer_some hw
          rw [ho] at ho'; cases ho'
          simp only [List.mem_cons, true_or, if_true]
          split
          · rfl
          · simp [Act.put, hd', hk]
        · simp only [List.mem_cons, hmi, false_or]
          split
          · rfl
          · cases hdst : o.dst with
            | none => rfl
            | some d =>
              have := fine_dst hf ho hdst
              have hdk : d ≠ k := by rintro rfl; rw [hw] at this; cases this; exact hmi rfl
              simp [Act.put, hdk]
theorem inv_any (hf : fine ops = true) (room : ∀ (i : Nat) (o : Oper) (k : Nat), ops[i]? = some o → o.dst = some k → k < a0.tmps.size) (trans : ∀ a b c, E a b → E b c → E a c) (stay : ∀ i v w w', T i v w → E w w' → T i v w') (hstep : ∀ i o, ops[i]? = some o → StepOk P ops Q E T a0 w0 i o)
    (hend : ∀ vs w, E w0 w → (∀ i, i < ops.size → T i (vs i) w) → Q .normal (behind ops vs (List.range ops.size) a0) w) :
    ∀ (fuel : Nat) (listed : Array Bool) (a : Act) (w : World), ((List.range ops.size).filter fun i => !listed.getD i false).length ≤ fuel → Inv ops E T a0 w0 listed a w → wpAny P .any ops Q fuel listed a w := by
  have none_left : ∀ (listed : Array Bool) (a : Act) (w : World), Inv ops E T a0 w0 listed a w → Region.ready .any ops listed = [] → ∀ i, i < ops.size → listed.getD i false = true := by
    intro listed a w hI hr i
    induction i using Nat.strongRecOn with
    | ind i ih =>
      intro hi
      have hil : i < listed.size := by have := hI.size; omega
      cases hl : listed.getD i false with
      | true => rfl
      | false =>
        exfalso
        have hmem : i ∈ Region.ready .any ops listed := mem_ready.2 ⟨by
          simp only [Array.getD_eq_getD_getElem?, Array.getElem?_eq_getElem hil, Option.getD_some] at hl ⊢; exact hl, ops[i], Array.getElem?_eq_getElem hi, fun e he hb =>
            ih e.on (fine_after hf (Array.getElem?_eq_getElem hi) he hb) (by have := fine_after hf (Array.getElem?_eq_getElem hi) he hb; omega)⟩
        rw [hr] at hmem; cases hmem
  have at_end : ∀ (listed : Array Bool) (a : Act) (w : World), Inv ops E T a0 w0 listed a w → Region.ready .any ops listed = [] → Q .normal a w := by
    intro listed a w hI hr
    have hall := none_left listed a w hI hr
    obtain ⟨hs, hsh, hx, hd, ht, vs, hv, hk⟩ := hI
    have h := hend vs w hx (fun i hi => hv i (hall i hi))
    have e : behind ops vs (List.range ops.size) a0 = a := by
      have e1 : (behind ops vs (List.range ops.size) a0).tmps = a.tmps := by
        apply Array.ext_getElem?
        intro k
        by_cases hkk : k < a0.tmps.size
        · rw [behind_slot hf vs _ a0 k hkk, hk k hkk]
          unfold slotOf
          cases hw : writer ops k with
          | none => rfl
          | some m =>
            obtain ⟨o', ho', _⟩ := writer_some hw
            have hm : m < ops.size := (Array.getElem?_eq_some_iff.1 ho').1
            simp [hm, hall m hm]
        · rw [Array.getElem?_eq_none (by rw [behind_size]; omega), Array.getElem?_eq_none (by omega)]
      have e2 := behind_defers (ops := ops) vs (List.range ops.size) a0
      cases a with
      | mk t d =>
        cases hb : behind ops vs (List.range ops.size) a0 with
        | mk t' d' =>
          rw [hb] at e1 e2
          simp only at e1 e2 hd
          rw [e1, e2, ← hd]
    rw [e] at h; exact h
  intro fuel
  induction fuel with
  | zero =>
    intro listed a w hc hI
    have hr : Region.ready .any ops listed = [] := by
      rw [List.eq_nil_iff_forall_not_mem]
      intro i hi
      obtain ⟨hl, o, ho, _⟩ := mem_ready.1 hi
      have hi' : i < ops.size := (Array.getElem?_eq_some_iff.1 ho).1
      have hil : i < listed.size := by have := hI.size; omega
      have : i ∈ (List.range ops.size).filter fun i => !listed.getD i false := List.mem_filter.2 ⟨List.mem_range.2 hi', by
        simp only [Array.getD_eq_getD_getElem?, Array.getElem?_eq_getElem hil, Option.getD_some] at hl ⊢; simp [hl]⟩
      have h0 : ((List.range ops.size).filter fun i => !listed.getD i false) = [] := List.length_eq_zero_iff.1 (by omega)
      rw [h0] at this
      cases this
    exact ⟨hr, at_end listed a w hI hr⟩
  | succ fuel ih =>
    intro listed a w hc hI
    refine ⟨at_end listed a w hI, fun i hi => ?_⟩
    obtain ⟨hl, o, ho, hall⟩ := mem_ready.1 hi
    have hi' : i < ops.size := (Array.getElem?_eq_some_iff.1 ho).1
    have hil : i < listed.size := by have := hI.size; omega
    have hK : ∀ v w', E w w' → T i v w' → wpAny P .any ops Q fuel (listed.setIfInBounds i true) (a.put o.dst v) w' := fun v w' hE hT => by
      refine ih _ _ _ ?_ (inv_step hf trans stay hI ho hl hall hE hT)
      have hlt : ((List.range ops.size).filter fun j => !(listed.setIfInBounds i true).getD j false).length < ((List.range ops.size).filter fun j => !listed.getD j false).length := by
        have hsub : ((List.range ops.size).filter fun j => !(listed.setIfInBounds i true).getD j false) = (((List.range ops.size).filter fun j => !listed.getD j false).filter fun j => decide (j ≠ i)) := by
          rw [List.filter_filter]
          apply List.filter_congr
          intro j _
          rw [getD_set _ _ _ hil]
          by_cases hji : j = i <;> simp [hji]
        rw [hsub]
        have hm : i ∈ (List.range ops.size).filter fun j => !listed.getD j false := List.mem_filter.2 ⟨List.mem_range.2 hi', by
          simp only [Array.getD_eq_getD_getElem?, Array.getElem?_eq_getElem hil, Option.getD_some] at hl ⊢; simp [hl]⟩
        exact List.length_filter_lt_length_iff_exists.2 ⟨i, hm, by simp⟩
      omega
    have hdep : ∀ j oj, ops[j]? = some oj → (∃ e ∈ o.after, Region.binds .any e = true ∧ e.on = j) → ∃ v, T j v w ∧ ∀ k : Nat, oj.dst = some k → a.tmps.getD k undef = v := by
      rintro j oj hj ⟨e, he, hb, rfl⟩
      obtain ⟨hs, hsh, hx, hd, ht, vs, hv, hk⟩ := hI
      have hlj := hall e he hb
      refine ⟨vs e.on, hv _ hlj, fun k hdk => ?_⟩
      have hw := fine_dst hf hj hdk
      have hkk := room _ _ _ hj hdk
      rw [Array.getD_eq_getD_getElem?, hk k hkk]
      unfold slotOf
      rw [hw]; simp [hlj]
    have := hstep i o ho a w hI.ext hI.tsize (by
      intro k hw
      obtain ⟨hs, hsh, hx, hd, ht, vs, hv, hk⟩ := hI
      by_cases hkk : k < a0.tmps.size
      · rw [Array.getD_eq_getD_getElem?, Array.getD_eq_getD_getElem?, hk k hkk]
        unfold slotOf
        cases hwr : writer ops k with
        | none => rfl
        | some m =>
          obtain ⟨om, hom, hdm⟩ := writer_some hwr
          simp only []
          rw [if_neg]
          intro hlm
          obtain ⟨e, he, hb, hei⟩ := hw m om hom hdm
          have hli := hsh m om hom hlm e he hb
          rw [hei] at hli
          simp only [Array.getD_eq_getD_getElem?, Array.getElem?_eq_getElem hil, Option.getD_some] at hl hli
          rw [hl] at hli; cases hli
      · rw [Array.getD_eq_getD_getElem?, Array.getD_eq_getD_getElem?, Array.getElem?_eq_none (xs := a.tmps) (by omega), Array.getElem?_eq_none (xs := a0.tmps) (by omega)]) hdep _ hK
    unfold wpOp
    rw [ho]
    simp only []
    split
    · next hw => rw [if_pos hw] at this; exact .inl this
    · next hw => rw [if_neg hw] at this; exact this
theorem flag_ext {a b : Array Bool} (hs : a.size = b.size) (h : ∀ i, i < a.size → a.getD i false = b.getD i false) : a = b := by
  apply Array.ext hs
  intro i h1 h2
  have := h i h1
  simpa [Array.getD_eq_getD_getElem?, Array.getElem?_eq_getElem h1, Array.getElem?_eq_getElem h2] using this
def headFlags (n m : Nat) : Array Bool := (List.replicate n true ++ List.replicate (m - n) false).toArray
theorem headFlags_size {n m : Nat} (h : n ≤ m) : (headFlags n m).size = m := by simp [headFlags]; omega
theorem headFlags_get {n m i : Nat} : (headFlags n m).getD i false = decide (i < n) := by
  unfold headFlags
  simp only [Array.getD_eq_getD_getElem?, List.getElem?_toArray]
  by_cases h : i < n
  · rw [List.getElem?_append_left (by simpa using h)]; simp [h]
  · rw [List.getElem?_append_right (by simpa using h), List.getElem?_replicate]
    split <;> simp [h]
theorem inv_head {n : Nat} (hn : n < ops.size) (hf : fine ops = true) (hsi : Region.sinkB .any ops n = true) (hch : Region.chainB .any ops n = true) (hsq : Region.seqB .any ops (ops.size - n) n (headFlags n ops.size) = true)
    (room : ∀ (i : Nat) (o : Oper) (k : Nat), ops[i]? = some o → o.dst = some k → k < a0.tmps.size) (trans : ∀ a b c, E a b → E b c → E a c) (stay : ∀ i v w w', T i v w → E w w' → T i v w') (hstep : ∀ i o, i < n → ops[i]? = some o → StepOk P ops Q E T a0 w0 i o)
    (hend : ∀ vs w, E w0 w → (∀ i, i < n → T i (vs i) w) → wpList P ops Q (ops.toList.drop n) (behind ops vs (List.range n) a0) w) :
    ∀ (fuel : Nat) (listed : Array Bool) (a : Act) (w : World), ((List.range n).filter fun i => !listed.getD i false).length = fuel → (∀ t, n ≤ t → t < ops.size → listed.getD t true = false) → Inv ops E T a0 w0 listed a w → wpAny P .any ops Q (fuel + (ops.size - n)) listed a w := by
  intro fuel
  induction fuel with
  | zero =>
    intro listed a w hcnt htl hI
    have hall : ∀ i, i < n → listed.getD i false = true := by
      intro i hi
      cases hl : listed.getD i false with
      | true => rfl
      | false =>
        have : i ∈ (List.range n).filter fun i => !listed.getD i false := List.mem_filter.2 ⟨List.mem_range.2 hi, by simp [hl]⟩
        rw [List.length_eq_zero_iff.1 hcnt] at this; cases this
    have hle : listed = headFlags n ops.size := by
      refine flag_ext (by rw [hI.size, headFlags_size (by omega)]) fun i hi => ?_
      rw [headFlags_get]
      by_cases h : i < n
      · rw [hall i h]; simp [h]
      · have := getD_both (htl i (by omega) (by have := hI.size; omega))
        rw [this]; simp [h]
    obtain ⟨hs, hsh, hx, hd, ht, vs, hv, hk⟩ := hI
    have h := hend vs w hx (fun i hi => hv i (hall i hi))
    have e : behind ops vs (List.range n) a0 = a := by
      have e1 : (behind ops vs (List.range n) a0).tmps = a.tmps := by
        apply Array.ext_getElem?
        intro k
        by_cases hkk : k < a0.tmps.size
        · rw [behind_slot hf vs _ a0 k hkk, hk k hkk]
          unfold slotOf
          cases hw : writer ops k with
          | none => rfl
          | some m =>
            by_cases hm : m < n
            · simp [hm, hall m hm]
            · obtain ⟨o', ho', _⟩ := writer_some hw
              have hm' : m < ops.size := (Array.getElem?_eq_some_iff.1 ho').1
              have := getD_both (htl m (by omega) hm')
              simp [hm, this]
        · rw [Array.getElem?_eq_none (by rw [behind_size]; omega), Array.getElem?_eq_none (by omega)]
      have e2 := behind_defers (ops := ops) vs (List.range n) a0
      cases a with
      | mk t d =>
        cases hb : behind ops vs (List.range n) a0 with
        | mk t' d' =>
          rw [hb] at e1 e2
          simp only at e1 e2 hd
          rw [e1, e2, ← hd]
    rw [e] at h
    have hlen : (ops.toList.drop n).length = ops.size - n := by simp
    rw [Nat.zero_add, ← hlen]
    exact wpAny_of_seq _ n listed a w (fun j => by simp [List.getElem?_drop]) (by rw [hlen, hle]; exact hsq) h
  | succ fuel ih =>
    intro listed a w hcnt htl hI
    have hHI : HeadInv .any ops n listed := ⟨hI.size, hI.shut, htl⟩
    have hex : ∃ i, i < n ∧ listed.getD i true = false := by
      obtain ⟨i, hi⟩ : ∃ i, i ∈ (List.range n).filter fun i => !listed.getD i false := List.exists_mem_of_length_pos (by omega)
      obtain ⟨h1, h2⟩ := List.mem_filter.1 hi
      refine ⟨i, List.mem_range.1 h1, getD_in (by have := hI.size; have := List.mem_range.1 h1; omega) (by simpa using h2)⟩
    obtain ⟨i0, hi0, hu0⟩ := hex
    have hwait := tail_waits hsi hch hn hHI _ i0 rfl hi0 hu0
    rw [show fuel + 1 + (ops.size - n) = (fuel + (ops.size - n)) + 1 by omega]
    refine ⟨fun hr => ?_, fun i hi => ?_⟩
    · exfalso
      have all : ∀ i, i < n → listed.getD i false = true := by
        intro i
        induction i using Nat.strongRecOn with
        | ind i ih2 =>
          intro hi
          have hil : i < listed.size := by have := hI.size; omega
          cases hl : listed.getD i false with
          | true => rfl
          | false =>
            exfalso
            have hio : i < ops.size := by omega
            have hmem : i ∈ Region.ready .any ops listed := mem_ready.2 ⟨getD_in hil hl, ops[i], Array.getElem?_eq_getElem hio, fun e he hb =>
              ih2 e.on (fine_after hf (Array.getElem?_eq_getElem hio) he hb) (by have := fine_after hf (Array.getElem?_eq_getElem hio) he hb; omega)⟩
            rw [hr] at hmem; cases hmem
      have := all i0 hi0
      rw [getD_both hu0] at this
      cases this
    have hin : i < n := by
      by_cases h : i < n
      · exact h
      · exact absurd hi (hwait i (by omega))
    obtain ⟨hl, o, ho, hall⟩ := mem_ready.1 hi
    have hi' : i < ops.size := (Array.getElem?_eq_some_iff.1 ho).1
    have hil : i < listed.size := by have := hI.size; omega
    have hK : ∀ v w', E w w' → T i v w' → wpAny P .any ops Q (fuel + (ops.size - n)) (listed.setIfInBounds i true) (a.put o.dst v) w' := fun v w' hE hT => by
      refine ih _ _ _ ?_ ?_ (inv_step hf trans stay hI ho hl hall hE hT)
      · have hsub : ((List.range n).filter fun j => !(listed.setIfInBounds i true).getD j false) = (((List.range n).filter fun j => !listed.getD j false).filter fun j => decide (j ≠ i)) := by
          rw [List.filter_filter]
          apply List.filter_congr
          intro j _
          rw [getD_set _ _ _ hil]
          by_cases hji : j = i <;> simp [hji]
        rw [hsub]
        have hnd : ((List.range n).filter fun j => !listed.getD j false).Nodup := List.Pairwise.filter _ List.nodup_range
        have hm : i ∈ (List.range n).filter fun j => !listed.getD j false := List.mem_filter.2 ⟨List.mem_range.2 hin, by simp [getD_both hl]⟩
        have := List.Nodup.erase_eq_filter hnd i
        have hl2 := List.length_erase_of_mem hm
        rw [this] at hl2
        have hc2 : ∀ l : List Nat, (l.filter fun j => decide (j ≠ i)) = l.filter (· != i) := fun l => List.filter_congr fun j _ => by by_cases h : j = i <;> simp [h]
        rw [hc2, hl2]; omega
      · intro t h1 h2
        rw [getD_set_ne true (by omega)]
        exact htl t h1 h2
    have hdep : ∀ j oj, ops[j]? = some oj → (∃ e ∈ o.after, Region.binds .any e = true ∧ e.on = j) → ∃ v, T j v w ∧ ∀ k : Nat, oj.dst = some k → a.tmps.getD k undef = v := by
      rintro j oj hj ⟨e, he, hb, rfl⟩
      obtain ⟨hs, hsh, hx, hd, ht, vs, hv, hk⟩ := hI
      have hlj := hall e he hb
      refine ⟨vs e.on, hv _ hlj, fun k hdk => ?_⟩
      have hw := fine_dst hf hj hdk
      have hkk := room _ _ _ hj hdk
      rw [Array.getD_eq_getD_getElem?, hk k hkk]
      unfold slotOf
      rw [hw]; simp [hlj]
    have := hstep i o hin ho a w hI.ext hI.tsize (by
      intro k hw
      obtain ⟨hs, hsh, hx, hd, ht, vs, hv, hk⟩ := hI
      by_cases hkk : k < a0.tmps.size
      · rw [Array.getD_eq_getD_getElem?, Array.getD_eq_getD_getElem?, hk k hkk]
        unfold slotOf
        cases hwr : writer ops k with
        | none => rfl
        | some m =>
          obtain ⟨om, hom, hdm⟩ := writer_some hwr
          simp only []
          rw [if_neg]
          intro hlm
          obtain ⟨e, he, hb, hei⟩ := hw m om hom hdm
          have hli := hsh m om hom hlm e he hb
          rw [hei] at hli
          simp only [Array.getD_eq_getD_getElem?, Array.getElem?_eq_getElem hil, Option.getD_some] at hl hli
          rw [hl] at hli; cases hli
      · rw [Array.getD_eq_getD_getElem?, Array.getD_eq_getD_getElem?, Array.getElem?_eq_none (xs := a.tmps) (by omega), Array.getElem?_eq_none (xs := a0.tmps) (by omega)]) hdep _ hK
    unfold wpOp
    rw [ho]
    simp only []
    split
    · next hw => rw [if_pos hw] at this; exact .inl this
    · next hw => rw [if_neg hw] at this; exact this
/-- The region, whatever order it draws. -/
theorem flow {id : Nat} (hm : P.follows .mixedOrders = true) (hf : fine ops = true) (room : ((List.range ops.size).all fun i => match (ops[i]?).bind (·.dst) with | some k => decide (k < a0.tmps.size) | none => true) = true)
    (hE : E w0 w0.drew) (trans : ∀ a b c, E a b → E b c → E a c) (stay : ∀ i v w w', T i v w → E w w' → T i v w') (hstep : ∀ i o, ops[i]? = some o → StepOk P ops Q E T a0 w0 i o)
    (hend : ∀ vs w, E w0 w → (∀ i, i < ops.size → T i (vs i) w) → Q .normal (behind ops vs (List.range ops.size) a0) w) : (Code.region id ops true).wp P Q a0 w0 := by
  refine wp_region_any hm (inv_any hf ?_ trans stay hstep hend _ _ _ _ ?_ ⟨by simp, ?_, hE, rfl, rfl, fun _ => undef, ?_, ?_⟩)
  · intro i o k ho hd
    have := List.all_eq_true.1 room i (List.mem_range.2 (Array.getElem?_eq_some_iff.1 ho).1)
    simpa [ho, hd] using this
  · exact Nat.le_trans (List.length_filter_le _ _) (by simp)
  · intro i o ho hl
    simp [Array.getD_eq_getD_getElem?, Array.getElem?_replicate] at hl
    split at hl <;> simp at hl
  · intro i hl
    simp [Array.getD_eq_getD_getElem?, Array.getElem?_replicate] at hl
    split at hl <;> simp at hl
  · intro k hk
    unfold slotOf
    split
    · rw [if_neg]
      simp [Array.getD_eq_getD_getElem?, Array.getElem?_replicate]
      split <;> simp
    · rfl
/-- The region, its head in whatever order it draws, its tail in line. -/
theorem flow_head {id n : Nat} (hm : P.follows .mixedOrders = true) (hn : n < ops.size) (hf : fine ops = true) (hsi : Region.sinkB .any ops n = true) (hch : Region.chainB .any ops n = true) (hsq : Region.seqB .any ops (ops.size - n) n (headFlags n ops.size) = true)
    (room : ((List.range ops.size).all fun i => match (ops[i]?).bind (·.dst) with | some k => decide (k < a0.tmps.size) | none => true) = true)
    (hE : E w0 w0.drew) (trans : ∀ a b c, E a b → E b c → E a c) (stay : ∀ i v w w', T i v w → E w w' → T i v w') (hstep : ∀ i o, i < n → ops[i]? = some o → StepOk P ops Q E T a0 w0 i o)
    (hend : ∀ vs w, E w0 w → (∀ i, i < n → T i (vs i) w) → wpList P ops Q (ops.toList.drop n) (behind ops vs (List.range n) a0) w) : (Code.region id ops true).wp P Q a0 w0 := by
  have hcnt : ((List.range n).filter fun i => !(Array.replicate ops.size false).getD i false).length = n := by
    rw [List.filter_eq_self.2 (fun i _ => by rw [getD_replicate_false]; rfl)]; simp
  have hsz : ops.size = n + (ops.size - n) := by omega
  refine wp_region_any hm ?_
  have := inv_head (Q := Q) hn hf hsi hch hsq ?_ trans stay hstep hend n (Array.replicate ops.size false) a0 { w0 with drawn := w0.drawn + 1 } hcnt ?_ ⟨by simp, ?_, hE, rfl, rfl, fun _ => undef, ?_, ?_⟩
  · rw [← hsz] at this; exact this
  · intro i o k ho hd
    have := List.all_eq_true.1 room i (List.mem_range.2 (Array.getElem?_eq_some_iff.1 ho).1)
    simpa [ho, hd] using this
  · intro t _ h2
    exact getD_in (by simpa using h2) (getD_replicate_false _ _)
  · intro i o ho hl
    rw [getD_replicate_false] at hl; cases hl
  · intro i hl
    rw [getD_replicate_false] at hl; cases hl
  · intro k hk
    unfold slotOf
    split
    · rw [getD_replicate_false]; simp
    · rfl
/-- The region's table: what each operation writes, what it waits for. -/
def tableOf (ops : Array Oper) : List (Option Nat × List Nat) := ops.toList.map fun o => (o.dst, (o.after.toList.filter (fun e => Region.binds .any e)).map (·.on))
def dstT (TAB : List (Option Nat × List Nat)) (j : Nat) : Option Nat := (TAB.getD j (none, [])).1
/-- Whatever writes slot k waits for operation i. -/
def freeT (TAB : List (Option Nat × List Nat)) (i k : Nat) : Bool := TAB.all fun r => r.1 != some k || r.2.contains i
/-- May the operation be carried out? -/
def wantedT (TAB : List (Option Nat × List Nat)) (g : Option (Nat × Bool)) (tmps : Array Value) : Bool := match g with
  | none => true
  | some (j, b) => match dstT TAB j with
    | some k => (match tmps.getD k undef with | .bool c => c == b | _ => false)
    | none => false
def StepT (P : Program) (TAB : List (Option Nat × List Nat)) (Q : Exit → Act → World → Prop) (E : World → World → Prop) (T : Nat → Value → World → Prop) (a0 : Act) (w0 : World) (i : Nat) (o : Oper) (needs : List Nat) : Prop :=
  ∀ (a : Act) (w : World), E w0 w → (∀ k : Nat, freeT TAB i k = true → a.tmps.getD k undef = a0.tmps.getD k undef) →
    (∀ j ∈ needs, ∃ v, T j v w ∧ ∀ k : Nat, dstT TAB j = some k → a.tmps.getD k undef = v) →
    ∀ K : Act → World → Prop, (∀ v w', E w w' → T i v w' → K (a.put o.dst v) w') →
      if wantedT TAB o.guard a.tmps = true then o.wp P a w K Q else K (a.put o.dst undef) w
def StepsT (P : Program) (TAB : List (Option Nat × List Nat)) (Q : Exit → Act → World → Prop) (E : World → World → Prop) (T : Nat → Value → World → Prop) (a0 : Act) (w0 : World) : Nat → List Oper → Prop
  | _, [] => True
  | i, o :: r => StepT P TAB Q E T a0 w0 i o (TAB.getD i (none, [])).2 ∧ StepsT P TAB Q E T a0 w0 (i + 1) r
theorem stepsT_get : ∀ (l : List Oper) (n i : Nat) (o : Oper), StepsT P TAB Q E T a0 w0 n l → l[i]? = some o → StepT P TAB Q E T a0 w0 (n + i) o (TAB.getD (n + i) (none, [])).2
  | [], _, _, _, _, h => by simp at h
  | o :: r, n, 0, o', hs, h => by
    simp only [List.getElem?_cons_zero, Option.some.injEq] at h
    subst h; exact hs.1
  | o :: r, n, i + 1, o', hs, h => by
    simp only [List.getElem?_cons_succ] at h
    have := stepsT_get r (n + 1) i o' hs.2 h
    rw [show n + (i + 1) = n + 1 + i by omega]; exact this
theorem tab_get {i : Nat} {o : Oper} (hT : tableOf ops = TAB) (ho : ops[i]? = some o) : TAB[i]? = some (o.dst, (o.after.toList.filter (fun e => Region.binds .any e)).map (·.on)) := by
  rw [← hT]; unfold tableOf
  rw [List.getElem?_map, Array.getElem?_toList, ho]; rfl
theorem wantedT_eq (hT : tableOf ops = TAB) (o : Oper) (tmps : Array Value) : wantedT TAB o.guard tmps = Region.wanted o (yielded ops tmps) := by
  unfold wantedT Region.wanted
  cases hg : o.guard with
  | none => rfl
  | some g =>
    obtain ⟨j, b⟩ := g
    simp only []
    unfold yielded dstT
    cases hj : ops[j]? with
    | none =>
      have : TAB[j]? = none := by
        rw [← hT]; unfold tableOf
        rw [List.getElem?_map, Array.getElem?_toList, hj]; rfl
      simp [List.getD_eq_getElem?_getD, this]
    | some oj =>
      have := tab_get hT hj
      simp only [List.getD_eq_getElem?_getD, this, Option.getD_some]
      cases hk : oj.dst with
      | none => simp [hk]
      | some k =>
        simp only [Option.bind_some, hk, Array.getD_eq_getD_getElem?]
        cases hv : tmps[k]? with
        | none => rfl
        | some v => cases v <;> simp
/-- The frame behind the region, by its table. -/
def putsT : Nat → List (Option Nat × List Nat) → (Nat → Value) → Act → Act
  | _, [], _, a => a
  | i, r :: l, vs, a => putsT (i + 1) l vs (a.put r.1 (vs i))
theorem puts_behind (hT : tableOf ops = TAB) (vs : Nat → Value) : ∀ (n m : Nat) (a : Act), m + n = ops.size → behind ops vs (List.range' m n) a = putsT m (TAB.drop m) vs a
  | 0, m, a, h => by
    have : TAB.drop m = [] := by
      rw [List.drop_eq_nil_iff, ← hT]; simp [tableOf]; omega
    rw [this]; rfl
  | n + 1, m, a, h => by
    have hm : m < ops.size := by omega
    have ho : ops[m]? = some ops[m] := Array.getElem?_eq_getElem hm
    have hg := tab_get hT ho
    have hl : m < TAB.length := (List.getElem?_eq_some_iff.1 hg).1
    have hd : TAB.drop m = (ops[m].dst, (ops[m].after.toList.filter (fun e => Region.binds .any e)).map (·.on)) :: TAB.drop (m + 1) := by
      rw [List.drop_eq_getElem_cons hl]
      congr 1
      exact (List.getElem?_eq_some_iff.1 hg).2
    rw [List.range'_succ, hd]
    unfold behind
    rw [ho]
    simp only []
    rw [puts_behind hT vs n (m + 1) _ (by omega)]
    rfl
/-- The region by its table. -/
theorem flowT {id : Nat} (TAB : List (Option Nat × List Nat)) (T : Nat → Value → World → Prop) (hT : tableOf ops = TAB) (hm : P.follows .mixedOrders = true) (hf : fine ops = true) (room : (TAB.all fun r => match r.1 with | some k => decide (k < a0.tmps.size) | none => true) = true)
    (hE : E w0 w0.drew) (trans : ∀ a b c, E a b → E b c → E a c) (stay : ∀ i v w w', T i v w → E w w' → T i v w') (hstep : StepsT P TAB Q E T a0 w0 0 ops.toList)
    (hend : ∀ vs w, E w0 w → (∀ i, i < TAB.length → T i (vs i) w) → Q .normal (putsT 0 TAB vs a0) w) : (Code.region id ops true).wp P Q a0 w0 := by
  have hlen : TAB.length = ops.size := by rw [← hT]; simp [tableOf]
  refine flow hm hf ?_ hE trans stay (fun i o ho => ?_) (fun vs w hx ht => by
    have := hend vs w hx (fun i hi => ht i (by omega))
    have e := puts_behind hT vs ops.size 0 a0 (by omega)
    rw [List.drop_zero] at e
    rw [List.range_eq_range', e]; exact this)
  · refine List.all_eq_true.2 fun i hi => ?_
    have hi' := List.mem_range.1 hi
    have ho : ops[i]? = some ops[i] := Array.getElem?_eq_getElem hi'
    have h2 := List.all_eq_true.1 room _ (List.mem_of_getElem? (tab_get hT ho))
    rw [ho]; exact h2
  · intro a w hx hs hu hd K hK
    have ho' : ops.toList[i]? = some o := by rw [Array.getElem?_toList]; exact ho
    have hst := stepsT_get _ 0 i o hstep ho'
    rw [Nat.zero_add] at hst
    have hget := tab_get hT ho
    have := hst a w hx (fun k hk => hu k ?_) ?_ K hK
    · rw [← wantedT_eq hT]; exact this
    · intro m om hom hdm
      have h2 := List.all_eq_true.1 hk _ (List.mem_of_getElem? (tab_get hT hom))
      simp only [hdm, bne_self_eq_false, Bool.false_or, List.contains_iff_mem] at h2
      obtain ⟨e, he, hei⟩ := List.mem_map.1 h2
      obtain ⟨he1, he2⟩ := List.mem_filter.1 he
      exact ⟨e, Array.mem_toList_iff.1 he1, he2, hei⟩
    · intro j hj
      simp only [List.getD_eq_getElem?_getD, hget, Option.getD_some] at hj
      obtain ⟨e, he, rfl⟩ := List.mem_map.1 hj
      obtain ⟨he1, he2⟩ := List.mem_filter.1 he
      have hlt := fine_after hf ho (Array.mem_toList_iff.1 he1) he2
      have hi' : i < ops.size := (Array.getElem?_eq_some_iff.1 ho).1
      have hoj : ops[e.on]? = some (ops[e.on]'(by omega)) := Array.getElem?_eq_getElem (by omega)
      obtain ⟨v, hv, hk⟩ := hd e.on _ hoj ⟨e, Array.mem_toList_iff.1 he1, he2, rfl⟩
      refine ⟨v, hv, fun k hkk => hk k ?_⟩
      unfold dstT at hkk
      simpa [List.getD_eq_getElem?_getD, tab_get hT hoj] using hkk
/-- The obligations of the first n operations. -/
theorem flowT_head {id : Nat} (n : Nat) (TAB : List (Option Nat × List Nat)) (T : Nat → Value → World → Prop) (hT : tableOf ops = TAB) (hm : P.follows .mixedOrders = true)
    (hk : (decide (n < ops.size) && fine ops && Region.sinkB .any ops n && Region.chainB .any ops n && Region.seqB .any ops (ops.size - n) n (headFlags n ops.size)) = true) (room : (TAB.all fun r => match r.1 with | some k => decide (k < a0.tmps.size) | none => true) = true)
    (hE : E w0 w0.drew) (trans : ∀ a b c, E a b → E b c → E a c) (stay : ∀ i v w w', T i v w → E w w' → T i v w') (hstep : StepsT P TAB Q E T a0 w0 0 (ops.toList.take n))
    (hend : ∀ vs w, E w0 w → (∀ i, i < n → T i (vs i) w) → wpList P ops Q (ops.toList.drop n) (putsT 0 (TAB.take n) vs a0) w) : (Code.region id ops true).wp P Q a0 w0 := by
  simp only [Bool.and_eq_true, decide_eq_true_eq] at hk
  obtain ⟨⟨⟨⟨hn, hf⟩, hsi⟩, hch⟩, hsq⟩ := hk
  refine flow_head hm hn hf hsi hch hsq ?_ hE trans stay (fun i o hin ho => ?_) (fun vs w hx ht => ?_)
  · refine List.all_eq_true.2 fun i hi => ?_
    have hi' := List.mem_range.1 hi
    have ho : ops[i]? = some ops[i] := Array.getElem?_eq_getElem hi'
    have h2 := List.all_eq_true.1 room _ (List.mem_of_getElem? (tab_get hT ho))
    rw [ho]; exact h2
  · intro a w hx hs hu hd K hK
    have ho' : (ops.toList.take n)[i]? = some o := by rw [List.getElem?_take_of_lt hin, Array.getElem?_toList]; exact ho
    have hst := stepsT_get _ 0 i o hstep ho'
    rw [Nat.zero_add] at hst
    have hget := tab_get hT ho
    have := hst a w hx (fun k hk => hu k ?_) ?_ K hK
    · rw [← wantedT_eq hT]; exact this
    · intro m om hom hdm
      have h2 := List.all_eq_true.1 hk _ (List.mem_of_getElem? (tab_get hT hom))
      simp only [hdm, bne_self_eq_false, Bool.false_or, List.contains_iff_mem] at h2
      obtain ⟨e, he, hei⟩ := List.mem_map.1 h2
      obtain ⟨he1, he2⟩ := List.mem_filter.1 he
      exact ⟨e, Array.mem_toList_iff.1 he1, he2, hei⟩
    · intro j hj
      simp only [List.getD_eq_getElem?_getD, hget, Option.getD_some] at hj
      obtain ⟨e, he, rfl⟩ := List.mem_map.1 hj
      obtain ⟨he1, he2⟩ := List.mem_filter.1 he
      have hlt := fine_after hf ho (Array.mem_toList_iff.1 he1) he2
      have hi' : i < ops.size := (Array.getElem?_eq_some_iff.1 ho).1
      have hoj : ops[e.on]? = some (ops[e.on]'(by omega)) := Array.getElem?_eq_getElem (by omega)
      obtain ⟨v, hv, hk⟩ := hd e.on _ hoj ⟨e, Array.mem_toList_iff.1 he1, he2, rfl⟩
      refine ⟨v, hv, fun k hkk => hk k ?_⟩
      unfold dstT at hkk
      simpa [List.getD_eq_getElem?_getD, tab_get hT hoj] using hkk
  · have h := hend vs w hx ht
    have e : ∀ (n m : Nat) (a : Act), m + n ≤ ops.size → behind ops vs (List.range' m n) a = putsT m ((TAB.drop m).take n) vs a := by
      intro n
      induction n with
      | zero => intro m a _; simp [behind, putsT]
      | succ n ih =>
        intro m a h
        have hm : m < ops.size := by omega
        have ho : ops[m]? = some ops[m] := Array.getElem?_eq_getElem hm
        have hg := tab_get hT ho
        have hl : m < TAB.length := (List.getElem?_eq_some_iff.1 hg).1
        have hd : TAB.drop m = (ops[m].dst, (ops[m].after.toList.filter (fun e => Region.binds .any e)).map (·.on)) :: TAB.drop (m + 1) := by
          rw [List.drop_eq_getElem_cons hl]
          congr 1
          exact (List.getElem?_eq_some_iff.1 hg).2
        rw [List.range'_succ, hd, List.take_succ_cons]
        unfold behind
        rw [ho]
        simp only []
        rw [ih (m + 1) _ (by omega)]
        rfl
    have := e n 0 a0 (by omega)
    rw [List.drop_zero] at this
    rw [List.range_eq_range', this]; exact h
/-- Slots that no operation from m on, ahead of i, writes. -/
def freeS (TAB : List (Option Nat × List Nat)) (m i k : Nat) : Bool := ((TAB.drop m).take (i - m)).all fun r => r.1 != some k
/-- Operation j stands from m on, ahead of i, and what it wrote has not been written over. -/
def lastS (TAB : List (Option Nat × List Nat)) (m i j : Nat) : Bool := decide (m ≤ j) && decide (j < i) && ((TAB.drop (j + 1)).take (i - (j + 1))).all fun r => r.1 != dstT TAB j
def StepS (P : Program) (TAB : List (Option Nat × List Nat)) (Q : Exit → Act → World → Prop) (E : World → World → Prop) (T : Nat → Value → World → Prop) (a0 : Act) (w0 : World) (m i : Nat) (o : Oper) : Prop :=
  ∀ (a : Act) (w : World), E w0 w → (∀ k : Nat, freeS TAB m i k = true → a.tmps.getD k undef = a0.tmps.getD k undef) →
    (∀ j, lastS TAB m i j = true → ∃ v, T j v w ∧ ∀ k : Nat, dstT TAB j = some k → a.tmps.getD k undef = v) →
    ∀ K : Act → World → Prop, (∀ v w', E w w' → T i v w' → K (a.put o.dst v) w') →
      if wantedT TAB o.guard a.tmps = true then o.wp P a w K Q else K (a.put o.dst undef) w
def StepsS (P : Program) (TAB : List (Option Nat × List Nat)) (Q : Exit → Act → World → Prop) (E : World → World → Prop) (T : Nat → Value → World → Prop) (a0 : Act) (w0 : World) (m : Nat) : Nat → List Oper → Prop
  | _, [] => True
  | i, o :: r => StepS P TAB Q E T a0 w0 m i o ∧ StepsS P TAB Q E T a0 w0 m (i + 1) r
theorem putsT_snoc (vs : Nat → Value) (r : Option Nat × List Nat) : ∀ (l : List (Option Nat × List Nat)) (i : Nat) (a : Act), putsT i (l ++ [r]) vs a = (putsT i l vs a).put r.1 (vs (i + l.length))
  | [], i, a => rfl
  | x :: l, i, a => by
    show putsT (i + 1) (l ++ [r]) vs (a.put x.1 (vs i)) = (putsT (i + 1) l vs (a.put x.1 (vs i))).put r.1 (vs (i + (l.length + 1)))
    rw [putsT_snoc vs r l (i + 1), show i + 1 + l.length = i + (l.length + 1) by omega]
theorem put_size (a : Act) (d : Option Nat) (v : Value) : (a.put d v).tmps.size = a.tmps.size := by cases d <;> simp [Act.put]
theorem put_same (a : Act) (k : Nat) (v : Value) (h : k < a.tmps.size) : (a.put (some k) v).tmps.getD k undef = v := by simp [Act.put, Array.getD_eq_getD_getElem?, h]
theorem put_other (a : Act) (d : Option Nat) (k : Nat) (v : Value) (h : d ≠ some k) : (a.put d v).tmps.getD k undef = a.tmps.getD k undef := by
  cases d with
  | none => rfl
  | some d =>
    have : d ≠ k := fun e => h (by rw [e])
    simp [Act.put, Array.getD_eq_getD_getElem?, this]
theorem putsT_size (vs : Nat → Value) : ∀ (l : List (Option Nat × List Nat)) (i : Nat) (a : Act), (putsT i l vs a).tmps.size = a.tmps.size
  | [], _, _ => rfl
  | x :: l, i, a => by
    show (putsT (i + 1) l vs (a.put x.1 (vs i))).tmps.size = _
    rw [putsT_size vs l, put_size]
theorem putsT_congr (vs us : Nat → Value) : ∀ (l : List (Option Nat × List Nat)) (i : Nat) (a : Act), (∀ j, i ≤ j → j < i + l.length → vs j = us j) → putsT i l vs a = putsT i l us a
  | [], _, _, _ => rfl
  | x :: l, i, a, h => by
    show putsT (i + 1) l vs (a.put x.1 (vs i)) = putsT (i + 1) l us (a.put x.1 (us i))
    rw [h i (Nat.le_refl _) (by simp), putsT_congr vs us l (i + 1) _ (fun j h1 h2 => h j (by omega) (by simp only [List.length_cons]; omega))]
theorem putsT_free (vs : Nat → Value) (k : Nat) : ∀ (l : List (Option Nat × List Nat)) (i : Nat) (a : Act), (l.all fun r => r.1 != some k) = true → (putsT i l vs a).tmps.getD k undef = a.tmps.getD k undef
  | [], _, _, _ => rfl
  | x :: l, i, a, h => by
    simp only [List.all_cons, Bool.and_eq_true, bne_iff_ne, ne_eq] at h
    show (putsT (i + 1) l vs (a.put x.1 (vs i))).tmps.getD k undef = _
    rw [putsT_free vs k l (i + 1) _ h.2, put_other _ _ _ _ h.1]
theorem putsT_append (vs : Nat → Value) (l' : List (Option Nat × List Nat)) : ∀ (l : List (Option Nat × List Nat)) (i : Nat) (a : Act), putsT i (l ++ l') vs a = putsT (i + l.length) l' vs (putsT i l vs a)
  | [], i, a => rfl
  | x :: l, i, a => by
    show putsT (i + 1) (l ++ l') vs (a.put x.1 (vs i)) = putsT (i + (l.length + 1)) l' vs (putsT (i + 1) l vs (a.put x.1 (vs i)))
    rw [putsT_append vs l' l (i + 1), show i + 1 + l.length = i + (l.length + 1) by omega]
/-- Some operations of a region that stands in line. -/
theorem seqL (m n : Nat) (TAB : List (Option Nat × List Nat)) (T : Nat → Value → World → Prop) (hT : tableOf ops = TAB) (hmn : m + n ≤ TAB.length) (room : (TAB.all fun r => match r.1 with | some k => decide (k < a0.tmps.size) | none => true) = true)
    (refl : E w0 w0) (trans : ∀ a b c, E a b → E b c → E a c) (stay : ∀ i v w w', T i v w → E w w' → T i v w') (hstep : StepsS P TAB Q E T a0 w0 m m ((ops.toList.drop m).take n))
    (hend : ∀ vs w, E w0 w → (∀ i, m ≤ i → i < m + n → T i (vs i) w) → wpList P ops Q (ops.toList.drop (m + n)) (putsT m ((TAB.drop m).take n) vs a0) w) : wpList P ops Q (ops.toList.drop m) a0 w0 := by
  have hlen : TAB.length = ops.size := by rw [← hT]; simp [tableOf]
  have hget : ∀ (l : List Oper) (d i : Nat) (o : Oper), StepsS P TAB Q E T a0 w0 m d l → l[i]? = some o → StepS P TAB Q E T a0 w0 m (d + i) o := by
    intro l
    induction l with
    | nil => intro d i o _ h; simp at h
    | cons x l ih =>
      intro d i o hs h
      cases i with
      | zero => simp only [List.getElem?_cons_zero, Option.some.injEq] at h; subst h; exact hs.1
      | succ i =>
        simp only [List.getElem?_cons_succ] at h
        have := ih (d + 1) i o hs.2 h
        rw [show d + (i + 1) = d + 1 + i by omega]; exact this
  have key : ∀ (r c : Nat), c + r = n → ∀ (vs : Nat → Value) (w : World), E w0 w → (∀ i, m ≤ i → i < m + c → T i (vs i) w) → wpList P ops Q (ops.toList.drop (m + c)) (putsT m ((TAB.drop m).take c) vs a0) w := by
    intro r
    induction r with
    | zero =>
      intro c hc vs w hE hv
      obtain rfl : c = n := by omega
      exact hend vs w hE hv
    | succ r ih =>
      intro c hc vs w hE hv
      have hi : m + c < ops.size := by omega
      have ho : ops[m + c]? = some ops[m + c] := Array.getElem?_eq_getElem hi
      have hol : ops.toList[m + c]? = some ops[m + c] := by rw [Array.getElem?_toList]; exact ho
      have hd : ops.toList.drop (m + c) = ops[m + c] :: ops.toList.drop (m + c + 1) := by
        rw [List.drop_eq_getElem_cons (by simpa using hi)]; simp
      have htk : ((ops.toList.drop m).take n)[c]? = some ops[m + c] := by
        rw [List.getElem?_take_of_lt (by omega), List.getElem?_drop]; exact hol
      have hst := hget _ m c _ hstep htk
      have hg := tab_get hT ho
      have hroom := List.all_eq_true.1 room _ (List.mem_of_getElem? hg)
      have htl : ((TAB.drop m).take c).length = c := by rw [List.length_take, List.length_drop]; omega
      have hpre : (TAB.drop m).take (c + 1) = (TAB.drop m).take c ++ [(ops[m + c].dst, (ops[m + c].after.toList.filter (fun e => Region.binds .any e)).map (·.on))] := by
        have hg' : (TAB.drop m)[c]? = some (ops[m + c].dst, (ops[m + c].after.toList.filter (fun e => Region.binds .any e)).map (·.on)) := by rw [List.getElem?_drop]; exact hg
        rw [List.take_add_one, hg']; rfl
      have := hst (putsT m ((TAB.drop m).take c) vs a0) w hE ?_ ?_ (wpList P ops Q (ops.toList.drop (m + c + 1))) ?_
      · rw [hd]
        unfold wpList
        rw [← wantedT_eq hT]
        split
        · next h => rw [if_pos h] at this; exact .inl this
        · next h => rw [if_neg h] at this; exact this
      · intro k hk
        unfold freeS at hk
        rw [show m + c - m = c by omega] at hk
        exact putsT_free vs k _ m a0 hk
      · intro j hj
        unfold lastS at hj
        simp only [Bool.and_eq_true, decide_eq_true_eq] at hj
        obtain ⟨⟨h1, h2⟩, h3⟩ := hj
        refine ⟨vs j, hv j h1 h2, fun k hk => ?_⟩
        have hjl : j < TAB.length := by omega
        have hjo : ops[j]? = some (ops[j]'(by omega)) := Array.getElem?_eq_getElem (by omega)
        have hgj := tab_get hT hjo
        have hrj := List.all_eq_true.1 room _ (List.mem_of_getElem? hgj)
        have hsplit : (TAB.drop m).take c = (TAB.drop m).take (j - m) ++ (TAB.getD j (none, []) :: ((TAB.drop (j + 1)).take (m + c - (j + 1)))) := by
          have e1 : (TAB.drop m).take c = (TAB.drop m).take (j - m) ++ ((TAB.drop m).drop (j - m)).take (c - (j - m)) := by
            rw [← List.take_add]; congr 1; omega
          rw [e1, List.drop_drop, show m + (j - m) = j by omega, List.drop_eq_getElem_cons hjl, show c - (j - m) = (m + c - (j + 1)) + 1 by omega, List.take_succ_cons, List.getD_eq_getElem?_getD, List.getElem?_eq_getElem hjl]
          rfl
        rw [hsplit, putsT_append]
        have hlj : ((TAB.drop m).take (j - m)).length = j - m := by rw [List.length_take, List.length_drop]; omega
        rw [hlj, show m + (j - m) = j by omega]
        show (putsT (j + 1) _ vs (Act.put _ (TAB.getD j (none, [])).1 (vs j))).tmps.getD k undef = vs j
        have hdk : (TAB.getD j (none, [])).1 = some k := hk
        rw [hk] at h3
        rw [putsT_free vs k _ _ _ h3, hdk]
        refine put_same _ _ _ ?_
        rw [putsT_size]
        have : (ops[j]'(by omega)).dst = some k := by
          rw [List.getD_eq_getElem?_getD, hgj] at hdk; exact hdk
        simp only [this, decide_eq_true_eq] at hrj
        exact hrj
      · intro v w' hEw hTw
        have h2 := ih (c + 1) (by omega) (fun j => if j = m + c then v else vs j) w' (trans _ _ _ hE hEw) (fun i h1 h2 => by
          show T i (if i = m + c then v else vs i) w'
          by_cases h : i = m + c
          · rw [if_pos h, h]; exact hTw
          · rw [if_neg h]; exact stay _ _ _ _ (hv i h1 (by omega)) hEw)
        rw [hpre, putsT_snoc, htl] at h2
        simp only [if_true] at h2
        rw [putsT_congr _ vs _ m a0 (fun j h1 h2 => if_neg (by omega))] at h2
        exact h2
  exact key n 0 (by omega) (fun _ => undef) w0 refl (fun i h1 h2 => by omega)
/-- A region that stands in line, by its table. -/
theorem seqT {id : Nat} (TAB : List (Option Nat × List Nat)) (T : Nat → Value → World → Prop) (hT : tableOf ops = TAB) (room : (TAB.all fun r => match r.1 with | some k => decide (k < a0.tmps.size) | none => true) = true)
    (refl : E w0 w0) (trans : ∀ a b c, E a b → E b c → E a c) (stay : ∀ i v w w', T i v w → E w w' → T i v w') (hstep : StepsS P TAB Q E T a0 w0 0 0 ops.toList)
    (hend : ∀ vs w, E w0 w → (∀ i, i < TAB.length → T i (vs i) w) → Q .normal (putsT 0 TAB vs a0) w) : (Code.region id ops false).wp P Q a0 w0 := by
  have hlen : TAB.length = ops.size := by rw [← hT]; simp [tableOf]
  refine wp_region_list ?_
  have := seqL (Q := Q) 0 TAB.length TAB T hT (by omega) room refl trans stay (by rw [List.drop_zero, List.take_of_length_le (by simp [hlen])]; exact hstep) (fun vs w h1 h2 => by
    have h3 := hend vs w h1 (fun i hi => h2 i (Nat.zero_le _) (by omega))
    rw [List.drop_eq_nil_of_le (by simp [hlen]), List.drop_zero, List.take_of_length_le (Nat.le_refl _)]
    exact h3)
  rwa [List.drop_zero] at this
/-- Its first n operations. -/
theorem seqT_head {id : Nat} (n : Nat) (TAB : List (Option Nat × List Nat)) (T : Nat → Value → World → Prop) (hT : tableOf ops = TAB) (hn : n ≤ TAB.length) (room : (TAB.all fun r => match r.1 with | some k => decide (k < a0.tmps.size) | none => true) = true)
    (refl : E w0 w0) (trans : ∀ a b c, E a b → E b c → E a c) (stay : ∀ i v w w', T i v w → E w w' → T i v w') (hstep : StepsS P TAB Q E T a0 w0 0 0 (ops.toList.take n))
    (hend : ∀ vs w, E w0 w → (∀ i, i < n → T i (vs i) w) → wpList P ops Q (ops.toList.drop n) (putsT 0 (TAB.take n) vs a0) w) : (Code.region id ops false).wp P Q a0 w0 := by
  refine wp_region_list ?_
  have := seqL (Q := Q) 0 n TAB T hT (by omega) room refl trans stay (by rw [List.drop_zero]; exact hstep) (fun vs w h1 h2 => by
    have h3 := hend vs w h1 (fun i hi => h2 i (Nat.zero_le _) (by omega))
    rw [Nat.zero_add, List.drop_zero]
    exact h3)
  rwa [List.drop_zero] at this
theorem want {c : Prop} [Decidable c] {A B : Prop} (h : c) (hA : A) : if c then A else B := by rw [if_pos h]; exact hA
theorem spare {c : Prop} [Decidable c] {A B : Prop} (h : ¬ c) (hB : B) : if c then A else B := by rw [if_neg h]; exact hB
theorem guard_of {j k : Nat} {b c : Bool} {tmps : Array Value} (hd : dstT TAB j = some k) (he : tmps.getD k undef = .bool c) : wantedT TAB (some (j, b)) tmps = (c == b) := by
  unfold wantedT
  simp only [hd, he]
theorem want_of {j k : Nat} {b : Bool} {tmps : Array Value} (hd : dstT TAB j = some k) (he : tmps.getD k undef = .bool b) : wantedT TAB (some (j, b)) tmps = true := by
  rw [guard_of hd he]; simp
theorem spare_of {j k : Nat} {b c : Bool} {tmps : Array Value} (hd : dstT TAB j = some k) (he : tmps.getD k undef = .bool c) (hc : (c == b) = false) : ¬ wantedT TAB (some (j, b)) tmps = true := by
  rw [guard_of hd he, hc]; simp
theorem spare_undef {j k : Nat} {b : Bool} {tmps : Array Value} (hd : dstT TAB j = some k) (he : tmps.getD k undef = undef) : ¬ wantedT TAB (some (j, b)) tmps = true := by
  unfold wantedT
  simp only [hd, he]
  simp [undef]
variable {o : Oper} {a : Act} {w : World} {K : Act → World → Prop}
theorem val_run {w' : World} {v : Value} (hrun : (execOp a.eval o).run P w = .ok (.value v) w') (h : K (a.put o.dst v) w') : o.wp P a w K Q := by
  unfold Oper.wp; rw [hrun]; exact h
theorem skip_run {w' : World} (hrun : (execOp a.eval o).run P w = .ok .skip w') (h : K (a.put o.dst undef) w') : o.wp P a w K Q := by
  unfold Oper.wp; rw [hrun]; exact h
theorem run1 {c : Prop} [Decidable c] {X : Prop} {w' : World} {v : Value} (hc : c) (hrun : (execOp a.eval o).run P w = .ok (.value v) w') (h : K (a.put o.dst v) w') : if c then o.wp P a w K Q else X := by rw [if_pos hc]; exact val_run hrun h
theorem got {V : Value} {R : Value → Prop} (h : ∃ v, v = V ∧ R v) : R V := by
  obtain ⟨_, rfl, h⟩ := h; exact h
theorem eqn {v V : Value} (h : v = V) : v = V := h
theorem val_move {x : Operand} {v : Value} (ho : o.op = .move x) (hx : a.eval x = v) (h : K (a.put o.dst v) w) : o.wp P a w K Q :=
  val_run (by unfold execOp; simp only [ho, hx]; rfl) h
theorem r_move {x : Operand} {v : Value} (ho : o.op = .move x) (hx : a.eval x = v) : (execOp a.eval o).run P w = .ok (.value v) w := by
  unfold execOp; simp only [ho, hx]; rfl
theorem r_assign {x : Operand} {v : Value} (ho : o.op = .assign x) (hx : a.eval x = v) : (execOp a.eval o).run P w = .ok (.value v) w := by
  unfold execOp; simp only [ho, hx]; rfl
theorem r_pick {x y z : Operand} {b : Bool} {v : Value} (ho : o.op = .pick x y z) (hx : a.eval x = .bool b) (hv : a.eval (if b = true then y else z) = v) : (execOp a.eval o).run P w = .ok (.value v) w := by
  unfold execOp; simp only [ho, hx]; cases b <;> (simp only [Bool.false_eq_true, if_true, if_false] at hv; rw [← hv]; rfl)
theorem r_not {x : Operand} {t : TypeId} {b : Bool} (ho : o.op = .unOp .not t x) (hx : a.eval x = .bool b) : (execOp a.eval o).run P w = .ok (.value (.bool (!b))) w := by
  unfold execOp; simp only [ho, hx]; rfl
theorem val_assign {x : Operand} {v : Value} (ho : o.op = .assign x) (hx : a.eval x = v) (h : K (a.put o.dst v) w) : o.wp P a w K Q :=
  val_run (by unfold execOp; simp only [ho, hx]; rfl) h
theorem val_pick {x y z : Operand} {b : Bool} {v : Value} (ho : o.op = .pick x y z) (hx : a.eval x = .bool b) (hv : a.eval (if b = true then y else z) = v) (h : K (a.put o.dst v) w) : o.wp P a w K Q :=
  val_run (by unfold execOp; simp only [ho, hx]; cases b <;> (simp only [Bool.false_eq_true, if_true, if_false] at hv; rw [← hv]; rfl)) h
theorem val_not {x : Operand} {t : TypeId} {b : Bool} (ho : o.op = .unOp .not t x) (hx : a.eval x = .bool b) (h : K (a.put o.dst (.bool (!b))) w) : o.wp P a w K Q :=
  val_run (by unfold execOp; simp only [ho, hx]; rfl) h
theorem val_call {f : FuncId} {as : Array Operand} {ts : Array TypeId} {fn : Func} {args : Array Value} (ho : o.op = .call { callee := .value (.func f), args := as, argTypes := ts }) (hf : P.funcs[f]? = some fn) (hname : (fn.name == "runtime.NumGoroutine") = false) (hb : fn.body.isSome = true)
    (ha : as.map a.eval = args) {R : Ending → World → Prop} (hc : Calls P f args w R) (h : ∀ e w', R e w' → ∃ v, e = .returned v ∧ K (a.put o.dst v) w') : o.wp P a w K Q := by
  have hrun : (execOp a.eval o).run P w = .ok (.enter f args) w := by
    have h1 : fn.name ≠ "runtime.NumGoroutine" := by simpa using hname
    obtain ⟨c, hcb⟩ := Option.isSome_iff_exists.1 hb
    have he : (callFunc f args).run P w = .ok (.enter f args) w := by simp [callFunc, hf, h1, hcb]
    unfold execOp
    simp [ho, resolve, Deferred.ofValue, invoke, Act.eval, ha, he]
  unfold Oper.wp
  rw [hrun]
  exact Calls.mono hc (fun e w' hR => by
    obtain ⟨v, rfl, hk⟩ := h e w' hR
    exact hk)
end
end Go.Proofs.Ytlhmpmmblnbmbaa.Flow
