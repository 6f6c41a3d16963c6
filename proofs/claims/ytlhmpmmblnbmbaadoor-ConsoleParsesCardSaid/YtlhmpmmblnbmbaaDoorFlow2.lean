/- A region that draws its order, by a fact for each operation; the facts may speak of what the operations ahead have answered. -/
import Derived.Test.YtlhmpmmblnbmbaaDoorFlow
namespace Go.Proofs.YtlhmpmmblnbmbaaDoor.Flow2
open Go.RowKit Go.Proofs.YtlhmpmmblnbmbaaDoor.Flow
section
variable {P : Program} {ops : Array Oper} {Q : Exit → Act → World → Prop} {a0 : Act} {w0 : World} {E : World → World → Prop} {T : Nat → (Nat → Value) → World → Prop} {TAB : List (Option Nat × List Nat)}
def Deps (o : Oper) (j : Nat) : Prop := ∃ e ∈ o.after, Region.binds .any e = true ∧ e.on = j
def Hat (ops : Array Oper) (T : Nat → (Nat → Value) → World → Prop) (i : Nat) (vs : Nat → Value) (w : World) : Prop := ∀ us : Nat → Value, us i = vs i → (∀ o j, ops[i]? = some o → Deps o j → us j = vs j) → T i us w
def StepOk (P : Program) (ops : Array Oper) (Q : Exit → Act → World → Prop) (E : World → World → Prop) (T : Nat → (Nat → Value) → World → Prop) (a0 : Act) (w0 : World) (i : Nat) (o : Oper) : Prop :=
  ∀ (a : Act) (w : World), E w0 w → a.tmps.size = a0.tmps.size →
    (∀ k : Nat, (∀ (m : Nat) (om : Oper), ops[m]? = some om → om.dst = some k → ∃ e ∈ om.after, Region.binds .any e = true ∧ e.on = i) → a.tmps.getD k undef = a0.tmps.getD k undef) →
    ∀ vs : Nat → Value, (∀ j oj, ops[j]? = some oj → Deps o j → T j vs w ∧ ∀ k : Nat, oj.dst = some k → a.tmps.getD k undef = vs j) →
    ∀ K : Act → World → Prop, (∀ v w', E w w' → (∀ us : Nat → Value, us i = v → (∀ j, Deps o j → us j = vs j) → T i us w') → K (a.put o.dst v) w') →
      if Region.wanted o (yielded ops a.tmps) = true then o.wp P a w K Q else K (a.put o.dst undef) w
structure Inv (ops : Array Oper) (E : World → World → Prop) (T : Nat → (Nat → Value) → World → Prop) (a0 : Act) (w0 : World) (vs : Nat → Value) (listed : Array Bool) (a : Act) (w : World) : Prop where
  size : listed.size = ops.size
  shut : ∀ i o, ops[i]? = some o → listed.getD i false = true → ∀ e ∈ o.after, Region.binds .any e = true → listed.getD e.on false = true
  ext : E w0 w
  defers : a.defers = a0.defers
  tsize : a.tmps.size = a0.tmps.size
  vals : ∀ i, listed.getD i false = true → Hat ops T i vs w
  slots : ∀ k, k < a0.tmps.size → a.tmps[k]? = slotOf ops listed vs a0 k
theorem inv_step (hf : fine ops = true) (trans : ∀ a b c, E a b → E b c → E a c) (stay : ∀ i vs w w', T i vs w → E w w' → T i vs w') {vs : Nat → Value} {listed : Array Bool} {a : Act} {w : World} (hI : Inv ops E T a0 w0 vs listed a w)
    {i : Nat} {o : Oper} (ho : ops[i]? = some o) (hun : listed.getD i true = false) (hall : ∀ e ∈ o.after, Region.binds .any e = true → listed.getD e.on false = true) {v : Value} {w' : World} (hE : E w w') (hT : ∀ us : Nat → Value, us i = v → (∀ j, Deps o j → us j = vs j) → T i us w') :
    Inv ops E T a0 w0 (fun j => if j = i then v else vs j) (listed.setIfInBounds i true) (a.put o.dst v) w' := by
  obtain ⟨hs, hsh, hx, hd, ht, hv, hk⟩ := hI
  have hi : i < ops.size := (Array.getElem?_eq_some_iff.1 ho).1
  have hil : i < listed.size := by omega
  have hun' : listed.getD i false = false := by
    simp only [Array.getD_eq_getD_getElem?, Array.getElem?_eq_getElem hil, Option.getD_some] at hun ⊢; exact hun
  refine ⟨by simpa using hs, ?_, trans _ _ _ hx hE, ?_, ?_, ?_, ?_⟩
  · intro j oj hj hl e he hb
    rw [getD_set _ _ _ hil] at hl ⊢
    by_cases hji : j = i
    · subst hji
      rw [ho] at hj; cases hj
      split
      · rfl
      · exact hall e he hb
    · rw [if_neg hji] at hl
      split
      · rfl
      · exact hsh j oj hj hl e he hb
  · cases o.dst <;> simp [Act.put, hd]
  · cases o.dst <;> simp [Act.put, ht]
  · intro j hj
    rw [getD_set _ _ _ hil] at hj
    have hdi : ∀ om m, ops[j]? = some om → Deps om m → listed.getD j false = true → m ≠ i := by
      rintro om m hj2 ⟨e, he, hb, rfl⟩ hl rfl
      rw [hsh j om hj2 hl e he hb] at hun'; cases hun'
    by_cases hji : j = i
    · subst hji
      intro us h1 h2
      refine hT us (by simpa using h1) (fun m hm => ?_)
      have := h2 o m ho hm
      obtain ⟨e, he, hb, rfl⟩ := hm
      have hne : e.on ≠ j := by
        intro h
        have := fine_after hf ho he hb
        omega
      simpa [hne] using this
    · rw [if_neg hji] at hj
      intro us h1 h2
      refine stay _ _ _ _ (hv j hj us (by simpa [hji] using h1) (fun om m hj2 hm => ?_)) hE
      have := h2 om m hj2 hm
      have hne := hdi om m hj2 hm hj
      simpa [hne] using this
  · intro k hkk
    have old := hk k hkk
    cases hdst : o.dst with
    | none =>
      simp only [Act.put]
      rw [old]
      unfold slotOf
      cases hw : writer ops k with
      | none => rfl
      | some m =>
        have hmi : m ≠ i := by
          rintro rfl
          obtain ⟨o', ho', hd'⟩ := writer_some hw
          rw [ho] at ho'; cases ho'
          rw [hdst] at hd'; cases hd'
        simp only [getD_set _ _ _ hil, if_neg hmi]
    | some d =>
      have hwd := fine_dst hf ho hdst
      simp only [Act.put, Array.getElem?_setIfInBounds]
      by_cases hdk : d = k
      · subst hdk
        rw [if_pos rfl, if_pos (by omega)]
        unfold slotOf
        rw [hwd]
        simp only [getD_set _ _ _ hil, if_true]
      · rw [if_neg hdk, old]
        unfold slotOf
        cases hw : writer ops k with
        | none => rfl
        | some m =>
          have hmi : m ≠ i := by
            rintro rfl
            obtain ⟨o', ho', hd'⟩ := writer_some hw
            rw [ho] at ho'; cases ho'
            rw [hdst] at hd'; cases hd'
            exact hdk rfl
          simp only [getD_set _ _ _ hil, if_neg hmi]
theorem inv_any (hf : fine ops = true) (room : ∀ (i : Nat) (o : Oper) (k : Nat), ops[i]? = some o → o.dst = some k → k < a0.tmps.size) (trans : ∀ a b c, E a b → E b c → E a c) (stay : ∀ i vs w w', T i vs w → E w w' → T i vs w') (hstep : ∀ i o, ops[i]? = some o → StepOk P ops Q E T a0 w0 i o)
    (hend : ∀ vs w, E w0 w → (∀ i, i < ops.size → T i vs w) → Q .normal (behind ops vs (List.range ops.size) a0) w) :
    ∀ (fuel : Nat) (listed : Array Bool) (a : Act) (w : World) (vs : Nat → Value), ((List.range ops.size).filter fun i => !listed.getD i false).length ≤ fuel → Inv ops E T a0 w0 vs listed a w → wpAny P .any ops Q fuel listed a w := by
  have none_left : ∀ (listed : Array Bool) (a : Act) (w : World) (vs : Nat → Value), Inv ops E T a0 w0 vs listed a w → Region.ready .any ops listed = [] → ∀ i, i < ops.size → listed.getD i false = true := by
    intro listed a w vs hI hr i
    induction i using Nat.strongRecOn with
    | ind i ih =>
      intro hi
      have hil : i < listed.size := by have := hI.size; omega
      cases hl : listed.getD i false with
      | true => rfl
      | false =>
        exfalso
        have hmem : i ∈ Region.ready .any ops listed := mem_ready.2 ⟨by
          simp only [Array.getD_eq_getD_getElem?, Array.getElem?_eq_getElem hil, Option.getD_some] at hl ⊢; exact hl, ops[i], Array.getElem?_eq_getElem hi, fun e he hb =>
            ih e.on (fine_after hf (Array.getElem?_eq_getElem hi) he hb) (by have := fine_after hf (Array.getElem?_eq_getElem hi) he hb; omega)⟩
        rw [hr] at hmem; cases hmem
  have at_end : ∀ (listed : Array Bool) (a : Act) (w : World) (vs : Nat → Value), Inv ops E T a0 w0 vs listed a w → Region.ready .any ops listed = [] → Q .normal a w := by
    intro listed a w vs hI hr
    have hall := none_left listed a w vs hI hr
    obtain ⟨hs, hsh, hx, hd, ht, hv, hk⟩ := hI
    have h := hend vs w hx (fun i hi => hv i (hall i hi) vs rfl (fun _ _ _ _ => rfl))
    have e : behind ops vs (List.range ops.size) a0 = a := by
      have e1 : (behind ops vs (List.range ops.size) a0).tmps = a.tmps := by
        apply Array.ext_getElem?
        intro k
        by_cases hkk : k < a0.tmps.size
        · rw [behind_slot hf vs _ a0 k hkk, hk k hkk]
          unfold slotOf
          cases hw : writer ops k with
          | none => rfl
          | some m =>
            obtain ⟨o', ho', _⟩ := writer_some hw
            have hm : m < ops.size := (Array.getElem?_eq_some_iff.1 ho').1
            simp [hm, hall m hm]
        · rw [Array.getElem?_eq_none (by rw [behind_size]; omega), Array.getElem?_eq_none (by omega)]
      have e2 := behind_defers (ops := ops) vs (List.range ops.size) a0
      cases a with
      | mk t d =>
        cases hb : behind ops vs (List.range ops.size) a0 with
        | mk t' d' =>
          rw [hb] at e1 e2
          simp only at e1 e2 hd
          rw [e1, e2, ← hd]
    rw [e] at h; exact h
  intro fuel
  induction fuel with
  | zero =>
    intro listed a w vs hc hI
    have hr : Region.ready .any ops listed = [] := by
      rw [List.eq_nil_iff_forall_not_mem]
      intro i hi
      obtain ⟨hl, o, ho, _⟩ := mem_ready.1 hi
      have hi' : i < ops.size := (Array.getElem?_eq_some_iff.1 ho).1
      have hil : i < listed.size := by have := hI.size; omega
      have : i ∈ (List.range ops.size).filter fun i => !listed.getD i false := List.mem_filter.2 ⟨List.mem_range.2 hi', by
        simp only [Array.getD_eq_getD_getElem?, Array.getElem?_eq_getElem hil, Option.getD_some] at hl ⊢; simp [hl]⟩
      have h0 : ((List.range ops.size).filter fun i => !listed.getD i false) = [] := List.length_eq_zero_iff.1 (by omega)
      rw [h0] at this
      cases this
    exact ⟨hr, at_end listed a w vs hI hr⟩
  | succ fuel ih =>
    intro listed a w vs hc hI
    refine ⟨at_end listed a w vs hI, fun i hi => ?_⟩
    obtain ⟨hl, o, ho, hall⟩ := mem_ready.1 hi
    have hi' : i < ops.size := (Array.getElem?_eq_some_iff.1 ho).1
    have hil : i < listed.size := by have := hI.size; omega
    have hK : ∀ v w', E w w' → (∀ us : Nat → Value, us i = v → (∀ j, Deps o j → us j = vs j) → T i us w') → wpAny P .any ops Q fuel (listed.setIfInBounds i true) (a.put o.dst v) w' := fun v w' hE hT => by
      refine ih _ _ _ _ ?_ (inv_step hf trans stay hI ho hl hall hE hT)
      have hlt : ((List.range ops.size).filter fun j => !(listed.setIfInBounds i true).getD j false).length < ((List.range ops.size).filter fun j => !listed.getD j false).length := by
        have hsub : ((List.range ops.size).filter fun j => !(listed.setIfInBounds i true).getD j false) = (((List.range ops.size).filter fun j => !listed.getD j false).filter fun j => decide (j ≠ i)) := by
          rw [List.filter_filter]
          apply List.filter_congr
          intro j _
          rw [getD_set _ _ _ hil]
          by_cases hji : j = i <;> simp [hji]
        rw [hsub]
        have hm : i ∈ (List.range ops.size).filter fun j => !listed.getD j false := List.mem_filter.2 ⟨List.mem_range.2 hi', by
          simp only [Array.getD_eq_getD_getElem?, Array.getElem?_eq_getElem hil, Option.getD_some] at hl ⊢; simp [hl]⟩
        exact List.length_filter_lt_length_iff_exists.2 ⟨i, hm, by simp⟩
      omega
    have hdep : ∀ j oj, ops[j]? = some oj → Deps o j → T j vs w ∧ ∀ k : Nat, oj.dst = some k → a.tmps.getD k undef = vs j := by
      rintro j oj hj ⟨e, he, hb, rfl⟩
      obtain ⟨hs, hsh, hx, hd, ht, hv, hk⟩ := hI
      have hlj := hall e he hb
      refine ⟨hv _ hlj vs rfl (fun _ _ _ _ => rfl), fun k hdk => ?_⟩
      have hw := fine_dst hf hj hdk
      have hkk := room _ _ _ hj hdk
      rw [Array.getD_eq_getD_getElem?, hk k hkk]
      unfold slotOf
      rw [hw]; simp [hlj]
    have := hstep i o ho a w hI.ext hI.tsize (by
      intro k hw
      obtain ⟨hs, hsh, hx, hd, ht, hv, hk⟩ := hI
      by_cases hkk : k < a0.tmps.size
      · rw [Array.getD_eq_getD_getElem?, Array.getD_eq_getD_getElem?, hk k hkk]
        unfold slotOf
        cases hwr : writer ops k with
        | none => rfl
        | some m =>
          obtain ⟨om, hom, hdm⟩ := writer_some hwr
          simp only []
          rw [if_neg]
          intro hlm
          obtain ⟨e, he, hb, hei⟩ := hw m om hom hdm
          have hli := hsh m om hom hlm e he hb
          rw [hei] at hli
          simp only [Array.getD_eq_getD_getElem?, Array.getElem?_eq_getElem hil, Option.getD_some] at hl hli
          rw [hl] at hli; cases hli
      · rw [Array.getD_eq_getD_getElem?, Array.getD_eq_getD_getElem?, Array.getElem?_eq_none (xs := a.tmps) (by omega), Array.getElem?_eq_none (xs := a0.tmps) (by omega)]) vs hdep _ hK
    unfold wpOp
    rw [ho]
    simp only []
    split
    · next hw => rw [if_pos hw] at this; exact .inl this
    · next hw => rw [if_neg hw] at this; exact this
theorem flow {id : Nat} (hm : P.follows .mixedOrders = true) (hf : fine ops = true) (room : ((List.range ops.size).all fun i => match (ops[i]?).bind (·.dst) with | some k => decide (k < a0.tmps.size) | none => true) = true)
    (hE : E w0 w0.drew) (trans : ∀ a b c, E a b → E b c → E a c) (stay : ∀ i vs w w', T i vs w → E w w' → T i vs w') (hstep : ∀ i o, ops[i]? = some o → StepOk P ops Q E T a0 w0 i o)
    (hend : ∀ vs w, E w0 w → (∀ i, i < ops.size → T i vs w) → Q .normal (behind ops vs (List.range ops.size) a0) w) : (Code.region id ops true).wp P Q a0 w0 := by
  refine wp_region_any hm (inv_any hf ?_ trans stay hstep hend _ _ _ _ (fun _ => undef) ?_ ⟨by simp, ?_, hE, rfl, rfl, ?_, ?_⟩)
  · intro i o k ho hd
    have := List.all_eq_true.1 room i (List.mem_range.2 (Array.getElem?_eq_some_iff.1 ho).1)
    simpa [ho, hd] using this
  · exact Nat.le_trans (List.length_filter_le _ _) (by simp)
  · intro i o ho hl
    simp [Array.getD_eq_getD_getElem?, Array.getElem?_replicate] at hl
    split at hl <;> simp at hl
  · intro i hl
    simp [Array.getD_eq_getD_getElem?, Array.getElem?_replicate] at hl
    split at hl <;> simp at hl
  · intro k hk
    unfold slotOf
    split
    · rw [if_neg]
      simp [Array.getD_eq_getD_getElem?, Array.getElem?_replicate]
      split <;> simp
    · rfl
def StepT (P : Program) (TAB : List (Option Nat × List Nat)) (Q : Exit → Act → World → Prop) (E : World → World → Prop) (T : Nat → (Nat → Value) → World → Prop) (a0 : Act) (w0 : World) (i : Nat) (o : Oper) (needs : List Nat) : Prop :=
  ∀ (a : Act) (w : World), E w0 w → (∀ k : Nat, freeT TAB i k = true → a.tmps.getD k undef = a0.tmps.getD k undef) →
    ∀ vs : Nat → Value, (∀ j ∈ needs, T j vs w ∧ ∀ k : Nat, dstT TAB j = some k → a.tmps.getD k undef = vs j) →
    ∀ K : Act → World → Prop, (∀ v w', E w w' → (∀ us : Nat → Value, us i = v → (∀ j ∈ needs, us j = vs j) → T i us w') → K (a.put o.dst v) w') →
      if wantedT TAB o.guard a.tmps = true then o.wp P a w K Q else K (a.put o.dst undef) w
def StepsT (P : Program) (TAB : List (Option Nat × List Nat)) (Q : Exit → Act → World → Prop) (E : World → World → Prop) (T : Nat → (Nat → Value) → World → Prop) (a0 : Act) (w0 : World) : Nat → List Oper → Prop
  | _, [] => True
  | i, o :: r => StepT P TAB Q E T a0 w0 i o (TAB.getD i (none, [])).2 ∧ StepsT P TAB Q E T a0 w0 (i + 1) r
theorem stepsT_get : ∀ (l : List Oper) (n i : Nat) (o : Oper), StepsT P TAB Q E T a0 w0 n l → l[i]? = some o → StepT P TAB Q E T a0 w0 (n + i) o (TAB.getD (n + i) (none, [])).2
  | [], _, _, _, _, h => by simp at h
  | o :: r, n, 0, o', hs, h => by
    simp only [List.getElem?_cons_zero, Option.some.injEq] at h
    subst h; exact hs.1
  | o :: r, n, i + 1, o', hs, h => by
    simp only [List.getElem?_cons_succ] at h
    have := stepsT_get r (n + 1) i o' hs.2 h
    rw [show n + (i + 1) = n + 1 + i by omega]; exact this
theorem flowT {id : Nat} (TAB : List (Option Nat × List Nat)) (T : Nat → (Nat → Value) → World → Prop) (hT : tableOf ops = TAB) (hm : P.follows .mixedOrders = true) (hf : fine ops = true) (room : (TAB.all fun r => match r.1 with | some k => decide (k < a0.tmps.size) | none => true) = true)
    (hE : E w0 w0.drew) (trans : ∀ a b c, E a b → E b c → E a c) (stay : ∀ i vs w w', T i vs w → E w w' → T i vs w') (hstep : StepsT P TAB Q E T a0 w0 0 ops.toList)
    (hend : ∀ vs w, E w0 w → (∀ i, i < TAB.length → T i vs w) → Q .normal (putsT 0 TAB vs a0) w) : (Code.region id ops true).wp P Q a0 w0 := by
  have hlen : TAB.length = ops.size := by rw [← hT]; simp [tableOf]
  refine flow hm hf ?_ hE trans stay (fun i o ho => ?_) (fun vs w hx ht => by
    have := hend vs w hx (fun i hi => ht i (by omega))
    have e := puts_behind hT vs ops.size 0 a0 (by omega)
    rw [List.drop_zero] at e
    rw [List.range_eq_range', e]; exact this)
  · refine List.all_eq_true.2 fun i hi => ?_
    have hi' := List.mem_range.1 hi
    have ho : ops[i]? = some ops[i] := Array.getElem?_eq_getElem hi'
    have h2 := List.all_eq_true.1 room _ (List.mem_of_getElem? (tab_get hT ho))
    rw [ho]; exact h2
  · intro a w hx hs hu vs hd K hK
    have ho' : ops.toList[i]? = some o := by rw [Array.getElem?_toList]; exact ho
    have hst := stepsT_get _ 0 i o hstep ho'
    rw [Nat.zero_add] at hst
    have hget := tab_get hT ho
    have hneed : ∀ j, j ∈ (TAB.getD i (none, [])).2 ↔ Deps o j := by
      intro j
      simp only [List.getD_eq_getElem?_getD, hget, Option.getD_some]
      constructor
      · intro hj
        obtain ⟨e, he, rfl⟩ := List.mem_map.1 hj
        obtain ⟨he1, he2⟩ := List.mem_filter.1 he
        exact ⟨e, Array.mem_toList_iff.1 he1, he2, rfl⟩
      · rintro ⟨e, he, hb, rfl⟩
        exact List.mem_map.2 ⟨e, List.mem_filter.2 ⟨Array.mem_toList_iff.2 he, hb⟩, rfl⟩
    have := hst a w hx (fun k hk => hu k ?_) vs ?_ K (fun v w' h1 h2 => hK v w' h1 (fun us e1 e2 => h2 us e1 (fun j hj => e2 j ((hneed j).1 hj))))
    · rw [← wantedT_eq hT]; exact this
    · intro m om hom hdm
      have h2 := List.all_eq_true.1 hk _ (List.mem_of_getElem? (tab_get hT hom))
      simp only [hdm, bne_self_eq_false, Bool.false_or, List.contains_iff_mem] at h2
      obtain ⟨e, he, hei⟩ := List.mem_map.1 h2
      obtain ⟨he1, he2⟩ := List.mem_filter.1 he
      exact ⟨e, Array.mem_toList_iff.1 he1, he2, hei⟩
    · intro j hj
      obtain ⟨e, he, hb, rfl⟩ := (hneed j).1 hj
      have hlt := fine_after hf ho he hb
      have hi' : i < ops.size := (Array.getElem?_eq_some_iff.1 ho).1
      have hoj : ops[e.on]? = some (ops[e.on]'(by omega)) := Array.getElem?_eq_getElem (by omega)
      obtain ⟨hv, hk⟩ := hd e.on _ hoj ⟨e, he, hb, rfl⟩
      refine ⟨hv, fun k hkk => hk k ?_⟩
      unfold dstT at hkk
      simpa [List.getD_eq_getElem?_getD, tab_get hT hoj] using hkk
end
end Go.Proofs.YtlhmpmmblnbmbaaDoor.Flow2
