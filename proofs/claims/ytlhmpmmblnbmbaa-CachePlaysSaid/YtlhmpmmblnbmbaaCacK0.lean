/- The keys of a cache, in the order of their use: the plain part. -/
import Derived.Test.YtlhmpmmblnbmbaaCacF1
set_option linter.unusedVariables false
set_option linter.unusedSimpArgs false
namespace Go.Proofs.Ytlhmpmmblnbmbaa.Cac
open Go Go.RowKit Go.Proofs.Ytlhmpmmblnbmbaa.PCachePlays Go.Proofs.YtlhmpmmblnbmbaaW.PrintWords Go.Proofs.YtlhmpmmblnbmbaaW.PrintLast Go.Proofs.YtlhmpmmblnbmbaaW.PrintMore Go.Proofs.Ytlhmpmmblnbmbaa.FlowU Go.Proofs.Ytlhmpmmblnbmbaa.Ev Go.Proofs.Ytlhmpmmblnbmbaa.Ke Go.Proofs.Ytlhmpmmblnbmbaa.Cells
open Go.Sort (grow grow_grow alloc_eq_grow grow_empty ahead mapBlock putRow putCells flatK putRowK HoldsK Holds SWO PermIn SortedIn size_flatK get_flatK)
/-- Draws, and new blocks. -/
def Grown (u v : World) : Prop := ∃ q os, v = grow (u.drewN q) os
section
variable {u v w : World}
theorem Grown.refl : Grown u u := ⟨0, #[], by rw [grow_empty]; rfl⟩
theorem Grown.drew : Grown u u.drew := ⟨1, #[], by rw [grow_empty]; rfl⟩
theorem Grown.alloc (o : Obj) : Grown u (u.alloc o) := ⟨0, #[o], by rw [alloc_eq_grow]; rfl⟩
theorem Grown.trans (h : Grown u v) (k : Grown v w) : Grown u w := by
  obtain ⟨a, x, rfl⟩ := h
  obtain ⟨b, y, rfl⟩ := k
  refine ⟨a + b, x ++ y, ?_⟩
  show grow (grow ((u.drewN a).drewN b) x) y = _
  rw [grow_grow]
  congr 1
  simp [World.drewN, Nat.add_assoc]
theorem Grown.below (h : Grown u v) : Below u.heap.size u v := by
  obtain ⟨a, x, rfl⟩ := h
  refine ⟨rfl, rfl, rfl, by simp [grow, World.drewN], fun k hk => ?_⟩
  show (u.heap ++ x)[k]? = _
  rw [Array.getElem?_append_left hk]
end
section
variable {P : Program} {ops : Array Oper} {rest : List Oper} {o : Oper} {a : Act} {Q : Exit → Act → World → Prop} {w : World} {T : TypeId}
theorem eboxg {v : Value} {x : Operand} (hgd : o.guard = none) (ho : o.op = .box T x) (hx : a.eval x = v)
    (h : ∀ g, g = w.heap.size → ∀ w1, w1.heap[g]? = some (.cells v.cells T (0, 0)) → Below w.heap.size w w1 → Grown w w1 → wpList P ops Q rest (a.put o.dst (.pointer (some ⟨g, 0, none⟩))) w1) : wpList P ops Q (o :: rest) a w := by
  refine Kd.event_run hgd (w1 := w.alloc (.cells v.cells T (0, 0))) (v := .pointer (some ⟨w.heap.size, 0, none⟩)) ?_ (h _ rfl _ (blk_new w _) (below_alloc (Below.refl _ _) _) (Grown.alloc _))
  unfold execOp
  simp only [ho, hx]
  simp [Instr.box, newVar, newRow, go_sem]
end
abbrev KS := { k : S36 // G36 k }
instance : Inhabited KS := ⟨⟨⟨0, 0, 0⟩, (by unfold wf64; decide), (by unfold wf64; decide), (by unfold wf64; decide)⟩⟩
def encS (x : KS) : List Value := [.int .i64 x.1.f0, .int .i64 x.1.f1, .int .i64 x.1.f2]
def usedOf (m : List Ent) (k : S36) : Int := match at_ k m with | some e => e.u | none => 0
def cfS (m : List Ent) (x y : KS) : Int := usedOf m y.1 - usedOf m x.1
theorem swoS (m : List Ent) : SWO (ltOf (cfS m)) := by
  have e : ∀ x y : KS, ltOf (cfS m) x y = decide (usedOf m y.1 - usedOf m x.1 < 0) := fun _ _ => rfl
  refine ⟨fun x => ?_, fun x y z h1 h2 => ?_, fun x y z h1 h2 => ?_⟩
  · rw [e]; exact decide_eq_false (by omega)
  · rw [e] at h1 h2 ⊢
    have := of_decide_eq_true h1
    have := of_decide_eq_true h2
    exact decide_eq_true (by omega)
  · rw [e] at h1 h2 ⊢
    have := of_decide_eq_false h1
    have := of_decide_eq_false h2
    exact decide_eq_false (by omega)
theorem used_at {m : List Ent} (hk : Keyd m) {e : Ent} (he : e ∈ m) : usedOf m e.k = e.u := by unfold usedOf; rw [at_of hk he]
theorem lk_used (k : S36) (m : List Ent) : ∃ v, lk k m = .agg #[v, .int .i64 (usedOf m k)] := by
  unfold lk usedOf
  cases at_ k m with
  | none => exact ⟨_, rfl⟩
  | some e => exact ⟨_, rfl⟩
theorem used_bound {m : List Ent} (hu : ∀ e ∈ m, 0 ≤ e.u ∧ e.u ≤ 4611686018427387904) (k : S36) : 0 ≤ usedOf m k ∧ usedOf m k ≤ 4611686018427387904 := by
  unfold usedOf
  cases hq : at_ k m with
  | none => exact ⟨Int.le_refl _, by decide⟩
  | some e => exact hu e (at_mem hq).1
/-- Keys as they lie. -/
def KRow (W : World) (v : Value) (ks : List S36) : Prop := (v = .slice none 0 0 ∧ ks = []) ∨ ∃ g c cur, v = .slice (some ⟨g, 0, none⟩) ks.length c ∧ W.heap[g]? = some (.cells cur 36 (0, 0)) ∧ ks.length ≤ c ∧ c ≤ maxLen ∧ cur.size = c * 3 ∧ ∀ j k, ks[j]? = some k → cur[j * 3]? = some (.int .i64 k.f0) ∧ cur[j * 3 + 1]? = some (.int .i64 k.f1) ∧ cur[j * 3 + 2]? = some (.int .i64 k.f2)
section
variable {W W1 : World} {v : Value} {ks : List S36} {g b t : Nat} {cs : Array Value}
theorem KRow.of_heap (h : KRow W v ks) (hh : ∀ (g : Nat) (cur : Array Value), W.heap[g]? = some (Obj.cells cur 36 (0, 0)) → W1.heap[g]? = W.heap[g]?) : KRow W1 v ks := by
  rcases h with h | ⟨g, c, cur, h1, h2, h3⟩
  · exact .inl h
  · exact .inr ⟨g, c, cur, h1, (hh g cur h2).trans h2, h3⟩
theorem KRow.below (h : KRow W v ks) (hb : Below W.heap.size W W1) : KRow W1 v ks := h.of_heap (fun g _ hg => hb.block g (blk_lt hg))
theorem KRow.far (h : KRow W v ks) (hk : W.heap[g]? = some (.cells cs t (0, 0))) (ht : t ≠ 36) (hf : ∀ k, k ≠ g → W1.heap[k]? = W.heap[k]?) : KRow W1 v ks := h.of_heap (fun k cur hg => hf k (fun e => by
  subst e
  rw [hk] at hg
  injection hg with hg
  injection hg with _ hg _
  exact ht hg))
theorem KRow.map (h : KRow W v ks) (hm : ∃ es clock, W.heap[b]? = some (.map es clock)) (hg : W.grownBy W1 (some b)) : KRow W1 v ks := h.of_heap (fun k cur hk => hg.block k (blk_lt hk) (fun e => by
  injection e with e
  subst e
  obtain ⟨es, clock, hb⟩ := hm
  rw [hb] at hk; cases hk))
theorem KRow.slice (h : KRow W v ks) : ∃ A c, v = .slice A ks.length c := by
  rcases h with ⟨rfl, rfl⟩ | ⟨g, c, cur, rfl, _⟩
  · exact ⟨_, _, rfl⟩
  · exact ⟨_, _, rfl⟩
/-- One of them. -/
theorem KRow.at_ {A : Option Addr} {n c : Nat} (h : KRow W (.slice A n c) ks) {j : Nat} (hj : j < n) : n = ks.length ∧ ∃ g, A = some ⟨g, 0, none⟩ ∧ Lies W ((⟨g, 0, none⟩ : Addr).add (j * 3)) [.int .i64 (ks.getD j ⟨0, 0, 0⟩).f0, .int .i64 (ks.getD j ⟨0, 0, 0⟩).f1, .int .i64 (ks.getD j ⟨0, 0, 0⟩).f2] := by
  rcases h with ⟨h1, rfl⟩ | ⟨g, c2, cur, h1, h2, h3, _, _, h4⟩
  · injection h1 with _ hn _; omega
  · injection h1 with ha hn hc
    subst ha; subst hn
    refine ⟨rfl, g, rfl, ?_⟩
    obtain ⟨q1, q2, q3⟩ := h4 j _ (List.getElem?_eq_getElem hj)
    have e : ks.getD j ⟨0, 0, 0⟩ = ks[j] := by rw [List.getD_eq_getElem?_getD, List.getElem?_eq_getElem hj]; rfl
    rw [e]
    intro i u hi
    rw [add_plain]
    have hcell : ∀ p x, cur[p]? = some x → W.cell? ((⟨g, p, none⟩ : Addr)) = some x := fun p x hp => (blk_cell h2 p).trans hp
    match i, hi with
    | 0, hi => obtain rfl : _ = u := Option.some.inj hi; exact hcell _ _ q1
    | 1, hi => obtain rfl : _ = u := Option.some.inj hi; exact hcell _ _ q2
    | 2, hi => obtain rfl : _ = u := Option.some.inj hi; exact hcell _ _ q3
    | i + 3, hi => simp at hi
end
section
variable {W : World} {blk n : Nat} {d : Array KS} {os : Array Obj}
theorem sw_heap {k : Nat} (hk : k ≠ blk) (hlt : k < W.heap.size) : (sortWorldK encS 3 W blk 0 n d os).heap[k]? = W.heap[k]? := by
  show ((W.heap.modify blk _) ++ os)[k]? = _
  rw [Array.getElem?_append_left (by simpa using hlt), Array.getElem?_modify, if_neg (Ne.symm hk)]
theorem sw_below {B : Nat} (hB : B ≤ blk) (hB2 : B ≤ W.heap.size) : Below B W (sortWorldK encS 3 W blk 0 n d os) := by
  refine ⟨rfl, rfl, rfl, ?_, fun k hk => sw_heap (by omega) (by omega)⟩
  show _ ≤ ((W.heap.modify blk _) ++ os).size
  simp
theorem sw_row {cur : Array Value} (hc : W.heap[blk]? = some (.cells cur 36 (0, 0))) (hs : d.size * 3 ≤ cur.size) : ∃ cur2, (sortWorldK encS 3 W blk 0 n d os).heap[blk]? = some (.cells cur2 36 (0, 0)) ∧ cur2.size = cur.size ∧ ∀ t, t < d.size * 3 → cur2[t]? = some (encS d[t / 3]!)[t % 3]! := by
  have hlt := blk_lt hc
  refine ⟨putCells id 0 (flatK encS 3 d) cur, ?_, by simp [putCells], fun t ht => ?_⟩
  · show ((W.heap.modify blk _) ++ os)[blk]? = _
    rw [Array.getElem?_append_left (by simpa using hlt), Array.getElem?_modify, if_pos rfl, hc]
    rfl
  · unfold putCells
    rw [Array.getElem?_mapIdx, Array.getElem?_eq_getElem (by omega)]
    simp only [Option.map_some, size_flatK, Nat.zero_le, Nat.zero_add, true_and, Nat.sub_zero, id_eq]
    rw [if_pos ht, get_flatK _ _ _ _ ht]
theorem holds_of {cur : Array Value} (hc : W.heap[blk]? = some (.cells cur 36 (0, 0))) (hd : ∀ t, t < d.size * 3 → cur[t]? = some (encS d[t / 3]!)[t % 3]!) : HoldsK encS 3 W blk 0 d := by
  intro j hj
  rw [size_flatK] at hj
  rw [get_flatK _ _ _ _ hj, Nat.zero_add]
  refine ⟨(blk_cell hc j).trans (hd j hj), ?_⟩
  simp [World.frozen?, hc]
end
/-- Two lists of the same, both falling: one list. -/
theorem falling_eq {f : S36 → Int} : ∀ {l1 l2 : List S36}, l1.Perm l2 → l1.Pairwise (fun a b => f b < f a) → l2.Pairwise (fun a b => f b ≤ f a) → l1 = l2
  | [], l2, hp, _, _ => by rw [List.nil_perm.1 hp]
  | x :: t, l2, hp, h1, h2 => by
    obtain ⟨a1, a2⟩ := List.pairwise_cons.1 h1
    cases l2 with
    | nil => exact absurd hp.length_eq (by simp)
    | cons y r =>
      obtain ⟨b1, b2⟩ := List.pairwise_cons.1 h2
      have hy : y = x := by
        have m1 : y ∈ x :: t := hp.mem_iff.2 (by simp)
        have m2 : x ∈ y :: r := hp.mem_iff.1 (by simp)
        rcases List.mem_cons.1 m1 with m1 | m1
        · exact m1
        · rcases List.mem_cons.1 m2 with m2 | m2
          · exact m2.symm
          · have := a1 y m1; have := b1 x m2; omega
      subst hy
      rw [falling_eq ((List.perm_cons y).1 hp) a2 b2]
/-- The keys that have come out. -/
structure Coll (m : List Ent) (left : Lit → Bool) (cnt : Nat) (ss : List S36) : Prop where
  nd : ss.Nodup
  out : ∀ k ∈ ss, (∃ e ∈ m, e.k = k) ∧ left (kl k) = false
  has : ∀ e ∈ m, left (kl e.k) = true ∨ e.k ∈ ss
  sz : ss.length + cnt ≤ m.length
theorem Coll.perm {m : List Ent} {left : Lit → Bool} {cnt : Nat} {ss : List S36} (h : Coll m left cnt ss) (hk : Keyd m) (hl : ∀ k, left k = false) : ss.Perm (m.map (·.k)) := by
  refine (List.perm_ext_iff_of_nodup h.nd ?_).2 (fun k => ⟨fun hk => ?_, fun hk => ?_⟩)
  · rw [List.Nodup, List.pairwise_map]; exact hk.2
  · obtain ⟨⟨e, he, rfl⟩, _⟩ := h.out k hk
    exact List.mem_map.2 ⟨e, he, rfl⟩
  · obtain ⟨e, he, rfl⟩ := List.mem_map.1 hk
    rcases h.has e he with h | h
    · rw [hl] at h; cases h
    · exact h
theorem Coll.step {m : List Ent} {left : Lit → Bool} {cnt cnt2 : Nat} {ss : List S36} (h : Coll m left cnt ss) (hk : Keyd m) {e : Ent} (he : e ∈ m) (hl : left (kl e.k) = true) (hc : cnt2 < cnt) : Coll m (fun z => left z && !z.sameKey (kl e.k)) cnt2 (ss ++ [e.k]) := by
  have hkey := law36.key (kl_is (hk.1 e he))
  refine ⟨?_, fun k hk2 => ?_, fun x hx => ?_, by rw [List.length_append]; have := h.sz; simp only [List.length_cons, List.length_nil]; omega⟩
  · rw [List.nodup_append]
    refine ⟨h.nd, by simp, fun a ha b hb => ?_⟩
    obtain rfl := List.mem_singleton.1 hb
    rintro rfl
    have := (h.out _ ha).2
    rw [hl] at this; cases this
  · rcases List.mem_append.1 hk2 with hk2 | hk2
    · obtain ⟨h1, h2⟩ := h.out k hk2
      exact ⟨h1, by simp [h2]⟩
    · obtain rfl := List.mem_singleton.1 hk2
      exact ⟨⟨e, he, rfl⟩, by simp [WideAt.sameKey_self hkey]⟩
  · by_cases hx2 : x.k = e.k
    · exact .inr (by rw [hx2]; simp)
    · rcases h.has x hx with h1 | h1
      · refine .inl ?_
        have : (kl x.k).sameKey (kl e.k) = false := by
          cases hq : (kl x.k).sameKey (kl e.k) with
          | false => rfl
          | true => exact absurd (kl_inj (hk.1 x hx) (hk.1 e he) (WideAt.sameKey_eq hq)) hx2
        simp [h1, this]
      · exact .inr (List.mem_append_left _ h1)
theorem has_mem {m : List Ent} {l : Lit} (h : Maps.has (D m) l = true) : ∃ e ∈ m, kl e.k = l := by
  have : Maps.has (D m) l = (((m.map encE).foldr DataW.insert []).any fun p => p.1.sameKey l) := rfl
  rw [this] at h
  obtain ⟨p, hp, hq⟩ := List.any_eq_true.1 h
  obtain ⟨e, he, rfl⟩ := List.mem_map.1 (mem_sorted.1 hp)
  exact ⟨e, he, WideAt.sameKey_eq hq⟩
theorem Coll.start {m : List Ent} (hk : Keyd m) : Coll m (Maps.has (D m)) m.length [] :=
  ⟨List.nodup_nil, fun k h => (by cases h), fun e he => .inl (Maps.has_true_of_atKey (fun z => D_at hk he z)), by simp⟩
end Go.Proofs.Ytlhmpmmblnbmbaa.Cac
