/- The keys of a cache, sorted by their use. -/
import Derived.Test.YtlhmpmmblnbmbaaCacK1
import Derived.Shelf.SlSortCmp.NoneTotal
set_option linter.unusedVariables false
set_option linter.unusedSimpArgs false
namespace Go.Proofs.Ytlhmpmmblnbmbaa.Cac
open Go Go.RowKit Go.Proofs.Ytlhmpmmblnbmbaa.PCachePlays Go.Proofs.YtlhmpmmblnbmbaaW.PrintWords Go.Proofs.YtlhmpmmblnbmbaaW.PrintLast Go.Proofs.YtlhmpmmblnbmbaaW.PrintMore Go.Proofs.Ytlhmpmmblnbmbaa.FlowU Go.Proofs.Ytlhmpmmblnbmbaa.Ev Go.Proofs.Ytlhmpmmblnbmbaa.Ke Go.Proofs.Ytlhmpmmblnbmbaa.Cells
open Go.Sort (grow HoldsK PermIn SortedIn)
theorem info36 : (Try.prog.info? 36).map (fun i => (i.zero, i.size, i.bytes)) = some (some (.agg #[.int .i64 0, .int .i64 0, .int .i64 0]), 3, 24) := by kernel_rfl
section
variable {H : Type} {P : Program} {k : TypeId} {Rd : Value → Option (DataW H × List MemPlace)} {w w1 : World} {b r n g t : Nat} {DD : DataW H} {left : Lit → Bool} {cnt : Nat} {cs : Array Value}
theorem ranges_below (h : w.ranges P k Rd b r n DD left cnt) (hb : Below w.heap.size w w1) : w1.ranges P k Rd b r n DD left cnt :=
  h.kept (row := none) ⟨hb.os, hb.tape, hb.output, hb.size, fun k hk _ => hb.block k hk⟩ (by simp) (by simp)
theorem ranges_typed (h : w.ranges P k Rd b r n DD left cnt) (hk : w.heap[g]? = some (.cells cs t (0, 0))) : b ≠ g ∧ r ≠ g := by
  obtain ⟨es, clock, since, seen, c0, h1, _, _, _, h2, _⟩ := h
  exact ⟨fun e => (by rw [e, hk] at h1; cases h1), fun e => (by rw [e, hk] at h2; cases h2)⟩
theorem ranges_far (h : w.ranges P k Rd b r n DD left cnt) (hk : w.heap[g]? = some (.cells cs t (0, 0))) (hf : ∀ k, k ≠ g → w1.heap[k]? = w.heap[k]?) (hb : Below 0 w w1) : w1.ranges P k Rd b r n DD left cnt :=
  h.kept (row := some g) ⟨hb.os, hb.tape, hb.output, hb.size, fun k _ hn => hf k (fun e => hn (by rw [e]))⟩ (fun e => (ranges_typed h hk).1 (Option.some.inj e)) (fun e => (ranges_typed h hk).2 (Option.some.inj e))
end
theorem appK {ops : Array Oper} {rest : List Oper} {o : Oper} {a : Act} {Q : Exit → Act → World → Prop} {w0 W : World} {base g b r n cnt : Nat} {DD : DataW Value} {left : Lit → Bool} {s y : Operand} {v : Value} {ss : List S36} {k : S36} (hgd : o.guard = none)
    (ho : o.op = .call { callee := .builtin .append, args := #[s, y], argTypes := #[53, 53] }) (hs : a.eval s = v) (hx : a.eval y = .slice (some ⟨g, 0, none⟩) 1 1)
    (HO : k36.R 36 W base (fun _ => True) v ss) (K : W.heap[g]? = some (.cells #[.int .i64 k.f0, .int .i64 k.f1, .int .i64 k.f2] 36 (0, 0))) (HB : Below base w0 W) (hbase : base ≤ W.heap.size) (hl : (ss.length + 1) * 24 ≤ 140737488355328) (HG : W.ranges Try.prog 36 entR b r n DD left cnt)
    (h : ∀ v1 w1, k36.R 36 w1 base (fun _ => True) v1 (ss ++ [k]) → Below base w0 w1 → w1.ranges Try.prog 36 entR b r n DD left cnt → (∀ (g2 : Nat) (cs : Array Value) (t : TypeId), W.heap[g2]? = some (Obj.cells cs t (0, 0)) → t ≠ 36 → w1.heap[g2]? = some (Obj.cells cs t (0, 0))) → wpList Try.prog ops Q rest (a.put o.dst v1) w1) : wpList Try.prog ops Q (o :: rest) a W := by
  refine Kd.R_append_rows (P := Try.prog) k36 (Rr := fun p cs => p = k ∧ cs = [.int .i64 k.f0, .int .i64 k.f1, .int .i64 k.f2]) base hgd s y 53 36 _ 24 ho Try.underlying53 info36 rfl (by decide) (by decide) v ss [k] (some ⟨g, 0, none⟩) 1 1 (fun _ => True) (fun _ => False) hs hx HO ?_ ?_ (fun k hk => hk.elim) (fun _ _ => trivial) HB hbase (by simpa using hl) ?_
  · refine ⟨rfl, by decide, fun _ => ⟨_, rfl, fun j p hj => ?_⟩⟩
    have : j = 0 := by
      cases j with
      | zero => rfl
      | succ j => simp at hj
    subst this
    obtain rfl : k = p := by simpa using hj
    refine ⟨_, rfl, ⟨rfl, rfl⟩, fun i u hi => ?_⟩
    rw [Nat.zero_mul, Nat.zero_add, add_plain, blk_cell K i]
    simpa using hi
  · rintro p cs ⟨rfl, rfl⟩
    exact k36_mkM W base _ _
  · intro v1 w1 h1 h2 h3 _
    refine h v1 w1 h1 h2 (HG.kept h3 (fun e => ?_) (fun e => ?_)) (fun g2 cs t hk ht => (h3.block g2 (blk_lt hk) (fun e => ?_)).trans hk)
    · obtain ⟨inner, hown⟩ := Kd.R_own HO
      obtain ⟨cells, hc⟩ := own_typed hown _ e.symm
      exact (ranges_typed HG hc).1 rfl
    · obtain ⟨inner, hown⟩ := Kd.R_own HO
      obtain ⟨cells, hc⟩ := own_typed hown _ e.symm
      exact (ranges_typed HG hc).2 rfl
    · obtain ⟨inner, hown⟩ := Kd.R_own HO
      obtain ⟨cells, hc⟩ := own_typed hown _ e.symm
      rw [hk] at hc
      injection hc with hc
      injection hc with _ hc _
      exact ht hc
/-- The row of a slice of keys. -/
theorem row_of {W : World} {base : Nat} {v : Value} {ss : List S36} (h : k36.R 36 W base (fun _ => True) v ss) : (v = .slice none 0 0 ∧ ss = []) ∨ ∃ g c cur, v = .slice (some ⟨g, 0, none⟩) ss.length c ∧ base ≤ g ∧ W.heap[g]? = some (.cells cur 36 (0, 0)) ∧ ss.length ≤ c ∧ c ≤ maxLen ∧ cur.size = c * 3 := by
  obtain ⟨inner, h1, h2⟩ := Kd.R_own h
  rcases h2 with ⟨rfl, h2⟩ | ⟨g, cap, cur, rfl, hb, hc, hn, hm, hs, _⟩
  · exact .inl ⟨rfl, List.length_eq_zero_iff.1 h2⟩
  · exact .inr ⟨g, cap, cur, rfl, hb, hc, hn, hm, hs⟩
theorem sort_c {W : World} {base : Nat} {v : Value} {ss : List S36} {m : List Ent} {gb gC gM : Nat} {room clock hits misses : Int} (HO : k36.R 36 W base (fun _ => True) v ss) (hg : ∀ k ∈ ss, G36 k)
    (hb : W.heap[gb]? = some (.cells #[.pointer (some ⟨gC, 0, none⟩)] 33 (0, 0))) (hC : W.heap[gC]? = some (.cells #[.map (some gM), .int .i64 room, .int .i64 clock, .int .i64 hits, .int .i64 misses] 83 (0, 0))) (hM : MapIs W gM m)
    (hp : ss.Perm (m.map (·.k))) (ho : m.Pairwise (fun a b => b.u < a.u)) (hu : ∀ e ∈ m, 0 ≤ e.u ∧ e.u ≤ 4611686018427387904) (hbase : base ≤ W.heap.size) (hlen : ss.length ≤ 1000000) :
    Calls Try.prog 41 #[v, .func (.func 42) #[] #[.pointer (some ⟨gb, 0, none⟩)]] W fun e w' => e = .returned (.tuple #[]) ∧ KRow w' v (m.map (·.k)) ∧ Below base W w' := by
  rcases row_of HO with ⟨rfl, rfl⟩ | ⟨blk, c, cur, rfl, hge, hc, hnc, hcm, hcs⟩
  · have hcon := AnyF.slices_SortFunc_none Try.sortKeys none 0 (.func (.func 42) #[] #[.pointer (some ⟨gb, 0, none⟩)]) W
    change Calls Try.prog 41 _ _ _ at hcon
    refine hcon.mono ?_
    rintro e w' ⟨rfl, rfl⟩
    exact ⟨rfl, .inl ⟨rfl, List.nil_perm.1 hp⟩, Below.refl _ _⟩
  · obtain ⟨d, hd⟩ : ∃ d : Array KS, d = (ss.pmap Subtype.mk hg).toArray := ⟨_, rfl⟩
    have hdl : d.toList.map (·.1) = ss := by rw [hd]; simp [List.map_pmap]
    have hds : d.size = ss.length := by rw [hd]; simp
    have hdk : ∀ j (h : j < d.size), d[j]!.1 = ss[j]'(by omega) := fun j h => by
      rw [getElem!_pos d j h]
      have : d.toList.map (·.1) = ss := hdl
      have h2 : (d.toList.map (·.1))[j]? = ss[j]? := by rw [this]
      rw [List.getElem?_map, Array.getElem?_toList, Array.getElem?_eq_getElem h, List.getElem?_eq_getElem (by omega)] at h2
      simpa using h2
    have hread := (Kd.R_reads' HO).2.2
    have hH : HoldsK encS 3 W blk 0 d := by
      refine holds_of hc (fun t ht => ?_)
      have hj : t / 3 < ss.length := by omega
      obtain ⟨ad, cs, hA, hl3, hK, hcell⟩ := Kd.C_get hread ⟨0, 0, 0⟩ ((t / 3 : Nat) : Int) (by omega) (by omega)
      obtain rfl := Option.some.inj hA
      rw [Int.toNat_natCast] at hK hcell
      obtain rfl := k36_open hK
      have e1 : (ss.getD (t / 3) ⟨0, 0, 0⟩) = d[t / 3]!.1 := by rw [hdk _ (by omega), List.getD_eq_getElem?_getD, List.getElem?_eq_getElem hj]; rfl
      rw [e1] at hcell
      have h3 : t % 3 < 3 := Nat.mod_lt _ (by decide)
      have := hcell (t % 3) ((encS d[t / 3]!)[t % 3]!) (by
        unfold encS
        match t % 3, h3 with
        | 0, _ => rfl
        | 1, _ => rfl
        | 2, _ => rfl)
      rw [add_plain, blk_cell hc, show t / 3 * k36.sz + t % 3 = t from by show t / 3 * 3 + t % 3 = t; omega] at this
      exact this
    have heg : ∀ args w, (callFunc 42 args).run Try.prog w = .ok (.enter 42 args) w := Go.Proofs.enters_of Try.func42 (by kernel_rfl) rfl
    have hne : ∀ {g : Nat} {x : Array Value} {t : TypeId}, W.heap[g]? = some (.cells x t (0, 0)) → t ≠ 36 → g ≠ blk := fun h ht e => by
      rw [e, hc] at h
      injection h with h
      injection h with _ h _
      exact ht h.symm
    have hcmp : CmpLays Try.prog 42 #[.pointer (some ⟨gb, 0, none⟩)] encS 3 (cfS m) blk 0 d.size W := fun q os dk _ x y => by
      have h := less_c x.1 y.1 x.2 y.2 hu (sortWorldK encS 3 W blk 0 q dk os) ((sw_heap (hne hb (by decide)) (blk_lt hb)).trans hb) ((sw_heap (hne hC (by decide)) (blk_lt hC)).trans hC) (hM.of_heap (sw_heap (hM.ne hc) hM.lt))
      exact h
    have hcon := AnyQ.slices_SortFunc Try.sortKeys 3 Try.isAgg36 Try.sizeOf36 encS (fun _ => rfl) (fun x v hv => by simp [encS] at hv; rcases hv with rfl | rfl | rfl <;> rfl) (cfS m) (swoS m) 42 #[.pointer (some ⟨gb, 0, none⟩)] blk 0 c d W heg hcmp hH (blk_lt hc) (by omega)
    change Calls Try.prog 41 _ _ _ at hcon
    rw [hds] at hcon
    refine hcon.mono ?_
    rintro e w' ⟨rfl, d2, q, os, hperm, hsort, rfl⟩
    rw [← hds] at hperm hsort
    obtain ⟨hs2, _, hp2⟩ := hperm
    rw [show d2.extract 0 d.size = d2 by rw [← hs2]; simp, show d.extract 0 d.size = d by simp] at hp2
    have hfall : (d2.toList.map (·.1)).Pairwise (fun a b => usedOf m b ≤ usedOf m a) := by
      rw [List.pairwise_map, List.pairwise_iff_getElem]
      intro i j hi hj hij
      have h := hsort i j (Nat.zero_le _) hij (by rw [← hs2]; simpa using hj)
      have h2 : ¬ (usedOf m d2[i]!.1 - usedOf m d2[j]!.1 < 0) := of_decide_eq_false h
      rw [getElem!_pos d2 i (by simpa using hi), getElem!_pos d2 j (by simpa using hj)] at h2
      simp only [Array.getElem_toList]
      omega
    have hkeys : m.map (·.k) = d2.toList.map (·.1) := by
      refine falling_eq (f := usedOf m) (((hp2.map (·.1)).trans (by rw [hdl]; exact hp)).symm) ?_ hfall
      rw [List.pairwise_map]
      exact ho.imp_of_mem (fun {a b} ha hb h => by rw [used_at hM.2 ha, used_at hM.2 hb]; exact h)
    have hln : (m.map (·.k)).length = ss.length := by rw [← hp.length_eq]
    obtain ⟨cur2, hc2, hsz2, hv2⟩ := sw_row (n := q) (d := d2) (os := os) hc (by rw [hs2, hds, hcs]; omega)
    refine ⟨rfl, .inr ⟨blk, c, cur2, by rw [hln], hc2, by rw [hln]; exact hnc, hcm, by rw [hsz2, hcs], fun j k hk => ?_⟩, sw_below hge hbase⟩
    have hj : j < d2.size := by
      have := (List.getElem?_eq_some_iff.1 hk).1
      rw [hln] at this
      omega
    have hkk : d2[j]!.1 = k := by
      rw [hkeys, List.getElem?_map, Array.getElem?_toList, Array.getElem?_eq_getElem hj] at hk
      rw [getElem!_pos d2 j hj]
      simpa using hk
    have hv : ∀ i, i < 3 → cur2[j * 3 + i]? = some (encS d2[j]!)[i]! := fun i hi => by
      have := hv2 (j * 3 + i) (by omega)
      rwa [show (j * 3 + i) / 3 = j by omega, show (j * 3 + i) % 3 = i by omega] at this
    rw [← hkk]
    exact ⟨hv 0 (by decide), hv 1 (by decide), hv 2 (by decide)⟩
end Go.Proofs.Ytlhmpmmblnbmbaa.Cac
