/- The keys of a cache. -/
import Derived.Test.YtlhmpmmblnbmbaaCacS
set_option linter.unusedVariables false
set_option linter.unusedSimpArgs false
namespace Go.Proofs.Ytlhmpmmblnbmbaa.Cac
open Go Go.RowKit Go.Proofs.Ytlhmpmmblnbmbaa.PCachePlays Go.Proofs.YtlhmpmmblnbmbaaW.PrintWords Go.Proofs.YtlhmpmmblnbmbaaW.PrintLast Go.Proofs.YtlhmpmmblnbmbaaW.PrintMore Go.Proofs.Ytlhmpmmblnbmbaa.FlowU Go.Proofs.Ytlhmpmmblnbmbaa.Ev Go.Proofs.Ytlhmpmmblnbmbaa.Ke Go.Proofs.Ytlhmpmmblnbmbaa.Cells
theorem row1_53 {o : Oper} {a : Act} {w : World} {x0 : Operand} {c0_0 : Int} {c0_1 : Int} {c0_2 : Int} (ho : o.op = .buildSlice 53 1 #[(0, x0)]) (h0 : a.eval x0 = .agg #[.int .i64 c0_0, .int .i64 c0_1, .int .i64 c0_2]) : (execOp a.eval o).run Try.prog w = .ok (.value (.slice (some ⟨w.heap.size, 0, none⟩) 1 1)) (w.alloc (.cells #[.int .i64 c0_0, .int .i64 c0_1, .int .i64 c0_2] 36 (0, 0))) := by
  have hu53 := Try.underlying53
  have hu36 := Try.underlying36
  have hu3 := Try.underlying3
  unfold execOp
  simp only [ho, List.map_toArray, List.map_cons, List.map_nil, h0]
  clear ho h0
  first
  | (go_simp; done)
  | (go_simp; rfl)
theorem zero36_is : (Try.prog.info? 36).map (·.zero) = some (some (.agg #[.int .i64 0, .int .i64 0, .int .i64 0])) := by kernel_rfl
theorem R_far_ne {α : Type} {d : Kd α} {e base : Nat} {ok : Nat → Prop} {v : Value} {xs : List α} {w w1 : World} {g : Nat} (h : d.R e w base (fun k => ok k ∧ k ≠ g) v xs) (hf : ∀ k, k ≠ g → w1.heap[k]? = w.heap[k]?) : d.R e w1 base ok v xs := Kd.R_mono (Kd.R_move h (fun k hk => hf k hk.2)) (fun k hk => hk.1)
theorem entr {ops : Array Oper} {rest : List Oper} {o : Oper} {a : Act} {Q : Exit → Act → World → Prop} {w : World} {x : Operand} {r : Nat} {v : Value} (hgd : o.guard = none) (ho : o.op = .entry x) (hx : a.eval x = .pointer (some ⟨r, 0, none⟩)) (hr : (Instr.entry (.pointer (some ⟨r, 0, none⟩))).run Try.prog w = .ok v w)
    (h : wpList Try.prog ops Q rest (a.put o.dst v) w) : wpList Try.prog ops Q (o :: rest) a w :=
  Kd.event_run hgd (by unfold execOp; simp only [ho, hx, Sem.run_bind, hr, Result.andThen_ok, Sem.run_pure]) h
theorem mkf {o : Oper} {a : Act} {w : World} {x : Operand} {v : Value} (ho : o.op = .makeFunc (.func 42) #[] #[x]) (hx : a.eval x = v) : (execOp a.eval o).run Try.prog w = .ok (.value (.func (.func 42) #[] #[v])) w := by
  unfold execOp
  simp only [ho, List.map_toArray, List.map_cons, List.map_nil, hx]
  simp [go_sem]
/-- The step of the range: an entry's key and value, or none is left. -/
theorem next_map {ops : Array Oper} {rest : List Oper} {o : Oper} {a : Act} {Q : Exit → Act → World → Prop} {w : World} {it : Operand} {b r cnt : Nat} {m : List Ent} {left : Lit → Bool} {ss : List S36} (hg : o.guard = none) (hop : o.op = .next it false) (hit : a.eval it = .pointer (some ⟨r, 0, none⟩)) (h : w.ranges Try.prog 36 entR b r m.length (D m) left cnt) (hk : Keyd m) (hC : Coll m left cnt ss)
    (hDone : ss.Perm (m.map (·.k)) → wpList Try.prog ops Q rest (a.put o.dst (.tuple #[.bool false])) w)
    (hMore : ∀ (k : S36) (c : Value) (w1 : World) (left2 : Lit → Bool) (cnt2 : Nat), G36 k → w1.ranges Try.prog 36 entR b r m.length (D m) left2 cnt2 → Coll m left2 cnt2 (ss ++ [k]) → cnt2 < cnt → w.grownBy w1 (some r) → (Instr.entry (.pointer (some ⟨r, 0, none⟩))).run Try.prog w1 = .ok (.tuple #[kv k, c]) w1 → wpList Try.prog ops Q rest (a.put o.dst (.tuple #[.bool true, kv k, c])) w1) : wpList Try.prog ops Q (o :: rest) a w := by
  refine wpList_next_ranges w hg it hop 36 law36 entR (fun x : Value => x) (fun x : Value => x) (fun key _ _ => ⟨key, rfl⟩) (fun v _ _ => ⟨v, rfl⟩) b r m.length (D m) left cnt hit h (fun h0 hl => hDone (hC.perm hk hl)) ?_
  intro x c l y w1 cnt2 hkey hlk hv hat hrg hlt hg1 hs hen
  obtain ⟨e, he, hel⟩ : ∃ e ∈ m, kl e.k = l := has_mem (Maps.has_true_of_atKey hat)
  subst hel
  obtain rfl : x = kv e.k := law36.inj hkey (kl_is (hk.1 e he))
  exact hMore e.k c w1 _ cnt2 (hk.1 e he) hrg (hC.step hk he hlk hlt) hlt hg1 hen
theorem grown_blk {w w1 : World} {b g : Nat} {O : Obj} (h : w.grownBy w1 (some b)) (hg : w.heap[g]? = some O) (hn : b ≠ g) : w1.heap[g]? = some O := (h.block g (blk_lt hg) (fun e => hn (Option.some.inj e).symm)).trans hg
theorem R_grown_iter {α : Type} {d : Kd α} {e base r b n cnt : Nat} {v : Value} {xs : List α} {w w1 : World} {DD : DataW Value} {left : Lit → Bool} (h : d.R e w base (fun _ => True) v xs) (hg : w.grownBy w1 (some r)) (hr : w.ranges Try.prog 36 entR b r n DD left cnt) : d.R e w1 base (fun _ => True) v xs :=
  Kd.R_mono (Kd.R_move (Kd.R_bound h) (fun k hk => hg.block k hk.2.2.1 (fun e => by
    injection e with e
    subst e
    obtain ⟨_, _, _, q, _, cells, hc⟩ := hk
    exact (ranges_typed hr hc).2 rfl))) (fun _ hk => hk.1)
set_option maxHeartbeats 4000000 in
set_option maxRecDepth 100000 in
theorem keys_c {gC gM : Nat} {room clock hits misses : Int} {m : List Ent} (w : World) (h : CA w gC gM room clock hits misses m) (ho : m.Pairwise (fun a b => b.u < a.u)) (hu : ∀ e ∈ m, 0 ≤ e.u ∧ e.u ≤ 4611686018427387904) (hlen : m.length ≤ 1000000) : Calls Try.prog 27 #[.pointer (some ⟨gC, 0, none⟩)] w fun e w' => ∃ v, e = .returned v ∧ KRow w' v (m.map (·.k)) ∧ Below w.heap.size w w' := by
  have HCA := Aside0.mk h
  have KC := Aside0.mk h.cell
  have HO := Aside0.mk ho
  have HU := Aside0.mk hu
  have HKD := Aside0.mk h.map.2
  clear h ho hu
  go_enter Try.func27, Try.ntmps27
  go_upto_region 0 with fail
  refine wp_region_lit ?_
  refine ebox (v := (.pointer (some ⟨gC, 0, none⟩))) rfl rfl rfl ?_
  intro g1 hg1 W1 hk1 hb1
  have Kg1 := Aside0.mk hk1
  have HB1 := Aside0.mk (hb1)
  clear hb1
  have Gg1 := Aside0.mk (show w.heap.size ≤ g1 by rw [hg1]; exact Nat.le_refl _)
  clear hg1 hk1
  simp only [Act.put, List.setIfInBounds_toArray, List.set_cons_zero, List.set_cons_succ]
  refine Flow.seqL (E := fun u v => Below u.heap.size u v) 1 1 [(some 1, []), (some 2, [])] (fun iQ vQ wQ => match iQ with | 1 => vQ = (.slice none 0 0) | _ => True) rfl (by decide) (by kernel_rfl) (Below.refl _ _) (fun _ _ _ h k => h.trans (k.mono h.size)) (fun _ _ _ _ h _ => h) ?_ ?_
  · refine ⟨?_, trivial⟩
    · intro a w' hx hu hd K hK; exact Flow.run1 rfl (Flow.r_assign rfl rfl) (hK _ _ (Below.refl _ _) rfl)
  intro vs W2 hb2 hT
  have v1 := Flow.eqn (hT 1 (by decide) (by decide))
  simp only [Flow.putsT, v1, Act.put, List.setIfInBounds_toArray, List.set_cons_zero, List.set_cons_succ, List.drop_succ_cons, List.drop_zero, List.take_succ_cons, List.take_zero]
  clear hT v1
  have HB2 := Aside0.mk (below_step HB1.out hb2)
  have Kg1_2 := Aside0.mk (blk_below Kg1.out hb2)
  clear hb2
  go_upto_region 1 with fail
  refine Flow.seqT (E := fun u v => Below u.heap.size u v) [(some 5, []), (some 6, [0])] (fun iQ vQ wQ => match iQ with | 0 => vQ = (.pointer (some ⟨gC, 0, none⟩)) | 1 => vQ = (.bool false) | _ => True) rfl (by kernel_rfl) (Below.refl _ _) (fun _ _ _ h k => h.trans (k.mono h.size)) (fun _ _ _ _ h _ => h) ?_ ?_
  · refine ⟨?_, ?_, trivial⟩
    · intro a w' hx hu hd K hK; have e1 : a.tmps.getD 1 undef = (.pointer (some ⟨g1, 0, none⟩)) := hu 1 rfl; exact Flow.run1 rfl (ld rfl e1 ((blk_cell (blk_below Kg1_2.out hx) 0).trans rfl) Try.underlying33 rfl) (hK _ _ (Below.refl _ _) rfl)
    · intro a w' hx hu hd K hK; have e5 := Flow.got (hd 0 rfl) 5 rfl; exact Flow.run1 rfl (ptre rfl e5 rfl) (hK _ _ (Below.refl _ _) rfl)
  intro vs W3 hb3 hT
  have v0 := Flow.eqn (hT 0 (by decide))
  have v1 := Flow.eqn (hT 1 (by decide))
  simp only [Flow.putsT, v0, v1, Act.put, List.setIfInBounds_toArray, List.set_cons_zero, List.set_cons_succ]
  clear hT v0 v1
  have HB3 := Aside0.mk (below_step HB2.out hb3)
  have Kg1_2_3 := Aside0.mk (blk_below Kg1_2.out hb3)
  clear hb3
  go_upto_region 3 with fail
  refine Flow.seqT (E := fun u v => Below u.heap.size u v) [(some 3, [])] (fun iQ vQ wQ => match iQ with | 0 => vQ = (.slice none 0 0) | _ => True) rfl (by kernel_rfl) (Below.refl _ _) (fun _ _ _ h k => h.trans (k.mono h.size)) (fun _ _ _ _ h _ => h) ?_ ?_
  · refine ⟨?_, trivial⟩
    · intro a w' hx hu hd K hK; exact Flow.run1 rfl (Flow.r_assign rfl rfl) (hK _ _ (Below.refl _ _) rfl)
  intro vs W4 hb4 hT
  have v0 := Flow.eqn (hT 0 (by decide))
  simp only [Flow.putsT, v0, Act.put, List.setIfInBounds_toArray, List.set_cons_zero, List.set_cons_succ]
  clear hT v0
  have HB4 := Aside0.mk (below_step HB3.out hb4)
  have Kg1_2_3_4 := Aside0.mk (blk_below Kg1_2_3.out hb4)
  clear hb4
  go_upto_region 4 with fail
  refine Flow.seqT_head (E := fun u v => Below u.heap.size u v) 4 [(some 7, []), (some 8, [0]), (some 9, [1]), (some 10, [2]), (some 11, [3])] (fun iQ vQ wQ => match iQ with | 0 => vQ = (.pointer (some ⟨gC, 0, none⟩)) | 1 => vQ = (.pointer (some ⟨gC, 0, none⟩)) | 2 => vQ = (.pointer (some ⟨gC, 0, none⟩)) | 3 => vQ = (.map (some gM)) | _ => True) rfl (by decide) (by kernel_rfl) (Below.refl _ _) (fun _ _ _ h k => h.trans (k.mono h.size)) (fun _ _ _ _ h _ => h) ?_ ?_
  · refine ⟨?_, ?_, ?_, ?_, trivial⟩
    · intro a w' hx hu hd K hK; have e1 : a.tmps.getD 1 undef = (.pointer (some ⟨g1, 0, none⟩)) := hu 1 rfl; exact Flow.run1 rfl (ld rfl e1 ((blk_cell (blk_below Kg1_2_3_4.out hx) 0).trans rfl) Try.underlying33 rfl) (hK _ _ (Below.refl _ _) rfl)
    · intro a w' hx hu hd K hK; have e7 := Flow.got (hd 0 rfl) 7 rfl; exact Flow.run1 rfl (nilck rfl e7) (hK _ _ (Below.refl _ _) rfl)
    · intro a w' hx hu hd K hK; have e8 := Flow.got (hd 1 rfl) 8 rfl; exact Flow.run1 rfl (fa rfl e8 (fa83_0 _ _ _)) (hK _ _ (Below.refl _ _) rfl)
    · intro a w' hx hu hd K hK; have e9 := Flow.got (hd 2 rfl) 9 rfl; exact Flow.run1 rfl (ld rfl e9 ((blk_cell (blk_below KC.out (below_step HB4.out hx)) 0).trans rfl) Try.underlying81 rfl) (hK _ _ (Below.refl _ _) rfl)
  intro vs W5 hb5 hT
  have v0 := Flow.eqn (hT 0 (by decide))
  have v1 := Flow.eqn (hT 1 (by decide))
  have v2 := Flow.eqn (hT 2 (by decide))
  have v3 := Flow.eqn (hT 3 (by decide))
  simp only [Flow.putsT, v0, v1, v2, v3, Act.put, List.setIfInBounds_toArray, List.set_cons_zero, List.set_cons_succ, List.drop_succ_cons, List.drop_zero, List.take_succ_cons, List.take_zero]
  clear hT v0 v1 v2 v3
  have HB5 := Aside0.mk (below_step HB4.out hb5)
  have Kg1_2_3_4_5 := Aside0.mk (blk_below Kg1_2_3_4.out hb5)
  clear hb5
  refine wpList_range_own _ rfl _ 81 rfl 36 86 law36 Try.underlying81 entR gM m.length (D m) rfl (HCA.out.map.below HB5.out).1 ?_
  obtain ⟨r, HRS⟩ : ∃ q, Aside0 (W5.heap.size = q) := ⟨_, ⟨rfl⟩⟩
  rw [HRS.out]
  intro W800 hr800 hg800 hs800
  rw [D_size] at hr800
  have HG := Aside0.mk hr800
  have hb800 : Below W5.heap.size W5 W800 := ⟨hg800.os, hg800.tape, hg800.output, hg800.size, fun k hk => hg800.block k hk (by simp)⟩
  clear hr800 hg800 hs800
  have HRG := Aside0.mk (show w.heap.size ≤ r by rw [← HRS.out]; exact HB5.out.size)
  clear HRS
  simp only [Act.put, List.setIfInBounds_toArray, List.set_cons_zero, List.set_cons_succ]
  have HB800 := Aside0.mk (below_step HB5.out hb800)
  have Kg1_2_3_4_5_800 := Aside0.mk (blk_below Kg1_2_3_4_5.out hb800)
  clear hb800
  go_wp2
  go_loopg [3] (m.length) (fun g v3 wr => ∃ (left : Lit → Bool) (cnt : Nat) (ss : List S36), Aside0 (g = cnt) ∧ Aside0 (Below w.heap.size w wr) ∧ Aside0 (wr.heap[g1]? = some (.cells #[.pointer (some ⟨gC, 0, none⟩)] 33 (0, 0))) ∧ Aside0 (wr.ranges Try.prog 36 entR gM r m.length (D m) left cnt) ∧ Aside0 (Coll m left cnt ss) ∧ Aside0 (∀ k ∈ ss, G36 k) ∧ Aside0 (k36.R 36 wr w.heap.size (fun _ => True) v3 ss))
  case atStart => exact ⟨_, _, [], ⟨rfl⟩, HB800, ⟨Kg1_2_3_4_5_800.out⟩, ⟨HG.out⟩, ⟨Coll.start HKD.out⟩, ⟨fun k h => by cases h⟩, ⟨Kd.R_nil _ _ _ _ _⟩⟩
  case round =>
    clear HB800 Kg1_2_3_4_5_800 HG
    obtain ⟨left, cnt, ss, HGC, HBR, KB1, HG, HCO, HSG, HR⟩ := hrel
    go_upto_region 5 with fail
    refine wp_region_lit ?_
    refine next_map rfl rfl rfl HG.out HKD.out HCO.out ?_ ?_
    · intro hperm
      have HPM := Aside0.mk hperm
      clear hperm
      simp only [Act.put, List.setIfInBounds_toArray, List.set_cons_zero, List.set_cons_succ]
      refine Kd.event_run (v := .bool false) rfl (extr rfl rfl rfl) ?_
      simp only [Act.put, List.setIfInBounds_toArray, List.set_cons_zero, List.set_cons_succ]
      go_upto_region 8 with fail
      refine Flow.seqT_head (E := fun u v => Below u.heap.size u v) 2 [(some 20, []), (some 21, []), (some 22, [0, 1])] (fun iQ vQ wQ => match iQ with | 0 => vQ = u3 | 1 => vQ = (.func (.func 42) #[] #[.pointer (some ⟨g1, 0, none⟩)]) | _ => True) rfl (by decide) (by kernel_rfl) (Below.refl _ _) (fun _ _ _ h k => h.trans (k.mono h.size)) (fun _ _ _ _ h _ => h) ?_ ?_
      · refine ⟨?_, ?_, trivial⟩
        · intro a w' hx hu hd K hK; have e3 : a.tmps.getD 3 undef = u3 := hu 3 rfl; exact Flow.run1 rfl (Flow.r_move rfl e3) (hK _ _ (Below.refl _ _) rfl)
        · intro a w' hx hu hd K hK; have e1 : a.tmps.getD 1 undef = (.pointer (some ⟨g1, 0, none⟩)) := hu 1 rfl; exact Flow.run1 rfl (mkf rfl (hu 1 rfl)) (hK _ _ (Below.refl _ _) rfl)
      intro vs W901 hb901 hT
      have v0 := Flow.eqn (hT 0 (by decide))
      have v1 := Flow.eqn (hT 1 (by decide))
      simp only [Flow.putsT, v0, v1, Act.put, List.setIfInBounds_toArray, List.set_cons_zero, List.set_cons_succ, List.drop_succ_cons, List.drop_zero, List.take_succ_cons, List.take_zero]
      clear hT v0 v1
      have HB901 := Aside0.mk (below_step HBR.out hb901)
      have HR_901 := Aside0.mk (Kd.R_below HR.out hb901)
      have KB1_901 := Aside0.mk (blk_below KB1.out hb901)
      clear hb901
      have HCAW := Aside0.mk (HCA.out.below HB901.out)
      refine ecall rfl rfl Try.func41 (by kernel_rfl) rfl (args := #[u3, .func (.func 42) #[] #[.pointer (some ⟨g1, 0, none⟩)]]) (by simp only [List.map_toArray, List.map_cons, List.map_nil, Act.eval]; rfl) (sort_c HR_901.out HSG.out KB1_901.out (HCAW.out.cell) (HCAW.out.map) HPM.out HO.out HU.out (HB901.out.size) (by have := HPM.out.length_eq; rw [List.length_map] at this; omega)) ?_
      rintro e W902 ⟨rfl, hkr, hbz⟩
      refine ⟨_, rfl, ?_⟩
      have HKR := Aside0.mk hkr
      have HB902 := Aside0.mk (HB901.out.trans hbz)
      clear hkr hbz
      simp only [Act.put, List.setIfInBounds_toArray, List.set_cons_zero, List.set_cons_succ]
      go_upto_region 9 with fail
      refine Flow.seqT (E := fun u v => Below u.heap.size u v) [(some 23, []), (some 2, [0, 0])] (fun iQ vQ wQ => match iQ with | 0 => vQ = u3 | 1 => vQ = u3 | _ => True) rfl (by kernel_rfl) (Below.refl _ _) (fun _ _ _ h k => h.trans (k.mono h.size)) (fun _ _ _ _ h _ => h) ?_ ?_
      · refine ⟨?_, ?_, trivial⟩
        · intro a w' hx hu hd K hK; have e3 : a.tmps.getD 3 undef = u3 := hu 3 rfl; exact Flow.run1 rfl (Flow.r_move rfl e3) (hK _ _ (Below.refl _ _) rfl)
        · intro a w' hx hu hd K hK; have e23 := Flow.got (hd 0 rfl) 23 rfl; exact Flow.run1 rfl (Flow.r_assign rfl e23) (hK _ _ (Below.refl _ _) rfl)
      intro vs W903 hb903 hT
      have v0 := Flow.eqn (hT 0 (by decide))
      have v1 := Flow.eqn (hT 1 (by decide))
      simp only [Flow.putsT, v0, v1, Act.put, List.setIfInBounds_toArray, List.set_cons_zero, List.set_cons_succ]
      clear hT v0 v1
      have HB903 := Aside0.mk (below_step HB902.out hb903)
      have HKR_903 := Aside0.mk (KRow.below HKR.out hb903)
      clear hb903
      go_wp2_with fail
      exact bodyPost_ret (results_tmp Try.results27 _ _ _) rfl ⟨_, rfl, HKR_903.out, HB903.out⟩
    · intro k c W901 left2 cnt2 hgk hrg hco hlt hgr hen
      have HGK := Aside0.mk hgk
      have HG2 := Aside0.mk hrg
      have HCO2 := Aside0.mk hco
      have HEN := Aside0.mk hen
      have HR901 := Aside0.mk (R_grown_iter HR.out hgr HG.out)
      have KB901 := Aside0.mk (grown_blk hgr KB1.out (ranges_typed HG.out KB1.out).2)
      have HB901 := Aside0.mk (Below.grown HBR.out hgr HBR.out.size (fun q hq => by injection hq with hq; rw [← hq]; exact HRG.out))
      have hcl := HCO2.out.sz
      clear hgk hrg hco hgr hen
      simp only [Act.put, List.setIfInBounds_toArray, List.set_cons_zero, List.set_cons_succ]
      refine Kd.event_run (v := .bool true) rfl (extr rfl rfl rfl) ?_
      simp only [Act.put, List.setIfInBounds_toArray, List.set_cons_zero, List.set_cons_succ]
      go_upto_region 6 with fail
      refine wp_region_lit ?_
      refine entr rfl rfl rfl HEN.out ?_
      simp only [Act.put, List.setIfInBounds_toArray, List.set_cons_zero, List.set_cons_succ]
      refine Flow.seqL (E := fun u v => Below u.heap.size u v) 1 1 [(some 14, []), (some 15, [0]), (some 4, []), (none, [2, 1, 0, 1, 2])] (fun iQ vQ wQ => match iQ with | 1 => vQ = (.agg #[.int .i64 k.f0, .int .i64 k.f1, .int .i64 k.f2]) | _ => True) rfl (by decide) (by kernel_rfl) (Below.refl _ _) (fun _ _ _ h k => h.trans (k.mono h.size)) (fun _ _ _ _ h _ => h) ?_ ?_
      · refine ⟨?_, trivial⟩
        · intro a w' hx hu hd K hK; have e14 : a.tmps.getD 14 undef = (.tuple #[kv k, c]) := hu 14 rfl; exact Flow.run1 rfl (extr rfl (hu 14 rfl) rfl) (hK _ _ (Below.refl _ _) rfl)
      intro vs W911 hb911 hT
      have v1 := Flow.eqn (hT 1 (by decide) (by decide))
      simp only [Flow.putsT, v1, Act.put, List.setIfInBounds_toArray, List.set_cons_zero, List.set_cons_succ, List.drop_succ_cons, List.drop_zero, List.take_succ_cons, List.take_zero]
      clear hT v1
      have HB911 := Aside0.mk (below_step HB901.out hb911)
      have HR_911 := Aside0.mk (Kd.R_below HR901.out hb911)
      have HG_911 := Aside0.mk (ranges_below HG2.out hb911)
      have KB901_911 := Aside0.mk (blk_below KB901.out hb911)
      clear hb911
      refine ealloc rfl rfl zero36_is ?_
      intro g912 hg912 W912 hk912 hb912
      have Kg912 := Aside0.mk hk912
      have Ng912_g1 := Aside0.mk (show g1 ≠ g912 by have := (Array.getElem?_eq_some_iff.1 KB901_911.out).1; omega)
      have Ng1_g912 := Aside0.mk (Ne.symm Ng912_g1.out)
      have HR_e912 := Aside0.mk (Kd.R_elderB HR_911.out g912 (by rw [hg912]; exact Nat.le_refl _))
      have HB912 := Aside0.mk (below_step HB911.out hb912)
      have HR_912 := Aside0.mk (Kd.R_below HR_e912.out hb912)
      have HG_912 := Aside0.mk (ranges_below HG_911.out hb912)
      have KB901_911_912 := Aside0.mk (blk_below KB901_911.out hb912)
      clear hb912
      have Gg912 := Aside0.mk (show w.heap.size ≤ g912 by rw [hg912]; exact HB911.out.size)
      clear hg912 hk912
      simp only [Act.put, List.setIfInBounds_toArray, List.set_cons_zero, List.set_cons_succ]
      refine Cells.store_whole rfl rfl 36 _ _ rfl g912 [.int .i64 k.f0, .int .i64 k.f1, .int .i64 k.f2] #[.int .i64 0, .int .i64 0, .int .i64 0] rfl rfl Kg912.out rfl size36 rfl ?_
      intro W913 hk913 hf913 hb913
      have HR_913 := Aside0.mk (R_far_ne HR_912.out hf913)
      have HG_913 := Aside0.mk (ranges_far HG_912.out Kg912.out hf913 (hb913 0 (Nat.zero_le _)))
      have HB913 := Aside0.mk (HB912.out.trans (hb913 _ Gg912.out))
      have KB901_911_912_913 := Aside0.mk ((hf913 _ Ng912_g1.out).trans KB901_911_912.out)
      have Kg912_913 := Aside0.mk hk913
      clear hk913 hf913 hb913
      go_upto_region 7 with fail
      refine Flow.seqT_head (E := fun u v => Below u.heap.size u v) 3 [(some 16, []), (some 17, []), (some 18, [1]), (some 19, [0, 2]), (some 3, [3, 3, 0, 1, 2, 3])] (fun iQ vQ wQ => match iQ with | 0 => vQ = u3 | 1 => vQ = (.agg #[.int .i64 k.f0, .int .i64 k.f1, .int .i64 k.f2]) | 2 => SliceAt #[.int .i64 k.f0, .int .i64 k.f1, .int .i64 k.f2] 36 1 w.heap.size vQ wQ | _ => True) rfl (by decide) (by kernel_rfl) (Below.refl _ _) (fun _ _ _ h k => h.trans (k.mono h.size)) (fun iQ vQ w1Q w2Q hQ hEQ => match iQ, hQ with | 0, hQ => hQ | 1, hQ => hQ | 2, hQ => slice_below hQ hEQ | _ + 3, _ => trivial) ?_ ?_
      · refine ⟨?_, ?_, ?_, trivial⟩
        · intro a w' hx hu hd K hK; have e3 : a.tmps.getD 3 undef = u3 := hu 3 rfl; exact Flow.run1 rfl (Flow.r_move rfl e3) (hK _ _ (Below.refl _ _) rfl)
        · intro a w' hx hu hd K hK; have e4 : a.tmps.getD 4 undef = (.pointer (some ⟨g912, 0, none⟩)) := hu 4 rfl; exact Flow.run1 rfl (ldrow rfl e4 (lies_block (blk_below Kg912_913.out hx)) Try.underlying36 rfl size36) (hK _ _ (Below.refl _ _) rfl)
        · intro a w' hx hu hd K hK; have e17 := Flow.got (hd 1 rfl) 17 rfl; exact Flow.run1 rfl (row1_53 rfl e17) (hK _ _ (below_alloc (Below.refl _ _) _) (slice_new (Nat.le_trans (HB913.out).size (hx : Below _ _ _).size)))
      intro vs W914 hb914 hT
      have v0 := Flow.eqn (hT 0 (by decide))
      have v1 := Flow.eqn (hT 1 (by decide))
      obtain ⟨g914_2, v2, hge2, hk2⟩ : SliceAt _ _ _ _ _ _ := hT 2 (by decide)
      have Kg914_2 := Aside0.mk hk2
      have Gg914_2 := Aside0.mk hge2
      clear hk2 hge2
      simp only [Flow.putsT, v0, v1, v2, Act.put, List.setIfInBounds_toArray, List.set_cons_zero, List.set_cons_succ, List.drop_succ_cons, List.drop_zero, List.take_succ_cons, List.take_zero]
      clear hT v0 v1 v2
      have HB914 := Aside0.mk (below_step HB913.out hb914)
      have HR_914 := Aside0.mk (Kd.R_below HR_913.out hb914)
      have HG_914 := Aside0.mk (ranges_below HG_913.out hb914)
      have KB901_911_912_913_914 := Aside0.mk (blk_below KB901_911_912_913.out hb914)
      have Kg912_913_914 := Aside0.mk (blk_below Kg912_913.out hb914)
      clear hb914
      refine appK (w0 := w) (base := w.heap.size) (g := g914_2) (k := k) (ss := ss) rfl rfl rfl rfl HR_914.out Kg914_2.out HB914.out HB914.out.size (by simp only [List.length_append, List.length_cons, List.length_nil] at hcl; omega) HG_914.out ?_
      intro v915 W915 hr915 hb915 hg915 ho915
      simp only [Act.put, List.setIfInBounds_toArray, List.set_cons_zero, List.set_cons_succ]
      have HR3 := Aside0.mk hr915
      have HB3 := Aside0.mk hb915
      have HG3 := Aside0.mk hg915
      have KB3 := Aside0.mk (ho915 _ _ _ KB901_911_912_913_914.out (by decide))
      clear hr915 hb915 hg915 ho915
      refine Flow.seqL (E := fun u v => Below u.heap.size u v) 4 1 [(some 16, []), (some 17, []), (some 18, [1]), (some 19, [0, 2]), (some 3, [3, 3, 0, 1, 2, 3])] (fun iQ vQ wQ => match iQ with | 4 => vQ = v915 | _ => True) rfl (by decide) (by kernel_rfl) (Below.refl _ _) (fun _ _ _ h k => h.trans (k.mono h.size)) (fun _ _ _ _ h _ => h) ?_ ?_
      · refine ⟨?_, trivial⟩
        · intro a w' hx hu hd K hK; have e19 : a.tmps.getD 19 undef = v915 := hu 19 rfl; exact Flow.run1 rfl (Flow.r_assign rfl e19) (hK _ _ (Below.refl _ _) rfl)
      intro vs W916 hb916 hT
      have v4 := Flow.eqn (hT 4 (by decide) (by decide))
      simp only [Flow.putsT, v4, Act.put, List.setIfInBounds_toArray, List.set_cons_zero, List.set_cons_succ, List.drop_succ_cons, List.drop_zero, List.take_succ_cons, List.take_zero]
      clear hT v4
      have HB916 := Aside0.mk (below_step HB3.out hb916)
      have HR_916 := Aside0.mk (Kd.R_below HR3.out hb916)
      have HG_916 := Aside0.mk (ranges_below HG3.out hb916)
      have KB3_916 := Aside0.mk (blk_below KB3.out hb916)
      clear hb916
      go_wp2
      go_roundg cnt2
      case measure => have := HGC.out; omega
      case rel => exact ⟨left2, cnt2, ss ++ [k], ⟨rfl⟩, HB916, KB3_916, HG_916, HCO2, ⟨fun q hq => (List.mem_append.1 hq).elim (HSG.out q) (fun h => by rw [List.mem_singleton.1 h]; exact HGK.out)⟩, HR_916⟩
end Go.Proofs.Ytlhmpmmblnbmbaa.Cac
