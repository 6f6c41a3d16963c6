/- The cache: which of two keys was used last. -/
import Derived.Test.YtlhmpmmblnbmbaaCacK0
set_option linter.unusedVariables false
set_option linter.unusedSimpArgs false
namespace Go.Proofs.Ytlhmpmmblnbmbaa.Cac
open Go Go.RowKit Go.Proofs.Ytlhmpmmblnbmbaa.PCachePlays Go.Proofs.YtlhmpmmblnbmbaaW.PrintWords Go.Proofs.YtlhmpmmblnbmbaaW.PrintLast Go.Proofs.YtlhmpmmblnbmbaaW.PrintMore Go.Proofs.Ytlhmpmmblnbmbaa.FlowU Go.Proofs.Ytlhmpmmblnbmbaa.Ev Go.Proofs.Ytlhmpmmblnbmbaa.Ke Go.Proofs.Ytlhmpmmblnbmbaa.Cells
theorem fl86_1 {c0 c1 : Value} (w : World) : (Instr.field 86 (.agg #[c0, c1]) 1).run Try.prog w = .ok (c1) w := by kernel_rfl
theorem size36 : (Try.prog.info? 36).map (·.size) = some 3 := by kernel_rfl
set_option maxHeartbeats 4000000 in
set_option maxRecDepth 100000 in
theorem less_c {gb gC gM : Nat} {room clock hits misses : Int} {m : List Ent} (x y : S36) (hgx : G36 x) (hgy : G36 y) (hu : ∀ e ∈ m, 0 ≤ e.u ∧ e.u ≤ 4611686018427387904) (w : World) (hb : w.heap[gb]? = some (.cells #[.pointer (some ⟨gC, 0, none⟩)] 33 (0, 0))) (hC : w.heap[gC]? = some (.cells #[.map (some gM), .int .i64 room, .int .i64 clock, .int .i64 hits, .int .i64 misses] 83 (0, 0))) (hM : MapIs w gM m) : Calls Try.prog 42 #[kv x, kv y, .pointer (some ⟨gb, 0, none⟩)] w fun e w' => e = .returned (.int .i64 (usedOf m y - usedOf m x)) ∧ Grown w w' := by
  have KB_ := Aside0.mk hb
  have KC := Aside0.mk hC
  have HM := Aside0.mk hM
  clear hb hC hM
  obtain ⟨vx, hvx⟩ := lk_used x m
  obtain ⟨vy, hvy⟩ := lk_used y m
  have HVX := Aside0.mk hvx
  have HVY := Aside0.mk hvy
  have hbx := used_bound hu x
  have hby := used_bound hu y
  clear hvx hvy
  obtain ⟨ux, hux⟩ : ∃ q, usedOf m x = q := ⟨_, rfl⟩
  obtain ⟨uy, huy⟩ : ∃ q, usedOf m y = q := ⟨_, rfl⟩
  rw [hux] at HVX hbx ⊢
  rw [huy] at HVY hby ⊢
  clear hux huy
  obtain ⟨ud, HUD⟩ : ∃ q, Aside0 (uy - ux = q) := ⟨_, ⟨rfl⟩⟩
  have hud := HUD.out
  rw [hud]
  have HUB : Aside0 (-9223372036854775808 ≤ ud ∧ ud ≤ 9223372036854775807) := ⟨by omega⟩
  clear hud
  have GR0 := Aside0.mk (Grown.refl (u := w))
  unfold kv
  go_enter Try.func42, Try.ntmps42
  go_upto_region 0 with fail
  refine wp_region_lit ?_
  refine eboxg (v := (.agg #[.int .i64 x.f0, .int .i64 x.f1, .int .i64 x.f2])) rfl rfl rfl ?_
  intro g1 hg1 W1 hk1 hb1 hr1
  have GR1 := Aside0.mk (GR0.out.trans hr1)
  clear hr1
  have Kg1 := Aside0.mk hk1
  have HB1 := Aside0.mk (hb1)
  clear hb1
  have Gg1 := Aside0.mk (show w.heap.size ≤ g1 by rw [hg1]; exact Nat.le_refl _)
  clear hg1 hk1
  simp only [Act.put, List.setIfInBounds_toArray, List.set_cons_zero, List.set_cons_succ]
  refine eboxg (v := (.agg #[.int .i64 y.f0, .int .i64 y.f1, .int .i64 y.f2])) rfl rfl rfl ?_
  intro g2 hg2 W2 hk2 hb2 hr2
  have GR2 := Aside0.mk (GR1.out.trans hr2)
  clear hr2
  have Kg2 := Aside0.mk hk2
  have HB2 := Aside0.mk (below_step HB1.out hb2)
  have Kg1_2 := Aside0.mk (blk_below Kg1.out hb2)
  clear hb2
  have Gg2 := Aside0.mk (show w.heap.size ≤ g2 by rw [hg2]; exact HB1.out.size)
  clear hg2 hk2
  simp only [Act.put, List.setIfInBounds_toArray, List.set_cons_zero, List.set_cons_succ]
  refine Flow.seqL (E := Grown) 2 1 [(some 3, []), (some 4, []), (some 5, [])] (fun iQ vQ wQ => match iQ with | 2 => vQ = (.int .i64 0) | _ => True) rfl (by decide) (by kernel_rfl) Grown.refl (fun _ _ _ h k => h.trans k) (fun _ _ _ _ h _ => h) ?_ ?_
  · refine ⟨?_, trivial⟩
    · intro a w' hx hu hd K hK; have hx := Grown.below hx; exact Flow.run1 rfl (Flow.r_assign rfl rfl) (hK _ _ Grown.refl rfl)
  intro vs W3 hb3 hT
  have GR3 := Aside0.mk (GR2.out.trans hb3)
  have hb3 := Grown.below hb3
  have v2 := Flow.eqn (hT 2 (by decide) (by decide))
  simp only [Flow.putsT, v2, Act.put, List.setIfInBounds_toArray, List.set_cons_zero, List.set_cons_succ, List.drop_succ_cons, List.drop_zero, List.take_succ_cons, List.take_zero]
  clear hT v2
  have HB3 := Aside0.mk (below_step HB2.out hb3)
  have Kg1_2_3 := Aside0.mk (blk_below Kg1_2.out hb3)
  have Kg2_3 := Aside0.mk (blk_below Kg2.out hb3)
  clear hb3
  go_upto_region 1 with fail
  refine Flow.flowT (E := Grown) [(some 6, []), (some 7, [0]), (some 8, [1]), (some 9, [2]), (some 10, []), (some 11, [3, 4]), (some 12, [5]), (some 13, []), (some 14, [7]), (some 15, [8]), (some 16, [9]), (some 17, []), (some 18, [10, 11]), (some 19, [12]), (some 20, [6, 13]), (some 5, [14, 0, 1, 2, 3, 4, 5, 6, 7, 8, 9, 10, 11, 12, 13, 14])] (fun iQ vQ wQ => match iQ with | 0 => vQ = (.pointer (some ⟨gC, 0, none⟩)) | 1 => vQ = (.pointer (some ⟨gC, 0, none⟩)) | 2 => vQ = (.pointer (some ⟨gC, 0, none⟩)) | 3 => vQ = (.map (some gM)) | 4 => vQ = (.agg #[.int .i64 y.f0, .int .i64 y.f1, .int .i64 y.f2]) | 5 => vQ = (.agg #[vy, .int .i64 uy]) | 6 => vQ = (.int .i64 uy) | 7 => vQ = (.pointer (some ⟨gC, 0, none⟩)) | 8 => vQ = (.pointer (some ⟨gC, 0, none⟩)) | 9 => vQ = (.pointer (some ⟨gC, 0, none⟩)) | 10 => vQ = (.map (some gM)) | 11 => vQ = (.agg #[.int .i64 x.f0, .int .i64 x.f1, .int .i64 x.f2]) | 12 => vQ = (.agg #[vx, .int .i64 ux]) | 13 => vQ = (.int .i64 ux) | 14 => vQ = (.int .i64 ud) | 15 => vQ = (.int .i64 ud) | _ => True) rfl (by kernel_rfl) (by kernel_rfl) (by kernel_rfl) Grown.drew (fun _ _ _ h k => h.trans k) (fun _ _ _ _ h _ => h) ?_ ?_
  · refine ⟨?_, ?_, ?_, ?_, ?_, ?_, ?_, ?_, ?_, ?_, ?_, ?_, ?_, ?_, ?_, ?_, trivial⟩
    · intro a w' hx hu hd K hK; have hx := Grown.below hx; have e2 : a.tmps.getD 2 undef = (.pointer (some ⟨gb, 0, none⟩)) := hu 2 rfl; exact Flow.run1 rfl (ld rfl e2 ((blk_cell (blk_below KB_.out (below_step HB3.out hx)) 0).trans rfl) Try.underlying33 rfl) (hK _ _ Grown.refl rfl)
    · intro a w' hx hu hd K hK; have hx := Grown.below hx; have e6 := Flow.got (hd 0 (by decide)) 6 rfl; exact Flow.run1 rfl (nilck rfl e6) (hK _ _ Grown.refl rfl)
    · intro a w' hx hu hd K hK; have hx := Grown.below hx; have e7 := Flow.got (hd 1 (by decide)) 7 rfl; exact Flow.run1 rfl (fa rfl e7 (fa83_0 _ _ _)) (hK _ _ Grown.refl rfl)
    · intro a w' hx hu hd K hK; have hx := Grown.below hx; have e8 := Flow.got (hd 2 (by decide)) 8 rfl; exact Flow.run1 rfl (ld rfl e8 ((blk_cell (blk_below KC.out (below_step HB3.out hx)) 0).trans rfl) Try.underlying81 rfl) (hK _ _ Grown.refl rfl)
    · intro a w' hx hu hd K hK; have hx := Grown.below hx; have e4 : a.tmps.getD 4 undef = (.pointer (some ⟨g2, 0, none⟩)) := hu 4 rfl; exact Flow.run1 rfl (ldrow rfl e4 (lies_block (blk_below Kg2_3.out hx)) Try.underlying36 rfl size36) (hK _ _ Grown.refl rfl)
    · intro a w' hx hu hd K hK; have hx := Grown.below hx; have e9 := Flow.got (hd 3 (by decide)) 9 rfl; have e10 := Flow.got (hd 4 (by decide)) 10 rfl; exact Flow.run1 rfl (lkr1 (k := y) rfl e9 e10 (HM.out.below (below_step HB3.out hx)) hgy HVY.out) (hK _ _ Grown.refl rfl)
    · intro a w' hx hu hd K hK; have hx := Grown.below hx; have e11 := Flow.got (hd 5 (by decide)) 11 rfl; exact Flow.run1 rfl (fld rfl e11 (fl86_1 _)) (hK _ _ Grown.refl rfl)
    · intro a w' hx hu hd K hK; have hx := Grown.below hx; have e2 : a.tmps.getD 2 undef = (.pointer (some ⟨gb, 0, none⟩)) := hu 2 rfl; exact Flow.run1 rfl (ld rfl e2 ((blk_cell (blk_below KB_.out (below_step HB3.out hx)) 0).trans rfl) Try.underlying33 rfl) (hK _ _ Grown.refl rfl)
    · intro a w' hx hu hd K hK; have hx := Grown.below hx; have e13 := Flow.got (hd 7 (by decide)) 13 rfl; exact Flow.run1 rfl (nilck rfl e13) (hK _ _ Grown.refl rfl)
    · intro a w' hx hu hd K hK; have hx := Grown.below hx; have e14 := Flow.got (hd 8 (by decide)) 14 rfl; exact Flow.run1 rfl (fa rfl e14 (fa83_0 _ _ _)) (hK _ _ Grown.refl rfl)
    · intro a w' hx hu hd K hK; have hx := Grown.below hx; have e15 := Flow.got (hd 9 (by decide)) 15 rfl; exact Flow.run1 rfl (ld rfl e15 ((blk_cell (blk_below KC.out (below_step HB3.out hx)) 0).trans rfl) Try.underlying81 rfl) (hK _ _ Grown.refl rfl)
    · intro a w' hx hu hd K hK; have hx := Grown.below hx; have e3 : a.tmps.getD 3 undef = (.pointer (some ⟨g1, 0, none⟩)) := hu 3 rfl; exact Flow.run1 rfl (ldrow rfl e3 (lies_block (blk_below Kg1_2_3.out hx)) Try.underlying36 rfl size36) (hK _ _ Grown.refl rfl)
    · intro a w' hx hu hd K hK; have hx := Grown.below hx; have e16 := Flow.got (hd 10 (by decide)) 16 rfl; have e17 := Flow.got (hd 11 (by decide)) 17 rfl; exact Flow.run1 rfl (lkr1 (k := x) rfl e16 e17 (HM.out.below (below_step HB3.out hx)) hgx HVX.out) (hK _ _ Grown.refl rfl)
    · intro a w' hx hu hd K hK; have hx := Grown.below hx; have e18 := Flow.got (hd 12 (by decide)) 18 rfl; exact Flow.run1 rfl (fld rfl e18 (fl86_1 _)) (hK _ _ Grown.refl rfl)
    · intro a w' hx hu hd K hK; have hx := Grown.below hx; have e12 := Flow.got (hd 6 (by decide)) 12 rfl; have e19 := Flow.got (hd 13 (by decide)) 19 rfl; exact Flow.run1 rfl (subk rfl e12 e19 HUD.out HUB.out.1 HUB.out.2) (hK _ _ Grown.refl rfl)
    · intro a w' hx hu hd K hK; have hx := Grown.below hx; have e20 := Flow.got (hd 14 (by decide)) 20 rfl; exact Flow.run1 rfl (Flow.r_assign rfl e20) (hK _ _ Grown.refl rfl)
  intro vs W4 hb4 hT
  have GR4 := Aside0.mk (GR3.out.trans hb4)
  have hb4 := Grown.below hb4
  have v0 := Flow.eqn (hT 0 (by decide))
  have v1 := Flow.eqn (hT 1 (by decide))
  have v2 := Flow.eqn (hT 2 (by decide))
  have v3 := Flow.eqn (hT 3 (by decide))
  have v4 := Flow.eqn (hT 4 (by decide))
  have v5 := Flow.eqn (hT 5 (by decide))
  have v6 := Flow.eqn (hT 6 (by decide))
  have v7 := Flow.eqn (hT 7 (by decide))
  have v8 := Flow.eqn (hT 8 (by decide))
  have v9 := Flow.eqn (hT 9 (by decide))
  have v10 := Flow.eqn (hT 10 (by decide))
  have v11 := Flow.eqn (hT 11 (by decide))
  have v12 := Flow.eqn (hT 12 (by decide))
  have v13 := Flow.eqn (hT 13 (by decide))
  have v14 := Flow.eqn (hT 14 (by decide))
  have v15 := Flow.eqn (hT 15 (by decide))
  simp only [Flow.putsT, v0, v1, v2, v3, v4, v5, v6, v7, v8, v9, v10, v11, v12, v13, v14, v15, Act.put, List.setIfInBounds_toArray, List.set_cons_zero, List.set_cons_succ]
  clear hT v0 v1 v2 v3 v4 v5 v6 v7 v8 v9 v10 v11 v12 v13 v14 v15
  have HB4 := Aside0.mk (below_step HB3.out hb4)
  have Kg1_2_3_4 := Aside0.mk (blk_below Kg1_2_3.out hb4)
  have Kg2_3_4 := Aside0.mk (blk_below Kg2_3.out hb4)
  clear hb4
  go_wp2_with fail
  exact bodyPost_ret (results_tmp Try.results42 _ _ _) rfl ⟨rfl, GR4.out⟩
end Go.Proofs.Ytlhmpmmblnbmbaa.Cac
