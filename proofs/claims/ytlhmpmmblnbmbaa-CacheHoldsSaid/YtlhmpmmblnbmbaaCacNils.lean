/- CacheNils: a cache that is nil, and one without room. -/
import Derived.Test.YtlhmpmmblnbmbaaCacL
set_option linter.unusedVariables false
set_option linter.unusedSimpArgs false
namespace Go.Proofs.Ytlhmpmmblnbmbaa.Cac
open Go Go.RowKit Go.Proofs.Ytlhmpmmblnbmbaa.PCachePlays Go.Proofs.YtlhmpmmblnbmbaaW.PrintWords Go.Proofs.YtlhmpmmblnbmbaaW.PrintLast Go.Proofs.YtlhmpmmblnbmbaaW.PrintMore Go.Proofs.Ytlhmpmmblnbmbaa.FlowU Go.Proofs.Ytlhmpmmblnbmbaa.Ev Go.Proofs.Ytlhmpmmblnbmbaa.Ke Go.Proofs.Ytlhmpmmblnbmbaa.Cells
theorem fa38_1 (g o : Nat) (w : World) : (Instr.fieldAt 38 (.pointer (some ⟨g, o, none⟩)) 1).run Try.prog w = .ok (.pointer (some ⟨g, o + 1, none⟩)) w := by
  have hu := Try.underlying38
  go_simp
theorem fad38_1 (ad : Addr) (w : World) : (Instr.fieldAt 38 (.pointer (some ad)) 1).run Try.prog w = .ok (.pointer (some (ad.add 1))) w := by
  have hu := Try.underlying38
  go_simp
theorem fa38_2 (g o : Nat) (w : World) : (Instr.fieldAt 38 (.pointer (some ⟨g, o, none⟩)) 2).run Try.prog w = .ok (.pointer (some ⟨g, o + 4, none⟩)) w := by
  have hu := Try.underlying38
  go_simp
theorem fad38_2 (ad : Addr) (w : World) : (Instr.fieldAt 38 (.pointer (some ad)) 2).run Try.prog w = .ok (.pointer (some (ad.add 4))) w := by
  have hu := Try.underlying38
  go_simp
set_option maxHeartbeats 4000000 in
set_option maxRecDepth 100000 in
theorem nils_c (A : Option Addr) (c : Nat) (x : S38) (w : World) (hR : Kd.C (Kd.int .u8) w A x.f2.length x.f2) (hc : x.f2.length ≤ c) (hg : G36 x.f1) : Calls Try.prog 6 #[.agg #[.int .i64 x.f0, .int .i64 x.f1.f0, .int .i64 x.f1.f1, .int .i64 x.f1.f2, .slice A x.f2.length c]] w fun e w' => e = .returned (.bool true) ∧ Below w.heap.size w w' := by
  have HR := Aside0.mk hR
  have HC := Aside0.mk hc
  have HG := Aside0.mk hg
  clear hR hc hg
  obtain ⟨n, HN⟩ : ∃ q, Aside0 (x.f2.length = q) := ⟨_, ⟨rfl⟩⟩
  have HNC : Aside0 (n ≤ c) := ⟨HN.out ▸ HC.out⟩
  rw [HN.out]
  go_enter Try.func6, Try.ntmps6
  go_upto_region 0 with fail
  refine wp_region_lit ?_
  refine ebox (v := (.agg #[.int .i64 x.f0, .int .i64 x.f1.f0, .int .i64 x.f1.f1, .int .i64 x.f1.f2, .slice A n c])) rfl rfl rfl ?_
  intro g1 hg1 W1 hk1 hb1
  have Kg1 := Aside0.mk hk1
  have HB1 := Aside0.mk (hb1)
  clear hb1
  have Gg1 := Aside0.mk (show w.heap.size ≤ g1 by rw [hg1]; exact Nat.le_refl _)
  clear hg1 hk1
  simp only [Act.put, List.setIfInBounds_toArray, List.set_cons_zero, List.set_cons_succ]
  refine Flow.seqL (E := fun u v => Below u.heap.size u v) 1 1 [(some 1, []), (some 2, [])] (fun iQ vQ wQ => match iQ with | 1 => vQ = (.bool false) | _ => True) rfl (by decide) (by kernel_rfl) (Below.refl _ _) (fun _ _ _ h k => h.trans (k.mono h.size)) (fun _ _ _ _ h _ => h) ?_ ?_
  · refine ⟨?_, trivial⟩
    · intro a w' hx hu hd K hK; exact Flow.run1 rfl (Flow.r_assign rfl rfl) (hK _ _ (Below.refl _ _) rfl)
  intro vs W2 hb2 hT
  have v1 := Flow.eqn (hT 1 (by decide) (by decide))
  simp only [Flow.putsT, v1, Act.put, List.setIfInBounds_toArray, List.set_cons_zero, List.set_cons_succ, List.drop_succ_cons, List.drop_zero, List.take_succ_cons, List.take_zero]
  clear hT v1
  have HB2 := Aside0.mk (below_step HB1.out hb2)
  have Kg1_2 := Aside0.mk (blk_below Kg1.out hb2)
  clear hb2
  by_cases h5 : (n : Int) > 500
  · have H5 := Aside0.mk h5
    clear h5
    go_upto_region 1 with fail
    refine Flow.seqT (E := fun u v => Below u.heap.size u v) [(some 11, []), (some 12, [0]), (some 13, [1]), (some 14, [2])] (fun iQ vQ wQ => match iQ with | 0 => vQ = (.pointer (some ⟨g1, 4, none⟩)) | 1 => vQ = (.slice A n c) | 2 => vQ = (.int .i64 n) | 3 => vQ = (.bool true) | _ => True) rfl (by kernel_rfl) (Below.refl _ _) (fun _ _ _ h k => h.trans (k.mono h.size)) (fun _ _ _ _ h _ => h) ?_ ?_
    · refine ⟨?_, ?_, ?_, ?_, trivial⟩
      · intro a w' hx hu hd K hK; have e1 : a.tmps.getD 1 undef = (.pointer (some ⟨g1, 0, none⟩)) := hu 1 rfl; exact Flow.run1 rfl (fa rfl e1 (fa38_2 _ _ _)) (hK _ _ (Below.refl _ _) rfl)
      · intro a w' hx hu hd K hK; have e11 := Flow.got (hd 0 rfl) 11 rfl; exact Flow.run1 rfl (ld rfl e11 ((blk_cell (blk_below Kg1_2.out hx) 4).trans rfl) Try.underlying27 rfl) (hK _ _ (Below.refl _ _) rfl)
      · intro a w' hx hu hd K hK; have e12 := Flow.got (hd 1 rfl) 12 rfl; exact Flow.run1 rfl (lenL Try.underlying27 rfl e12) (hK _ _ (Below.refl _ _) rfl)
      · intro a w' hx hu hd K hK; have e13 := Flow.got (hd 2 rfl) 13 rfl; exact Flow.run1 rfl (yes (gtr rfl e13 rfl) (decide_eq_true H5.out)) (hK _ _ (Below.refl _ _) rfl)
    intro vs W3 hb3 hT
    have v0 := Flow.eqn (hT 0 (by decide))
    have v1 := Flow.eqn (hT 1 (by decide))
    have v2 := Flow.eqn (hT 2 (by decide))
    have v3 := Flow.eqn (hT 3 (by decide))
    simp only [Flow.putsT, v0, v1, v2, v3, Act.put, List.setIfInBounds_toArray, List.set_cons_zero, List.set_cons_succ]
    clear hT v0 v1 v2 v3
    have HB3 := Aside0.mk (below_step HB2.out hb3)
    have Kg1_2_3 := Aside0.mk (blk_below Kg1_2.out hb3)
    clear hb3
    go_upto_region 2 with fail
    refine Flow.seqT (E := fun u v => Below u.heap.size u v) [(some 15, []), (some 2, [0, 0, 0])] (fun iQ vQ wQ => match iQ with | 0 => vQ = (.bool true) | 1 => vQ = (.bool true) | _ => True) rfl (by kernel_rfl) (Below.refl _ _) (fun _ _ _ h k => h.trans (k.mono h.size)) (fun _ _ _ _ h _ => h) ?_ ?_
    · refine ⟨?_, ?_, trivial⟩
      · intro a w' hx hu hd K hK; refine Flow.want rfl ?_; refine Flow.val_call rfl Try.func16 (by kernel_rfl) rfl (by first | (simp only [List.map_toArray, List.map_cons, List.map_nil, Act.eval]; done) | (simp only [List.map_toArray, List.map_cons, List.map_nil, Act.eval]; rfl)) (live_c w') ?_; rintro e w2 ⟨rfl, hb2⟩; exact ⟨_, rfl, hK _ _ hb2 rfl⟩
      · intro a w' hx hu hd K hK; have e15 := Flow.got (hd 0 rfl) 15 rfl; exact Flow.run1 rfl (Flow.r_assign rfl e15) (hK _ _ (Below.refl _ _) rfl)
    intro vs W4 hb4 hT
    have v0 := Flow.eqn (hT 0 (by decide))
    have v1 := Flow.eqn (hT 1 (by decide))
    simp only [Flow.putsT, v0, v1, Act.put, List.setIfInBounds_toArray, List.set_cons_zero, List.set_cons_succ]
    clear hT v0 v1
    have HB4 := Aside0.mk (below_step HB3.out hb4)
    have Kg1_2_3_4 := Aside0.mk (blk_below Kg1_2_3.out hb4)
    clear hb4
    go_wp2_with fail
    exact bodyPost_ret (results_tmp Try.results6 _ _ _) rfl ⟨rfl, HB4.out⟩
  · have H5 := Aside0.mk h5
    clear h5
    go_upto_region 1 with fail
    refine Flow.seqT (E := fun u v => Below u.heap.size u v) [(some 11, []), (some 12, [0]), (some 13, [1]), (some 14, [2])] (fun iQ vQ wQ => match iQ with | 0 => vQ = (.pointer (some ⟨g1, 4, none⟩)) | 1 => vQ = (.slice A n c) | 2 => vQ = (.int .i64 n) | 3 => vQ = (.bool false) | _ => True) rfl (by kernel_rfl) (Below.refl _ _) (fun _ _ _ h k => h.trans (k.mono h.size)) (fun _ _ _ _ h _ => h) ?_ ?_
    · refine ⟨?_, ?_, ?_, ?_, trivial⟩
      · intro a w' hx hu hd K hK; have e1 : a.tmps.getD 1 undef = (.pointer (some ⟨g1, 0, none⟩)) := hu 1 rfl; exact Flow.run1 rfl (fa rfl e1 (fa38_2 _ _ _)) (hK _ _ (Below.refl _ _) rfl)
      · intro a w' hx hu hd K hK; have e11 := Flow.got (hd 0 rfl) 11 rfl; exact Flow.run1 rfl (ld rfl e11 ((blk_cell (blk_below Kg1_2.out hx) 4).trans rfl) Try.underlying27 rfl) (hK _ _ (Below.refl _ _) rfl)
      · intro a w' hx hu hd K hK; have e12 := Flow.got (hd 1 rfl) 12 rfl; exact Flow.run1 rfl (lenL Try.underlying27 rfl e12) (hK _ _ (Below.refl _ _) rfl)
      · intro a w' hx hu hd K hK; have e13 := Flow.got (hd 2 rfl) 13 rfl; exact Flow.run1 rfl (no (gtr rfl e13 rfl) (decide_eq_false H5.out)) (hK _ _ (Below.refl _ _) rfl)
    intro vs W5 hb5 hT
    have v0 := Flow.eqn (hT 0 (by decide))
    have v1 := Flow.eqn (hT 1 (by decide))
    have v2 := Flow.eqn (hT 2 (by decide))
    have v3 := Flow.eqn (hT 3 (by decide))
    simp only [Flow.putsT, v0, v1, v2, v3, Act.put, List.setIfInBounds_toArray, List.set_cons_zero, List.set_cons_succ]
    clear hT v0 v1 v2 v3
    have HB5 := Aside0.mk (below_step HB2.out hb5)
    have Kg1_2_5 := Aside0.mk (blk_below Kg1_2.out hb5)
    clear hb5
    go_upto_region 3 with fail
    refine Flow.seqT (E := fun u v => Below u.heap.size u v) [(some 3, [])] (fun iQ vQ wQ => match iQ with | 0 => vQ = (.pointer none) | _ => True) rfl (by kernel_rfl) (Below.refl _ _) (fun _ _ _ h k => h.trans (k.mono h.size)) (fun _ _ _ _ h _ => h) ?_ ?_
    · refine ⟨?_, trivial⟩
      · intro a w' hx hu hd K hK; exact Flow.run1 rfl (Flow.r_assign rfl rfl) (hK _ _ (Below.refl _ _) rfl)
    intro vs W6 hb6 hT
    have v0 := Flow.eqn (hT 0 (by decide))
    simp only [Flow.putsT, v0, Act.put, List.setIfInBounds_toArray, List.set_cons_zero, List.set_cons_succ]
    clear hT v0
    have HB6 := Aside0.mk (below_step HB5.out hb6)
    have Kg1_2_5_6 := Aside0.mk (blk_below Kg1_2_5.out hb6)
    clear hb6
    go_upto_region 4 with fail
    refine Flow.seqT (E := fun u v => Below u.heap.size u v) [(some 16, []), (some 17, [0])] (fun iQ vQ wQ => match iQ with | 0 => vQ = (.pointer none) | 1 => vQ = undef | _ => True) rfl (by kernel_rfl) (Below.refl _ _) (fun _ _ _ h k => h.trans (k.mono h.size)) (fun _ _ _ _ h _ => h) ?_ ?_
    · refine ⟨?_, ?_, trivial⟩
      · intro a w' hx hu hd K hK; have e3 : a.tmps.getD 3 undef = (.pointer none) := hu 3 rfl; exact Flow.run1 rfl (Flow.r_move rfl e3) (hK _ _ (Below.refl _ _) rfl)
      · intro a w' hx hu hd K hK; have e16 := Flow.got (hd 0 rfl) 16 rfl; refine Flow.want rfl ?_; refine Flow.val_call rfl Try.func26 (by kernel_rfl) rfl (by first | (simp only [List.map_toArray, List.map_cons, List.map_nil, Act.eval, e16]; done) | (simp only [List.map_toArray, List.map_cons, List.map_nil, Act.eval, e16]; rfl)) (clearn_c w') ?_; rintro e w2 ⟨rfl, hb2⟩; exact ⟨_, rfl, hK _ _ hb2 rfl⟩
    intro vs W7 hb7 hT
    have v0 := Flow.eqn (hT 0 (by decide))
    have v1 := Flow.eqn (hT 1 (by decide))
    simp only [Flow.putsT, v0, v1, Act.put, List.setIfInBounds_toArray, List.set_cons_zero, List.set_cons_succ]
    clear hT v0 v1
    have HB7 := Aside0.mk (below_step HB6.out hb7)
    have Kg1_2_5_6_7 := Aside0.mk (blk_below Kg1_2_5_6.out hb7)
    clear hb7
    go_upto_region 5 with fail
    refine Flow.seqT (E := fun u v => Below u.heap.size u v) [(some 18, []), (some 19, []), (some 20, [1]), (some 21, []), (some 22, [3]), (some 23, [0, 2, 4])] (fun iQ vQ wQ => match iQ with | 0 => vQ = (.pointer none) | 1 => vQ = (.pointer (some ⟨g1, 1, none⟩)) | 2 => vQ = (.agg #[.int .i64 x.f1.f0, .int .i64 x.f1.f1, .int .i64 x.f1.f2]) | 3 => vQ = (.pointer (some ⟨g1, 4, none⟩)) | 4 => vQ = (.slice A n c) | 5 => vQ = undef | _ => True) rfl (by kernel_rfl) (Below.refl _ _) (fun _ _ _ h k => h.trans (k.mono h.size)) (fun _ _ _ _ h _ => h) ?_ ?_
    · refine ⟨?_, ?_, ?_, ?_, ?_, ?_, trivial⟩
      · intro a w' hx hu hd K hK; have e3 : a.tmps.getD 3 undef = (.pointer none) := hu 3 rfl; exact Flow.run1 rfl (Flow.r_move rfl e3) (hK _ _ (Below.refl _ _) rfl)
      · intro a w' hx hu hd K hK; have e1 : a.tmps.getD 1 undef = (.pointer (some ⟨g1, 0, none⟩)) := hu 1 rfl; exact Flow.run1 rfl (fa rfl e1 (fa38_1 _ _ _)) (hK _ _ (Below.refl _ _) rfl)
      · intro a w' hx hu hd K hK; have e19 := Flow.got (hd 1 rfl) 19 rfl; exact Flow.run1 rfl (ldrow (c := [.int .i64 x.f1.f0, .int .i64 x.f1.f1, .int .i64 x.f1.f2]) rfl e19 (lies_part (blk_below Kg1_2_5_6_7.out hx) rfl) Try.underlying36 rfl size36) (hK _ _ (Below.refl _ _) rfl)
      · intro a w' hx hu hd K hK; have e1 : a.tmps.getD 1 undef = (.pointer (some ⟨g1, 0, none⟩)) := hu 1 rfl; exact Flow.run1 rfl (fa rfl e1 (fa38_2 _ _ _)) (hK _ _ (Below.refl _ _) rfl)
      · intro a w' hx hu hd K hK; have e21 := Flow.got (hd 3 rfl) 21 rfl; exact Flow.run1 rfl (ld rfl e21 ((blk_cell (blk_below Kg1_2_5_6_7.out hx) 4).trans rfl) Try.underlying27 rfl) (hK _ _ (Below.refl _ _) rfl)
      · intro a w' hx hu hd K hK; have e18 := Flow.got (hd 0 rfl) 18 rfl; have e20 := Flow.got (hd 2 rfl) 20 rfl; have e22 := Flow.got (hd 4 rfl) 22 rfl; refine Flow.want rfl ?_; refine Flow.val_call rfl Try.func18 (by kernel_rfl) rfl (by first | (simp only [List.map_toArray, List.map_cons, List.map_nil, Act.eval, e18, e20, e22]; done) | (simp only [List.map_toArray, List.map_cons, List.map_nil, Act.eval, e18, e20, e22]; rfl)) (putn_c x.f1 A n c w') ?_; rintro e w2 ⟨rfl, hb2⟩; exact ⟨_, rfl, hK _ _ hb2 rfl⟩
    intro vs W8 hb8 hT
    have v0 := Flow.eqn (hT 0 (by decide))
    have v1 := Flow.eqn (hT 1 (by decide))
    have v2 := Flow.eqn (hT 2 (by decide))
    have v3 := Flow.eqn (hT 3 (by decide))
    have v4 := Flow.eqn (hT 4 (by decide))
    have v5 := Flow.eqn (hT 5 (by decide))
    simp only [Flow.putsT, v0, v1, v2, v3, v4, v5, Act.put, List.setIfInBounds_toArray, List.set_cons_zero, List.set_cons_succ]
    clear hT v0 v1 v2 v3 v4 v5
    have HB8 := Aside0.mk (below_step HB7.out hb8)
    have Kg1_2_5_6_7_8 := Aside0.mk (blk_below Kg1_2_5_6_7.out hb8)
    clear hb8
    go_upto_region 6 with fail
    refine Flow.seqT (E := fun u v => Below u.heap.size u v) [(some 25, []), (some 26, []), (some 27, [1]), (some 28, [0, 2]), (some 24, [3]), (some 29, [4]), (some 30, [4]), (some 4, [5, 3, 0, 1, 2, 3, 4, 5]), (some 5, [6, 7, 0, 1, 2, 3, 4, 5, 6, 7])] (fun iQ vQ wQ => match iQ with | 0 => vQ = (.pointer none) | 1 => vQ = (.pointer (some ⟨g1, 1, none⟩)) | 2 => vQ = (.agg #[.int .i64 x.f1.f0, .int .i64 x.f1.f1, .int .i64 x.f1.f2]) | 3 => vQ = (.tuple #[.slice none 0 0, .bool false]) | 4 => vQ = (.tuple #[.slice none 0 0, .bool false]) | 5 => vQ = (.slice none 0 0) | 6 => vQ = (.bool false) | 7 => vQ = (.slice none 0 0) | 8 => vQ = (.bool false) | _ => True) rfl (by kernel_rfl) (Below.refl _ _) (fun _ _ _ h k => h.trans (k.mono h.size)) (fun _ _ _ _ h _ => h) ?_ ?_
    · refine ⟨?_, ?_, ?_, ?_, ?_, ?_, ?_, ?_, ?_, trivial⟩
      · intro a w' hx hu hd K hK; have e3 : a.tmps.getD 3 undef = (.pointer none) := hu 3 rfl; exact Flow.run1 rfl (Flow.r_move rfl e3) (hK _ _ (Below.refl _ _) rfl)
      · intro a w' hx hu hd K hK; have e1 : a.tmps.getD 1 undef = (.pointer (some ⟨g1, 0, none⟩)) := hu 1 rfl; exact Flow.run1 rfl (fa rfl e1 (fa38_1 _ _ _)) (hK _ _ (Below.refl _ _) rfl)
      · intro a w' hx hu hd K hK; have e26 := Flow.got (hd 1 rfl) 26 rfl; exact Flow.run1 rfl (ldrow (c := [.int .i64 x.f1.f0, .int .i64 x.f1.f1, .int .i64 x.f1.f2]) rfl e26 (lies_part (blk_below Kg1_2_5_6_7_8.out hx) rfl) Try.underlying36 rfl size36) (hK _ _ (Below.refl _ _) rfl)
      · intro a w' hx hu hd K hK; have e25 := Flow.got (hd 0 rfl) 25 rfl; have e27 := Flow.got (hd 2 rfl) 27 rfl; refine Flow.want rfl ?_; refine Flow.val_call rfl Try.func19 (by kernel_rfl) rfl (by first | (simp only [List.map_toArray, List.map_cons, List.map_nil, Act.eval, e25, e27]; done) | (simp only [List.map_toArray, List.map_cons, List.map_nil, Act.eval, e25, e27]; rfl)) (getn_c x.f1 w') ?_; rintro e w2 ⟨rfl, hb2⟩; exact ⟨_, rfl, hK _ _ hb2 rfl⟩
      · intro a w' hx hu hd K hK; have e28 := Flow.got (hd 3 rfl) 28 rfl; exact Flow.run1 rfl (Flow.r_move rfl e28) (hK _ _ (Below.refl _ _) rfl)
      · intro a w' hx hu hd K hK; have e24 := Flow.got (hd 4 rfl) 24 rfl; exact Flow.run1 rfl (extr rfl e24 rfl) (hK _ _ (Below.refl _ _) rfl)
      · intro a w' hx hu hd K hK; have e24 := Flow.got (hd 4 rfl) 24 rfl; exact Flow.run1 rfl (extr rfl e24 rfl) (hK _ _ (Below.refl _ _) rfl)
      · intro a w' hx hu hd K hK; have e29 := Flow.got (hd 5 rfl) 29 rfl; exact Flow.run1 rfl (Flow.r_assign rfl e29) (hK _ _ (Below.refl _ _) rfl)
      · intro a w' hx hu hd K hK; have e30 := Flow.got (hd 6 rfl) 30 rfl; exact Flow.run1 rfl (Flow.r_assign rfl e30) (hK _ _ (Below.refl _ _) rfl)
    intro vs W9 hb9 hT
    have v0 := Flow.eqn (hT 0 (by decide))
    have v1 := Flow.eqn (hT 1 (by decide))
    have v2 := Flow.eqn (hT 2 (by decide))
    have v3 := Flow.eqn (hT 3 (by decide))
    have v4 := Flow.eqn (hT 4 (by decide))
    have v5 := Flow.eqn (hT 5 (by decide))
    have v6 := Flow.eqn (hT 6 (by decide))
    have v7 := Flow.eqn (hT 7 (by decide))
    have v8 := Flow.eqn (hT 8 (by decide))
    simp only [Flow.putsT, v0, v1, v2, v3, v4, v5, v6, v7, v8, Act.put, List.setIfInBounds_toArray, List.set_cons_zero, List.set_cons_succ]
    clear hT v0 v1 v2 v3 v4 v5 v6 v7 v8
    have HB9 := Aside0.mk (below_step HB8.out hb9)
    have Kg1_2_5_6_7_8_9 := Aside0.mk (blk_below Kg1_2_5_6_7_8.out hb9)
    clear hb9
    go_upto_region 7 with fail
    refine Flow.seqT (E := fun u v => Below u.heap.size u v) [(some 32, []), (some 33, [0]), (some 31, [1]), (some 34, [2]), (some 35, [2]), (some 6, [3, 1, 0, 1, 2, 3]), (some 7, [4, 5, 0, 1, 2, 3, 4, 5])] (fun iQ vQ wQ => match iQ with | 0 => vQ = (.pointer none) | 1 => vQ = (.tuple #[.int .i64 0, .int .i64 0]) | 2 => vQ = (.tuple #[.int .i64 0, .int .i64 0]) | 3 => vQ = (.int .i64 0) | 4 => vQ = (.int .i64 0) | 5 => vQ = (.int .i64 0) | 6 => vQ = (.int .i64 0) | _ => True) rfl (by kernel_rfl) (Below.refl _ _) (fun _ _ _ h k => h.trans (k.mono h.size)) (fun _ _ _ _ h _ => h) ?_ ?_
    · refine ⟨?_, ?_, ?_, ?_, ?_, ?_, ?_, trivial⟩
      · intro a w' hx hu hd K hK; have e3 : a.tmps.getD 3 undef = (.pointer none) := hu 3 rfl; exact Flow.run1 rfl (Flow.r_move rfl e3) (hK _ _ (Below.refl _ _) rfl)
      · intro a w' hx hu hd K hK; have e32 := Flow.got (hd 0 rfl) 32 rfl; refine Flow.want rfl ?_; refine Flow.val_call rfl Try.func28 (by kernel_rfl) rfl (by first | (simp only [List.map_toArray, List.map_cons, List.map_nil, Act.eval, e32]; done) | (simp only [List.map_toArray, List.map_cons, List.map_nil, Act.eval, e32]; rfl)) (countsn_c w') ?_; rintro e w2 ⟨rfl, hb2⟩; exact ⟨_, rfl, hK _ _ hb2 rfl⟩
      · intro a w' hx hu hd K hK; have e33 := Flow.got (hd 1 rfl) 33 rfl; exact Flow.run1 rfl (Flow.r_move rfl e33) (hK _ _ (Below.refl _ _) rfl)
      · intro a w' hx hu hd K hK; have e31 := Flow.got (hd 2 rfl) 31 rfl; exact Flow.run1 rfl (extr rfl e31 rfl) (hK _ _ (Below.refl _ _) rfl)
      · intro a w' hx hu hd K hK; have e31 := Flow.got (hd 2 rfl) 31 rfl; exact Flow.run1 rfl (extr rfl e31 rfl) (hK _ _ (Below.refl _ _) rfl)
      · intro a w' hx hu hd K hK; have e34 := Flow.got (hd 3 rfl) 34 rfl; exact Flow.run1 rfl (Flow.r_assign rfl e34) (hK _ _ (Below.refl _ _) rfl)
      · intro a w' hx hu hd K hK; have e35 := Flow.got (hd 4 rfl) 35 rfl; exact Flow.run1 rfl (Flow.r_assign rfl e35) (hK _ _ (Below.refl _ _) rfl)
    intro vs W10 hb10 hT
    have v0 := Flow.eqn (hT 0 (by decide))
    have v1 := Flow.eqn (hT 1 (by decide))
    have v2 := Flow.eqn (hT 2 (by decide))
    have v3 := Flow.eqn (hT 3 (by decide))
    have v4 := Flow.eqn (hT 4 (by decide))
    have v5 := Flow.eqn (hT 5 (by decide))
    have v6 := Flow.eqn (hT 6 (by decide))
    simp only [Flow.putsT, v0, v1, v2, v3, v4, v5, v6, Act.put, List.setIfInBounds_toArray, List.set_cons_zero, List.set_cons_succ]
    clear hT v0 v1 v2 v3 v4 v5 v6
    have HB10 := Aside0.mk (below_step HB9.out hb10)
    have Kg1_2_5_6_7_8_9_10 := Aside0.mk (blk_below Kg1_2_5_6_7_8_9.out hb10)
    clear hb10
    go_upto_region 8 with fail
    refine wp_region_lit ?_
    refine ecall rfl rfl Try.func17 (by kernel_rfl) rfl (args := #[.int .i64 0]) (by first | (simp only [List.map_toArray, List.map_cons, List.map_nil, Act.eval]; done) | (simp only [List.map_toArray, List.map_cons, List.map_nil, Act.eval]; rfl)) (new_i 0 0 rfl _) ?_
    rintro e W11 ⟨gC, gM, rfl, hci11, hgc, hgm, hb11⟩
    refine ⟨_, rfl, ?_⟩
    have HGC := Aside0.mk (show w.heap.size ≤ gC from Nat.le_trans HB10.out.size hgc)
    have HGM := Aside0.mk (show w.heap.size ≤ gM from Nat.le_trans HB10.out.size hgm)
    have HCI_11 := Aside0.mk hci11
    clear hci11 hgc hgm
    have Kg1_2_5_6_7_8_9_10_11 := Aside0.mk (blk_below Kg1_2_5_6_7_8_9_10.out hb11)
    have HB11 := Aside0.mk (below_step HB10.out hb11)
    clear hb11
    simp only [Act.put, List.setIfInBounds_toArray, List.set_cons_zero, List.set_cons_succ]
    refine Flow.seqL (E := fun u v => Below u.heap.size u v) 1 1 [(some 36, []), (some 8, [0, 0, 0])] (fun iQ vQ wQ => match iQ with | 1 => vQ = (.pointer (some ⟨gC, 0, none⟩)) | _ => True) rfl (by decide) (by kernel_rfl) (Below.refl _ _) (fun _ _ _ h k => h.trans (k.mono h.size)) (fun _ _ _ _ h _ => h) ?_ ?_
    · refine ⟨?_, trivial⟩
      · intro a w' hx hu hd K hK; have e36 : a.tmps.getD 36 undef = (.pointer (some ⟨gC, 0, none⟩)) := hu 36 rfl; exact Flow.run1 rfl (Flow.r_assign rfl e36) (hK _ _ (Below.refl _ _) rfl)
    intro vs W12 hb12 hT
    have v1 := Flow.eqn (hT 1 (by decide) (by decide))
    simp only [Flow.putsT, v1, Act.put, List.setIfInBounds_toArray, List.set_cons_zero, List.set_cons_succ, List.drop_succ_cons, List.drop_zero, List.take_succ_cons, List.take_zero]
    clear hT v1
    have HB12 := Aside0.mk (below_step HB11.out hb12)
    have HCI_12 := Aside0.mk (CI.below HCI_11.out hb12)
    have Kg1_2_5_6_7_8_9_10_11_12 := Aside0.mk (blk_below Kg1_2_5_6_7_8_9_10_11.out hb12)
    clear hb12
    go_upto_region 9 with fail
    refine Flow.seqT_head (E := fun u v => Below u.heap.size u v) 5 [(some 37, []), (some 38, []), (some 39, [1]), (some 40, []), (some 41, [3]), (some 42, [0, 2, 4])] (fun iQ vQ wQ => match iQ with | 0 => vQ = (.pointer (some ⟨gC, 0, none⟩)) | 1 => vQ = (.pointer (some ⟨g1, 1, none⟩)) | 2 => vQ = (.agg #[.int .i64 x.f1.f0, .int .i64 x.f1.f1, .int .i64 x.f1.f2]) | 3 => vQ = (.pointer (some ⟨g1, 4, none⟩)) | 4 => vQ = (.slice A n c) | _ => True) rfl (by decide) (by kernel_rfl) (Below.refl _ _) (fun _ _ _ h k => h.trans (k.mono h.size)) (fun _ _ _ _ h _ => h) ?_ ?_
    · refine ⟨?_, ?_, ?_, ?_, ?_, trivial⟩
      · intro a w' hx hu hd K hK; have e8 : a.tmps.getD 8 undef = (.pointer (some ⟨gC, 0, none⟩)) := hu 8 rfl; exact Flow.run1 rfl (Flow.r_move rfl e8) (hK _ _ (Below.refl _ _) rfl)
      · intro a w' hx hu hd K hK; have e1 : a.tmps.getD 1 undef = (.pointer (some ⟨g1, 0, none⟩)) := hu 1 rfl; exact Flow.run1 rfl (fa rfl e1 (fa38_1 _ _ _)) (hK _ _ (Below.refl _ _) rfl)
      · intro a w' hx hu hd K hK; have e38 := Flow.got (hd 1 rfl) 38 rfl; exact Flow.run1 rfl (ldrow (c := [.int .i64 x.f1.f0, .int .i64 x.f1.f1, .int .i64 x.f1.f2]) rfl e38 (lies_part (blk_below Kg1_2_5_6_7_8_9_10_11_12.out hx) rfl) Try.underlying36 rfl size36) (hK _ _ (Below.refl _ _) rfl)
      · intro a w' hx hu hd K hK; have e1 : a.tmps.getD 1 undef = (.pointer (some ⟨g1, 0, none⟩)) := hu 1 rfl; exact Flow.run1 rfl (fa rfl e1 (fa38_2 _ _ _)) (hK _ _ (Below.refl _ _) rfl)
      · intro a w' hx hu hd K hK; have e40 := Flow.got (hd 3 rfl) 40 rfl; exact Flow.run1 rfl (ld rfl e40 ((blk_cell (blk_below Kg1_2_5_6_7_8_9_10_11_12.out hx) 4).trans rfl) Try.underlying27 rfl) (hK _ _ (Below.refl _ _) rfl)
    intro vs W13 hb13 hT
    have v0 := Flow.eqn (hT 0 (by decide))
    have v1 := Flow.eqn (hT 1 (by decide))
    have v2 := Flow.eqn (hT 2 (by decide))
    have v3 := Flow.eqn (hT 3 (by decide))
    have v4 := Flow.eqn (hT 4 (by decide))
    simp only [Flow.putsT, v0, v1, v2, v3, v4, Act.put, List.setIfInBounds_toArray, List.set_cons_zero, List.set_cons_succ, List.drop_succ_cons, List.drop_zero, List.take_succ_cons, List.take_zero]
    clear hT v0 v1 v2 v3 v4
    have HB13 := Aside0.mk (below_step HB12.out hb13)
    have HCI_13 := Aside0.mk (CI.below HCI_12.out hb13)
    have Kg1_2_5_6_7_8_9_10_11_12_13 := Aside0.mk (blk_below Kg1_2_5_6_7_8_9_10_11_12.out hb13)
    clear hb13
    refine ecall rfl rfl Try.func18 (by kernel_rfl) rfl (args := #[.pointer (some ⟨gC, 0, none⟩), .agg #[.int .i64 x.f1.f0, .int .i64 x.f1.f1, .int .i64 x.f1.f2], .slice A n c]) (by first | (simp only [List.map_toArray, List.map_cons, List.map_nil, Act.eval]; done) | (simp only [List.map_toArray, List.map_cons, List.map_nil, Act.eval]; rfl)) (put_i x.f1 HG.out A n c x.f2 [] _ (fun w9 hkb => HN.out ▸ Kd.C_below HR.out (below_kb HB13.out (Nat.le_refl _) hkb HGC.out HGM.out)) HN.out HNC.out (by have := H5.out; omega) HCI_13.out (by decide) (by rfl)) ?_
    rintro e W14 ⟨rfl, hci14, hkb14⟩
    refine ⟨_, rfl, ?_⟩
    have Kg1_2_5_6_7_8_9_10_11_12_13_14 := Aside0.mk (hkb14.blk Kg1_2_5_6_7_8_9_10_11_12_13.out (HCI_13.out.apart Kg1_2_5_6_7_8_9_10_11_12_13.out (by decide)))
    have HB14 := Aside0.mk (below_kb HB13.out (Nat.le_refl _) hkb14 HGC.out HGM.out)
    have HCI_14 := Aside0.mk hci14
    clear hci14 hkb14
    simp only [Act.put, List.setIfInBounds_toArray, List.set_cons_zero, List.set_cons_succ]
    go_upto_region 10 with fail
    refine Flow.seqT_head (E := fun u v => Below u.heap.size u v) 3 [(some 44, []), (some 45, []), (some 46, [1]), (some 47, [0, 2]), (some 43, [3]), (some 48, [4]), (some 49, [4]), (some 9, [5, 3, 0, 1, 2, 3, 4, 5]), (some 10, [6, 7, 0, 1, 2, 3, 4, 5, 6, 7])] (fun iQ vQ wQ => match iQ with | 0 => vQ = (.pointer (some ⟨gC, 0, none⟩)) | 1 => vQ = (.pointer (some ⟨g1, 1, none⟩)) | 2 => vQ = (.agg #[.int .i64 x.f1.f0, .int .i64 x.f1.f1, .int .i64 x.f1.f2]) | _ => True) rfl (by decide) (by kernel_rfl) (Below.refl _ _) (fun _ _ _ h k => h.trans (k.mono h.size)) (fun _ _ _ _ h _ => h) ?_ ?_
    · refine ⟨?_, ?_, ?_, trivial⟩
      · intro a w' hx hu hd K hK; have e8 : a.tmps.getD 8 undef = (.pointer (some ⟨gC, 0, none⟩)) := hu 8 rfl; exact Flow.run1 rfl (Flow.r_move rfl e8) (hK _ _ (Below.refl _ _) rfl)
      · intro a w' hx hu hd K hK; have e1 : a.tmps.getD 1 undef = (.pointer (some ⟨g1, 0, none⟩)) := hu 1 rfl; exact Flow.run1 rfl (fa rfl e1 (fa38_1 _ _ _)) (hK _ _ (Below.refl _ _) rfl)
      · intro a w' hx hu hd K hK; have e45 := Flow.got (hd 1 rfl) 45 rfl; exact Flow.run1 rfl (ldrow (c := [.int .i64 x.f1.f0, .int .i64 x.f1.f1, .int .i64 x.f1.f2]) rfl e45 (lies_part (blk_below Kg1_2_5_6_7_8_9_10_11_12_13_14.out hx) rfl) Try.underlying36 rfl size36) (hK _ _ (Below.refl _ _) rfl)
    intro vs W15 hb15 hT
    have v0 := Flow.eqn (hT 0 (by decide))
    have v1 := Flow.eqn (hT 1 (by decide))
    have v2 := Flow.eqn (hT 2 (by decide))
    simp only [Flow.putsT, v0, v1, v2, Act.put, List.setIfInBounds_toArray, List.set_cons_zero, List.set_cons_succ, List.drop_succ_cons, List.drop_zero, List.take_succ_cons, List.take_zero]
    clear hT v0 v1 v2
    have HB15 := Aside0.mk (below_step HB14.out hb15)
    have HCI_15 := Aside0.mk (CI.below HCI_14.out hb15)
    have Kg1_2_5_6_7_8_9_10_11_12_13_14_15 := Aside0.mk (blk_below Kg1_2_5_6_7_8_9_10_11_12_13_14.out hb15)
    clear hb15
    refine ecall rfl rfl Try.func19 (by kernel_rfl) rfl (args := #[.pointer (some ⟨gC, 0, none⟩), .agg #[.int .i64 x.f1.f0, .int .i64 x.f1.f1, .int .i64 x.f1.f2]]) (by first | (simp only [List.map_toArray, List.map_cons, List.map_nil, Act.eval]; done) | (simp only [List.map_toArray, List.map_cons, List.map_nil, Act.eval]; rfl)) (get_none_i x.f1 HG.out _ HCI_15.out (by decide) (by rfl)) ?_
    rintro e W16 ⟨rfl, hci16, hkb16⟩
    refine ⟨_, rfl, ?_⟩
    have Kg1_2_5_6_7_8_9_10_11_12_13_14_15_16 := Aside0.mk (hkb16.blk Kg1_2_5_6_7_8_9_10_11_12_13_14_15.out (HCI_15.out.apart Kg1_2_5_6_7_8_9_10_11_12_13_14_15.out (by decide)))
    have HB16 := Aside0.mk (below_kb HB15.out (Nat.le_refl _) hkb16 HGC.out HGM.out)
    have HCI_16 := Aside0.mk hci16
    clear hci16 hkb16
    simp only [Act.put, List.setIfInBounds_toArray, List.set_cons_zero, List.set_cons_succ]
    refine Flow.seqL (E := fun u v => Below u.heap.size u v) 4 5 [(some 44, []), (some 45, []), (some 46, [1]), (some 47, [0, 2]), (some 43, [3]), (some 48, [4]), (some 49, [4]), (some 9, [5, 3, 0, 1, 2, 3, 4, 5]), (some 10, [6, 7, 0, 1, 2, 3, 4, 5, 6, 7])] (fun iQ vQ wQ => match iQ with | 4 => vQ = (.tuple #[.slice none 0 0, .bool false]) | 5 => vQ = (.slice none 0 0) | 6 => vQ = (.bool false) | 7 => vQ = (.slice none 0 0) | 8 => vQ = (.bool false) | _ => True) rfl (by decide) (by kernel_rfl) (Below.refl _ _) (fun _ _ _ h k => h.trans (k.mono h.size)) (fun _ _ _ _ h _ => h) ?_ ?_
    · refine ⟨?_, ?_, ?_, ?_, ?_, trivial⟩
      · intro a w' hx hu hd K hK; have e47 : a.tmps.getD 47 undef = (.tuple #[.slice none 0 0, .bool false]) := hu 47 rfl; exact Flow.run1 rfl (Flow.r_move rfl e47) (hK _ _ (Below.refl _ _) rfl)
      · intro a w' hx hu hd K hK; have e43 := Flow.got (hd 4 rfl) 43 rfl; exact Flow.run1 rfl (extr rfl e43 rfl) (hK _ _ (Below.refl _ _) rfl)
      · intro a w' hx hu hd K hK; have e43 := Flow.got (hd 4 rfl) 43 rfl; exact Flow.run1 rfl (extr rfl e43 rfl) (hK _ _ (Below.refl _ _) rfl)
      · intro a w' hx hu hd K hK; have e48 := Flow.got (hd 5 rfl) 48 rfl; exact Flow.run1 rfl (Flow.r_assign rfl e48) (hK _ _ (Below.refl _ _) rfl)
      · intro a w' hx hu hd K hK; have e49 := Flow.got (hd 6 rfl) 49 rfl; exact Flow.run1 rfl (Flow.r_assign rfl e49) (hK _ _ (Below.refl _ _) rfl)
    intro vs W17 hb17 hT
    have v4 := Flow.eqn (hT 4 (by decide) (by decide))
    have v5 := Flow.eqn (hT 5 (by decide) (by decide))
    have v6 := Flow.eqn (hT 6 (by decide) (by decide))
    have v7 := Flow.eqn (hT 7 (by decide) (by decide))
    have v8 := Flow.eqn (hT 8 (by decide) (by decide))
    simp only [Flow.putsT, v4, v5, v6, v7, v8, Act.put, List.setIfInBounds_toArray, List.set_cons_zero, List.set_cons_succ, List.drop_succ_cons, List.drop_zero, List.take_succ_cons, List.take_zero]
    clear hT v4 v5 v6 v7 v8
    have HB17 := Aside0.mk (below_step HB16.out hb17)
    have HCI_17 := Aside0.mk (CI.below HCI_16.out hb17)
    have Kg1_2_5_6_7_8_9_10_11_12_13_14_15_16_17 := Aside0.mk (blk_below Kg1_2_5_6_7_8_9_10_11_12_13_14_15_16.out hb17)
    clear hb17
    go_upto_region 11 with fail
    refine Flow.seqT (E := fun u v => Below u.heap.size u v) [(some 50, []), (some 51, [0]), (some 52, [1]), (some 53, [2]), (some 54, [3, 2]), (some 55, [2, 4]), (some 56, [5, 2]), (some 57, [6]), (some 58, [6]), (some 59, [8, 6]), (some 60, [9, 6]), (some 61, [7, 10, 6, 6]), (some 62, [6]), (some 63, [12, 11, 6]), (some 64, [11, 13, 6]), (some 65, [6]), (some 66, [15, 13, 6]), (some 67, [16, 6]), (some 68, [14, 17, 6]), (some 69, [6]), (some 70, [18, 19, 6]), (some 71, [6]), (some 72, [20, 21, 6]), (some 73, [6]), (some 74, [23, 16, 6]), (some 75, [22, 24, 6]), (some 76, [25, 6]), (some 77, [6, 26]), (some 78, [27, 24]), (some 79, [28, 28]), (some 80, [28, 29]), (some 2, [30, 29, 0, 1, 2, 3, 4, 5, 6, 7, 8, 9, 10, 11, 12, 13, 14, 15, 16, 17, 18, 19, 20, 21, 22, 23, 24, 25, 26, 27, 28, 29, 30])] (fun iQ vQ wQ => match iQ with | 0 => vQ = (.bool false) | 1 => vQ = (.bool true) | 2 => vQ = (.bool true) | 3 => vQ = (.bool false) | 4 => vQ = (.bool true) | 5 => vQ = (.bool true) | 6 => vQ = (.bool true) | 7 => vQ = (.pointer none) | 8 => vQ = (.pointer (some ⟨g1, 1, none⟩)) | 9 => vQ = (.pointer (some ⟨g1, 1, none⟩)) | 10 => vQ = (.int .i64 x.f1.f0) | 11 => vQ = (.int .i64 0) | 12 => vQ = (.pointer none) | 13 => vQ = (.int .i64 0) | 14 => vQ = (.int .i64 0) | 15 => vQ = (.pointer none) | 16 => vQ = (.slice none 0 0) | 17 => vQ = (.int .i64 0) | 18 => vQ = (.int .i64 0) | 19 => vQ = (.int .i64 0) | 20 => vQ = (.int .i64 0) | 21 => vQ = (.int .i64 0) | 22 => vQ = (.int .i64 0) | 23 => vQ = (.pointer (some ⟨gC, 0, none⟩)) | 24 => vQ = (.int .i64 0) | 25 => vQ = (.int .i64 0) | 26 => vQ = (.bool true) | 27 => vQ = (.bool true) | 28 => vQ = (.bool true) | 29 => vQ = (.bool true) | 30 => vQ = (.bool true) | 31 => vQ = (.bool true) | _ => True) rfl (by kernel_rfl) (Below.refl _ _) (fun _ _ _ h k => h.trans (k.mono h.size)) (fun _ _ _ _ h _ => h) ?_ ?_
    · refine ⟨?_, ?_, ?_, ?_, ?_, ?_, ?_, ?_, ?_, ?_, ?_, ?_, ?_, ?_, ?_, ?_, ?_, ?_, ?_, ?_, ?_, ?_, ?_, ?_, ?_, ?_, ?_, ?_, ?_, ?_, ?_, ?_, trivial⟩
      · intro a w' hx hu hd K hK; have e5 : a.tmps.getD 5 undef = (.bool false) := hu 5 rfl; exact Flow.run1 rfl (Flow.r_move rfl e5) (hK _ _ (Below.refl _ _) rfl)
      · intro a w' hx hu hd K hK; have e50 := Flow.got (hd 0 rfl) 50 rfl; exact Flow.run1 rfl (Flow.r_not rfl e50) (hK _ _ (Below.refl _ _) rfl)
      · intro a w' hx hu hd K hK; have e51 := Flow.got (hd 1 rfl) 51 rfl; exact Flow.run1 rfl (Flow.r_move rfl e51) (hK _ _ (Below.refl _ _) rfl)
      · intro a w' hx hu hd K hK; have e10 : a.tmps.getD 10 undef = (.bool false) := hu 10 rfl; have e52 := Flow.got (hd 2 rfl) 52 rfl; exact Flow.run1 (Flow.want_of (k := 52) rfl e52) (Flow.r_move rfl e10) (hK _ _ (Below.refl _ _) rfl)
      · intro a w' hx hu hd K hK; have e53 := Flow.got (hd 3 rfl) 53 rfl; have e52 := Flow.got (hd 2 rfl) 52 rfl; exact Flow.run1 (Flow.want_of (k := 52) rfl e52) (Flow.r_not rfl e53) (hK _ _ (Below.refl _ _) rfl)
      · intro a w' hx hu hd K hK; have e52 := Flow.got (hd 2 rfl) 52 rfl; have e54 := Flow.got (hd 4 rfl) 54 rfl; exact Flow.run1 rfl (Flow.r_pick rfl e52 e54) (hK _ _ (Below.refl _ _) rfl)
      · intro a w' hx hu hd K hK; have e55 := Flow.got (hd 5 rfl) 55 rfl; exact Flow.run1 rfl (Flow.r_move rfl e55) (hK _ _ (Below.refl _ _) rfl)
      · intro a w' hx hu hd K hK; have e3 : a.tmps.getD 3 undef = (.pointer none) := hu 3 rfl; have e56 := Flow.got (hd 6 rfl) 56 rfl; exact Flow.run1 (Flow.want_of (k := 56) rfl e56) (Flow.r_move rfl e3) (hK _ _ (Below.refl _ _) rfl)
      · intro a w' hx hu hd K hK; have e1 : a.tmps.getD 1 undef = (.pointer (some ⟨g1, 0, none⟩)) := hu 1 rfl; have e56 := Flow.got (hd 6 rfl) 56 rfl; exact Flow.run1 (Flow.want_of (k := 56) rfl e56) (fa rfl e1 (fa38_1 _ _ _)) (hK _ _ (Below.refl _ _) rfl)
      · intro a w' hx hu hd K hK; have e58 := Flow.got (hd 8 rfl) 58 rfl; have e56 := Flow.got (hd 6 rfl) 56 rfl; exact Flow.run1 (Flow.want_of (k := 56) rfl e56) (fa rfl e58 (fa36_0 _ _ _)) (hK _ _ (Below.refl _ _) rfl)
      · intro a w' hx hu hd K hK; have e59 := Flow.got (hd 9 rfl) 59 rfl; have e56 := Flow.got (hd 6 rfl) 56 rfl; exact Flow.run1 (Flow.want_of (k := 56) rfl e56) (ld rfl e59 ((blk_cell (blk_below Kg1_2_5_6_7_8_9_10_11_12_13_14_15_16_17.out hx) 1).trans rfl) Try.underlying3 rfl) (hK _ _ (Below.refl _ _) rfl)
      · intro a w' hx hu hd K hK; have e57 := Flow.got (hd 7 rfl) 57 rfl; have e60 := Flow.got (hd 10 rfl) 60 rfl; have e56 := Flow.got (hd 6 rfl) 56 rfl; refine Flow.want (Flow.want_of (k := 56) rfl e56) ?_; refine Flow.val_call rfl Try.func25 (by kernel_rfl) rfl (by first | (simp only [List.map_toArray, List.map_cons, List.map_nil, Act.eval, e57, e60]; done) | (simp only [List.map_toArray, List.map_cons, List.map_nil, Act.eval, e57, e60]; rfl)) (dropn_c x.f1.f0 w') ?_; rintro e w2 ⟨rfl, hb2⟩; exact ⟨_, rfl, hK _ _ hb2 rfl⟩
      · intro a w' hx hu hd K hK; have e3 : a.tmps.getD 3 undef = (.pointer none) := hu 3 rfl; have e56 := Flow.got (hd 6 rfl) 56 rfl; exact Flow.run1 (Flow.want_of (k := 56) rfl e56) (Flow.r_move rfl e3) (hK _ _ (Below.refl _ _) rfl)
      · intro a w' hx hu hd K hK; have e62 := Flow.got (hd 12 rfl) 62 rfl; have e56 := Flow.got (hd 6 rfl) 56 rfl; refine Flow.want (Flow.want_of (k := 56) rfl e56) ?_; refine Flow.val_call rfl Try.func20 (by kernel_rfl) rfl (by first | (simp only [List.map_toArray, List.map_cons, List.map_nil, Act.eval, e62]; done) | (simp only [List.map_toArray, List.map_cons, List.map_nil, Act.eval, e62]; rfl)) (lenn_c w') ?_; rintro e w2 ⟨rfl, hb2⟩; exact ⟨_, rfl, hK _ _ hb2 rfl⟩
      · intro a w' hx hu hd K hK; have e61 := Flow.got (hd 11 rfl) 61 rfl; have e63 := Flow.got (hd 13 rfl) 63 rfl; have e56 := Flow.got (hd 6 rfl) 56 rfl; exact Flow.run1 (Flow.want_of (k := 56) rfl e56) (addw rfl e61 e63) (hK _ _ (Below.refl _ _) rfl)
      · intro a w' hx hu hd K hK; have e3 : a.tmps.getD 3 undef = (.pointer none) := hu 3 rfl; have e56 := Flow.got (hd 6 rfl) 56 rfl; exact Flow.run1 (Flow.want_of (k := 56) rfl e56) (Flow.r_move rfl e3) (hK _ _ (Below.refl _ _) rfl)
      · intro a w' hx hu hd K hK; have e65 := Flow.got (hd 15 rfl) 65 rfl; have e56 := Flow.got (hd 6 rfl) 56 rfl; refine Flow.want (Flow.want_of (k := 56) rfl e56) ?_; refine Flow.val_call rfl Try.func27 (by kernel_rfl) rfl (by first | (simp only [List.map_toArray, List.map_cons, List.map_nil, Act.eval, e65]; done) | (simp only [List.map_toArray, List.map_cons, List.map_nil, Act.eval, e65]; rfl)) (keysn_c w') ?_; rintro e w2 ⟨rfl, hb2⟩; exact ⟨_, rfl, hK _ _ hb2 rfl⟩
      · intro a w' hx hu hd K hK; have e66 := Flow.got (hd 16 rfl) 66 rfl; have e56 := Flow.got (hd 6 rfl) 56 rfl; exact Flow.run1 (Flow.want_of (k := 56) rfl e56) (lenL Try.underlying53 rfl e66) (hK _ _ (Below.refl _ _) rfl)
      · intro a w' hx hu hd K hK; have e64 := Flow.got (hd 14 rfl) 64 rfl; have e67 := Flow.got (hd 17 rfl) 67 rfl; have e56 := Flow.got (hd 6 rfl) 56 rfl; exact Flow.run1 (Flow.want_of (k := 56) rfl e56) (addw rfl e64 e67) (hK _ _ (Below.refl _ _) rfl)
      · intro a w' hx hu hd K hK; have e6 : a.tmps.getD 6 undef = (.int .i64 0) := hu 6 rfl; have e56 := Flow.got (hd 6 rfl) 56 rfl; exact Flow.run1 (Flow.want_of (k := 56) rfl e56) (Flow.r_move rfl e6) (hK _ _ (Below.refl _ _) rfl)
      · intro a w' hx hu hd K hK; have e68 := Flow.got (hd 18 rfl) 68 rfl; have e69 := Flow.got (hd 19 rfl) 69 rfl; have e56 := Flow.got (hd 6 rfl) 56 rfl; exact Flow.run1 (Flow.want_of (k := 56) rfl e56) (addw rfl e68 e69) (hK _ _ (Below.refl _ _) rfl)
      · intro a w' hx hu hd K hK; have e7 : a.tmps.getD 7 undef = (.int .i64 0) := hu 7 rfl; have e56 := Flow.got (hd 6 rfl) 56 rfl; exact Flow.run1 (Flow.want_of (k := 56) rfl e56) (Flow.r_move rfl e7) (hK _ _ (Below.refl _ _) rfl)
      · intro a w' hx hu hd K hK; have e70 := Flow.got (hd 20 rfl) 70 rfl; have e71 := Flow.got (hd 21 rfl) 71 rfl; have e56 := Flow.got (hd 6 rfl) 56 rfl; exact Flow.run1 (Flow.want_of (k := 56) rfl e56) (addw rfl e70 e71) (hK _ _ (Below.refl _ _) rfl)
      · intro a w' hx hu hd K hK; have e8 : a.tmps.getD 8 undef = (.pointer (some ⟨gC, 0, none⟩)) := hu 8 rfl; have e56 := Flow.got (hd 6 rfl) 56 rfl; exact Flow.run1 (Flow.want_of (k := 56) rfl e56) (Flow.r_move rfl e8) (hK _ _ (Below.refl _ _) rfl)
      · intro a w' hx hu hd K hK; have e73 := Flow.got (hd 23 rfl) 73 rfl; have e56 := Flow.got (hd 6 rfl) 56 rfl; refine Flow.want (Flow.want_of (k := 56) rfl e56) ?_; refine Flow.val_call rfl Try.func20 (by kernel_rfl) rfl (by first | (simp only [List.map_toArray, List.map_cons, List.map_nil, Act.eval, e73]; done) | (simp only [List.map_toArray, List.map_cons, List.map_nil, Act.eval, e73]; rfl)) (len_i (L := []) w' (CI.below HCI_17.out hx)) ?_; rintro e w2 ⟨rfl, hb2⟩; exact ⟨_, rfl, hK _ _ hb2 rfl⟩
      · intro a w' hx hu hd K hK; have e72 := Flow.got (hd 22 rfl) 72 rfl; have e74 := Flow.got (hd 24 rfl) 74 rfl; have e56 := Flow.got (hd 6 rfl) 56 rfl; exact Flow.run1 (Flow.want_of (k := 56) rfl e56) (addw rfl e72 e74) (hK _ _ (Below.refl _ _) rfl)
      · intro a w' hx hu hd K hK; have e75 := Flow.got (hd 25 rfl) 75 rfl; have e56 := Flow.got (hd 6 rfl) 56 rfl; exact Flow.run1 (Flow.want_of (k := 56) rfl e56) (yes (eql rfl e75 rfl) (beq_iff_eq.2 rfl)) (hK _ _ (Below.refl _ _) rfl)
      · intro a w' hx hu hd K hK; have e56 := Flow.got (hd 6 rfl) 56 rfl; have e76 := Flow.got (hd 26 rfl) 76 rfl; exact Flow.run1 rfl (Flow.r_pick rfl e56 e76) (hK _ _ (Below.refl _ _) rfl)
      · intro a w' hx hu hd K hK; have e77 := Flow.got (hd 27 rfl) 77 rfl; exact Flow.run1 rfl (Flow.r_move rfl e77) (hK _ _ (Below.refl _ _) rfl)
      · intro a w' hx hu hd K hK; have e78 := Flow.got (hd 28 rfl) 78 rfl; refine Flow.want (Flow.want_of (k := 78) rfl e78) ?_; refine Flow.val_call rfl Try.func16 (by kernel_rfl) rfl (by first | (simp only [List.map_toArray, List.map_cons, List.map_nil, Act.eval]; done) | (simp only [List.map_toArray, List.map_cons, List.map_nil, Act.eval]; rfl)) (live_c w') ?_; rintro e w2 ⟨rfl, hb2⟩; exact ⟨_, rfl, hK _ _ hb2 rfl⟩
      · intro a w' hx hu hd K hK; have e78 := Flow.got (hd 28 rfl) 78 rfl; have e79 := Flow.got (hd 29 rfl) 79 rfl; exact Flow.run1 rfl (Flow.r_pick rfl e78 e79) (hK _ _ (Below.refl _ _) rfl)
      · intro a w' hx hu hd K hK; have e80 := Flow.got (hd 30 rfl) 80 rfl; exact Flow.run1 rfl (Flow.r_assign rfl e80) (hK _ _ (Below.refl _ _) rfl)
    intro vs W18 hb18 hT
    have v0 := Flow.eqn (hT 0 (by decide))
    have v1 := Flow.eqn (hT 1 (by decide))
    have v2 := Flow.eqn (hT 2 (by decide))
    have v3 := Flow.eqn (hT 3 (by decide))
    have v4 := Flow.eqn (hT 4 (by decide))
    have v5 := Flow.eqn (hT 5 (by decide))
    have v6 := Flow.eqn (hT 6 (by decide))
    have v7 := Flow.eqn (hT 7 (by decide))
    have v8 := Flow.eqn (hT 8 (by decide))
    have v9 := Flow.eqn (hT 9 (by decide))
    have v10 := Flow.eqn (hT 10 (by decide))
    have v11 := Flow.eqn (hT 11 (by decide))
    have v12 := Flow.eqn (hT 12 (by decide))
    have v13 := Flow.eqn (hT 13 (by decide))
    have v14 := Flow.eqn (hT 14 (by decide))
    have v15 := Flow.eqn (hT 15 (by decide))
    have v16 := Flow.eqn (hT 16 (by decide))
    have v17 := Flow.eqn (hT 17 (by decide))
    have v18 := Flow.eqn (hT 18 (by decide))
    have v19 := Flow.eqn (hT 19 (by decide))
    have v20 := Flow.eqn (hT 20 (by decide))
    have v21 := Flow.eqn (hT 21 (by decide))
    have v22 := Flow.eqn (hT 22 (by decide))
    have v23 := Flow.eqn (hT 23 (by decide))
    have v24 := Flow.eqn (hT 24 (by decide))
    have v25 := Flow.eqn (hT 25 (by decide))
    have v26 := Flow.eqn (hT 26 (by decide))
    have v27 := Flow.eqn (hT 27 (by decide))
    have v28 := Flow.eqn (hT 28 (by decide))
    have v29 := Flow.eqn (hT 29 (by decide))
    have v30 := Flow.eqn (hT 30 (by decide))
    have v31 := Flow.eqn (hT 31 (by decide))
    simp only [Flow.putsT, v0, v1, v2, v3, v4, v5, v6, v7, v8, v9, v10, v11, v12, v13, v14, v15, v16, v17, v18, v19, v20, v21, v22, v23, v24, v25, v26, v27, v28, v29, v30, v31, Act.put, List.setIfInBounds_toArray, List.set_cons_zero, List.set_cons_succ]
    clear hT v0 v1 v2 v3 v4 v5 v6 v7 v8 v9 v10 v11 v12 v13 v14 v15 v16 v17 v18 v19 v20 v21 v22 v23 v24 v25 v26 v27 v28 v29 v30 v31
    have HB18 := Aside0.mk (below_step HB17.out hb18)
    have HCI_18 := Aside0.mk (CI.below HCI_17.out hb18)
    have Kg1_2_5_6_7_8_9_10_11_12_13_14_15_16_17_18 := Aside0.mk (blk_below Kg1_2_5_6_7_8_9_10_11_12_13_14_15_16_17.out hb18)
    clear hb18
    go_wp2_with fail
    exact bodyPost_ret (results_tmp Try.results6 _ _ _) rfl ⟨rfl, HB18.out⟩
end Go.Proofs.Ytlhmpmmblnbmbaa.Cac
