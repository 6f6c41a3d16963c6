/- A step's numbers and bytes, laid: the document's way. -/
import Derived.Test.YtlhmpmmblnbmbaaDoorConPrim
set_option linter.unusedVariables false
set_option linter.unusedSimpArgs false
namespace Go.Proofs.YtlhmpmmblnbmbaaDoor.Con
open Go.Lib Go.RowKit Go.Proofs.YtlhmpmmblnbmbaaDoor.Ev Go.Proofs.YtlhmpmmblnbmbaaDoor.Ke Go.Proofs.YtlhmpmmblnbmbaaDoor.Cells Go.Proofs.YtlhmpmmblnbmbaaDoor.PConsoleParses Go.Proofs.YtlhmpmmblnbmbaaDoorW.PrintWords Go.Proofs.YtlhmpmmblnbmbaaDoorW.PrintLast Go.Proofs.YtlhmpmmblnbmbaaDoorW.PrintMore WordsPlain NumberPlain
def fillC (kind cmd : Int) (fua : Bool) (n0 n1 n2 : Int) (b : Value) : List Value := if kind = 0 then [.int .i64 kind, .int .i64 cmd, .int .i64 n0, .int .i64 n1, .int .i64 n2, b, .bool fua, .int .i64 0, .int .i64 0, .slice none 0 0] else if kind = 1 then [.int .i64 kind, .int .i64 cmd, .int .i64 0, .int .i64 0, .int .i64 0, .slice none 0 0, .bool fua, .int .i64 0, .int .i64 n0, b] else [.int .i64 kind, .int .i64 cmd, .int .i64 0, .int .i64 0, .int .i64 0, .slice none 0 0, .bool fua, .int .i64 n0, .int .i64 n1, b]
set_option maxHeartbeats 4000000 in
set_option maxRecDepth 100000 in
theorem fill_c (kind cmd : Int) (fua : Bool) (n0 n1 n2 : Int) (A : Option Addr) (nb cb : Nat) (w : World) : Calls Tryd.prog 53 #[.agg #[.int .i64 kind, .int .i64 cmd, .int .i64 0, .int .i64 0, .int .i64 0, .slice none 0 0, .bool fua, .int .i64 0, .int .i64 0, .slice none 0 0], .agg #[.int .i64 n0, .int .i64 n1, .int .i64 n2], .slice A nb cb] w fun e w' => e = .returned (.agg (fillC kind cmd fua n0 n1 n2 (.slice A nb cb)).toArray) ∧ Below w.heap.size w w' := by
  go_enter Tryd.func53, Tryd.ntmps53
  go_upto_region 0 with fail
  refine wp_region_lit ?_
  refine ebox (v := (.agg #[.int .i64 kind, .int .i64 cmd, .int .i64 0, .int .i64 0, .int .i64 0, .slice none 0 0, .bool fua, .int .i64 0, .int .i64 0, .slice none 0 0])) rfl rfl rfl ?_
  intro g1 hg1 W1 hk1 hb1
  have Kg1 := Aside0.mk hk1
  have HB1 := Aside0.mk hb1
  clear hb1
  have Gg1 := Aside0.mk (show w.heap.size ≤ g1 by rw [hg1]; exact Nat.le_refl _)
  clear hg1 hk1
  simp only [Act.put, List.setIfInBounds_toArray, List.set_cons_zero, List.set_cons_succ]
  refine ebox (v := (.agg #[.int .i64 n0, .int .i64 n1, .int .i64 n2])) rfl rfl rfl ?_
  intro g2 hg2 W2 hk2 hb2
  have Kg2 := Aside0.mk hk2
  have Ng2_g1 := Aside0.mk (show g1 ≠ g2 by have := (Array.getElem?_eq_some_iff.1 Kg1.out).1; omega)
  have Ng1_g2 := Aside0.mk (Ne.symm Ng2_g1.out)
  have HB2 := Aside0.mk (below_step HB1.out hb2)
  have Kg1_2 := Aside0.mk (blk_below Kg1.out hb2)
  clear hb2
  have Gg2 := Aside0.mk (show w.heap.size ≤ g2 by rw [hg2]; exact HB1.out.size)
  clear hg2 hk2
  simp only [Act.put, List.setIfInBounds_toArray, List.set_cons_zero, List.set_cons_succ]
  refine ealloc rfl rfl zero56_is ?_
  intro g3 hg3 W3 hk3 hb3
  have Kg3 := Aside0.mk hk3
  have Ng3_g1 := Aside0.mk (show g1 ≠ g3 by have := (Array.getElem?_eq_some_iff.1 Kg1_2.out).1; omega)
  have Ng1_g3 := Aside0.mk (Ne.symm Ng3_g1.out)
  have Ng3_g2 := Aside0.mk (show g2 ≠ g3 by have := (Array.getElem?_eq_some_iff.1 Kg2.out).1; omega)
  have Ng2_g3 := Aside0.mk (Ne.symm Ng3_g2.out)
  have HB3 := Aside0.mk (below_step HB2.out hb3)
  have Kg1_2_3 := Aside0.mk (blk_below Kg1_2.out hb3)
  have Kg2_3 := Aside0.mk (blk_below Kg2.out hb3)
  clear hb3
  have Gg3 := Aside0.mk (show w.heap.size ≤ g3 by rw [hg3]; exact HB2.out.size)
  clear hg3 hk3
  simp only [Act.put, List.setIfInBounds_toArray, List.set_cons_zero, List.set_cons_succ]
  by_cases hk : kind = 0
  · have hk1 := hk
    go_upto_region 1 with fail
    refine Flow.seqT (E := fun u v => Below u.heap.size u v) [(some 7, []), (some 8, [0]), (some 9, [1])] (fun iQ vQ wQ => match iQ with | 0 => vQ = (.pointer (some ⟨g1, 0, none⟩)) | 1 => vQ = (.int .i64 kind) | 2 => vQ = (.bool true) | _ => True) rfl (by kernel_rfl) (Below.refl _ _) (fun _ _ _ h k => h.trans (k.mono h.size)) (fun _ _ _ _ h _ => h) ?_ ?_
    · refine ⟨?_, ?_, ?_, trivial⟩
      · intro a w' hx hu hd K hK; have e3 : a.tmps.getD 3 undef = (.pointer (some ⟨g1, 0, none⟩)) := hu 3 rfl; exact Flow.run1 rfl (fa rfl e3 (fa56_0 _ _ _)) (hK _ _ (Below.refl _ _) rfl)
      · intro a w' hx hu hd K hK; have e7 := Flow.got (hd 0 rfl) 7 rfl; exact Flow.run1 rfl (ld rfl e7 ((blk_cell (blk_below Kg1_2_3.out hx) 0).trans rfl) Tryd.underlying3 rfl) (hK _ _ (Below.refl _ _) rfl)
      · intro a w' hx hu hd K hK; have e8 := Flow.got (hd 1 rfl) 8 rfl; exact Flow.run1 rfl (yes (eql rfl e8 rfl) (beq_iff_eq.2 hk)) (hK _ _ (Below.refl _ _) rfl)
    · intro vs W4 hb4 hT
      have v0 := Flow.eqn (hT 0 (by decide))
      have v1 := Flow.eqn (hT 1 (by decide))
      have v2 := Flow.eqn (hT 2 (by decide))
      simp only [Flow.putsT, v0, v1, v2, Act.put, List.setIfInBounds_toArray, List.set_cons_zero, List.set_cons_succ]
      clear hT v0 v1 v2
      have HB4 := Aside0.mk (below_step HB3.out hb4)
      have Kg1_2_3_4 := Aside0.mk (blk_below Kg1_2_3.out hb4)
      have Kg2_3_4 := Aside0.mk (blk_below Kg2_3.out hb4)
      have Kg3_4 := Aside0.mk (blk_below Kg3.out hb4)
      clear hb4
      go_upto_region 2 with fail
      have HP0_5 : Has g1 56 [.int .i64 kind, .int .i64 cmd, .int .i64 n0, .int .i64 n1, .int .i64 n2, .slice A nb cb, .bool fua, .int .i64 0, .int .i64 0, .slice none 0 0] 0 W4 := ⟨_, Kg1_2_3_4.out, rfl, rfl⟩
      refine Flow.flowT (E := Ke g1 56 [.int .i64 kind, .int .i64 cmd, .int .i64 n0, .int .i64 n1, .int .i64 n2, .slice A nb cb, .bool fua, .int .i64 0, .int .i64 0, .slice none 0 0] w.heap.size) [(some 10, []), (some 11, [0]), (some 12, []), (some 13, [2]), (some 14, []), (some 15, [4]), (some 16, []), (some 17, [0, 1]), (some 18, [7, 0, 1]), (none, [8, 1, 0, 1]), (some 19, [0, 1, 2, 3, 7, 8, 9]), (some 20, [10, 0, 1, 2, 3, 7, 8, 9]), (none, [11, 3, 9, 0, 1, 2, 3, 7, 8, 9]), (some 21, [0, 1, 2, 3, 4, 5, 7, 8, 9, 10, 11, 12]), (some 22, [13, 0, 1, 2, 3, 4, 5, 7, 8, 9, 10, 11, 12]), (none, [14, 5, 12, 0, 1, 2, 3, 4, 5, 7, 8, 9, 10, 11, 12]), (some 23, [0, 1, 2, 3, 4, 5, 6, 7, 8, 9, 10, 11, 12, 13, 14, 15]), (some 24, [16, 0, 1, 2, 3, 4, 5, 6, 7, 8, 9, 10, 11, 12, 13, 14, 15]), (none, [17, 6, 15, 0, 1, 2, 3, 4, 5, 6, 7, 8, 9, 10, 11, 12, 13, 14, 15])] (fun iQ vQ wQ => match iQ with | 0 => vQ = (.pointer (some ⟨g2, 0, none⟩)) | 1 => vQ = (.int .i64 n0) | 2 => vQ = (.pointer (some ⟨g2, 1, none⟩)) | 3 => vQ = (.int .i64 n1) | 4 => vQ = (.pointer (some ⟨g2, 2, none⟩)) | 5 => vQ = (.int .i64 n2) | 6 => vQ = (.slice A nb cb) | 7 => vQ = (.pointer (some ⟨g1, 1, none⟩)) | 8 => vQ = (.pointer (some ⟨g1, 2, none⟩)) | 9 => Has g1 56 [.int .i64 kind, .int .i64 cmd, .int .i64 n0, .int .i64 n1, .int .i64 n2, .slice A nb cb, .bool fua, .int .i64 0, .int .i64 0, .slice none 0 0] 2 wQ | 10 => vQ = (.pointer (some ⟨g1, 1, none⟩)) | 11 => vQ = (.pointer (some ⟨g1, 3, none⟩)) | 12 => Has g1 56 [.int .i64 kind, .int .i64 cmd, .int .i64 n0, .int .i64 n1, .int .i64 n2, .slice A nb cb, .bool fua, .int .i64 0, .int .i64 0, .slice none 0 0] 3 wQ | 13 => vQ = (.pointer (some ⟨g1, 1, none⟩)) | 14 => vQ = (.pointer (some ⟨g1, 4, none⟩)) | 15 => Has g1 56 [.int .i64 kind, .int .i64 cmd, .int .i64 n0, .int .i64 n1, .int .i64 n2, .slice A nb cb, .bool fua, .int .i64 0, .int .i64 0, .slice none 0 0] 4 wQ | 16 => vQ = (.pointer (some ⟨g1, 1, none⟩)) | 17 => vQ = (.pointer (some ⟨g1, 5, none⟩)) | 18 => Has g1 56 [.int .i64 kind, .int .i64 cmd, .int .i64 n0, .int .i64 n1, .int .i64 n2, .slice A nb cb, .bool fua, .int .i64 0, .int .i64 0, .slice none 0 0] 5 wQ | _ => True) rfl (by kernel_rfl) (by kernel_rfl) (by kernel_rfl) Ke.drew (fun _ _ _ h k => h.trans k) (fun iQ vQ w1Q w2Q hQ hEQ => match iQ, hQ with | 0, hQ => hQ | 1, hQ => hQ | 2, hQ => hQ | 3, hQ => hQ | 4, hQ => hQ | 5, hQ => hQ | 6, hQ => hQ | 7, hQ => hQ | 8, hQ => hQ | 9, hQ => hQ.keep hEQ | 10, hQ => hQ | 11, hQ => hQ | 12, hQ => hQ.keep hEQ | 13, hQ => hQ | 14, hQ => hQ | 15, hQ => hQ.keep hEQ | 16, hQ => hQ | 17, hQ => hQ | 18, hQ => hQ.keep hEQ | _ + 19, _ => trivial) ?_ ?_
      · refine ⟨?_, ?_, ?_, ?_, ?_, ?_, ?_, ?_, ?_, ?_, ?_, ?_, ?_, ?_, ?_, ?_, ?_, ?_, ?_, trivial⟩
        · intro a w' hx hu hd K hK; have e4 : a.tmps.getD 4 undef = (.pointer (some ⟨g2, 0, none⟩)) := hu 4 rfl; exact Flow.run1 rfl (ixa (i := 0) arr104_u arr104_l arr104_e size3 rfl e4 rfl (by decide)) (hK _ _ Ke.refl rfl)
        · intro a w' hx hu hd K hK; have e10 := Flow.got (hd 0 (by decide)) 10 rfl; exact Flow.run1 rfl (ld rfl e10 ((blk_cell (Ke.blk hx Ng1_g2.out Kg2_3_4.out) 0).trans rfl) Tryd.underlying3 rfl) (hK _ _ Ke.refl rfl)
        · intro a w' hx hu hd K hK; have e4 : a.tmps.getD 4 undef = (.pointer (some ⟨g2, 0, none⟩)) := hu 4 rfl; exact Flow.run1 rfl (ixa (i := 1) arr104_u arr104_l arr104_e size3 rfl e4 rfl (by decide)) (hK _ _ Ke.refl rfl)
        · intro a w' hx hu hd K hK; have e12 := Flow.got (hd 2 (by decide)) 12 rfl; exact Flow.run1 rfl (ld rfl e12 ((blk_cell (Ke.blk hx Ng1_g2.out Kg2_3_4.out) 1).trans rfl) Tryd.underlying3 rfl) (hK _ _ Ke.refl rfl)
        · intro a w' hx hu hd K hK; have e4 : a.tmps.getD 4 undef = (.pointer (some ⟨g2, 0, none⟩)) := hu 4 rfl; exact Flow.run1 rfl (ixa (i := 2) arr104_u arr104_l arr104_e size3 rfl e4 rfl (by decide)) (hK _ _ Ke.refl rfl)
        · intro a w' hx hu hd K hK; have e14 := Flow.got (hd 4 (by decide)) 14 rfl; exact Flow.run1 rfl (ld rfl e14 ((blk_cell (Ke.blk hx Ng1_g2.out Kg2_3_4.out) 2).trans rfl) Tryd.underlying3 rfl) (hK _ _ Ke.refl rfl)
        · intro a w' hx hu hd K hK; have e2 : a.tmps.getD 2 undef = (.slice A nb cb) := hu 2 rfl; exact Flow.run1 rfl (Flow.r_move rfl e2) (hK _ _ Ke.refl rfl)
        · intro a w' hx hu hd K hK; have e3 : a.tmps.getD 3 undef = (.pointer (some ⟨g1, 0, none⟩)) := hu 3 rfl; exact Flow.run1 rfl (fa rfl e3 (fa56_1 _ _ _)) (hK _ _ Ke.refl rfl)
        · intro a w' hx hu hd K hK; have e17 := Flow.got (hd 7 (by decide)) 17 rfl; exact Flow.run1 rfl (fa rfl e17 (fa54_1 _ _ _)) (hK _ _ Ke.refl rfl)
        · intro a w' hx hu hd K hK; have e18 := Flow.got (hd 8 (by decide)) 18 rfl; have e11 := Flow.got (hd 1 (by decide)) 11 rfl; refine Flow.want rfl ?_; obtain ⟨csQ, kQ, sQ⟩ := (HP0_5.keep hx).lt; obtain ⟨h1Q, h2Q⟩ := (HP0_5.keep hx).put (p := 2) (x := (.int .i64 n0)) rfl Gg1.out; exact Flow.skip_run (store1 (v := (.int .i64 n0)) rfl e18 e11 rfl size3 kQ (by rw [sQ]; exact (show 2 < 10 by decide))) (hK _ _ h1Q h2Q)
        · intro a w' hx hu hd K hK; have e3 : a.tmps.getD 3 undef = (.pointer (some ⟨g1, 0, none⟩)) := hu 3 rfl; exact Flow.run1 rfl (fa rfl e3 (fa56_1 _ _ _)) (hK _ _ Ke.refl rfl)
        · intro a w' hx hu hd K hK; have e19 := Flow.got (hd 10 (by decide)) 19 rfl; exact Flow.run1 rfl (fa rfl e19 (fa54_2 _ _ _)) (hK _ _ Ke.refl rfl)
        · intro a w' hx hu hd K hK; have e20 := Flow.got (hd 11 (by decide)) 20 rfl; have e13 := Flow.got (hd 3 (by decide)) 13 rfl; refine Flow.want rfl ?_; obtain ⟨csQ, kQ, sQ⟩ := (HP0_5.keep hx).lt; obtain ⟨h1Q, h2Q⟩ := (HP0_5.keep hx).put (p := 3) (x := (.int .i64 n1)) rfl Gg1.out; exact Flow.skip_run (store1 (v := (.int .i64 n1)) rfl e20 e13 rfl size3 kQ (by rw [sQ]; exact (show 3 < 10 by decide))) (hK _ _ h1Q h2Q)
        · intro a w' hx hu hd K hK; have e3 : a.tmps.getD 3 undef = (.pointer (some ⟨g1, 0, none⟩)) := hu 3 rfl; exact Flow.run1 rfl (fa rfl e3 (fa56_1 _ _ _)) (hK _ _ Ke.refl rfl)
        · intro a w' hx hu hd K hK; have e21 := Flow.got (hd 13 (by decide)) 21 rfl; exact Flow.run1 rfl (fa rfl e21 (fa54_3 _ _ _)) (hK _ _ Ke.refl rfl)
        · intro a w' hx hu hd K hK; have e22 := Flow.got (hd 14 (by decide)) 22 rfl; have e15 := Flow.got (hd 5 (by decide)) 15 rfl; refine Flow.want rfl ?_; obtain ⟨csQ, kQ, sQ⟩ := (HP0_5.keep hx).lt; obtain ⟨h1Q, h2Q⟩ := (HP0_5.keep hx).put (p := 4) (x := (.int .i64 n2)) rfl Gg1.out; exact Flow.skip_run (store1 (v := (.int .i64 n2)) rfl e22 e15 rfl size3 kQ (by rw [sQ]; exact (show 4 < 10 by decide))) (hK _ _ h1Q h2Q)
        · intro a w' hx hu hd K hK; have e3 : a.tmps.getD 3 undef = (.pointer (some ⟨g1, 0, none⟩)) := hu 3 rfl; exact Flow.run1 rfl (fa rfl e3 (fa56_1 _ _ _)) (hK _ _ Ke.refl rfl)
        · intro a w' hx hu hd K hK; have e23 := Flow.got (hd 16 (by decide)) 23 rfl; exact Flow.run1 rfl (fa rfl e23 (fa54_4 _ _ _)) (hK _ _ Ke.refl rfl)
        · intro a w' hx hu hd K hK; have e24 := Flow.got (hd 17 (by decide)) 24 rfl; have e16 := Flow.got (hd 6 (by decide)) 16 rfl; refine Flow.want rfl ?_; obtain ⟨csQ, kQ, sQ⟩ := (HP0_5.keep hx).lt; obtain ⟨h1Q, h2Q⟩ := (HP0_5.keep hx).put (p := 5) (x := (.slice A nb cb)) rfl Gg1.out; exact Flow.skip_run (store1 (v := (.slice A nb cb)) rfl e24 e16 rfl size43 kQ (by rw [sQ]; exact (show 5 < 10 by decide))) (hK _ _ h1Q h2Q)
      · intro vs W5 hb5 hT
        have hk5 : W5.heap[g1]? = some (.cells ([.int .i64 kind, .int .i64 cmd, .int .i64 n0, .int .i64 n1, .int .i64 n2, .slice A nb cb, .bool fua, .int .i64 0, .int .i64 0, .slice none 0 0] : List Value).toArray 56 (0, 0)) := has_all (show 0 < 10 by decide) (fun p hp => by
          match p, hp with
          | 0, _ => exact Has.keep (has_of Kg1_2_3_4.out rfl 0 rfl) hb5
          | 1, _ => exact Has.keep (has_of Kg1_2_3_4.out rfl 1 rfl) hb5
          | 2, _ => exact hT 9 (by decide)
          | 3, _ => exact hT 12 (by decide)
          | 4, _ => exact hT 15 (by decide)
          | 5, _ => exact hT 18 (by decide)
          | 6, _ => exact Has.keep (has_of Kg1_2_3_4.out rfl 6 rfl) hb5
          | 7, _ => exact Has.keep (has_of Kg1_2_3_4.out rfl 7 rfl) hb5
          | 8, _ => exact Has.keep (has_of Kg1_2_3_4.out rfl 8 rfl) hb5
          | 9, _ => exact Has.keep (has_of Kg1_2_3_4.out rfl 9 rfl) hb5
          | p + 10, hp => exact absurd hp (by simp))
        have v0 := Flow.eqn (hT 0 (by decide))
        have v1 := Flow.eqn (hT 1 (by decide))
        have v2 := Flow.eqn (hT 2 (by decide))
        have v3 := Flow.eqn (hT 3 (by decide))
        have v4 := Flow.eqn (hT 4 (by decide))
        have v5 := Flow.eqn (hT 5 (by decide))
        have v6 := Flow.eqn (hT 6 (by decide))
        have v7 := Flow.eqn (hT 7 (by decide))
        have v8 := Flow.eqn (hT 8 (by decide))
        have v10 := Flow.eqn (hT 10 (by decide))
        have v11 := Flow.eqn (hT 11 (by decide))
        have v13 := Flow.eqn (hT 13 (by decide))
        have v14 := Flow.eqn (hT 14 (by decide))
        have v16 := Flow.eqn (hT 16 (by decide))
        have v17 := Flow.eqn (hT 17 (by decide))
        simp only [Flow.putsT, v0, v1, v2, v3, v4, v5, v6, v7, v8, v10, v11, v13, v14, v16, v17, Act.put, List.setIfInBounds_toArray, List.set_cons_zero, List.set_cons_succ]
        clear hT v0 v1 v2 v3 v4 v5 v6 v7 v8 v10 v11 v13 v14 v16 v17
        have HB5 := Aside0.mk (HB4.out.trans hb5.1)
        have Kg1_5 := Aside0.mk hk5
        have Kg2_3_4_5 := Aside0.mk (Ke.blk hb5 Ng1_g2.out Kg2_3_4.out)
        have Kg3_4_5 := Aside0.mk (Ke.blk hb5 Ng1_g3.out Kg3_4.out)
        clear hb5 hk5
        go_upto_region 3 with fail
        refine Flow.seqT_head (E := fun u v => Below u.heap.size u v) 1 [(some 25, []), (none, [0, 0])] (fun iQ vQ wQ => match iQ with | 0 => vQ = (.agg #[.int .i64 kind, .int .i64 cmd, .int .i64 n0, .int .i64 n1, .int .i64 n2, .slice A nb cb, .bool fua, .int .i64 0, .int .i64 0, .slice none 0 0]) | _ => True) rfl (by decide) (by kernel_rfl) (Below.refl _ _) (fun _ _ _ h k => h.trans (k.mono h.size)) (fun _ _ _ _ h _ => h) ?_ ?_
        · refine ⟨?_, trivial⟩
          · intro a w' hx hu hd K hK; have e3 : a.tmps.getD 3 undef = (.pointer (some ⟨g1, 0, none⟩)) := hu 3 rfl; exact Flow.run1 rfl (ldrow rfl e3 (lies_block (blk_below Kg1_5.out hx)) Tryd.underlying56 rfl size56) (hK _ _ (Below.refl _ _) rfl)
        · intro vs W6 hb6 hT
          have v0 := Flow.eqn (hT 0 (by decide))
          simp only [Flow.putsT, v0, Act.put, List.setIfInBounds_toArray, List.set_cons_zero, List.set_cons_succ, List.drop_succ_cons, List.drop_zero, List.take_succ_cons, List.take_zero]
          clear hT v0
          have HB6 := Aside0.mk (below_step HB5.out hb6)
          have Kg1_5_6 := Aside0.mk (blk_below Kg1_5.out hb6)
          have Kg2_3_4_5_6 := Aside0.mk (blk_below Kg2_3_4_5.out hb6)
          have Kg3_4_5_6 := Aside0.mk (blk_below Kg3_4_5.out hb6)
          clear hb6
          refine Cells.store_whole rfl rfl 56 _ _ rfl g3 [.int .i64 kind, .int .i64 cmd, .int .i64 n0, .int .i64 n1, .int .i64 n2, .slice A nb cb, .bool fua, .int .i64 0, .int .i64 0, .slice none 0 0] #[.int .i64 0, .int .i64 0, .int .i64 0, .int .i64 0, .int .i64 0, .slice none 0 0, .bool false, .int .i64 0, .int .i64 0, .slice none 0 0] rfl rfl Kg3_4_5_6.out rfl size56 rfl ?_
          intro W7 hk7 hf7 hb7
          have HB7 := Aside0.mk (HB6.out.trans (hb7 _ Gg3.out))
          have Kg1_5_6_7 := Aside0.mk ((hf7 _ Ng3_g1.out).trans Kg1_5_6.out)
          have Kg2_3_4_5_6_7 := Aside0.mk ((hf7 _ Ng3_g2.out).trans Kg2_3_4_5_6.out)
          have Kg3_7 := Aside0.mk hk7
          clear hk7 hf7 hb7
          have HFC : fillC kind cmd fua n0 n1 n2 (.slice A nb cb) = [.int .i64 kind, .int .i64 cmd, .int .i64 n0, .int .i64 n1, .int .i64 n2, .slice A nb cb, .bool fua, .int .i64 0, .int .i64 0, .slice none 0 0] := by unfold fillC; rw [if_pos hk]
          go_wp2_with fail
          exact bodyPost_ret (results_cell_row Tryd.results53 _ _ g3 56 _ _ _ rfl Kg3_7.out Tryd.underlying56 rfl size56) rfl ⟨by rw [HFC], HB7.out⟩
  · have hk1 := hk
    go_upto_region 1 with fail
    refine Flow.seqT (E := fun u v => Below u.heap.size u v) [(some 7, []), (some 8, [0]), (some 9, [1])] (fun iQ vQ wQ => match iQ with | 0 => vQ = (.pointer (some ⟨g1, 0, none⟩)) | 1 => vQ = (.int .i64 kind) | 2 => vQ = (.bool false) | _ => True) rfl (by kernel_rfl) (Below.refl _ _) (fun _ _ _ h k => h.trans (k.mono h.size)) (fun _ _ _ _ h _ => h) ?_ ?_
    · refine ⟨?_, ?_, ?_, trivial⟩
      · intro a w' hx hu hd K hK; have e3 : a.tmps.getD 3 undef = (.pointer (some ⟨g1, 0, none⟩)) := hu 3 rfl; exact Flow.run1 rfl (fa rfl e3 (fa56_0 _ _ _)) (hK _ _ (Below.refl _ _) rfl)
      · intro a w' hx hu hd K hK; have e7 := Flow.got (hd 0 rfl) 7 rfl; exact Flow.run1 rfl (ld rfl e7 ((blk_cell (blk_below Kg1_2_3.out hx) 0).trans rfl) Tryd.underlying3 rfl) (hK _ _ (Below.refl _ _) rfl)
      · intro a w' hx hu hd K hK; have e8 := Flow.got (hd 1 rfl) 8 rfl; exact Flow.run1 rfl (no (eql rfl e8 rfl) (beq_eq_false_iff_ne.2 hk)) (hK _ _ (Below.refl _ _) rfl)
    · intro vs W8 hb8 hT
      have v0 := Flow.eqn (hT 0 (by decide))
      have v1 := Flow.eqn (hT 1 (by decide))
      have v2 := Flow.eqn (hT 2 (by decide))
      simp only [Flow.putsT, v0, v1, v2, Act.put, List.setIfInBounds_toArray, List.set_cons_zero, List.set_cons_succ]
      clear hT v0 v1 v2
      have HB8 := Aside0.mk (below_step HB3.out hb8)
      have Kg1_2_3_8 := Aside0.mk (blk_below Kg1_2_3.out hb8)
      have Kg2_3_8 := Aside0.mk (blk_below Kg2_3.out hb8)
      have Kg3_8 := Aside0.mk (blk_below Kg3.out hb8)
      clear hb8
      go_upto_region 4 with fail
      refine Flow.seqT_head (E := fun u v => Below u.heap.size u v) 2 [(some 26, []), (some 27, [0]), (none, [1, 0, 0])] (fun iQ vQ wQ => match iQ with | 0 => vQ = (.slice A nb cb) | 1 => vQ = (.pointer (some ⟨g1, 9, none⟩)) | _ => True) rfl (by decide) (by kernel_rfl) (Below.refl _ _) (fun _ _ _ h k => h.trans (k.mono h.size)) (fun _ _ _ _ h _ => h) ?_ ?_
      · refine ⟨?_, ?_, trivial⟩
        · intro a w' hx hu hd K hK; have e2 : a.tmps.getD 2 undef = (.slice A nb cb) := hu 2 rfl; exact Flow.run1 rfl (Flow.r_move rfl e2) (hK _ _ (Below.refl _ _) rfl)
        · intro a w' hx hu hd K hK; have e3 : a.tmps.getD 3 undef = (.pointer (some ⟨g1, 0, none⟩)) := hu 3 rfl; exact Flow.run1 rfl (fa rfl e3 (fa56_4 _ _ _)) (hK _ _ (Below.refl _ _) rfl)
      · intro vs W9 hb9 hT
        have v0 := Flow.eqn (hT 0 (by decide))
        have v1 := Flow.eqn (hT 1 (by decide))
        simp only [Flow.putsT, v0, v1, Act.put, List.setIfInBounds_toArray, List.set_cons_zero, List.set_cons_succ, List.drop_succ_cons, List.drop_zero, List.take_succ_cons, List.take_zero]
        clear hT v0 v1
        have HB9 := Aside0.mk (below_step HB8.out hb9)
        have Kg1_2_3_8_9 := Aside0.mk (blk_below Kg1_2_3_8.out hb9)
        have Kg2_3_8_9 := Aside0.mk (blk_below Kg2_3_8.out hb9)
        have Kg3_8_9 := Aside0.mk (blk_below Kg3_8.out hb9)
        clear hb9
        refine put_event rfl rfl 43 _ _ rfl g1 (9) (.slice A nb cb) #[.int .i64 kind, .int .i64 cmd, .int .i64 0, .int .i64 0, .int .i64 0, .slice none 0 0, .bool fua, .int .i64 0, .int .i64 0, .slice none 0 0] #[.int .i64 kind, .int .i64 cmd, .int .i64 0, .int .i64 0, .int .i64 0, .slice none 0 0, .bool fua, .int .i64 0, .int .i64 0, .slice A nb cb] rfl rfl rfl size43 Kg1_2_3_8_9.out (show 9 < 10 by decide) rfl ?_
        intro W10 hk10 hf10 hb10
        have HB10 := Aside0.mk (HB9.out.trans (hb10 _ Gg1.out))
        have Kg1_10 := Aside0.mk hk10
        have Kg2_3_8_9_10 := Aside0.mk ((hf10 _ Ng1_g2.out).trans Kg2_3_8_9.out)
        have Kg3_8_9_10 := Aside0.mk ((hf10 _ Ng1_g3.out).trans Kg3_8_9.out)
        clear hk10 hf10 hb10
        by_cases hk2 : kind = 1
        · have hk3 := hk2
          go_upto_region 5 with fail
          refine Flow.seqT (E := fun u v => Below u.heap.size u v) [(some 28, []), (some 29, [0]), (some 30, [1])] (fun iQ vQ wQ => match iQ with | 0 => vQ = (.pointer (some ⟨g1, 0, none⟩)) | 1 => vQ = (.int .i64 kind) | 2 => vQ = (.bool true) | _ => True) rfl (by kernel_rfl) (Below.refl _ _) (fun _ _ _ h k => h.trans (k.mono h.size)) (fun _ _ _ _ h _ => h) ?_ ?_
          · refine ⟨?_, ?_, ?_, trivial⟩
            · intro a w' hx hu hd K hK; have e3 : a.tmps.getD 3 undef = (.pointer (some ⟨g1, 0, none⟩)) := hu 3 rfl; exact Flow.run1 rfl (fa rfl e3 (fa56_0 _ _ _)) (hK _ _ (Below.refl _ _) rfl)
            · intro a w' hx hu hd K hK; have e28 := Flow.got (hd 0 rfl) 28 rfl; exact Flow.run1 rfl (ld rfl e28 ((blk_cell (blk_below Kg1_10.out hx) 0).trans rfl) Tryd.underlying3 rfl) (hK _ _ (Below.refl _ _) rfl)
            · intro a w' hx hu hd K hK; have e29 := Flow.got (hd 1 rfl) 29 rfl; exact Flow.run1 rfl (yes (eql rfl e29 rfl) (beq_iff_eq.2 hk2)) (hK _ _ (Below.refl _ _) rfl)
          · intro vs W11 hb11 hT
            have v0 := Flow.eqn (hT 0 (by decide))
            have v1 := Flow.eqn (hT 1 (by decide))
            have v2 := Flow.eqn (hT 2 (by decide))
            simp only [Flow.putsT, v0, v1, v2, Act.put, List.setIfInBounds_toArray, List.set_cons_zero, List.set_cons_succ]
            clear hT v0 v1 v2
            have HB11 := Aside0.mk (below_step HB10.out hb11)
            have Kg1_10_11 := Aside0.mk (blk_below Kg1_10.out hb11)
            have Kg2_3_8_9_10_11 := Aside0.mk (blk_below Kg2_3_8_9_10.out hb11)
            have Kg3_8_9_10_11 := Aside0.mk (blk_below Kg3_8_9_10.out hb11)
            clear hb11
            go_upto_region 6 with fail
            refine Flow.seqT_head (E := fun u v => Below u.heap.size u v) 3 [(some 31, []), (some 32, [0]), (some 33, [0, 1]), (none, [2, 1, 0, 1])] (fun iQ vQ wQ => match iQ with | 0 => vQ = (.pointer (some ⟨g2, 0, none⟩)) | 1 => vQ = (.int .i64 n0) | 2 => vQ = (.pointer (some ⟨g1, 8, none⟩)) | _ => True) rfl (by decide) (by kernel_rfl) (Below.refl _ _) (fun _ _ _ h k => h.trans (k.mono h.size)) (fun _ _ _ _ h _ => h) ?_ ?_
            · refine ⟨?_, ?_, ?_, trivial⟩
              · intro a w' hx hu hd K hK; have e4 : a.tmps.getD 4 undef = (.pointer (some ⟨g2, 0, none⟩)) := hu 4 rfl; exact Flow.run1 rfl (ixa (i := 0) arr104_u arr104_l arr104_e size3 rfl e4 rfl (by decide)) (hK _ _ (Below.refl _ _) rfl)
              · intro a w' hx hu hd K hK; have e31 := Flow.got (hd 0 rfl) 31 rfl; exact Flow.run1 rfl (ld rfl e31 ((blk_cell (blk_below Kg2_3_8_9_10_11.out hx) 0).trans rfl) Tryd.underlying3 rfl) (hK _ _ (Below.refl _ _) rfl)
              · intro a w' hx hu hd K hK; have e3 : a.tmps.getD 3 undef = (.pointer (some ⟨g1, 0, none⟩)) := hu 3 rfl; exact Flow.run1 rfl (fa rfl e3 (fa56_3 _ _ _)) (hK _ _ (Below.refl _ _) rfl)
            · intro vs W12 hb12 hT
              have v0 := Flow.eqn (hT 0 (by decide))
              have v1 := Flow.eqn (hT 1 (by decide))
              have v2 := Flow.eqn (hT 2 (by decide))
              simp only [Flow.putsT, v0, v1, v2, Act.put, List.setIfInBounds_toArray, List.set_cons_zero, List.set_cons_succ, List.drop_succ_cons, List.drop_zero, List.take_succ_cons, List.take_zero]
              clear hT v0 v1 v2
              have HB12 := Aside0.mk (below_step HB11.out hb12)
              have Kg1_10_11_12 := Aside0.mk (blk_below Kg1_10_11.out hb12)
              have Kg2_3_8_9_10_11_12 := Aside0.mk (blk_below Kg2_3_8_9_10_11.out hb12)
              have Kg3_8_9_10_11_12 := Aside0.mk (blk_below Kg3_8_9_10_11.out hb12)
              clear hb12
              refine put_event rfl rfl 3 _ _ rfl g1 (8) (.int .i64 n0) #[.int .i64 kind, .int .i64 cmd, .int .i64 0, .int .i64 0, .int .i64 0, .slice none 0 0, .bool fua, .int .i64 0, .int .i64 0, .slice A nb cb] #[.int .i64 kind, .int .i64 cmd, .int .i64 0, .int .i64 0, .int .i64 0, .slice none 0 0, .bool fua, .int .i64 0, .int .i64 n0, .slice A nb cb] rfl rfl rfl size3 Kg1_10_11_12.out (show 8 < 10 by decide) rfl ?_
              intro W13 hk13 hf13 hb13
              have HB13 := Aside0.mk (HB12.out.trans (hb13 _ Gg1.out))
              have Kg1_13 := Aside0.mk hk13
              have Kg2_3_8_9_10_11_12_13 := Aside0.mk ((hf13 _ Ng1_g2.out).trans Kg2_3_8_9_10_11_12.out)
              have Kg3_8_9_10_11_12_13 := Aside0.mk ((hf13 _ Ng1_g3.out).trans Kg3_8_9_10_11_12.out)
              clear hk13 hf13 hb13
              go_upto_region 7 with fail
              refine Flow.seqT_head (E := fun u v => Below u.heap.size u v) 1 [(some 34, []), (none, [0, 0])] (fun iQ vQ wQ => match iQ with | 0 => vQ = (.agg #[.int .i64 kind, .int .i64 cmd, .int .i64 0, .int .i64 0, .int .i64 0, .slice none 0 0, .bool fua, .int .i64 0, .int .i64 n0, .slice A nb cb]) | _ => True) rfl (by decide) (by kernel_rfl) (Below.refl _ _) (fun _ _ _ h k => h.trans (k.mono h.size)) (fun _ _ _ _ h _ => h) ?_ ?_
              · refine ⟨?_, trivial⟩
                · intro a w' hx hu hd K hK; have e3 : a.tmps.getD 3 undef = (.pointer (some ⟨g1, 0, none⟩)) := hu 3 rfl; exact Flow.run1 rfl (ldrow rfl e3 (lies_block (blk_below Kg1_13.out hx)) Tryd.underlying56 rfl size56) (hK _ _ (Below.refl _ _) rfl)
              · intro vs W14 hb14 hT
                have v0 := Flow.eqn (hT 0 (by decide))
                simp only [Flow.putsT, v0, Act.put, List.setIfInBounds_toArray, List.set_cons_zero, List.set_cons_succ, List.drop_succ_cons, List.drop_zero, List.take_succ_cons, List.take_zero]
                clear hT v0
                have HB14 := Aside0.mk (below_step HB13.out hb14)
                have Kg1_13_14 := Aside0.mk (blk_below Kg1_13.out hb14)
                have Kg2_3_8_9_10_11_12_13_14 := Aside0.mk (blk_below Kg2_3_8_9_10_11_12_13.out hb14)
                have Kg3_8_9_10_11_12_13_14 := Aside0.mk (blk_below Kg3_8_9_10_11_12_13.out hb14)
                clear hb14
                refine Cells.store_whole rfl rfl 56 _ _ rfl g3 [.int .i64 kind, .int .i64 cmd, .int .i64 0, .int .i64 0, .int .i64 0, .slice none 0 0, .bool fua, .int .i64 0, .int .i64 n0, .slice A nb cb] #[.int .i64 0, .int .i64 0, .int .i64 0, .int .i64 0, .int .i64 0, .slice none 0 0, .bool false, .int .i64 0, .int .i64 0, .slice none 0 0] rfl rfl Kg3_8_9_10_11_12_13_14.out rfl size56 rfl ?_
                intro W15 hk15 hf15 hb15
                have HB15 := Aside0.mk (HB14.out.trans (hb15 _ Gg3.out))
                have Kg1_13_14_15 := Aside0.mk ((hf15 _ Ng3_g1.out).trans Kg1_13_14.out)
                have Kg2_3_8_9_10_11_12_13_14_15 := Aside0.mk ((hf15 _ Ng3_g2.out).trans Kg2_3_8_9_10_11_12_13_14.out)
                have Kg3_15 := Aside0.mk hk15
                clear hk15 hf15 hb15
                have HFC : fillC kind cmd fua n0 n1 n2 (.slice A nb cb) = [.int .i64 kind, .int .i64 cmd, .int .i64 0, .int .i64 0, .int .i64 0, .slice none 0 0, .bool fua, .int .i64 0, .int .i64 n0, .slice A nb cb] := by unfold fillC; rw [if_neg hk, if_pos hk2]
                go_wp2_with fail
                exact bodyPost_ret (results_cell_row Tryd.results53 _ _ g3 56 _ _ _ rfl Kg3_15.out Tryd.underlying56 rfl size56) rfl ⟨by rw [HFC], HB15.out⟩
        · have hk3 := hk2
          go_upto_region 5 with fail
          refine Flow.seqT (E := fun u v => Below u.heap.size u v) [(some 28, []), (some 29, [0]), (some 30, [1])] (fun iQ vQ wQ => match iQ with | 0 => vQ = (.pointer (some ⟨g1, 0, none⟩)) | 1 => vQ = (.int .i64 kind) | 2 => vQ = (.bool false) | _ => True) rfl (by kernel_rfl) (Below.refl _ _) (fun _ _ _ h k => h.trans (k.mono h.size)) (fun _ _ _ _ h _ => h) ?_ ?_
          · refine ⟨?_, ?_, ?_, trivial⟩
            · intro a w' hx hu hd K hK; have e3 : a.tmps.getD 3 undef = (.pointer (some ⟨g1, 0, none⟩)) := hu 3 rfl; exact Flow.run1 rfl (fa rfl e3 (fa56_0 _ _ _)) (hK _ _ (Below.refl _ _) rfl)
            · intro a w' hx hu hd K hK; have e28 := Flow.got (hd 0 rfl) 28 rfl; exact Flow.run1 rfl (ld rfl e28 ((blk_cell (blk_below Kg1_10.out hx) 0).trans rfl) Tryd.underlying3 rfl) (hK _ _ (Below.refl _ _) rfl)
            · intro a w' hx hu hd K hK; have e29 := Flow.got (hd 1 rfl) 29 rfl; exact Flow.run1 rfl (no (eql rfl e29 rfl) (beq_eq_false_iff_ne.2 hk2)) (hK _ _ (Below.refl _ _) rfl)
          · intro vs W16 hb16 hT
            have v0 := Flow.eqn (hT 0 (by decide))
            have v1 := Flow.eqn (hT 1 (by decide))
            have v2 := Flow.eqn (hT 2 (by decide))
            simp only [Flow.putsT, v0, v1, v2, Act.put, List.setIfInBounds_toArray, List.set_cons_zero, List.set_cons_succ]
            clear hT v0 v1 v2
            have HB16 := Aside0.mk (below_step HB10.out hb16)
            have Kg1_10_16 := Aside0.mk (blk_below Kg1_10.out hb16)
            have Kg2_3_8_9_10_16 := Aside0.mk (blk_below Kg2_3_8_9_10.out hb16)
            have Kg3_8_9_10_16 := Aside0.mk (blk_below Kg3_8_9_10.out hb16)
            clear hb16
            go_upto_region 8 with fail
            have HP0_17 : Has g1 56 [.int .i64 kind, .int .i64 cmd, .int .i64 0, .int .i64 0, .int .i64 0, .slice none 0 0, .bool fua, .int .i64 n0, .int .i64 n1, .slice A nb cb] 0 W16 := ⟨_, Kg1_10_16.out, rfl, rfl⟩
            refine Flow.flowT (E := Ke g1 56 [.int .i64 kind, .int .i64 cmd, .int .i64 0, .int .i64 0, .int .i64 0, .slice none 0 0, .bool fua, .int .i64 n0, .int .i64 n1, .slice A nb cb] w.heap.size) [(some 35, []), (some 36, [0]), (some 37, []), (some 38, [2]), (some 39, [0, 1]), (none, [4, 1, 0, 1]), (some 40, [0, 1, 2, 3, 4, 5]), (none, [6, 3, 5, 0, 1, 2, 3, 4, 5])] (fun iQ vQ wQ => match iQ with | 0 => vQ = (.pointer (some ⟨g2, 0, none⟩)) | 1 => vQ = (.int .i64 n0) | 2 => vQ = (.pointer (some ⟨g2, 1, none⟩)) | 3 => vQ = (.int .i64 n1) | 4 => vQ = (.pointer (some ⟨g1, 7, none⟩)) | 5 => Has g1 56 [.int .i64 kind, .int .i64 cmd, .int .i64 0, .int .i64 0, .int .i64 0, .slice none 0 0, .bool fua, .int .i64 n0, .int .i64 n1, .slice A nb cb] 7 wQ | 6 => vQ = (.pointer (some ⟨g1, 8, none⟩)) | 7 => Has g1 56 [.int .i64 kind, .int .i64 cmd, .int .i64 0, .int .i64 0, .int .i64 0, .slice none 0 0, .bool fua, .int .i64 n0, .int .i64 n1, .slice A nb cb] 8 wQ | _ => True) rfl (by kernel_rfl) (by kernel_rfl) (by kernel_rfl) Ke.drew (fun _ _ _ h k => h.trans k) (fun iQ vQ w1Q w2Q hQ hEQ => match iQ, hQ with | 0, hQ => hQ | 1, hQ => hQ | 2, hQ => hQ | 3, hQ => hQ | 4, hQ => hQ | 5, hQ => hQ.keep hEQ | 6, hQ => hQ | 7, hQ => hQ.keep hEQ | _ + 8, _ => trivial) ?_ ?_
            · refine ⟨?_, ?_, ?_, ?_, ?_, ?_, ?_, ?_, trivial⟩
              · intro a w' hx hu hd K hK; have e4 : a.tmps.getD 4 undef = (.pointer (some ⟨g2, 0, none⟩)) := hu 4 rfl; exact Flow.run1 rfl (ixa (i := 0) arr104_u arr104_l arr104_e size3 rfl e4 rfl (by decide)) (hK _ _ Ke.refl rfl)
              · intro a w' hx hu hd K hK; have e35 := Flow.got (hd 0 (by decide)) 35 rfl; exact Flow.run1 rfl (ld rfl e35 ((blk_cell (Ke.blk hx Ng1_g2.out Kg2_3_8_9_10_16.out) 0).trans rfl) Tryd.underlying3 rfl) (hK _ _ Ke.refl rfl)
              · intro a w' hx hu hd K hK; have e4 : a.tmps.getD 4 undef = (.pointer (some ⟨g2, 0, none⟩)) := hu 4 rfl; exact Flow.run1 rfl (ixa (i := 1) arr104_u arr104_l arr104_e size3 rfl e4 rfl (by decide)) (hK _ _ Ke.refl rfl)
              · intro a w' hx hu hd K hK; have e37 := Flow.got (hd 2 (by decide)) 37 rfl; exact Flow.run1 rfl (ld rfl e37 ((blk_cell (Ke.blk hx Ng1_g2.out Kg2_3_8_9_10_16.out) 1).trans rfl) Tryd.underlying3 rfl) (hK _ _ Ke.refl rfl)
              · intro a w' hx hu hd K hK; have e3 : a.tmps.getD 3 undef = (.pointer (some ⟨g1, 0, none⟩)) := hu 3 rfl; exact Flow.run1 rfl (fa rfl e3 (fa56_2 _ _ _)) (hK _ _ Ke.refl rfl)
              · intro a w' hx hu hd K hK; have e39 := Flow.got (hd 4 (by decide)) 39 rfl; have e36 := Flow.got (hd 1 (by decide)) 36 rfl; refine Flow.want rfl ?_; obtain ⟨csQ, kQ, sQ⟩ := (HP0_17.keep hx).lt; obtain ⟨h1Q, h2Q⟩ := (HP0_17.keep hx).put (p := 7) (x := (.int .i64 n0)) rfl Gg1.out; exact Flow.skip_run (store1 (v := (.int .i64 n0)) rfl e39 e36 rfl size3 kQ (by rw [sQ]; exact (show 7 < 10 by decide))) (hK _ _ h1Q h2Q)
              · intro a w' hx hu hd K hK; have e3 : a.tmps.getD 3 undef = (.pointer (some ⟨g1, 0, none⟩)) := hu 3 rfl; exact Flow.run1 rfl (fa rfl e3 (fa56_3 _ _ _)) (hK _ _ Ke.refl rfl)
              · intro a w' hx hu hd K hK; have e40 := Flow.got (hd 6 (by decide)) 40 rfl; have e38 := Flow.got (hd 3 (by decide)) 38 rfl; refine Flow.want rfl ?_; obtain ⟨csQ, kQ, sQ⟩ := (HP0_17.keep hx).lt; obtain ⟨h1Q, h2Q⟩ := (HP0_17.keep hx).put (p := 8) (x := (.int .i64 n1)) rfl Gg1.out; exact Flow.skip_run (store1 (v := (.int .i64 n1)) rfl e40 e38 rfl size3 kQ (by rw [sQ]; exact (show 8 < 10 by decide))) (hK _ _ h1Q h2Q)
            · intro vs W17 hb17 hT
              have hk17 : W17.heap[g1]? = some (.cells ([.int .i64 kind, .int .i64 cmd, .int .i64 0, .int .i64 0, .int .i64 0, .slice none 0 0, .bool fua, .int .i64 n0, .int .i64 n1, .slice A nb cb] : List Value).toArray 56 (0, 0)) := has_all (show 0 < 10 by decide) (fun p hp => by
                match p, hp with
                | 0, _ => exact Has.keep (has_of Kg1_10_16.out rfl 0 rfl) hb17
                | 1, _ => exact Has.keep (has_of Kg1_10_16.out rfl 1 rfl) hb17
                | 2, _ => exact Has.keep (has_of Kg1_10_16.out rfl 2 rfl) hb17
                | 3, _ => exact Has.keep (has_of Kg1_10_16.out rfl 3 rfl) hb17
                | 4, _ => exact Has.keep (has_of Kg1_10_16.out rfl 4 rfl) hb17
                | 5, _ => exact Has.keep (has_of Kg1_10_16.out rfl 5 rfl) hb17
                | 6, _ => exact Has.keep (has_of Kg1_10_16.out rfl 6 rfl) hb17
                | 7, _ => exact hT 5 (by decide)
                | 8, _ => exact hT 7 (by decide)
                | 9, _ => exact Has.keep (has_of Kg1_10_16.out rfl 9 rfl) hb17
                | p + 10, hp => exact absurd hp (by simp))
              have v0 := Flow.eqn (hT 0 (by decide))
              have v1 := Flow.eqn (hT 1 (by decide))
              have v2 := Flow.eqn (hT 2 (by decide))
              have v3 := Flow.eqn (hT 3 (by decide))
              have v4 := Flow.eqn (hT 4 (by decide))
              have v6 := Flow.eqn (hT 6 (by decide))
              simp only [Flow.putsT, v0, v1, v2, v3, v4, v6, Act.put, List.setIfInBounds_toArray, List.set_cons_zero, List.set_cons_succ]
              clear hT v0 v1 v2 v3 v4 v6
              have HB17 := Aside0.mk (HB16.out.trans hb17.1)
              have Kg1_17 := Aside0.mk hk17
              have Kg2_3_8_9_10_16_17 := Aside0.mk (Ke.blk hb17 Ng1_g2.out Kg2_3_8_9_10_16.out)
              have Kg3_8_9_10_16_17 := Aside0.mk (Ke.blk hb17 Ng1_g3.out Kg3_8_9_10_16.out)
              clear hb17 hk17
              go_upto_region 9 with fail
              refine Flow.seqT_head (E := fun u v => Below u.heap.size u v) 1 [(some 41, []), (none, [0, 0])] (fun iQ vQ wQ => match iQ with | 0 => vQ = (.agg #[.int .i64 kind, .int .i64 cmd, .int .i64 0, .int .i64 0, .int .i64 0, .slice none 0 0, .bool fua, .int .i64 n0, .int .i64 n1, .slice A nb cb]) | _ => True) rfl (by decide) (by kernel_rfl) (Below.refl _ _) (fun _ _ _ h k => h.trans (k.mono h.size)) (fun _ _ _ _ h _ => h) ?_ ?_
              · refine ⟨?_, trivial⟩
                · intro a w' hx hu hd K hK; have e3 : a.tmps.getD 3 undef = (.pointer (some ⟨g1, 0, none⟩)) := hu 3 rfl; exact Flow.run1 rfl (ldrow rfl e3 (lies_block (blk_below Kg1_17.out hx)) Tryd.underlying56 rfl size56) (hK _ _ (Below.refl _ _) rfl)
              · intro vs W18 hb18 hT
                have v0 := Flow.eqn (hT 0 (by decide))
                simp only [Flow.putsT, v0, Act.put, List.setIfInBounds_toArray, List.set_cons_zero, List.set_cons_succ, List.drop_succ_cons, List.drop_zero, List.take_succ_cons, List.take_zero]
                clear hT v0
                have HB18 := Aside0.mk (below_step HB17.out hb18)
                have Kg1_17_18 := Aside0.mk (blk_below Kg1_17.out hb18)
                have Kg2_3_8_9_10_16_17_18 := Aside0.mk (blk_below Kg2_3_8_9_10_16_17.out hb18)
                have Kg3_8_9_10_16_17_18 := Aside0.mk (blk_below Kg3_8_9_10_16_17.out hb18)
                clear hb18
                refine Cells.store_whole rfl rfl 56 _ _ rfl g3 [.int .i64 kind, .int .i64 cmd, .int .i64 0, .int .i64 0, .int .i64 0, .slice none 0 0, .bool fua, .int .i64 n0, .int .i64 n1, .slice A nb cb] #[.int .i64 0, .int .i64 0, .int .i64 0, .int .i64 0, .int .i64 0, .slice none 0 0, .bool false, .int .i64 0, .int .i64 0, .slice none 0 0] rfl rfl Kg3_8_9_10_16_17_18.out rfl size56 rfl ?_
                intro W19 hk19 hf19 hb19
                have HB19 := Aside0.mk (HB18.out.trans (hb19 _ Gg3.out))
                have Kg1_17_18_19 := Aside0.mk ((hf19 _ Ng3_g1.out).trans Kg1_17_18.out)
                have Kg2_3_8_9_10_16_17_18_19 := Aside0.mk ((hf19 _ Ng3_g2.out).trans Kg2_3_8_9_10_16_17_18.out)
                have Kg3_19 := Aside0.mk hk19
                clear hk19 hf19 hb19
                have HFC : fillC kind cmd fua n0 n1 n2 (.slice A nb cb) = [.int .i64 kind, .int .i64 cmd, .int .i64 0, .int .i64 0, .int .i64 0, .slice none 0 0, .bool fua, .int .i64 n0, .int .i64 n1, .slice A nb cb] := by unfold fillC; rw [if_neg hk, if_neg hk2]
                go_wp2_with fail
                exact bodyPost_ret (results_cell_row Tryd.results53 _ _ g3 56 _ _ _ rfl Kg3_19.out Tryd.underlying56 rfl size56) rfl ⟨by rw [HFC], HB19.out⟩
end Go.Proofs.YtlhmpmmblnbmbaaDoor.Con
