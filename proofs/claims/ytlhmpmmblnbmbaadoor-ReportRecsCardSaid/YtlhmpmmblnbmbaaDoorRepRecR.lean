/- A record as the document's text. -/
import Derived.Test.YtlhmpmmblnbmbaaDoorRepRecP
set_option linter.unusedVariables false
set_option linter.unusedSimpArgs false
namespace Go.Proofs.YtlhmpmmblnbmbaaDoor.Rep
open Go.Lib Go.RowKit Go.Proofs.YtlhmpmmblnbmbaaDoor.Ev Go.Proofs.YtlhmpmmblnbmbaaDoor.Cells Go.Proofs.YtlhmpmmblnbmbaaDoorW.PrintWords Go.Proofs.YtlhmpmmblnbmbaaDoorW.PrintLast Go.Proofs.YtlhmpmmblnbmbaaDoorW.PrintMore
set_option maxHeartbeats 4000000 in
set_option maxRecDepth 100000 in
theorem rrec_c (xk xe xq xz xg xs xw xm xu : Int) (l : List Int) (A : Option Addr) (c : Nat) (he : I64 xe) (hq : I64 xq) (hz : I64 xz) (hg : I64 xg) (hs : I64 xs) (hw : I64 xw) (hm : I64 xm) (hxu : I64 xu) (hb : B8 l) (hn : l.length ≤ 1000) (w : World) (hC : Kd.C (Kd.int .u8) w A l.length l) : Calls Tryd.prog 22 #[.agg #[.int .i64 xk, .int .i64 xe, .int .i64 xq, .int .i64 xz, .int .i64 xg, .int .i64 xs, .int .i64 xw, .int .i64 xm, .int .i64 xu, .slice A l.length c]] w fun e w' => e = .returned (.string (recB xk xe xq xz xg xs xw xm xu l)) ∧ Below w.heap.size w w' := by
  rw [rec_eq]
  have HC0 := Aside0.mk hC
  have HB8 := Aside0.mk hb
  clear hC hb
  go_enter Tryd.func22, Tryd.ntmps22
  go_upto_region 0 with fail
  refine wp_region_lit ?_
  refine ebox (v := (.agg #[.int .i64 xk, .int .i64 xe, .int .i64 xq, .int .i64 xz, .int .i64 xg, .int .i64 xs, .int .i64 xw, .int .i64 xm, .int .i64 xu, .slice A l.length c])) rfl rfl rfl ?_
  intro g1 hg1 W1 hk1 hb1
  have Kg1 := Aside0.mk hk1
  have HB1 := Aside0.mk hb1
  clear hb1
  have Gg1 := Aside0.mk (show w.heap.size ≤ g1 by rw [hg1]; exact Nat.le_refl _)
  clear hg1 hk1
  simp only [Act.put, List.setIfInBounds_toArray, List.set_cons_zero, List.set_cons_succ]
  refine Flow.seqL (E := fun u v => Below u.heap.size u v) 1 1 [(some 1, []), (some 2, [])] (fun iQ vQ wQ => match iQ with | 1 => vQ = (.string ⟨#[]⟩) | _ => True) rfl (by decide) (by kernel_rfl) (Below.refl _ _) (fun _ _ _ h k => h.trans (k.mono h.size)) (fun _ _ _ _ h _ => h) ?_ ?_
  · refine ⟨?_, trivial⟩
    · intro a w' hx hu hd K hK; exact Flow.run1 rfl (Flow.r_assign rfl rfl) (hK _ _ (Below.refl _ _) rfl)
  · intro vs W2 hb2 hT
    have v1 := Flow.eqn (hT 1 (by decide) (by decide))
    simp only [Flow.putsT, v1, Act.put, List.setIfInBounds_toArray, List.set_cons_zero, List.set_cons_succ, List.drop_succ_cons, List.drop_zero, List.take_succ_cons, List.take_zero]
    clear hT v1
    have HB2 := Aside0.mk (below_step HB1.out hb2)
    have Kg1_2 := Aside0.mk (blk_below Kg1.out hb2)
    clear hb2
    have HC := Aside0.mk (Kd.C_below HC0.out HB2.out)
    go_upto_region 1 with fail
    refine Flow.seqT (E := fun u v => Below u.heap.size u v) [(some 3, [])] (fun iQ vQ wQ => match iQ with | 0 => vQ = (.string ⟨#[63]⟩) | _ => True) rfl (by kernel_rfl) (Below.refl _ _) (fun _ _ _ h k => h.trans (k.mono h.size)) (fun _ _ _ _ h _ => h) ?_ ?_
    · refine ⟨?_, trivial⟩
      · intro a w' hx hu hd K hK; exact Flow.run1 rfl (Flow.r_assign rfl rfl) (hK _ _ (Below.refl _ _) rfl)
    · intro vs W4 hb4 hT
      have v0 := Flow.eqn (hT 0 (by decide))
      simp only [Flow.putsT, v0, Act.put, List.setIfInBounds_toArray, List.set_cons_zero, List.set_cons_succ]
      clear hT v0
      have HB4 := Aside0.mk hb4
      clear hb4
      obtain ⟨c0, Hc0⟩ : ∃ b, Aside0 (decide (xk ≥ 0 ∧ xk < 7) = b) := ⟨_, ⟨rfl⟩⟩
      go_upto_region 2 with fail
      go_cut [11] (fun v wx => v = .bool c0 ∧ Aside0 (Below W2.heap.size W2 wx))
      case first =>
        by_cases h1 : xk ≥ 0
        · by_cases h2 : xk < 7
          · skip
            refine Flow.seqT (E := fun u v => Below u.heap.size u v) [(some 4, []), (some 5, [0]), (some 6, [1]), (some 7, [2]), (some 8, [3]), (some 9, [4, 3]), (some 10, [5, 3]), (some 11, [3, 6])] (fun iQ vQ wQ => match iQ with | 0 => vQ = (.pointer (some ⟨g1, 0, none⟩)) | 1 => vQ = (.int .i64 xk) | 2 => vQ = (.bool true) | 3 => vQ = (.bool true) | 4 => vQ = (.pointer (some ⟨g1, 0, none⟩)) | 5 => vQ = (.int .i64 xk) | 6 => vQ = (.bool true) | 7 => vQ = (.bool true) | _ => True) rfl (by kernel_rfl) (Below.refl _ _) (fun _ _ _ h k => h.trans (k.mono h.size)) (fun _ _ _ _ h _ => h) ?_ ?_
            · refine ⟨?_, ?_, ?_, ?_, ?_, ?_, ?_, ?_, trivial⟩
              · intro a w' hx hu hd K hK; have e1 : a.tmps.getD 1 undef = (.pointer (some ⟨g1, 0, none⟩)) := hu 1 rfl; exact Flow.run1 rfl (fa rfl e1 (fa45_0 _ _ _)) (hK _ _ (Below.refl _ _) rfl)
              · intro a w' hx hu hd K hK; have e4 := Flow.got (hd 0 rfl) 4 rfl; exact Flow.run1 rfl (ld rfl e4 ((blk_cell (blk_below Kg1_2.out (below_step HB4.out hx)) 0).trans rfl) Tryd.underlying3 rfl) (hK _ _ (Below.refl _ _) rfl)
              · intro a w' hx hu hd K hK; have e5 := Flow.got (hd 1 rfl) 5 rfl; exact Flow.run1 rfl (yes (geq rfl e5 rfl) (decide_eq_true h1)) (hK _ _ (Below.refl _ _) rfl)
              · intro a w' hx hu hd K hK; have e6 := Flow.got (hd 2 rfl) 6 rfl; exact Flow.run1 rfl (Flow.r_move rfl e6) (hK _ _ (Below.refl _ _) rfl)
              · intro a w' hx hu hd K hK; have e1 : a.tmps.getD 1 undef = (.pointer (some ⟨g1, 0, none⟩)) := hu 1 rfl; have e7 := Flow.got (hd 3 rfl) 7 rfl; exact Flow.run1 (Flow.want_of (k := 7) rfl e7) (fa rfl e1 (fa45_0 _ _ _)) (hK _ _ (Below.refl _ _) rfl)
              · intro a w' hx hu hd K hK; have e8 := Flow.got (hd 4 rfl) 8 rfl; have e7 := Flow.got (hd 3 rfl) 7 rfl; exact Flow.run1 (Flow.want_of (k := 7) rfl e7) (ld rfl e8 ((blk_cell (blk_below Kg1_2.out (below_step HB4.out hx)) 0).trans rfl) Tryd.underlying3 rfl) (hK _ _ (Below.refl _ _) rfl)
              · intro a w' hx hu hd K hK; have e9 := Flow.got (hd 5 rfl) 9 rfl; have e7 := Flow.got (hd 3 rfl) 7 rfl; exact Flow.run1 (Flow.want_of (k := 7) rfl e7) (yes (lss rfl e9 rfl) (decide_eq_true h2)) (hK _ _ (Below.refl _ _) rfl)
              · intro a w' hx hu hd K hK; have e7 := Flow.got (hd 3 rfl) 7 rfl; have e10 := Flow.got (hd 6 rfl) 10 rfl; exact Flow.run1 rfl (Flow.r_pick rfl e7 e10) (hK _ _ (Below.refl _ _) rfl)
            · intro vs W5 hb5 hT
              have v0 := Flow.eqn (hT 0 (by decide))
              have v1 := Flow.eqn (hT 1 (by decide))
              have v2 := Flow.eqn (hT 2 (by decide))
              have v3 := Flow.eqn (hT 3 (by decide))
              have v4 := Flow.eqn (hT 4 (by decide))
              have v5 := Flow.eqn (hT 5 (by decide))
              have v6 := Flow.eqn (hT 6 (by decide))
              have v7 := Flow.eqn (hT 7 (by decide))
              simp only [Flow.putsT, v0, v1, v2, v3, v4, v5, v6, v7, Act.put, List.setIfInBounds_toArray, List.set_cons_zero, List.set_cons_succ]
              clear hT v0 v1 v2 v3 v4 v5 v6 v7
              have HB5 := Aside0.mk (below_step HB4.out hb5)
              clear hb5
              go_wp2_with fail
              go_meet
              exact ⟨congrArg Value.bool ((decide_eq_true (p := xk ≥ 0 ∧ xk < 7) (by omega)).symm.trans Hc0.out), HB5⟩
          · skip
            refine Flow.seqT (E := fun u v => Below u.heap.size u v) [(some 4, []), (some 5, [0]), (some 6, [1]), (some 7, [2]), (some 8, [3]), (some 9, [4, 3]), (some 10, [5, 3]), (some 11, [3, 6])] (fun iQ vQ wQ => match iQ with | 0 => vQ = (.pointer (some ⟨g1, 0, none⟩)) | 1 => vQ = (.int .i64 xk) | 2 => vQ = (.bool true) | 3 => vQ = (.bool true) | 4 => vQ = (.pointer (some ⟨g1, 0, none⟩)) | 5 => vQ = (.int .i64 xk) | 6 => vQ = (.bool false) | 7 => vQ = (.bool false) | _ => True) rfl (by kernel_rfl) (Below.refl _ _) (fun _ _ _ h k => h.trans (k.mono h.size)) (fun _ _ _ _ h _ => h) ?_ ?_
            · refine ⟨?_, ?_, ?_, ?_, ?_, ?_, ?_, ?_, trivial⟩
              · intro a w' hx hu hd K hK; have e1 : a.tmps.getD 1 undef = (.pointer (some ⟨g1, 0, none⟩)) := hu 1 rfl; exact Flow.run1 rfl (fa rfl e1 (fa45_0 _ _ _)) (hK _ _ (Below.refl _ _) rfl)
              · intro a w' hx hu hd K hK; have e4 := Flow.got (hd 0 rfl) 4 rfl; exact Flow.run1 rfl (ld rfl e4 ((blk_cell (blk_below Kg1_2.out (below_step HB4.out hx)) 0).trans rfl) Tryd.underlying3 rfl) (hK _ _ (Below.refl _ _) rfl)
              · intro a w' hx hu hd K hK; have e5 := Flow.got (hd 1 rfl) 5 rfl; exact Flow.run1 rfl (yes (geq rfl e5 rfl) (decide_eq_true h1)) (hK _ _ (Below.refl _ _) rfl)
              · intro a w' hx hu hd K hK; have e6 := Flow.got (hd 2 rfl) 6 rfl; exact Flow.run1 rfl (Flow.r_move rfl e6) (hK _ _ (Below.refl _ _) rfl)
              · intro a w' hx hu hd K hK; have e1 : a.tmps.getD 1 undef = (.pointer (some ⟨g1, 0, none⟩)) := hu 1 rfl; have e7 := Flow.got (hd 3 rfl) 7 rfl; exact Flow.run1 (Flow.want_of (k := 7) rfl e7) (fa rfl e1 (fa45_0 _ _ _)) (hK _ _ (Below.refl _ _) rfl)
              · intro a w' hx hu hd K hK; have e8 := Flow.got (hd 4 rfl) 8 rfl; have e7 := Flow.got (hd 3 rfl) 7 rfl; exact Flow.run1 (Flow.want_of (k := 7) rfl e7) (ld rfl e8 ((blk_cell (blk_below Kg1_2.out (below_step HB4.out hx)) 0).trans rfl) Tryd.underlying3 rfl) (hK _ _ (Below.refl _ _) rfl)
              · intro a w' hx hu hd K hK; have e9 := Flow.got (hd 5 rfl) 9 rfl; have e7 := Flow.got (hd 3 rfl) 7 rfl; exact Flow.run1 (Flow.want_of (k := 7) rfl e7) (no (lss rfl e9 rfl) (decide_eq_false h2)) (hK _ _ (Below.refl _ _) rfl)
              · intro a w' hx hu hd K hK; have e7 := Flow.got (hd 3 rfl) 7 rfl; have e10 := Flow.got (hd 6 rfl) 10 rfl; exact Flow.run1 rfl (Flow.r_pick rfl e7 e10) (hK _ _ (Below.refl _ _) rfl)
            · intro vs W6 hb6 hT
              have v0 := Flow.eqn (hT 0 (by decide))
              have v1 := Flow.eqn (hT 1 (by decide))
              have v2 := Flow.eqn (hT 2 (by decide))
              have v3 := Flow.eqn (hT 3 (by decide))
              have v4 := Flow.eqn (hT 4 (by decide))
              have v5 := Flow.eqn (hT 5 (by decide))
              have v6 := Flow.eqn (hT 6 (by decide))
              have v7 := Flow.eqn (hT 7 (by decide))
              simp only [Flow.putsT, v0, v1, v2, v3, v4, v5, v6, v7, Act.put, List.setIfInBounds_toArray, List.set_cons_zero, List.set_cons_succ]
              clear hT v0 v1 v2 v3 v4 v5 v6 v7
              have HB6 := Aside0.mk (below_step HB4.out hb6)
              clear hb6
              go_wp2_with fail
              go_meet
              exact ⟨congrArg Value.bool ((decide_eq_false (p := xk ≥ 0 ∧ xk < 7) (by omega)).symm.trans Hc0.out), HB6⟩
        · skip
          refine Flow.seqT (E := fun u v => Below u.heap.size u v) [(some 4, []), (some 5, [0]), (some 6, [1]), (some 7, [2]), (some 8, [3]), (some 9, [4, 3]), (some 10, [5, 3]), (some 11, [3, 6])] (fun iQ vQ wQ => match iQ with | 0 => vQ = (.pointer (some ⟨g1, 0, none⟩)) | 1 => vQ = (.int .i64 xk) | 2 => vQ = (.bool false) | 3 => vQ = (.bool false) | 4 => vQ = undef | 5 => vQ = undef | 6 => vQ = undef | 7 => vQ = (.bool false) | _ => True) rfl (by kernel_rfl) (Below.refl _ _) (fun _ _ _ h k => h.trans (k.mono h.size)) (fun _ _ _ _ h _ => h) ?_ ?_
          · refine ⟨?_, ?_, ?_, ?_, ?_, ?_, ?_, ?_, trivial⟩
            · intro a w' hx hu hd K hK; have e1 : a.tmps.getD 1 undef = (.pointer (some ⟨g1, 0, none⟩)) := hu 1 rfl; exact Flow.run1 rfl (fa rfl e1 (fa45_0 _ _ _)) (hK _ _ (Below.refl _ _) rfl)
            · intro a w' hx hu hd K hK; have e4 := Flow.got (hd 0 rfl) 4 rfl; exact Flow.run1 rfl (ld rfl e4 ((blk_cell (blk_below Kg1_2.out (below_step HB4.out hx)) 0).trans rfl) Tryd.underlying3 rfl) (hK _ _ (Below.refl _ _) rfl)
            · intro a w' hx hu hd K hK; have e5 := Flow.got (hd 1 rfl) 5 rfl; exact Flow.run1 rfl (no (geq rfl e5 rfl) (decide_eq_false h1)) (hK _ _ (Below.refl _ _) rfl)
            · intro a w' hx hu hd K hK; have e6 := Flow.got (hd 2 rfl) 6 rfl; exact Flow.run1 rfl (Flow.r_move rfl e6) (hK _ _ (Below.refl _ _) rfl)
            · intro a w' hx hu hd K hK; have e7 := Flow.got (hd 3 rfl) 7 rfl; exact Flow.spare (Flow.spare_of (k := 7) rfl e7 rfl) (hK _ _ (Below.refl _ _) rfl)
            · intro a w' hx hu hd K hK; have e7 := Flow.got (hd 3 rfl) 7 rfl; exact Flow.spare (Flow.spare_of (k := 7) rfl e7 rfl) (hK _ _ (Below.refl _ _) rfl)
            · intro a w' hx hu hd K hK; have e7 := Flow.got (hd 3 rfl) 7 rfl; exact Flow.spare (Flow.spare_of (k := 7) rfl e7 rfl) (hK _ _ (Below.refl _ _) rfl)
            · intro a w' hx hu hd K hK; have e7 := Flow.got (hd 3 rfl) 7 rfl; have e10 := Flow.got (hd 6 rfl) 10 rfl; exact Flow.run1 rfl (Flow.r_pick rfl e7 rfl) (hK _ _ (Below.refl _ _) rfl)
          · intro vs W7 hb7 hT
            have v0 := Flow.eqn (hT 0 (by decide))
            have v1 := Flow.eqn (hT 1 (by decide))
            have v2 := Flow.eqn (hT 2 (by decide))
            have v3 := Flow.eqn (hT 3 (by decide))
            have v4 := Flow.eqn (hT 4 (by decide))
            have v5 := Flow.eqn (hT 5 (by decide))
            have v6 := Flow.eqn (hT 6 (by decide))
            have v7 := Flow.eqn (hT 7 (by decide))
            simp only [Flow.putsT, v0, v1, v2, v3, v4, v5, v6, v7, Act.put, List.setIfInBounds_toArray, List.set_cons_zero, List.set_cons_succ]
            clear hT v0 v1 v2 v3 v4 v5 v6 v7
            have HB7 := Aside0.mk (below_step HB4.out hb7)
            clear hb7
            go_wp2_with fail
            go_meet
            exact ⟨congrArg Value.bool ((decide_eq_false (p := xk ≥ 0 ∧ xk < 7) (by omega)).symm.trans Hc0.out), HB7⟩
      case rest =>
        clear HB4
        obtain ⟨rfl, HBq8⟩ := hcut
        go_upto_if 11 with fail
        go_cut [3] (fun v wx => ∃ t2 : ByteArray, v = .string t2 ∧ Aside0 (t2.size ≤ 6) ∧ Aside0 (t2 = nameB xk nam7) ∧ Aside0 (Below W2.heap.size W2 wx))
        case first =>
          cases c0 with
          | true =>
            have hp := of_decide_eq_true Hc0.out
            obtain ⟨j, rfl⟩ : ∃ j : Nat, xk = j := ⟨xk.toNat, by omega⟩
            have hj : j < 7 := by omega
            have hd := Aside0.mk (show nameB (j : Int) nam7 = nam7.getD j ByteArray.empty by unfold nameB; rw [if_neg (by omega), Int.toNat_natCast, List.getD_eq_getElem?_getD, List.getD_eq_getElem?_getD, List.getElem?_eq_getElem (show j < nam7.length from hj)]; rfl)
            go_upto_region 3 with fail
            refine Flow.seqT_head (E := fun u v => Below u.heap.size u v) 1 [(some 12, []), (some 13, []), (some 14, [1]), (some 15, [0, 2]), (some 16, [3]), (some 3, [4, 0, 1, 2, 3, 4])] (fun iQ vQ wQ => match iQ with | 0 => SliceAt #[.string ⟨#[99, 104, 101, 99, 107]⟩, .string ⟨#[109, 97, 112]⟩, .string ⟨#[114, 101, 115, 101, 116]⟩, .string ⟨#[102, 105, 110, 105, 115, 104]⟩, .string ⟨#[112, 97, 114, 105, 116, 121]⟩, .string ⟨#[119, 104, 111, 108, 101]⟩, .string ⟨#[115, 116, 97, 116, 117, 115]⟩] 9 7 W2.heap.size vQ wQ | _ => True) rfl (by decide) (by kernel_rfl) (Below.refl _ _) (fun _ _ _ h k => h.trans (k.mono h.size)) (fun iQ vQ w1Q w2Q hQ hEQ => match iQ, hQ with | 0, hQ => slice_below hQ hEQ | _ + 1, _ => trivial) ?_ ?_
            · refine ⟨?_, trivial⟩
              · intro a w' hx hu hd K hK; exact Flow.run1 rfl (row7_79 rfl rfl rfl rfl rfl rfl rfl rfl) (hK _ _ (below_alloc (Below.refl _ _) _) (slice_new (Nat.le_trans (HBq8.out).size (hx : Below _ _ _).size)))
            · intro vs W9 hb9 hT
              obtain ⟨g9_0, v0, hge0, hk0⟩ : SliceAt _ _ _ _ _ _ := hT 0 (by decide)
              have Kg9_0 := Aside0.mk hk0
              have Gg9_0 := Aside0.mk hge0
              clear hk0 hge0
              simp only [Flow.putsT, v0, Act.put, List.setIfInBounds_toArray, List.set_cons_zero, List.set_cons_succ, List.drop_succ_cons, List.drop_zero, List.take_succ_cons, List.take_zero]
              clear hT v0
              have HB9 := Aside0.mk (below_step HBq8.out hb9)
              clear hb9
              have KN := Aside0.mk (show W9.heap[g9_0]? = some (.cells (nam7.map Value.string).toArray 9 (0, 0)) from Kg9_0.out)
              have hjs : (nam7.getD j ByteArray.empty).size ≤ 6 := by rw [← hd.out]; exact nam7_size _
              refine Flow.seqL (E := fun u v => Below u.heap.size u v) 1 5 [(some 12, []), (some 13, []), (some 14, [1]), (some 15, [0, 2]), (some 16, [3]), (some 3, [4, 0, 1, 2, 3, 4])] (fun iQ vQ wQ => match iQ with | 1 => vQ = (.pointer (some ⟨g1, 0, none⟩)) | 2 => vQ = (.int .i64 j) | 3 => vQ = (.pointer (some ⟨g9_0, j, none⟩)) | 4 => vQ = (.string (nam7.getD j ByteArray.empty)) | 5 => vQ = (.string (nam7.getD j ByteArray.empty)) | _ => True) rfl (by decide) (by kernel_rfl) (Below.refl _ _) (fun _ _ _ h k => h.trans (k.mono h.size)) (fun _ _ _ _ h _ => h) ?_ ?_
              · refine ⟨?_, ?_, ?_, ?_, ?_, trivial⟩
                · intro a w' hx hu hd K hK; have e1 : a.tmps.getD 1 undef = (.pointer (some ⟨g1, 0, none⟩)) := hu 1 rfl; exact Flow.run1 rfl (fa rfl e1 (fa45_0 _ _ _)) (hK _ _ (Below.refl _ _) rfl)
                · intro a w' hx hu hd K hK; have e13 := Flow.got (hd 1 rfl) 13 rfl; exact Flow.run1 rfl (ld rfl e13 ((blk_cell (blk_below Kg1_2.out (below_step HB9.out hx)) 0).trans rfl) Tryd.underlying3 rfl) (hK _ _ (Below.refl _ _) rfl)
                · intro a w' hx hu hd K hK; have e12 : a.tmps.getD 12 undef = (.slice (some ⟨g9_0, 0, none⟩) 7 7) := hu 12 rfl; have e14 := Flow.got (hd 2 rfl) 14 rfl; exact Flow.run1 rfl (ixr Tryd.underlying79 size9 rfl e12 e14 hj) (hK _ _ (Below.refl _ _) rfl)
                · intro a w' hx hu hd K hK; have e15 := Flow.got (hd 3 rfl) 15 rfl; exact Flow.run1 rfl (ld rfl e15 (row_cell Value.string ByteArray.empty (blk_below KN.out hx) hj) Tryd.underlying9 rfl) (hK _ _ (Below.refl _ _) rfl)
                · intro a w' hx hu hd K hK; have e16 := Flow.got (hd 4 rfl) 16 rfl; exact Flow.run1 rfl (Flow.r_assign rfl e16) (hK _ _ (Below.refl _ _) rfl)
              · intro vs W10 hb10 hT
                have v1 := Flow.eqn (hT 1 (by decide) (by decide))
                have v2 := Flow.eqn (hT 2 (by decide) (by decide))
                have v3 := Flow.eqn (hT 3 (by decide) (by decide))
                have v4 := Flow.eqn (hT 4 (by decide) (by decide))
                have v5 := Flow.eqn (hT 5 (by decide) (by decide))
                simp only [Flow.putsT, v1, v2, v3, v4, v5, Act.put, List.setIfInBounds_toArray, List.set_cons_zero, List.set_cons_succ, List.drop_succ_cons, List.drop_zero, List.take_succ_cons, List.take_zero]
                clear hT v1 v2 v3 v4 v5
                have HB10 := Aside0.mk (below_step HB9.out hb10)
                have Kg9_0_10 := Aside0.mk (blk_below Kg9_0.out hb10)
                clear hb10
                go_wp2_with fail
                go_meet
                exact ⟨_, rfl, ⟨Nat.le_trans hjs (by decide)⟩, ⟨by rw [hd.out]⟩, HB10⟩
          | false =>
            have hp := of_decide_eq_false Hc0.out
            have hd := Aside0.mk (show nameB xk nam7 = ⟨#[63]⟩ by unfold nameB; split; rfl; rw [List.getD_eq_getElem?_getD, List.getElem?_eq_none (by simp [nam7]; omega)]; rfl)
            go_wp2_with fail
            go_meet
            exact ⟨_, rfl, ⟨Nat.le_trans (Nat.le_refl 1) (by decide)⟩, ⟨by rw [hd.out]⟩, HBq8⟩
        case rest =>
          clear HBq8
          obtain ⟨t11, rfl, Zt11, HE11, HBc11⟩ := hcut
          have zt11 := Zt11.out
          clear Zt11
          go_upto_region 4 with fail
          obtain ⟨t12_1, Ht12_1⟩ : ∃ tQ, Aside0 (t11 ++ ⟨#[32]⟩ = tQ) := ⟨_, ⟨rfl⟩⟩
          have zt12_1 : t12_1.size ≤ 7 := Ht12_1.out ▸ szapp zt11 (Nat.le_refl 1) (by decide)
          obtain ⟨t12_5, Ht12_5⟩ : ∃ tQ, Aside0 (t12_1 ++ itoaB xe = tQ) := ⟨_, ⟨rfl⟩⟩
          have zt12_5 : t12_5.size ≤ 28 := Ht12_5.out ▸ szapp zt12_1 (itoa_size xe he) (by decide)
          obtain ⟨t12_6, Ht12_6⟩ : ∃ tQ, Aside0 (t12_5 ++ ⟨#[46]⟩ = tQ) := ⟨_, ⟨rfl⟩⟩
          have zt12_6 : t12_6.size ≤ 29 := Ht12_6.out ▸ szapp zt12_5 (Nat.le_refl 1) (by decide)
          obtain ⟨t12_10, Ht12_10⟩ : ∃ tQ, Aside0 (t12_6 ++ itoaB xq = tQ) := ⟨_, ⟨rfl⟩⟩
          have zt12_10 : t12_10.size ≤ 50 := Ht12_10.out ▸ szapp zt12_6 (itoa_size xq hq) (by decide)
          refine Flow.flowT (E := fun u v => Below u.heap.size u v) [(some 17, []), (some 18, [0]), (some 19, []), (some 20, [2]), (some 21, [3]), (some 22, [1, 4]), (some 23, [5]), (some 24, []), (some 25, [7]), (some 26, [8, 4]), (some 27, [6, 9]), (some 3, [10, 9, 0, 1, 2, 3, 4, 5, 6, 7, 8, 9, 10])] (fun iQ vQ wQ => match iQ with | 0 => vQ = (.string t11) | 1 => vQ = (.string t12_1) | 2 => vQ = (.pointer (some ⟨g1, 1, none⟩)) | 3 => vQ = (.int .i64 xe) | 4 => vQ = (.string (itoaB xe)) | 5 => vQ = (.string t12_5) | 6 => vQ = (.string t12_6) | 7 => vQ = (.pointer (some ⟨g1, 2, none⟩)) | 8 => vQ = (.int .i64 xq) | 9 => vQ = (.string (itoaB xq)) | 10 => vQ = (.string t12_10) | 11 => vQ = (.string t12_10) | _ => True) rfl (by kernel_rfl) (by kernel_rfl) (by kernel_rfl) ((Below.refl _ _).drew) (fun _ _ _ h k => h.trans (k.mono h.size)) (fun _ _ _ _ h _ => h) ?_ ?_
          · refine ⟨?_, ?_, ?_, ?_, ?_, ?_, ?_, ?_, ?_, ?_, ?_, ?_, trivial⟩
            · intro a w' hx hu hd K hK; have e3 : a.tmps.getD 3 undef = (.string t11) := hu 3 rfl; exact Flow.run1 rfl (Flow.r_move rfl e3) (hK _ _ (Below.refl _ _) rfl)
            · intro a w' hx hu hd K hK; have e17 := Flow.got (hd 0 (by decide)) 17 rfl; exact Flow.run1 rfl (Ht12_1.out ▸ cat rfl e17 rfl zt11 (Nat.le_refl 1) (by decide)) (hK _ _ (Below.refl _ _) rfl)
            · intro a w' hx hu hd K hK; have e1 : a.tmps.getD 1 undef = (.pointer (some ⟨g1, 0, none⟩)) := hu 1 rfl; exact Flow.run1 rfl (fa rfl e1 (fa45_1 _ _ _)) (hK _ _ (Below.refl _ _) rfl)
            · intro a w' hx hu hd K hK; have e19 := Flow.got (hd 2 (by decide)) 19 rfl; exact Flow.run1 rfl (ld rfl e19 ((blk_cell (blk_below Kg1_2.out (below_step HBc11.out hx)) 1).trans rfl) Tryd.underlying3 rfl) (hK _ _ (Below.refl _ _) rfl)
            · intro a w' hx hu hd K hK; have e20 := Flow.got (hd 3 (by decide)) 20 rfl; refine Flow.want rfl ?_; refine Flow.val_call rfl Tryd.func38 (by kernel_rfl) rfl (by first | (simp only [List.map_toArray, List.map_cons, List.map_nil, Act.eval, e20]; done) | (simp only [List.map_toArray, List.map_cons, List.map_nil, Act.eval, e20]; rfl)) (rnum_c xe he w') ?_; rintro e w2 ⟨rfl, hb2⟩; exact ⟨_, rfl, hK _ _ hb2 (by rfl)⟩
            · intro a w' hx hu hd K hK; have e18 := Flow.got (hd 1 (by decide)) 18 rfl; have e21 := Flow.got (hd 4 (by decide)) 21 rfl; exact Flow.run1 rfl (Ht12_5.out ▸ cat rfl e18 e21 zt12_1 (itoa_size xe he) (by decide)) (hK _ _ (Below.refl _ _) rfl)
            · intro a w' hx hu hd K hK; have e22 := Flow.got (hd 5 (by decide)) 22 rfl; exact Flow.run1 rfl (Ht12_6.out ▸ cat rfl e22 rfl zt12_5 (Nat.le_refl 1) (by decide)) (hK _ _ (Below.refl _ _) rfl)
            · intro a w' hx hu hd K hK; have e1 : a.tmps.getD 1 undef = (.pointer (some ⟨g1, 0, none⟩)) := hu 1 rfl; exact Flow.run1 rfl (fa rfl e1 (fa45_2 _ _ _)) (hK _ _ (Below.refl _ _) rfl)
            · intro a w' hx hu hd K hK; have e24 := Flow.got (hd 7 (by decide)) 24 rfl; exact Flow.run1 rfl (ld rfl e24 ((blk_cell (blk_below Kg1_2.out (below_step HBc11.out hx)) 2).trans rfl) Tryd.underlying3 rfl) (hK _ _ (Below.refl _ _) rfl)
            · intro a w' hx hu hd K hK; have e25 := Flow.got (hd 8 (by decide)) 25 rfl; refine Flow.want rfl ?_; refine Flow.val_call rfl Tryd.func38 (by kernel_rfl) rfl (by first | (simp only [List.map_toArray, List.map_cons, List.map_nil, Act.eval, e25]; done) | (simp only [List.map_toArray, List.map_cons, List.map_nil, Act.eval, e25]; rfl)) (rnum_c xq hq w') ?_; rintro e w2 ⟨rfl, hb2⟩; exact ⟨_, rfl, hK _ _ hb2 (by rfl)⟩
            · intro a w' hx hu hd K hK; have e23 := Flow.got (hd 6 (by decide)) 23 rfl; have e26 := Flow.got (hd 9 (by decide)) 26 rfl; exact Flow.run1 rfl (Ht12_10.out ▸ cat rfl e23 e26 zt12_6 (itoa_size xq hq) (by decide)) (hK _ _ (Below.refl _ _) rfl)
            · intro a w' hx hu hd K hK; have e27 := Flow.got (hd 10 (by decide)) 27 rfl; exact Flow.run1 rfl (Flow.r_assign rfl e27) (hK _ _ (Below.refl _ _) rfl)
          · intro vs W12 hb12 hT
            have v0 := Flow.eqn (hT 0 (by decide))
            have v1 := Flow.eqn (hT 1 (by decide))
            have v2 := Flow.eqn (hT 2 (by decide))
            have v3 := Flow.eqn (hT 3 (by decide))
            have v4 := Flow.eqn (hT 4 (by decide))
            have v5 := Flow.eqn (hT 5 (by decide))
            have v6 := Flow.eqn (hT 6 (by decide))
            have v7 := Flow.eqn (hT 7 (by decide))
            have v8 := Flow.eqn (hT 8 (by decide))
            have v9 := Flow.eqn (hT 9 (by decide))
            have v10 := Flow.eqn (hT 10 (by decide))
            have v11 := Flow.eqn (hT 11 (by decide))
            simp only [Flow.putsT, v0, v1, v2, v3, v4, v5, v6, v7, v8, v9, v10, v11, Act.put, List.setIfInBounds_toArray, List.set_cons_zero, List.set_cons_succ]
            clear hT v0 v1 v2 v3 v4 v5 v6 v7 v8 v9 v10 v11
            have HB12 := Aside0.mk (below_step HBc11.out hb12)
            clear hb12
            have HE1 := Aside0.mk (show t12_10 = rt1 xk xe xq by rw [← Ht12_10.out, ← Ht12_6.out, ← Ht12_5.out, ← Ht12_1.out, HE11.out, rt1])
            obtain ⟨c1, Hc1⟩ : ∃ b, Aside0 (decide (xk ≥ 1 ∧ xk ≤ 5) = b) := ⟨_, ⟨rfl⟩⟩
            go_upto_region 5 with fail
            go_cut [35] (fun v wx => v = .bool c1 ∧ Aside0 (Below W2.heap.size W2 wx))
            case first =>
              by_cases h1 : xk ≥ 1
              · by_cases h2 : xk ≤ 5
                · skip
                  refine Flow.seqT (E := fun u v => Below u.heap.size u v) [(some 28, []), (some 29, [0]), (some 30, [1]), (some 31, [2]), (some 32, [3]), (some 33, [4, 3]), (some 34, [5, 3]), (some 35, [3, 6])] (fun iQ vQ wQ => match iQ with | 0 => vQ = (.pointer (some ⟨g1, 0, none⟩)) | 1 => vQ = (.int .i64 xk) | 2 => vQ = (.bool true) | 3 => vQ = (.bool true) | 4 => vQ = (.pointer (some ⟨g1, 0, none⟩)) | 5 => vQ = (.int .i64 xk) | 6 => vQ = (.bool true) | 7 => vQ = (.bool true) | _ => True) rfl (by kernel_rfl) (Below.refl _ _) (fun _ _ _ h k => h.trans (k.mono h.size)) (fun _ _ _ _ h _ => h) ?_ ?_
                  · refine ⟨?_, ?_, ?_, ?_, ?_, ?_, ?_, ?_, trivial⟩
                    · intro a w' hx hu hd K hK; have e1 : a.tmps.getD 1 undef = (.pointer (some ⟨g1, 0, none⟩)) := hu 1 rfl; exact Flow.run1 rfl (fa rfl e1 (fa45_0 _ _ _)) (hK _ _ (Below.refl _ _) rfl)
                    · intro a w' hx hu hd K hK; have e28 := Flow.got (hd 0 rfl) 28 rfl; exact Flow.run1 rfl (ld rfl e28 ((blk_cell (blk_below Kg1_2.out (below_step HB12.out hx)) 0).trans rfl) Tryd.underlying3 rfl) (hK _ _ (Below.refl _ _) rfl)
                    · intro a w' hx hu hd K hK; have e29 := Flow.got (hd 1 rfl) 29 rfl; exact Flow.run1 rfl (yes (geq rfl e29 rfl) (decide_eq_true h1)) (hK _ _ (Below.refl _ _) rfl)
                    · intro a w' hx hu hd K hK; have e30 := Flow.got (hd 2 rfl) 30 rfl; exact Flow.run1 rfl (Flow.r_move rfl e30) (hK _ _ (Below.refl _ _) rfl)
                    · intro a w' hx hu hd K hK; have e1 : a.tmps.getD 1 undef = (.pointer (some ⟨g1, 0, none⟩)) := hu 1 rfl; have e31 := Flow.got (hd 3 rfl) 31 rfl; exact Flow.run1 (Flow.want_of (k := 31) rfl e31) (fa rfl e1 (fa45_0 _ _ _)) (hK _ _ (Below.refl _ _) rfl)
                    · intro a w' hx hu hd K hK; have e32 := Flow.got (hd 4 rfl) 32 rfl; have e31 := Flow.got (hd 3 rfl) 31 rfl; exact Flow.run1 (Flow.want_of (k := 31) rfl e31) (ld rfl e32 ((blk_cell (blk_below Kg1_2.out (below_step HB12.out hx)) 0).trans rfl) Tryd.underlying3 rfl) (hK _ _ (Below.refl _ _) rfl)
                    · intro a w' hx hu hd K hK; have e33 := Flow.got (hd 5 rfl) 33 rfl; have e31 := Flow.got (hd 3 rfl) 31 rfl; exact Flow.run1 (Flow.want_of (k := 31) rfl e31) (yes (leq rfl e33 rfl) (decide_eq_true h2)) (hK _ _ (Below.refl _ _) rfl)
                    · intro a w' hx hu hd K hK; have e31 := Flow.got (hd 3 rfl) 31 rfl; have e34 := Flow.got (hd 6 rfl) 34 rfl; exact Flow.run1 rfl (Flow.r_pick rfl e31 e34) (hK _ _ (Below.refl _ _) rfl)
                  · intro vs W13 hb13 hT
                    have v0 := Flow.eqn (hT 0 (by decide))
                    have v1 := Flow.eqn (hT 1 (by decide))
                    have v2 := Flow.eqn (hT 2 (by decide))
                    have v3 := Flow.eqn (hT 3 (by decide))
                    have v4 := Flow.eqn (hT 4 (by decide))
                    have v5 := Flow.eqn (hT 5 (by decide))
                    have v6 := Flow.eqn (hT 6 (by decide))
                    have v7 := Flow.eqn (hT 7 (by decide))
                    simp only [Flow.putsT, v0, v1, v2, v3, v4, v5, v6, v7, Act.put, List.setIfInBounds_toArray, List.set_cons_zero, List.set_cons_succ]
                    clear hT v0 v1 v2 v3 v4 v5 v6 v7
                    have HB13 := Aside0.mk (below_step HB12.out hb13)
                    clear hb13
                    go_wp2_with fail
                    go_meet
                    exact ⟨congrArg Value.bool ((decide_eq_true (p := xk ≥ 1 ∧ xk ≤ 5) (by omega)).symm.trans Hc1.out), HB13⟩
                · skip
                  refine Flow.seqT (E := fun u v => Below u.heap.size u v) [(some 28, []), (some 29, [0]), (some 30, [1]), (some 31, [2]), (some 32, [3]), (some 33, [4, 3]), (some 34, [5, 3]), (some 35, [3, 6])] (fun iQ vQ wQ => match iQ with | 0 => vQ = (.pointer (some ⟨g1, 0, none⟩)) | 1 => vQ = (.int .i64 xk) | 2 => vQ = (.bool true) | 3 => vQ = (.bool true) | 4 => vQ = (.pointer (some ⟨g1, 0, none⟩)) | 5 => vQ = (.int .i64 xk) | 6 => vQ = (.bool false) | 7 => vQ = (.bool false) | _ => True) rfl (by kernel_rfl) (Below.refl _ _) (fun _ _ _ h k => h.trans (k.mono h.size)) (fun _ _ _ _ h _ => h) ?_ ?_
                  · refine ⟨?_, ?_, ?_, ?_, ?_, ?_, ?_, ?_, trivial⟩
                    · intro a w' hx hu hd K hK; have e1 : a.tmps.getD 1 undef = (.pointer (some ⟨g1, 0, none⟩)) := hu 1 rfl; exact Flow.run1 rfl (fa rfl e1 (fa45_0 _ _ _)) (hK _ _ (Below.refl _ _) rfl)
                    · intro a w' hx hu hd K hK; have e28 := Flow.got (hd 0 rfl) 28 rfl; exact Flow.run1 rfl (ld rfl e28 ((blk_cell (blk_below Kg1_2.out (below_step HB12.out hx)) 0).trans rfl) Tryd.underlying3 rfl) (hK _ _ (Below.refl _ _) rfl)
                    · intro a w' hx hu hd K hK; have e29 := Flow.got (hd 1 rfl) 29 rfl; exact Flow.run1 rfl (yes (geq rfl e29 rfl) (decide_eq_true h1)) (hK _ _ (Below.refl _ _) rfl)
                    · intro a w' hx hu hd K hK; have e30 := Flow.got (hd 2 rfl) 30 rfl; exact Flow.run1 rfl (Flow.r_move rfl e30) (hK _ _ (Below.refl _ _) rfl)
                    · intro a w' hx hu hd K hK; have e1 : a.tmps.getD 1 undef = (.pointer (some ⟨g1, 0, none⟩)) := hu 1 rfl; have e31 := Flow.got (hd 3 rfl) 31 rfl; exact Flow.run1 (Flow.want_of (k := 31) rfl e31) (fa rfl e1 (fa45_0 _ _ _)) (hK _ _ (Below.refl _ _) rfl)
                    · intro a w' hx hu hd K hK; have e32 := Flow.got (hd 4 rfl) 32 rfl; have e31 := Flow.got (hd 3 rfl) 31 rfl; exact Flow.run1 (Flow.want_of (k := 31) rfl e31) (ld rfl e32 ((blk_cell (blk_below Kg1_2.out (below_step HB12.out hx)) 0).trans rfl) Tryd.underlying3 rfl) (hK _ _ (Below.refl _ _) rfl)
                    · intro a w' hx hu hd K hK; have e33 := Flow.got (hd 5 rfl) 33 rfl; have e31 := Flow.got (hd 3 rfl) 31 rfl; exact Flow.run1 (Flow.want_of (k := 31) rfl e31) (no (leq rfl e33 rfl) (decide_eq_false h2)) (hK _ _ (Below.refl _ _) rfl)
                    · intro a w' hx hu hd K hK; have e31 := Flow.got (hd 3 rfl) 31 rfl; have e34 := Flow.got (hd 6 rfl) 34 rfl; exact Flow.run1 rfl (Flow.r_pick rfl e31 e34) (hK _ _ (Below.refl _ _) rfl)
                  · intro vs W14 hb14 hT
                    have v0 := Flow.eqn (hT 0 (by decide))
                    have v1 := Flow.eqn (hT 1 (by decide))
                    have v2 := Flow.eqn (hT 2 (by decide))
                    have v3 := Flow.eqn (hT 3 (by decide))
                    have v4 := Flow.eqn (hT 4 (by decide))
                    have v5 := Flow.eqn (hT 5 (by decide))
                    have v6 := Flow.eqn (hT 6 (by decide))
                    have v7 := Flow.eqn (hT 7 (by decide))
                    simp only [Flow.putsT, v0, v1, v2, v3, v4, v5, v6, v7, Act.put, List.setIfInBounds_toArray, List.set_cons_zero, List.set_cons_succ]
                    clear hT v0 v1 v2 v3 v4 v5 v6 v7
                    have HB14 := Aside0.mk (below_step HB12.out hb14)
                    clear hb14
                    go_wp2_with fail
                    go_meet
                    exact ⟨congrArg Value.bool ((decide_eq_false (p := xk ≥ 1 ∧ xk ≤ 5) (by omega)).symm.trans Hc1.out), HB14⟩
              · skip
                refine Flow.seqT (E := fun u v => Below u.heap.size u v) [(some 28, []), (some 29, [0]), (some 30, [1]), (some 31, [2]), (some 32, [3]), (some 33, [4, 3]), (some 34, [5, 3]), (some 35, [3, 6])] (fun iQ vQ wQ => match iQ with | 0 => vQ = (.pointer (some ⟨g1, 0, none⟩)) | 1 => vQ = (.int .i64 xk) | 2 => vQ = (.bool false) | 3 => vQ = (.bool false) | 4 => vQ = undef | 5 => vQ = undef | 6 => vQ = undef | 7 => vQ = (.bool false) | _ => True) rfl (by kernel_rfl) (Below.refl _ _) (fun _ _ _ h k => h.trans (k.mono h.size)) (fun _ _ _ _ h _ => h) ?_ ?_
                · refine ⟨?_, ?_, ?_, ?_, ?_, ?_, ?_, ?_, trivial⟩
                  · intro a w' hx hu hd K hK; have e1 : a.tmps.getD 1 undef = (.pointer (some ⟨g1, 0, none⟩)) := hu 1 rfl; exact Flow.run1 rfl (fa rfl e1 (fa45_0 _ _ _)) (hK _ _ (Below.refl _ _) rfl)
                  · intro a w' hx hu hd K hK; have e28 := Flow.got (hd 0 rfl) 28 rfl; exact Flow.run1 rfl (ld rfl e28 ((blk_cell (blk_below Kg1_2.out (below_step HB12.out hx)) 0).trans rfl) Tryd.underlying3 rfl) (hK _ _ (Below.refl _ _) rfl)
                  · intro a w' hx hu hd K hK; have e29 := Flow.got (hd 1 rfl) 29 rfl; exact Flow.run1 rfl (no (geq rfl e29 rfl) (decide_eq_false h1)) (hK _ _ (Below.refl _ _) rfl)
                  · intro a w' hx hu hd K hK; have e30 := Flow.got (hd 2 rfl) 30 rfl; exact Flow.run1 rfl (Flow.r_move rfl e30) (hK _ _ (Below.refl _ _) rfl)
                  · intro a w' hx hu hd K hK; have e31 := Flow.got (hd 3 rfl) 31 rfl; exact Flow.spare (Flow.spare_of (k := 31) rfl e31 rfl) (hK _ _ (Below.refl _ _) rfl)
                  · intro a w' hx hu hd K hK; have e31 := Flow.got (hd 3 rfl) 31 rfl; exact Flow.spare (Flow.spare_of (k := 31) rfl e31 rfl) (hK _ _ (Below.refl _ _) rfl)
                  · intro a w' hx hu hd K hK; have e31 := Flow.got (hd 3 rfl) 31 rfl; exact Flow.spare (Flow.spare_of (k := 31) rfl e31 rfl) (hK _ _ (Below.refl _ _) rfl)
                  · intro a w' hx hu hd K hK; have e31 := Flow.got (hd 3 rfl) 31 rfl; have e34 := Flow.got (hd 6 rfl) 34 rfl; exact Flow.run1 rfl (Flow.r_pick rfl e31 rfl) (hK _ _ (Below.refl _ _) rfl)
                · intro vs W15 hb15 hT
                  have v0 := Flow.eqn (hT 0 (by decide))
                  have v1 := Flow.eqn (hT 1 (by decide))
                  have v2 := Flow.eqn (hT 2 (by decide))
                  have v3 := Flow.eqn (hT 3 (by decide))
                  have v4 := Flow.eqn (hT 4 (by decide))
                  have v5 := Flow.eqn (hT 5 (by decide))
                  have v6 := Flow.eqn (hT 6 (by decide))
                  have v7 := Flow.eqn (hT 7 (by decide))
                  simp only [Flow.putsT, v0, v1, v2, v3, v4, v5, v6, v7, Act.put, List.setIfInBounds_toArray, List.set_cons_zero, List.set_cons_succ]
                  clear hT v0 v1 v2 v3 v4 v5 v6 v7
                  have HB15 := Aside0.mk (below_step HB12.out hb15)
                  clear hb15
                  go_wp2_with fail
                  go_meet
                  exact ⟨congrArg Value.bool ((decide_eq_false (p := xk ≥ 1 ∧ xk ≤ 5) (by omega)).symm.trans Hc1.out), HB15⟩
            case rest =>
              clear HB12
              obtain ⟨rfl, HBq16⟩ := hcut
              go_upto_if 35 with fail
              go_cut [3] (fun v wx => ∃ t2 : ByteArray, v = .string t2 ∧ Aside0 (t2.size ≤ 72) ∧ Aside0 (t2 = rt1 xk xe xq ++ pc c1 (itoaB xz)) ∧ Aside0 (Below W2.heap.size W2 wx))
              case first =>
                cases c1 with
                | true =>
                  go_upto_region 6 with fail
                  obtain ⟨t17_1, Ht17_1⟩ : ∃ tQ, Aside0 (t12_10 ++ ⟨#[32]⟩ = tQ) := ⟨_, ⟨rfl⟩⟩
                  have zt17_1 : t17_1.size ≤ 51 := Ht17_1.out ▸ szapp zt12_10 (Nat.le_refl 1) (by decide)
                  obtain ⟨t17_5, Ht17_5⟩ : ∃ tQ, Aside0 (t17_1 ++ itoaB xz = tQ) := ⟨_, ⟨rfl⟩⟩
                  have zt17_5 : t17_5.size ≤ 72 := Ht17_5.out ▸ szapp zt17_1 (itoa_size xz hz) (by decide)
                  refine Flow.seqT (E := fun u v => Below u.heap.size u v) [(some 36, []), (some 37, [0]), (some 38, []), (some 39, [2]), (some 40, [3]), (some 41, [1, 4]), (some 3, [5, 4, 0, 1, 2, 3, 4, 5])] (fun iQ vQ wQ => match iQ with | 0 => vQ = (.string t12_10) | 1 => vQ = (.string t17_1) | 2 => vQ = (.pointer (some ⟨g1, 3, none⟩)) | 3 => vQ = (.int .i64 xz) | 4 => vQ = (.string (itoaB xz)) | 5 => vQ = (.string t17_5) | 6 => vQ = (.string t17_5) | _ => True) rfl (by kernel_rfl) (Below.refl _ _) (fun _ _ _ h k => h.trans (k.mono h.size)) (fun _ _ _ _ h _ => h) ?_ ?_
                  · refine ⟨?_, ?_, ?_, ?_, ?_, ?_, ?_, trivial⟩
                    · intro a w' hx hu hd K hK; have e3 : a.tmps.getD 3 undef = (.string t12_10) := hu 3 rfl; exact Flow.run1 rfl (Flow.r_move rfl e3) (hK _ _ (Below.refl _ _) rfl)
                    · intro a w' hx hu hd K hK; have e36 := Flow.got (hd 0 rfl) 36 rfl; exact Flow.run1 rfl (Ht17_1.out ▸ cat rfl e36 rfl zt12_10 (Nat.le_refl 1) (by decide)) (hK _ _ (Below.refl _ _) rfl)
                    · intro a w' hx hu hd K hK; have e1 : a.tmps.getD 1 undef = (.pointer (some ⟨g1, 0, none⟩)) := hu 1 rfl; exact Flow.run1 rfl (fa rfl e1 (fa45_3 _ _ _)) (hK _ _ (Below.refl _ _) rfl)
                    · intro a w' hx hu hd K hK; have e38 := Flow.got (hd 2 rfl) 38 rfl; exact Flow.run1 rfl (ld rfl e38 ((blk_cell (blk_below Kg1_2.out (below_step HBq16.out hx)) 3).trans rfl) Tryd.underlying3 rfl) (hK _ _ (Below.refl _ _) rfl)
                    · intro a w' hx hu hd K hK; have e39 := Flow.got (hd 3 rfl) 39 rfl; refine Flow.want rfl ?_; refine Flow.val_call rfl Tryd.func38 (by kernel_rfl) rfl (by first | (simp only [List.map_toArray, List.map_cons, List.map_nil, Act.eval, e39]; done) | (simp only [List.map_toArray, List.map_cons, List.map_nil, Act.eval, e39]; rfl)) (rnum_c xz hz w') ?_; rintro e w2 ⟨rfl, hb2⟩; exact ⟨_, rfl, hK _ _ hb2 (by rfl)⟩
                    · intro a w' hx hu hd K hK; have e37 := Flow.got (hd 1 rfl) 37 rfl; have e40 := Flow.got (hd 4 rfl) 40 rfl; exact Flow.run1 rfl (Ht17_5.out ▸ cat rfl e37 e40 zt17_1 (itoa_size xz hz) (by decide)) (hK _ _ (Below.refl _ _) rfl)
                    · intro a w' hx hu hd K hK; have e41 := Flow.got (hd 5 rfl) 41 rfl; exact Flow.run1 rfl (Flow.r_assign rfl e41) (hK _ _ (Below.refl _ _) rfl)
                  · intro vs W17 hb17 hT
                    have v0 := Flow.eqn (hT 0 (by decide))
                    have v1 := Flow.eqn (hT 1 (by decide))
                    have v2 := Flow.eqn (hT 2 (by decide))
                    have v3 := Flow.eqn (hT 3 (by decide))
                    have v4 := Flow.eqn (hT 4 (by decide))
                    have v5 := Flow.eqn (hT 5 (by decide))
                    have v6 := Flow.eqn (hT 6 (by decide))
                    simp only [Flow.putsT, v0, v1, v2, v3, v4, v5, v6, Act.put, List.setIfInBounds_toArray, List.set_cons_zero, List.set_cons_succ]
                    clear hT v0 v1 v2 v3 v4 v5 v6
                    have HB17 := Aside0.mk (below_step HBq16.out hb17)
                    clear hb17
                    go_wp2_with fail
                    go_meet
                    exact ⟨_, rfl, ⟨Nat.le_trans zt17_5 (by decide)⟩, ⟨by rw [← Ht17_5.out, ← Ht17_1.out, HE1.out, pc_t]; (try simp only [ByteArray.append_assoc])⟩, HB17⟩
                | false =>
                  go_wp2_with fail
                  go_meet
                  exact ⟨_, rfl, ⟨Nat.le_trans zt12_10 (by decide)⟩, ⟨by rw [HE1.out, pc_f]⟩, HBq16⟩
              case rest =>
                clear HBq16 HE1
                obtain ⟨t18, rfl, Zt18, HE18, HBc18⟩ := hcut
                have zt18 := Zt18.out
                clear Zt18
                obtain ⟨c2, Hc2⟩ : ∃ b, Aside0 (decide (xk = 1 ∨ xk = 2 ∨ xk = 4) = b) := ⟨_, ⟨rfl⟩⟩
                go_upto_region 7 with fail
                go_cut [54] (fun v wx => v = .bool c2 ∧ Aside0 (Below W2.heap.size W2 wx))
                case first =>
                  by_cases h1 : xk = 1
                  · skip
                    refine Flow.seqT (E := fun u v => Below u.heap.size u v) [(some 42, []), (some 43, [0]), (some 44, [1]), (some 45, [2]), (some 46, [3]), (some 47, [4, 3]), (some 48, [5, 3]), (some 49, [3, 6]), (some 50, [7, 3]), (some 51, [8]), (some 52, [9, 8]), (some 53, [10, 8]), (some 54, [8, 11])] (fun iQ vQ wQ => match iQ with | 0 => vQ = (.pointer (some ⟨g1, 0, none⟩)) | 1 => vQ = (.int .i64 xk) | 2 => vQ = (.bool true) | 3 => vQ = (.bool true) | 4 => vQ = undef | 5 => vQ = undef | 6 => vQ = undef | 7 => vQ = (.bool true) | 8 => vQ = (.bool true) | 9 => vQ = undef | 10 => vQ = undef | 11 => vQ = undef | 12 => vQ = (.bool true) | _ => True) rfl (by kernel_rfl) (Below.refl _ _) (fun _ _ _ h k => h.trans (k.mono h.size)) (fun _ _ _ _ h _ => h) ?_ ?_
                    · refine ⟨?_, ?_, ?_, ?_, ?_, ?_, ?_, ?_, ?_, ?_, ?_, ?_, ?_, trivial⟩
                      · intro a w' hx hu hd K hK; have e1 : a.tmps.getD 1 undef = (.pointer (some ⟨g1, 0, none⟩)) := hu 1 rfl; exact Flow.run1 rfl (fa rfl e1 (fa45_0 _ _ _)) (hK _ _ (Below.refl _ _) rfl)
                      · intro a w' hx hu hd K hK; have e42 := Flow.got (hd 0 rfl) 42 rfl; exact Flow.run1 rfl (ld rfl e42 ((blk_cell (blk_below Kg1_2.out (below_step HBc18.out hx)) 0).trans rfl) Tryd.underlying3 rfl) (hK _ _ (Below.refl _ _) rfl)
                      · intro a w' hx hu hd K hK; have e43 := Flow.got (hd 1 rfl) 43 rfl; exact Flow.run1 rfl (yes (eql rfl e43 rfl) (beq_iff_eq.2 h1)) (hK _ _ (Below.refl _ _) rfl)
                      · intro a w' hx hu hd K hK; have e44 := Flow.got (hd 2 rfl) 44 rfl; exact Flow.run1 rfl (Flow.r_move rfl e44) (hK _ _ (Below.refl _ _) rfl)
                      · intro a w' hx hu hd K hK; have e45 := Flow.got (hd 3 rfl) 45 rfl; exact Flow.spare (Flow.spare_of (k := 45) rfl e45 rfl) (hK _ _ (Below.refl _ _) rfl)
                      · intro a w' hx hu hd K hK; have e45 := Flow.got (hd 3 rfl) 45 rfl; exact Flow.spare (Flow.spare_of (k := 45) rfl e45 rfl) (hK _ _ (Below.refl _ _) rfl)
                      · intro a w' hx hu hd K hK; have e45 := Flow.got (hd 3 rfl) 45 rfl; exact Flow.spare (Flow.spare_of (k := 45) rfl e45 rfl) (hK _ _ (Below.refl _ _) rfl)
                      · intro a w' hx hu hd K hK; have e45 := Flow.got (hd 3 rfl) 45 rfl; have e48 := Flow.got (hd 6 rfl) 48 rfl; exact Flow.run1 rfl (Flow.r_pick rfl e45 rfl) (hK _ _ (Below.refl _ _) rfl)
                      · intro a w' hx hu hd K hK; have e49 := Flow.got (hd 7 rfl) 49 rfl; exact Flow.run1 rfl (Flow.r_move rfl e49) (hK _ _ (Below.refl _ _) rfl)
                      · intro a w' hx hu hd K hK; have e50 := Flow.got (hd 8 rfl) 50 rfl; exact Flow.spare (Flow.spare_of (k := 50) rfl e50 rfl) (hK _ _ (Below.refl _ _) rfl)
                      · intro a w' hx hu hd K hK; have e50 := Flow.got (hd 8 rfl) 50 rfl; exact Flow.spare (Flow.spare_of (k := 50) rfl e50 rfl) (hK _ _ (Below.refl _ _) rfl)
                      · intro a w' hx hu hd K hK; have e50 := Flow.got (hd 8 rfl) 50 rfl; exact Flow.spare (Flow.spare_of (k := 50) rfl e50 rfl) (hK _ _ (Below.refl _ _) rfl)
                      · intro a w' hx hu hd K hK; have e50 := Flow.got (hd 8 rfl) 50 rfl; have e53 := Flow.got (hd 11 rfl) 53 rfl; exact Flow.run1 rfl (Flow.r_pick rfl e50 rfl) (hK _ _ (Below.refl _ _) rfl)
                    · intro vs W19 hb19 hT
                      have v0 := Flow.eqn (hT 0 (by decide))
                      have v1 := Flow.eqn (hT 1 (by decide))
                      have v2 := Flow.eqn (hT 2 (by decide))
                      have v3 := Flow.eqn (hT 3 (by decide))
                      have v4 := Flow.eqn (hT 4 (by decide))
                      have v5 := Flow.eqn (hT 5 (by decide))
                      have v6 := Flow.eqn (hT 6 (by decide))
                      have v7 := Flow.eqn (hT 7 (by decide))
                      have v8 := Flow.eqn (hT 8 (by decide))
                      have v9 := Flow.eqn (hT 9 (by decide))
                      have v10 := Flow.eqn (hT 10 (by decide))
                      have v11 := Flow.eqn (hT 11 (by decide))
                      have v12 := Flow.eqn (hT 12 (by decide))
                      simp only [Flow.putsT, v0, v1, v2, v3, v4, v5, v6, v7, v8, v9, v10, v11, v12, Act.put, List.setIfInBounds_toArray, List.set_cons_zero, List.set_cons_succ]
                      clear hT v0 v1 v2 v3 v4 v5 v6 v7 v8 v9 v10 v11 v12
                      have HB19 := Aside0.mk (below_step HBc18.out hb19)
                      clear hb19
                      go_wp2_with fail
                      go_meet
                      exact ⟨congrArg Value.bool ((decide_eq_true (p := xk = 1 ∨ xk = 2 ∨ xk = 4) (by omega)).symm.trans Hc2.out), HB19⟩
                  · skip
                    by_cases h2 : xk = 2
                    · skip
                      refine Flow.seqT (E := fun u v => Below u.heap.size u v) [(some 42, []), (some 43, [0]), (some 44, [1]), (some 45, [2]), (some 46, [3]), (some 47, [4, 3]), (some 48, [5, 3]), (some 49, [3, 6]), (some 50, [7, 3]), (some 51, [8]), (some 52, [9, 8]), (some 53, [10, 8]), (some 54, [8, 11])] (fun iQ vQ wQ => match iQ with | 0 => vQ = (.pointer (some ⟨g1, 0, none⟩)) | 1 => vQ = (.int .i64 xk) | 2 => vQ = (.bool false) | 3 => vQ = (.bool false) | 4 => vQ = (.pointer (some ⟨g1, 0, none⟩)) | 5 => vQ = (.int .i64 xk) | 6 => vQ = (.bool true) | 7 => vQ = (.bool true) | 8 => vQ = (.bool true) | 9 => vQ = undef | 10 => vQ = undef | 11 => vQ = undef | 12 => vQ = (.bool true) | _ => True) rfl (by kernel_rfl) (Below.refl _ _) (fun _ _ _ h k => h.trans (k.mono h.size)) (fun _ _ _ _ h _ => h) ?_ ?_
                      · refine ⟨?_, ?_, ?_, ?_, ?_, ?_, ?_, ?_, ?_, ?_, ?_, ?_, ?_, trivial⟩
                        · intro a w' hx hu hd K hK; have e1 : a.tmps.getD 1 undef = (.pointer (some ⟨g1, 0, none⟩)) := hu 1 rfl; exact Flow.run1 rfl (fa rfl e1 (fa45_0 _ _ _)) (hK _ _ (Below.refl _ _) rfl)
                        · intro a w' hx hu hd K hK; have e42 := Flow.got (hd 0 rfl) 42 rfl; exact Flow.run1 rfl (ld rfl e42 ((blk_cell (blk_below Kg1_2.out (below_step HBc18.out hx)) 0).trans rfl) Tryd.underlying3 rfl) (hK _ _ (Below.refl _ _) rfl)
                        · intro a w' hx hu hd K hK; have e43 := Flow.got (hd 1 rfl) 43 rfl; exact Flow.run1 rfl (no (eql rfl e43 rfl) (beq_eq_false_iff_ne.2 h1)) (hK _ _ (Below.refl _ _) rfl)
                        · intro a w' hx hu hd K hK; have e44 := Flow.got (hd 2 rfl) 44 rfl; exact Flow.run1 rfl (Flow.r_move rfl e44) (hK _ _ (Below.refl _ _) rfl)
                        · intro a w' hx hu hd K hK; have e1 : a.tmps.getD 1 undef = (.pointer (some ⟨g1, 0, none⟩)) := hu 1 rfl; have e45 := Flow.got (hd 3 rfl) 45 rfl; exact Flow.run1 (Flow.want_of (k := 45) rfl e45) (fa rfl e1 (fa45_0 _ _ _)) (hK _ _ (Below.refl _ _) rfl)
                        · intro a w' hx hu hd K hK; have e46 := Flow.got (hd 4 rfl) 46 rfl; have e45 := Flow.got (hd 3 rfl) 45 rfl; exact Flow.run1 (Flow.want_of (k := 45) rfl e45) (ld rfl e46 ((blk_cell (blk_below Kg1_2.out (below_step HBc18.out hx)) 0).trans rfl) Tryd.underlying3 rfl) (hK _ _ (Below.refl _ _) rfl)
                        · intro a w' hx hu hd K hK; have e47 := Flow.got (hd 5 rfl) 47 rfl; have e45 := Flow.got (hd 3 rfl) 45 rfl; exact Flow.run1 (Flow.want_of (k := 45) rfl e45) (yes (eql rfl e47 rfl) (beq_iff_eq.2 h2)) (hK _ _ (Below.refl _ _) rfl)
                        · intro a w' hx hu hd K hK; have e45 := Flow.got (hd 3 rfl) 45 rfl; have e48 := Flow.got (hd 6 rfl) 48 rfl; exact Flow.run1 rfl (Flow.r_pick rfl e45 e48) (hK _ _ (Below.refl _ _) rfl)
                        · intro a w' hx hu hd K hK; have e49 := Flow.got (hd 7 rfl) 49 rfl; exact Flow.run1 rfl (Flow.r_move rfl e49) (hK _ _ (Below.refl _ _) rfl)
                        · intro a w' hx hu hd K hK; have e50 := Flow.got (hd 8 rfl) 50 rfl; exact Flow.spare (Flow.spare_of (k := 50) rfl e50 rfl) (hK _ _ (Below.refl _ _) rfl)
                        · intro a w' hx hu hd K hK; have e50 := Flow.got (hd 8 rfl) 50 rfl; exact Flow.spare (Flow.spare_of (k := 50) rfl e50 rfl) (hK _ _ (Below.refl _ _) rfl)
                        · intro a w' hx hu hd K hK; have e50 := Flow.got (hd 8 rfl) 50 rfl; exact Flow.spare (Flow.spare_of (k := 50) rfl e50 rfl) (hK _ _ (Below.refl _ _) rfl)
                        · intro a w' hx hu hd K hK; have e50 := Flow.got (hd 8 rfl) 50 rfl; have e53 := Flow.got (hd 11 rfl) 53 rfl; exact Flow.run1 rfl (Flow.r_pick rfl e50 rfl) (hK _ _ (Below.refl _ _) rfl)
                      · intro vs W20 hb20 hT
                        have v0 := Flow.eqn (hT 0 (by decide))
                        have v1 := Flow.eqn (hT 1 (by decide))
                        have v2 := Flow.eqn (hT 2 (by decide))
                        have v3 := Flow.eqn (hT 3 (by decide))
                        have v4 := Flow.eqn (hT 4 (by decide))
                        have v5 := Flow.eqn (hT 5 (by decide))
                        have v6 := Flow.eqn (hT 6 (by decide))
                        have v7 := Flow.eqn (hT 7 (by decide))
                        have v8 := Flow.eqn (hT 8 (by decide))
                        have v9 := Flow.eqn (hT 9 (by decide))
                        have v10 := Flow.eqn (hT 10 (by decide))
                        have v11 := Flow.eqn (hT 11 (by decide))
                        have v12 := Flow.eqn (hT 12 (by decide))
                        simp only [Flow.putsT, v0, v1, v2, v3, v4, v5, v6, v7, v8, v9, v10, v11, v12, Act.put, List.setIfInBounds_toArray, List.set_cons_zero, List.set_cons_succ]
                        clear hT v0 v1 v2 v3 v4 v5 v6 v7 v8 v9 v10 v11 v12
                        have HB20 := Aside0.mk (below_step HBc18.out hb20)
                        clear hb20
                        go_wp2_with fail
                        go_meet
                        exact ⟨congrArg Value.bool ((decide_eq_true (p := xk = 1 ∨ xk = 2 ∨ xk = 4) (by omega)).symm.trans Hc2.out), HB20⟩
                    · skip
                      by_cases h3 : xk = 4
                      · skip
                        refine Flow.seqT (E := fun u v => Below u.heap.size u v) [(some 42, []), (some 43, [0]), (some 44, [1]), (some 45, [2]), (some 46, [3]), (some 47, [4, 3]), (some 48, [5, 3]), (some 49, [3, 6]), (some 50, [7, 3]), (some 51, [8]), (some 52, [9, 8]), (some 53, [10, 8]), (some 54, [8, 11])] (fun iQ vQ wQ => match iQ with | 0 => vQ = (.pointer (some ⟨g1, 0, none⟩)) | 1 => vQ = (.int .i64 xk) | 2 => vQ = (.bool false) | 3 => vQ = (.bool false) | 4 => vQ = (.pointer (some ⟨g1, 0, none⟩)) | 5 => vQ = (.int .i64 xk) | 6 => vQ = (.bool false) | 7 => vQ = (.bool false) | 8 => vQ = (.bool false) | 9 => vQ = (.pointer (some ⟨g1, 0, none⟩)) | 10 => vQ = (.int .i64 xk) | 11 => vQ = (.bool true) | 12 => vQ = (.bool true) | _ => True) rfl (by kernel_rfl) (Below.refl _ _) (fun _ _ _ h k => h.trans (k.mono h.size)) (fun _ _ _ _ h _ => h) ?_ ?_
                        · refine ⟨?_, ?_, ?_, ?_, ?_, ?_, ?_, ?_, ?_, ?_, ?_, ?_, ?_, trivial⟩
                          · intro a w' hx hu hd K hK; have e1 : a.tmps.getD 1 undef = (.pointer (some ⟨g1, 0, none⟩)) := hu 1 rfl; exact Flow.run1 rfl (fa rfl e1 (fa45_0 _ _ _)) (hK _ _ (Below.refl _ _) rfl)
                          · intro a w' hx hu hd K hK; have e42 := Flow.got (hd 0 rfl) 42 rfl; exact Flow.run1 rfl (ld rfl e42 ((blk_cell (blk_below Kg1_2.out (below_step HBc18.out hx)) 0).trans rfl) Tryd.underlying3 rfl) (hK _ _ (Below.refl _ _) rfl)
                          · intro a w' hx hu hd K hK; have e43 := Flow.got (hd 1 rfl) 43 rfl; exact Flow.run1 rfl (no (eql rfl e43 rfl) (beq_eq_false_iff_ne.2 h1)) (hK _ _ (Below.refl _ _) rfl)
                          · intro a w' hx hu hd K hK; have e44 := Flow.got (hd 2 rfl) 44 rfl; exact Flow.run1 rfl (Flow.r_move rfl e44) (hK _ _ (Below.refl _ _) rfl)
                          · intro a w' hx hu hd K hK; have e1 : a.tmps.getD 1 undef = (.pointer (some ⟨g1, 0, none⟩)) := hu 1 rfl; have e45 := Flow.got (hd 3 rfl) 45 rfl; exact Flow.run1 (Flow.want_of (k := 45) rfl e45) (fa rfl e1 (fa45_0 _ _ _)) (hK _ _ (Below.refl _ _) rfl)
                          · intro a w' hx hu hd K hK; have e46 := Flow.got (hd 4 rfl) 46 rfl; have e45 := Flow.got (hd 3 rfl) 45 rfl; exact Flow.run1 (Flow.want_of (k := 45) rfl e45) (ld rfl e46 ((blk_cell (blk_below Kg1_2.out (below_step HBc18.out hx)) 0).trans rfl) Tryd.underlying3 rfl) (hK _ _ (Below.refl _ _) rfl)
                          · intro a w' hx hu hd K hK; have e47 := Flow.got (hd 5 rfl) 47 rfl; have e45 := Flow.got (hd 3 rfl) 45 rfl; exact Flow.run1 (Flow.want_of (k := 45) rfl e45) (no (eql rfl e47 rfl) (beq_eq_false_iff_ne.2 h2)) (hK _ _ (Below.refl _ _) rfl)
                          · intro a w' hx hu hd K hK; have e45 := Flow.got (hd 3 rfl) 45 rfl; have e48 := Flow.got (hd 6 rfl) 48 rfl; exact Flow.run1 rfl (Flow.r_pick rfl e45 e48) (hK _ _ (Below.refl _ _) rfl)
                          · intro a w' hx hu hd K hK; have e49 := Flow.got (hd 7 rfl) 49 rfl; exact Flow.run1 rfl (Flow.r_move rfl e49) (hK _ _ (Below.refl _ _) rfl)
                          · intro a w' hx hu hd K hK; have e1 : a.tmps.getD 1 undef = (.pointer (some ⟨g1, 0, none⟩)) := hu 1 rfl; have e50 := Flow.got (hd 8 rfl) 50 rfl; exact Flow.run1 (Flow.want_of (k := 50) rfl e50) (fa rfl e1 (fa45_0 _ _ _)) (hK _ _ (Below.refl _ _) rfl)
                          · intro a w' hx hu hd K hK; have e51 := Flow.got (hd 9 rfl) 51 rfl; have e50 := Flow.got (hd 8 rfl) 50 rfl; exact Flow.run1 (Flow.want_of (k := 50) rfl e50) (ld rfl e51 ((blk_cell (blk_below Kg1_2.out (below_step HBc18.out hx)) 0).trans rfl) Tryd.underlying3 rfl) (hK _ _ (Below.refl _ _) rfl)
                          · intro a w' hx hu hd K hK; have e52 := Flow.got (hd 10 rfl) 52 rfl; have e50 := Flow.got (hd 8 rfl) 50 rfl; exact Flow.run1 (Flow.want_of (k := 50) rfl e50) (yes (eql rfl e52 rfl) (beq_iff_eq.2 h3)) (hK _ _ (Below.refl _ _) rfl)
                          · intro a w' hx hu hd K hK; have e50 := Flow.got (hd 8 rfl) 50 rfl; have e53 := Flow.got (hd 11 rfl) 53 rfl; exact Flow.run1 rfl (Flow.r_pick rfl e50 e53) (hK _ _ (Below.refl _ _) rfl)
                        · intro vs W21 hb21 hT
                          have v0 := Flow.eqn (hT 0 (by decide))
                          have v1 := Flow.eqn (hT 1 (by decide))
                          have v2 := Flow.eqn (hT 2 (by decide))
                          have v3 := Flow.eqn (hT 3 (by decide))
                          have v4 := Flow.eqn (hT 4 (by decide))
                          have v5 := Flow.eqn (hT 5 (by decide))
                          have v6 := Flow.eqn (hT 6 (by decide))
                          have v7 := Flow.eqn (hT 7 (by decide))
                          have v8 := Flow.eqn (hT 8 (by decide))
                          have v9 := Flow.eqn (hT 9 (by decide))
                          have v10 := Flow.eqn (hT 10 (by decide))
                          have v11 := Flow.eqn (hT 11 (by decide))
                          have v12 := Flow.eqn (hT 12 (by decide))
                          simp only [Flow.putsT, v0, v1, v2, v3, v4, v5, v6, v7, v8, v9, v10, v11, v12, Act.put, List.setIfInBounds_toArray, List.set_cons_zero, List.set_cons_succ]
                          clear hT v0 v1 v2 v3 v4 v5 v6 v7 v8 v9 v10 v11 v12
                          have HB21 := Aside0.mk (below_step HBc18.out hb21)
                          clear hb21
                          go_wp2_with fail
                          go_meet
                          exact ⟨congrArg Value.bool ((decide_eq_true (p := xk = 1 ∨ xk = 2 ∨ xk = 4) (by omega)).symm.trans Hc2.out), HB21⟩
                      · skip
                        refine Flow.seqT (E := fun u v => Below u.heap.size u v) [(some 42, []), (some 43, [0]), (some 44, [1]), (some 45, [2]), (some 46, [3]), (some 47, [4, 3]), (some 48, [5, 3]), (some 49, [3, 6]), (some 50, [7, 3]), (some 51, [8]), (some 52, [9, 8]), (some 53, [10, 8]), (some 54, [8, 11])] (fun iQ vQ wQ => match iQ with | 0 => vQ = (.pointer (some ⟨g1, 0, none⟩)) | 1 => vQ = (.int .i64 xk) | 2 => vQ = (.bool false) | 3 => vQ = (.bool false) | 4 => vQ = (.pointer (some ⟨g1, 0, none⟩)) | 5 => vQ = (.int .i64 xk) | 6 => vQ = (.bool false) | 7 => vQ = (.bool false) | 8 => vQ = (.bool false) | 9 => vQ = (.pointer (some ⟨g1, 0, none⟩)) | 10 => vQ = (.int .i64 xk) | 11 => vQ = (.bool false) | 12 => vQ = (.bool false) | _ => True) rfl (by kernel_rfl) (Below.refl _ _) (fun _ _ _ h k => h.trans (k.mono h.size)) (fun _ _ _ _ h _ => h) ?_ ?_
                        · refine ⟨?_, ?_, ?_, ?_, ?_, ?_, ?_, ?_, ?_, ?_, ?_, ?_, ?_, trivial⟩
                          · intro a w' hx hu hd K hK; have e1 : a.tmps.getD 1 undef = (.pointer (some ⟨g1, 0, none⟩)) := hu 1 rfl; exact Flow.run1 rfl (fa rfl e1 (fa45_0 _ _ _)) (hK _ _ (Below.refl _ _) rfl)
                          · intro a w' hx hu hd K hK; have e42 := Flow.got (hd 0 rfl) 42 rfl; exact Flow.run1 rfl (ld rfl e42 ((blk_cell (blk_below Kg1_2.out (below_step HBc18.out hx)) 0).trans rfl) Tryd.underlying3 rfl) (hK _ _ (Below.refl _ _) rfl)
                          · intro a w' hx hu hd K hK; have e43 := Flow.got (hd 1 rfl) 43 rfl; exact Flow.run1 rfl (no (eql rfl e43 rfl) (beq_eq_false_iff_ne.2 h1)) (hK _ _ (Below.refl _ _) rfl)
                          · intro a w' hx hu hd K hK; have e44 := Flow.got (hd 2 rfl) 44 rfl; exact Flow.run1 rfl (Flow.r_move rfl e44) (hK _ _ (Below.refl _ _) rfl)
                          · intro a w' hx hu hd K hK; have e1 : a.tmps.getD 1 undef = (.pointer (some ⟨g1, 0, none⟩)) := hu 1 rfl; have e45 := Flow.got (hd 3 rfl) 45 rfl; exact Flow.run1 (Flow.want_of (k := 45) rfl e45) (fa rfl e1 (fa45_0 _ _ _)) (hK _ _ (Below.refl _ _) rfl)
                          · intro a w' hx hu hd K hK; have e46 := Flow.got (hd 4 rfl) 46 rfl; have e45 := Flow.got (hd 3 rfl) 45 rfl; exact Flow.run1 (Flow.want_of (k := 45) rfl e45) (ld rfl e46 ((blk_cell (blk_below Kg1_2.out (below_step HBc18.out hx)) 0).trans rfl) Tryd.underlying3 rfl) (hK _ _ (Below.refl _ _) rfl)
                          · intro a w' hx hu hd K hK; have e47 := Flow.got (hd 5 rfl) 47 rfl; have e45 := Flow.got (hd 3 rfl) 45 rfl; exact Flow.run1 (Flow.want_of (k := 45) rfl e45) (no (eql rfl e47 rfl) (beq_eq_false_iff_ne.2 h2)) (hK _ _ (Below.refl _ _) rfl)
                          · intro a w' hx hu hd K hK; have e45 := Flow.got (hd 3 rfl) 45 rfl; have e48 := Flow.got (hd 6 rfl) 48 rfl; exact Flow.run1 rfl (Flow.r_pick rfl e45 e48) (hK _ _ (Below.refl _ _) rfl)
                          · intro a w' hx hu hd K hK; have e49 := Flow.got (hd 7 rfl) 49 rfl; exact Flow.run1 rfl (Flow.r_move rfl e49) (hK _ _ (Below.refl _ _) rfl)
                          · intro a w' hx hu hd K hK; have e1 : a.tmps.getD 1 undef = (.pointer (some ⟨g1, 0, none⟩)) := hu 1 rfl; have e50 := Flow.got (hd 8 rfl) 50 rfl; exact Flow.run1 (Flow.want_of (k := 50) rfl e50) (fa rfl e1 (fa45_0 _ _ _)) (hK _ _ (Below.refl _ _) rfl)
                          · intro a w' hx hu hd K hK; have e51 := Flow.got (hd 9 rfl) 51 rfl; have e50 := Flow.got (hd 8 rfl) 50 rfl; exact Flow.run1 (Flow.want_of (k := 50) rfl e50) (ld rfl e51 ((blk_cell (blk_below Kg1_2.out (below_step HBc18.out hx)) 0).trans rfl) Tryd.underlying3 rfl) (hK _ _ (Below.refl _ _) rfl)
                          · intro a w' hx hu hd K hK; have e52 := Flow.got (hd 10 rfl) 52 rfl; have e50 := Flow.got (hd 8 rfl) 50 rfl; exact Flow.run1 (Flow.want_of (k := 50) rfl e50) (no (eql rfl e52 rfl) (beq_eq_false_iff_ne.2 h3)) (hK _ _ (Below.refl _ _) rfl)
                          · intro a w' hx hu hd K hK; have e50 := Flow.got (hd 8 rfl) 50 rfl; have e53 := Flow.got (hd 11 rfl) 53 rfl; exact Flow.run1 rfl (Flow.r_pick rfl e50 e53) (hK _ _ (Below.refl _ _) rfl)
                        · intro vs W22 hb22 hT
                          have v0 := Flow.eqn (hT 0 (by decide))
                          have v1 := Flow.eqn (hT 1 (by decide))
                          have v2 := Flow.eqn (hT 2 (by decide))
                          have v3 := Flow.eqn (hT 3 (by decide))
                          have v4 := Flow.eqn (hT 4 (by decide))
                          have v5 := Flow.eqn (hT 5 (by decide))
                          have v6 := Flow.eqn (hT 6 (by decide))
                          have v7 := Flow.eqn (hT 7 (by decide))
                          have v8 := Flow.eqn (hT 8 (by decide))
                          have v9 := Flow.eqn (hT 9 (by decide))
                          have v10 := Flow.eqn (hT 10 (by decide))
                          have v11 := Flow.eqn (hT 11 (by decide))
                          have v12 := Flow.eqn (hT 12 (by decide))
                          simp only [Flow.putsT, v0, v1, v2, v3, v4, v5, v6, v7, v8, v9, v10, v11, v12, Act.put, List.setIfInBounds_toArray, List.set_cons_zero, List.set_cons_succ]
                          clear hT v0 v1 v2 v3 v4 v5 v6 v7 v8 v9 v10 v11 v12
                          have HB22 := Aside0.mk (below_step HBc18.out hb22)
                          clear hb22
                          go_wp2_with fail
                          go_meet
                          exact ⟨congrArg Value.bool ((decide_eq_false (p := xk = 1 ∨ xk = 2 ∨ xk = 4) (by omega)).symm.trans Hc2.out), HB22⟩
                case rest =>
                  clear HBc18
                  obtain ⟨rfl, HBq23⟩ := hcut
                  go_upto_if 54 with fail
                  go_cut [3] (fun v wx => ∃ t2 : ByteArray, v = .string t2 ∧ Aside0 (t2.size ≤ 94) ∧ Aside0 (t2 = rt1 xk xe xq ++ pc c1 (itoaB xz) ++ pc c2 (itoaB xg)) ∧ Aside0 (Below W2.heap.size W2 wx))
                  case first =>
                    cases c2 with
                    | true =>
                      go_upto_region 8 with fail
                      obtain ⟨t24_1, Ht24_1⟩ : ∃ tQ, Aside0 (t18 ++ ⟨#[32]⟩ = tQ) := ⟨_, ⟨rfl⟩⟩
                      have zt24_1 : t24_1.size ≤ 73 := Ht24_1.out ▸ szapp zt18 (Nat.le_refl 1) (by decide)
                      obtain ⟨t24_5, Ht24_5⟩ : ∃ tQ, Aside0 (t24_1 ++ itoaB xg = tQ) := ⟨_, ⟨rfl⟩⟩
                      have zt24_5 : t24_5.size ≤ 94 := Ht24_5.out ▸ szapp zt24_1 (itoa_size xg hg) (by decide)
                      refine Flow.seqT (E := fun u v => Below u.heap.size u v) [(some 55, []), (some 56, [0]), (some 57, []), (some 58, [2]), (some 59, [3]), (some 60, [1, 4]), (some 3, [5, 4, 0, 1, 2, 3, 4, 5])] (fun iQ vQ wQ => match iQ with | 0 => vQ = (.string t18) | 1 => vQ = (.string t24_1) | 2 => vQ = (.pointer (some ⟨g1, 4, none⟩)) | 3 => vQ = (.int .i64 xg) | 4 => vQ = (.string (itoaB xg)) | 5 => vQ = (.string t24_5) | 6 => vQ = (.string t24_5) | _ => True) rfl (by kernel_rfl) (Below.refl _ _) (fun _ _ _ h k => h.trans (k.mono h.size)) (fun _ _ _ _ h _ => h) ?_ ?_
                      · refine ⟨?_, ?_, ?_, ?_, ?_, ?_, ?_, trivial⟩
                        · intro a w' hx hu hd K hK; have e3 : a.tmps.getD 3 undef = (.string t18) := hu 3 rfl; exact Flow.run1 rfl (Flow.r_move rfl e3) (hK _ _ (Below.refl _ _) rfl)
                        · intro a w' hx hu hd K hK; have e55 := Flow.got (hd 0 rfl) 55 rfl; exact Flow.run1 rfl (Ht24_1.out ▸ cat rfl e55 rfl zt18 (Nat.le_refl 1) (by decide)) (hK _ _ (Below.refl _ _) rfl)
                        · intro a w' hx hu hd K hK; have e1 : a.tmps.getD 1 undef = (.pointer (some ⟨g1, 0, none⟩)) := hu 1 rfl; exact Flow.run1 rfl (fa rfl e1 (fa45_4 _ _ _)) (hK _ _ (Below.refl _ _) rfl)
                        · intro a w' hx hu hd K hK; have e57 := Flow.got (hd 2 rfl) 57 rfl; exact Flow.run1 rfl (ld rfl e57 ((blk_cell (blk_below Kg1_2.out (below_step HBq23.out hx)) 4).trans rfl) Tryd.underlying3 rfl) (hK _ _ (Below.refl _ _) rfl)
                        · intro a w' hx hu hd K hK; have e58 := Flow.got (hd 3 rfl) 58 rfl; refine Flow.want rfl ?_; refine Flow.val_call rfl Tryd.func38 (by kernel_rfl) rfl (by first | (simp only [List.map_toArray, List.map_cons, List.map_nil, Act.eval, e58]; done) | (simp only [List.map_toArray, List.map_cons, List.map_nil, Act.eval, e58]; rfl)) (rnum_c xg hg w') ?_; rintro e w2 ⟨rfl, hb2⟩; exact ⟨_, rfl, hK _ _ hb2 (by rfl)⟩
                        · intro a w' hx hu hd K hK; have e56 := Flow.got (hd 1 rfl) 56 rfl; have e59 := Flow.got (hd 4 rfl) 59 rfl; exact Flow.run1 rfl (Ht24_5.out ▸ cat rfl e56 e59 zt24_1 (itoa_size xg hg) (by decide)) (hK _ _ (Below.refl _ _) rfl)
                        · intro a w' hx hu hd K hK; have e60 := Flow.got (hd 5 rfl) 60 rfl; exact Flow.run1 rfl (Flow.r_assign rfl e60) (hK _ _ (Below.refl _ _) rfl)
                      · intro vs W24 hb24 hT
                        have v0 := Flow.eqn (hT 0 (by decide))
                        have v1 := Flow.eqn (hT 1 (by decide))
                        have v2 := Flow.eqn (hT 2 (by decide))
                        have v3 := Flow.eqn (hT 3 (by decide))
                        have v4 := Flow.eqn (hT 4 (by decide))
                        have v5 := Flow.eqn (hT 5 (by decide))
                        have v6 := Flow.eqn (hT 6 (by decide))
                        simp only [Flow.putsT, v0, v1, v2, v3, v4, v5, v6, Act.put, List.setIfInBounds_toArray, List.set_cons_zero, List.set_cons_succ]
                        clear hT v0 v1 v2 v3 v4 v5 v6
                        have HB24 := Aside0.mk (below_step HBq23.out hb24)
                        clear hb24
                        go_wp2_with fail
                        go_meet
                        exact ⟨_, rfl, ⟨Nat.le_trans zt24_5 (by decide)⟩, ⟨by rw [← Ht24_5.out, ← Ht24_1.out, HE18.out, pc_t]; (try simp only [ByteArray.append_assoc])⟩, HB24⟩
                    | false =>
                      go_wp2_with fail
                      go_meet
                      exact ⟨_, rfl, ⟨Nat.le_trans zt18 (by decide)⟩, ⟨by rw [HE18.out, pc_f]⟩, HBq23⟩
                  case rest =>
                    clear HBq23 HE18
                    obtain ⟨t25, rfl, Zt25, HE25, HBc25⟩ := hcut
                    have zt25 := Zt25.out
                    clear Zt25
                    obtain ⟨c3, Hc3⟩ : ∃ b, Aside0 (decide (xk = 1) = b) := ⟨_, ⟨rfl⟩⟩
                    go_upto_region 9 with fail
                    refine Flow.seqT (E := fun u v => Below u.heap.size u v) [(some 61, []), (some 62, [0]), (some 63, [1])] (fun iQ vQ wQ => match iQ with | 0 => vQ = (.pointer (some ⟨g1, 0, none⟩)) | 1 => vQ = (.int .i64 xk) | 2 => vQ = (.bool c3) | _ => True) rfl (by kernel_rfl) (Below.refl _ _) (fun _ _ _ h k => h.trans (k.mono h.size)) (fun _ _ _ _ h _ => h) ?_ ?_
                    · refine ⟨?_, ?_, ?_, trivial⟩
                      · intro a w' hx hu hd K hK; have e1 : a.tmps.getD 1 undef = (.pointer (some ⟨g1, 0, none⟩)) := hu 1 rfl; exact Flow.run1 rfl (fa rfl e1 (fa45_0 _ _ _)) (hK _ _ (Below.refl _ _) rfl)
                      · intro a w' hx hu hd K hK; have e61 := Flow.got (hd 0 rfl) 61 rfl; exact Flow.run1 rfl (ld rfl e61 ((blk_cell (blk_below Kg1_2.out (below_step HBc25.out hx)) 0).trans rfl) Tryd.underlying3 rfl) (hK _ _ (Below.refl _ _) rfl)
                      · intro a w' hx hu hd K hK; have e62 := Flow.got (hd 1 rfl) 62 rfl; exact Flow.run1 rfl (is (eql rfl e62 rfl) ((show (xk == 1) = decide (xk = 1) from by rw [Bool.eq_iff_iff]; simp).trans Hc3.out)) (hK _ _ (Below.refl _ _) rfl)
                    · intro vs W26 hb26 hT
                      have v0 := Flow.eqn (hT 0 (by decide))
                      have v1 := Flow.eqn (hT 1 (by decide))
                      have v2 := Flow.eqn (hT 2 (by decide))
                      simp only [Flow.putsT, v0, v1, v2, Act.put, List.setIfInBounds_toArray, List.set_cons_zero, List.set_cons_succ]
                      clear hT v0 v1 v2
                      have HB26 := Aside0.mk (below_step HBc25.out hb26)
                      clear hb26
                      go_upto_if 63 with fail
                      go_cut [3] (fun v wx => ∃ t2 : ByteArray, v = .string t2 ∧ Aside0 (t2.size ≤ 116) ∧ Aside0 (t2 = rt1 xk xe xq ++ pc c1 (itoaB xz) ++ pc c2 (itoaB xg) ++ pc c3 (itoaB xs)) ∧ Aside0 (Below W2.heap.size W2 wx))
                      case first =>
                        cases c3 with
                        | true =>
                          go_upto_region 10 with fail
                          obtain ⟨t27_1, Ht27_1⟩ : ∃ tQ, Aside0 (t25 ++ ⟨#[32]⟩ = tQ) := ⟨_, ⟨rfl⟩⟩
                          have zt27_1 : t27_1.size ≤ 95 := Ht27_1.out ▸ szapp zt25 (Nat.le_refl 1) (by decide)
                          obtain ⟨t27_5, Ht27_5⟩ : ∃ tQ, Aside0 (t27_1 ++ itoaB xs = tQ) := ⟨_, ⟨rfl⟩⟩
                          have zt27_5 : t27_5.size ≤ 116 := Ht27_5.out ▸ szapp zt27_1 (itoa_size xs hs) (by decide)
                          refine Flow.seqT (E := fun u v => Below u.heap.size u v) [(some 64, []), (some 65, [0]), (some 66, []), (some 67, [2]), (some 68, [3]), (some 69, [1, 4]), (some 3, [5, 4, 0, 1, 2, 3, 4, 5])] (fun iQ vQ wQ => match iQ with | 0 => vQ = (.string t25) | 1 => vQ = (.string t27_1) | 2 => vQ = (.pointer (some ⟨g1, 5, none⟩)) | 3 => vQ = (.int .i64 xs) | 4 => vQ = (.string (itoaB xs)) | 5 => vQ = (.string t27_5) | 6 => vQ = (.string t27_5) | _ => True) rfl (by kernel_rfl) (Below.refl _ _) (fun _ _ _ h k => h.trans (k.mono h.size)) (fun _ _ _ _ h _ => h) ?_ ?_
                          · refine ⟨?_, ?_, ?_, ?_, ?_, ?_, ?_, trivial⟩
                            · intro a w' hx hu hd K hK; have e3 : a.tmps.getD 3 undef = (.string t25) := hu 3 rfl; exact Flow.run1 rfl (Flow.r_move rfl e3) (hK _ _ (Below.refl _ _) rfl)
                            · intro a w' hx hu hd K hK; have e64 := Flow.got (hd 0 rfl) 64 rfl; exact Flow.run1 rfl (Ht27_1.out ▸ cat rfl e64 rfl zt25 (Nat.le_refl 1) (by decide)) (hK _ _ (Below.refl _ _) rfl)
                            · intro a w' hx hu hd K hK; have e1 : a.tmps.getD 1 undef = (.pointer (some ⟨g1, 0, none⟩)) := hu 1 rfl; exact Flow.run1 rfl (fa rfl e1 (fa45_5 _ _ _)) (hK _ _ (Below.refl _ _) rfl)
                            · intro a w' hx hu hd K hK; have e66 := Flow.got (hd 2 rfl) 66 rfl; exact Flow.run1 rfl (ld rfl e66 ((blk_cell (blk_below Kg1_2.out (below_step HB26.out hx)) 5).trans rfl) Tryd.underlying3 rfl) (hK _ _ (Below.refl _ _) rfl)
                            · intro a w' hx hu hd K hK; have e67 := Flow.got (hd 3 rfl) 67 rfl; refine Flow.want rfl ?_; refine Flow.val_call rfl Tryd.func38 (by kernel_rfl) rfl (by first | (simp only [List.map_toArray, List.map_cons, List.map_nil, Act.eval, e67]; done) | (simp only [List.map_toArray, List.map_cons, List.map_nil, Act.eval, e67]; rfl)) (rnum_c xs hs w') ?_; rintro e w2 ⟨rfl, hb2⟩; exact ⟨_, rfl, hK _ _ hb2 (by rfl)⟩
                            · intro a w' hx hu hd K hK; have e65 := Flow.got (hd 1 rfl) 65 rfl; have e68 := Flow.got (hd 4 rfl) 68 rfl; exact Flow.run1 rfl (Ht27_5.out ▸ cat rfl e65 e68 zt27_1 (itoa_size xs hs) (by decide)) (hK _ _ (Below.refl _ _) rfl)
                            · intro a w' hx hu hd K hK; have e69 := Flow.got (hd 5 rfl) 69 rfl; exact Flow.run1 rfl (Flow.r_assign rfl e69) (hK _ _ (Below.refl _ _) rfl)
                          · intro vs W27 hb27 hT
                            have v0 := Flow.eqn (hT 0 (by decide))
                            have v1 := Flow.eqn (hT 1 (by decide))
                            have v2 := Flow.eqn (hT 2 (by decide))
                            have v3 := Flow.eqn (hT 3 (by decide))
                            have v4 := Flow.eqn (hT 4 (by decide))
                            have v5 := Flow.eqn (hT 5 (by decide))
                            have v6 := Flow.eqn (hT 6 (by decide))
                            simp only [Flow.putsT, v0, v1, v2, v3, v4, v5, v6, Act.put, List.setIfInBounds_toArray, List.set_cons_zero, List.set_cons_succ]
                            clear hT v0 v1 v2 v3 v4 v5 v6
                            have HB27 := Aside0.mk (below_step HB26.out hb27)
                            clear hb27
                            go_wp2_with fail
                            go_meet
                            exact ⟨_, rfl, ⟨Nat.le_trans zt27_5 (by decide)⟩, ⟨by rw [← Ht27_5.out, ← Ht27_1.out, HE25.out, pc_t]; (try simp only [ByteArray.append_assoc])⟩, HB27⟩
                        | false =>
                          go_wp2_with fail
                          go_meet
                          exact ⟨_, rfl, ⟨Nat.le_trans zt25 (by decide)⟩, ⟨by rw [HE25.out, pc_f]⟩, HB26⟩
                      case rest =>
                        clear HB26 HE25
                        obtain ⟨t28, rfl, Zt28, HE28, HBc28⟩ := hcut
                        have zt28 := Zt28.out
                        clear Zt28
                        obtain ⟨c4, Hc4⟩ : ∃ b, Aside0 (decide (xk = 3 ∨ xk = 4) = b) := ⟨_, ⟨rfl⟩⟩
                        go_upto_region 11 with fail
                        go_cut [77] (fun v wx => v = .bool c4 ∧ Aside0 (Below W2.heap.size W2 wx))
                        case first =>
                          by_cases h1 : xk = 3
                          · skip
                            refine Flow.seqT (E := fun u v => Below u.heap.size u v) [(some 70, []), (some 71, [0]), (some 72, [1]), (some 73, [2]), (some 74, [3]), (some 75, [4, 3]), (some 76, [5, 3]), (some 77, [3, 6])] (fun iQ vQ wQ => match iQ with | 0 => vQ = (.pointer (some ⟨g1, 0, none⟩)) | 1 => vQ = (.int .i64 xk) | 2 => vQ = (.bool true) | 3 => vQ = (.bool true) | 4 => vQ = undef | 5 => vQ = undef | 6 => vQ = undef | 7 => vQ = (.bool true) | _ => True) rfl (by kernel_rfl) (Below.refl _ _) (fun _ _ _ h k => h.trans (k.mono h.size)) (fun _ _ _ _ h _ => h) ?_ ?_
                            · refine ⟨?_, ?_, ?_, ?_, ?_, ?_, ?_, ?_, trivial⟩
                              · intro a w' hx hu hd K hK; have e1 : a.tmps.getD 1 undef = (.pointer (some ⟨g1, 0, none⟩)) := hu 1 rfl; exact Flow.run1 rfl (fa rfl e1 (fa45_0 _ _ _)) (hK _ _ (Below.refl _ _) rfl)
                              · intro a w' hx hu hd K hK; have e70 := Flow.got (hd 0 rfl) 70 rfl; exact Flow.run1 rfl (ld rfl e70 ((blk_cell (blk_below Kg1_2.out (below_step HBc28.out hx)) 0).trans rfl) Tryd.underlying3 rfl) (hK _ _ (Below.refl _ _) rfl)
                              · intro a w' hx hu hd K hK; have e71 := Flow.got (hd 1 rfl) 71 rfl; exact Flow.run1 rfl (yes (eql rfl e71 rfl) (beq_iff_eq.2 h1)) (hK _ _ (Below.refl _ _) rfl)
                              · intro a w' hx hu hd K hK; have e72 := Flow.got (hd 2 rfl) 72 rfl; exact Flow.run1 rfl (Flow.r_move rfl e72) (hK _ _ (Below.refl _ _) rfl)
                              · intro a w' hx hu hd K hK; have e73 := Flow.got (hd 3 rfl) 73 rfl; exact Flow.spare (Flow.spare_of (k := 73) rfl e73 rfl) (hK _ _ (Below.refl _ _) rfl)
                              · intro a w' hx hu hd K hK; have e73 := Flow.got (hd 3 rfl) 73 rfl; exact Flow.spare (Flow.spare_of (k := 73) rfl e73 rfl) (hK _ _ (Below.refl _ _) rfl)
                              · intro a w' hx hu hd K hK; have e73 := Flow.got (hd 3 rfl) 73 rfl; exact Flow.spare (Flow.spare_of (k := 73) rfl e73 rfl) (hK _ _ (Below.refl _ _) rfl)
                              · intro a w' hx hu hd K hK; have e73 := Flow.got (hd 3 rfl) 73 rfl; have e76 := Flow.got (hd 6 rfl) 76 rfl; exact Flow.run1 rfl (Flow.r_pick rfl e73 rfl) (hK _ _ (Below.refl _ _) rfl)
                            · intro vs W29 hb29 hT
                              have v0 := Flow.eqn (hT 0 (by decide))
                              have v1 := Flow.eqn (hT 1 (by decide))
                              have v2 := Flow.eqn (hT 2 (by decide))
                              have v3 := Flow.eqn (hT 3 (by decide))
                              have v4 := Flow.eqn (hT 4 (by decide))
                              have v5 := Flow.eqn (hT 5 (by decide))
                              have v6 := Flow.eqn (hT 6 (by decide))
                              have v7 := Flow.eqn (hT 7 (by decide))
                              simp only [Flow.putsT, v0, v1, v2, v3, v4, v5, v6, v7, Act.put, List.setIfInBounds_toArray, List.set_cons_zero, List.set_cons_succ]
                              clear hT v0 v1 v2 v3 v4 v5 v6 v7
                              have HB29 := Aside0.mk (below_step HBc28.out hb29)
                              clear hb29
                              go_wp2_with fail
                              go_meet
                              exact ⟨congrArg Value.bool ((decide_eq_true (p := xk = 3 ∨ xk = 4) (by omega)).symm.trans Hc4.out), HB29⟩
                          · skip
                            by_cases h2 : xk = 4
                            · skip
                              refine Flow.seqT (E := fun u v => Below u.heap.size u v) [(some 70, []), (some 71, [0]), (some 72, [1]), (some 73, [2]), (some 74, [3]), (some 75, [4, 3]), (some 76, [5, 3]), (some 77, [3, 6])] (fun iQ vQ wQ => match iQ with | 0 => vQ = (.pointer (some ⟨g1, 0, none⟩)) | 1 => vQ = (.int .i64 xk) | 2 => vQ = (.bool false) | 3 => vQ = (.bool false) | 4 => vQ = (.pointer (some ⟨g1, 0, none⟩)) | 5 => vQ = (.int .i64 xk) | 6 => vQ = (.bool true) | 7 => vQ = (.bool true) | _ => True) rfl (by kernel_rfl) (Below.refl _ _) (fun _ _ _ h k => h.trans (k.mono h.size)) (fun _ _ _ _ h _ => h) ?_ ?_
                              · refine ⟨?_, ?_, ?_, ?_, ?_, ?_, ?_, ?_, trivial⟩
                                · intro a w' hx hu hd K hK; have e1 : a.tmps.getD 1 undef = (.pointer (some ⟨g1, 0, none⟩)) := hu 1 rfl; exact Flow.run1 rfl (fa rfl e1 (fa45_0 _ _ _)) (hK _ _ (Below.refl _ _) rfl)
                                · intro a w' hx hu hd K hK; have e70 := Flow.got (hd 0 rfl) 70 rfl; exact Flow.run1 rfl (ld rfl e70 ((blk_cell (blk_below Kg1_2.out (below_step HBc28.out hx)) 0).trans rfl) Tryd.underlying3 rfl) (hK _ _ (Below.refl _ _) rfl)
                                · intro a w' hx hu hd K hK; have e71 := Flow.got (hd 1 rfl) 71 rfl; exact Flow.run1 rfl (no (eql rfl e71 rfl) (beq_eq_false_iff_ne.2 h1)) (hK _ _ (Below.refl _ _) rfl)
                                · intro a w' hx hu hd K hK; have e72 := Flow.got (hd 2 rfl) 72 rfl; exact Flow.run1 rfl (Flow.r_move rfl e72) (hK _ _ (Below.refl _ _) rfl)
                                · intro a w' hx hu hd K hK; have e1 : a.tmps.getD 1 undef = (.pointer (some ⟨g1, 0, none⟩)) := hu 1 rfl; have e73 := Flow.got (hd 3 rfl) 73 rfl; exact Flow.run1 (Flow.want_of (k := 73) rfl e73) (fa rfl e1 (fa45_0 _ _ _)) (hK _ _ (Below.refl _ _) rfl)
                                · intro a w' hx hu hd K hK; have e74 := Flow.got (hd 4 rfl) 74 rfl; have e73 := Flow.got (hd 3 rfl) 73 rfl; exact Flow.run1 (Flow.want_of (k := 73) rfl e73) (ld rfl e74 ((blk_cell (blk_below Kg1_2.out (below_step HBc28.out hx)) 0).trans rfl) Tryd.underlying3 rfl) (hK _ _ (Below.refl _ _) rfl)
                                · intro a w' hx hu hd K hK; have e75 := Flow.got (hd 5 rfl) 75 rfl; have e73 := Flow.got (hd 3 rfl) 73 rfl; exact Flow.run1 (Flow.want_of (k := 73) rfl e73) (yes (eql rfl e75 rfl) (beq_iff_eq.2 h2)) (hK _ _ (Below.refl _ _) rfl)
                                · intro a w' hx hu hd K hK; have e73 := Flow.got (hd 3 rfl) 73 rfl; have e76 := Flow.got (hd 6 rfl) 76 rfl; exact Flow.run1 rfl (Flow.r_pick rfl e73 e76) (hK _ _ (Below.refl _ _) rfl)
                              · intro vs W30 hb30 hT
                                have v0 := Flow.eqn (hT 0 (by decide))
                                have v1 := Flow.eqn (hT 1 (by decide))
                                have v2 := Flow.eqn (hT 2 (by decide))
                                have v3 := Flow.eqn (hT 3 (by decide))
                                have v4 := Flow.eqn (hT 4 (by decide))
                                have v5 := Flow.eqn (hT 5 (by decide))
                                have v6 := Flow.eqn (hT 6 (by decide))
                                have v7 := Flow.eqn (hT 7 (by decide))
                                simp only [Flow.putsT, v0, v1, v2, v3, v4, v5, v6, v7, Act.put, List.setIfInBounds_toArray, List.set_cons_zero, List.set_cons_succ]
                                clear hT v0 v1 v2 v3 v4 v5 v6 v7
                                have HB30 := Aside0.mk (below_step HBc28.out hb30)
                                clear hb30
                                go_wp2_with fail
                                go_meet
                                exact ⟨congrArg Value.bool ((decide_eq_true (p := xk = 3 ∨ xk = 4) (by omega)).symm.trans Hc4.out), HB30⟩
                            · skip
                              refine Flow.seqT (E := fun u v => Below u.heap.size u v) [(some 70, []), (some 71, [0]), (some 72, [1]), (some 73, [2]), (some 74, [3]), (some 75, [4, 3]), (some 76, [5, 3]), (some 77, [3, 6])] (fun iQ vQ wQ => match iQ with | 0 => vQ = (.pointer (some ⟨g1, 0, none⟩)) | 1 => vQ = (.int .i64 xk) | 2 => vQ = (.bool false) | 3 => vQ = (.bool false) | 4 => vQ = (.pointer (some ⟨g1, 0, none⟩)) | 5 => vQ = (.int .i64 xk) | 6 => vQ = (.bool false) | 7 => vQ = (.bool false) | _ => True) rfl (by kernel_rfl) (Below.refl _ _) (fun _ _ _ h k => h.trans (k.mono h.size)) (fun _ _ _ _ h _ => h) ?_ ?_
                              · refine ⟨?_, ?_, ?_, ?_, ?_, ?_, ?_, ?_, trivial⟩
                                · intro a w' hx hu hd K hK; have e1 : a.tmps.getD 1 undef = (.pointer (some ⟨g1, 0, none⟩)) := hu 1 rfl; exact Flow.run1 rfl (fa rfl e1 (fa45_0 _ _ _)) (hK _ _ (Below.refl _ _) rfl)
                                · intro a w' hx hu hd K hK; have e70 := Flow.got (hd 0 rfl) 70 rfl; exact Flow.run1 rfl (ld rfl e70 ((blk_cell (blk_below Kg1_2.out (below_step HBc28.out hx)) 0).trans rfl) Tryd.underlying3 rfl) (hK _ _ (Below.refl _ _) rfl)
                                · intro a w' hx hu hd K hK; have e71 := Flow.got (hd 1 rfl) 71 rfl; exact Flow.run1 rfl (no (eql rfl e71 rfl) (beq_eq_false_iff_ne.2 h1)) (hK _ _ (Below.refl _ _) rfl)
                                · intro a w' hx hu hd K hK; have e72 := Flow.got (hd 2 rfl) 72 rfl; exact Flow.run1 rfl (Flow.r_move rfl e72) (hK _ _ (Below.refl _ _) rfl)
                                · intro a w' hx hu hd K hK; have e1 : a.tmps.getD 1 undef = (.pointer (some ⟨g1, 0, none⟩)) := hu 1 rfl; have e73 := Flow.got (hd 3 rfl) 73 rfl; exact Flow.run1 (Flow.want_of (k := 73) rfl e73) (fa rfl e1 (fa45_0 _ _ _)) (hK _ _ (Below.refl _ _) rfl)
                                · intro a w' hx hu hd K hK; have e74 := Flow.got (hd 4 rfl) 74 rfl; have e73 := Flow.got (hd 3 rfl) 73 rfl; exact Flow.run1 (Flow.want_of (k := 73) rfl e73) (ld rfl e74 ((blk_cell (blk_below Kg1_2.out (below_step HBc28.out hx)) 0).trans rfl) Tryd.underlying3 rfl) (hK _ _ (Below.refl _ _) rfl)
                                · intro a w' hx hu hd K hK; have e75 := Flow.got (hd 5 rfl) 75 rfl; have e73 := Flow.got (hd 3 rfl) 73 rfl; exact Flow.run1 (Flow.want_of (k := 73) rfl e73) (no (eql rfl e75 rfl) (beq_eq_false_iff_ne.2 h2)) (hK _ _ (Below.refl _ _) rfl)
                                · intro a w' hx hu hd K hK; have e73 := Flow.got (hd 3 rfl) 73 rfl; have e76 := Flow.got (hd 6 rfl) 76 rfl; exact Flow.run1 rfl (Flow.r_pick rfl e73 e76) (hK _ _ (Below.refl _ _) rfl)
                              · intro vs W31 hb31 hT
                                have v0 := Flow.eqn (hT 0 (by decide))
                                have v1 := Flow.eqn (hT 1 (by decide))
                                have v2 := Flow.eqn (hT 2 (by decide))
                                have v3 := Flow.eqn (hT 3 (by decide))
                                have v4 := Flow.eqn (hT 4 (by decide))
                                have v5 := Flow.eqn (hT 5 (by decide))
                                have v6 := Flow.eqn (hT 6 (by decide))
                                have v7 := Flow.eqn (hT 7 (by decide))
                                simp only [Flow.putsT, v0, v1, v2, v3, v4, v5, v6, v7, Act.put, List.setIfInBounds_toArray, List.set_cons_zero, List.set_cons_succ]
                                clear hT v0 v1 v2 v3 v4 v5 v6 v7
                                have HB31 := Aside0.mk (below_step HBc28.out hb31)
                                clear hb31
                                go_wp2_with fail
                                go_meet
                                exact ⟨congrArg Value.bool ((decide_eq_false (p := xk = 3 ∨ xk = 4) (by omega)).symm.trans Hc4.out), HB31⟩
                        case rest =>
                          clear HBc28
                          obtain ⟨rfl, HBq32⟩ := hcut
                          go_upto_if 77 with fail
                          go_cut [3] (fun v wx => ∃ t2 : ByteArray, v = .string t2 ∧ Aside0 (t2.size ≤ 138) ∧ Aside0 (t2 = rt1 xk xe xq ++ pc c1 (itoaB xz) ++ pc c2 (itoaB xg) ++ pc c3 (itoaB xs) ++ pc c4 (itoaB xw)) ∧ Aside0 (Below W2.heap.size W2 wx))
                          case first =>
                            cases c4 with
                            | true =>
                              go_upto_region 12 with fail
                              obtain ⟨t33_1, Ht33_1⟩ : ∃ tQ, Aside0 (t28 ++ ⟨#[32]⟩ = tQ) := ⟨_, ⟨rfl⟩⟩
                              have zt33_1 : t33_1.size ≤ 117 := Ht33_1.out ▸ szapp zt28 (Nat.le_refl 1) (by decide)
                              obtain ⟨t33_5, Ht33_5⟩ : ∃ tQ, Aside0 (t33_1 ++ itoaB xw = tQ) := ⟨_, ⟨rfl⟩⟩
                              have zt33_5 : t33_5.size ≤ 138 := Ht33_5.out ▸ szapp zt33_1 (itoa_size xw hw) (by decide)
                              refine Flow.seqT (E := fun u v => Below u.heap.size u v) [(some 78, []), (some 79, [0]), (some 80, []), (some 81, [2]), (some 82, [3]), (some 83, [1, 4]), (some 3, [5, 4, 0, 1, 2, 3, 4, 5])] (fun iQ vQ wQ => match iQ with | 0 => vQ = (.string t28) | 1 => vQ = (.string t33_1) | 2 => vQ = (.pointer (some ⟨g1, 6, none⟩)) | 3 => vQ = (.int .i64 xw) | 4 => vQ = (.string (itoaB xw)) | 5 => vQ = (.string t33_5) | 6 => vQ = (.string t33_5) | _ => True) rfl (by kernel_rfl) (Below.refl _ _) (fun _ _ _ h k => h.trans (k.mono h.size)) (fun _ _ _ _ h _ => h) ?_ ?_
                              · refine ⟨?_, ?_, ?_, ?_, ?_, ?_, ?_, trivial⟩
                                · intro a w' hx hu hd K hK; have e3 : a.tmps.getD 3 undef = (.string t28) := hu 3 rfl; exact Flow.run1 rfl (Flow.r_move rfl e3) (hK _ _ (Below.refl _ _) rfl)
                                · intro a w' hx hu hd K hK; have e78 := Flow.got (hd 0 rfl) 78 rfl; exact Flow.run1 rfl (Ht33_1.out ▸ cat rfl e78 rfl zt28 (Nat.le_refl 1) (by decide)) (hK _ _ (Below.refl _ _) rfl)
                                · intro a w' hx hu hd K hK; have e1 : a.tmps.getD 1 undef = (.pointer (some ⟨g1, 0, none⟩)) := hu 1 rfl; exact Flow.run1 rfl (fa rfl e1 (fa45_6 _ _ _)) (hK _ _ (Below.refl _ _) rfl)
                                · intro a w' hx hu hd K hK; have e80 := Flow.got (hd 2 rfl) 80 rfl; exact Flow.run1 rfl (ld rfl e80 ((blk_cell (blk_below Kg1_2.out (below_step HBq32.out hx)) 6).trans rfl) Tryd.underlying3 rfl) (hK _ _ (Below.refl _ _) rfl)
                                · intro a w' hx hu hd K hK; have e81 := Flow.got (hd 3 rfl) 81 rfl; refine Flow.want rfl ?_; refine Flow.val_call rfl Tryd.func38 (by kernel_rfl) rfl (by first | (simp only [List.map_toArray, List.map_cons, List.map_nil, Act.eval, e81]; done) | (simp only [List.map_toArray, List.map_cons, List.map_nil, Act.eval, e81]; rfl)) (rnum_c xw hw w') ?_; rintro e w2 ⟨rfl, hb2⟩; exact ⟨_, rfl, hK _ _ hb2 (by rfl)⟩
                                · intro a w' hx hu hd K hK; have e79 := Flow.got (hd 1 rfl) 79 rfl; have e82 := Flow.got (hd 4 rfl) 82 rfl; exact Flow.run1 rfl (Ht33_5.out ▸ cat rfl e79 e82 zt33_1 (itoa_size xw hw) (by decide)) (hK _ _ (Below.refl _ _) rfl)
                                · intro a w' hx hu hd K hK; have e83 := Flow.got (hd 5 rfl) 83 rfl; exact Flow.run1 rfl (Flow.r_assign rfl e83) (hK _ _ (Below.refl _ _) rfl)
                              · intro vs W33 hb33 hT
                                have v0 := Flow.eqn (hT 0 (by decide))
                                have v1 := Flow.eqn (hT 1 (by decide))
                                have v2 := Flow.eqn (hT 2 (by decide))
                                have v3 := Flow.eqn (hT 3 (by decide))
                                have v4 := Flow.eqn (hT 4 (by decide))
                                have v5 := Flow.eqn (hT 5 (by decide))
                                have v6 := Flow.eqn (hT 6 (by decide))
                                simp only [Flow.putsT, v0, v1, v2, v3, v4, v5, v6, Act.put, List.setIfInBounds_toArray, List.set_cons_zero, List.set_cons_succ]
                                clear hT v0 v1 v2 v3 v4 v5 v6
                                have HB33 := Aside0.mk (below_step HBq32.out hb33)
                                clear hb33
                                go_wp2_with fail
                                go_meet
                                exact ⟨_, rfl, ⟨Nat.le_trans zt33_5 (by decide)⟩, ⟨by rw [← Ht33_5.out, ← Ht33_1.out, HE28.out, pc_t]; (try simp only [ByteArray.append_assoc])⟩, HB33⟩
                            | false =>
                              go_wp2_with fail
                              go_meet
                              exact ⟨_, rfl, ⟨Nat.le_trans zt28 (by decide)⟩, ⟨by rw [HE28.out, pc_f]⟩, HBq32⟩
                          case rest =>
                            clear HBq32 HE28
                            obtain ⟨t34, rfl, Zt34, HE34, HBc34⟩ := hcut
                            have zt34 := Zt34.out
                            clear Zt34
                            obtain ⟨c5, Hc5⟩ : ∃ b, Aside0 (decide (xk = 4) = b) := ⟨_, ⟨rfl⟩⟩
                            go_upto_region 13 with fail
                            refine Flow.seqT (E := fun u v => Below u.heap.size u v) [(some 84, []), (some 85, [0]), (some 86, [1])] (fun iQ vQ wQ => match iQ with | 0 => vQ = (.pointer (some ⟨g1, 0, none⟩)) | 1 => vQ = (.int .i64 xk) | 2 => vQ = (.bool c5) | _ => True) rfl (by kernel_rfl) (Below.refl _ _) (fun _ _ _ h k => h.trans (k.mono h.size)) (fun _ _ _ _ h _ => h) ?_ ?_
                            · refine ⟨?_, ?_, ?_, trivial⟩
                              · intro a w' hx hu hd K hK; have e1 : a.tmps.getD 1 undef = (.pointer (some ⟨g1, 0, none⟩)) := hu 1 rfl; exact Flow.run1 rfl (fa rfl e1 (fa45_0 _ _ _)) (hK _ _ (Below.refl _ _) rfl)
                              · intro a w' hx hu hd K hK; have e84 := Flow.got (hd 0 rfl) 84 rfl; exact Flow.run1 rfl (ld rfl e84 ((blk_cell (blk_below Kg1_2.out (below_step HBc34.out hx)) 0).trans rfl) Tryd.underlying3 rfl) (hK _ _ (Below.refl _ _) rfl)
                              · intro a w' hx hu hd K hK; have e85 := Flow.got (hd 1 rfl) 85 rfl; exact Flow.run1 rfl (is (eql rfl e85 rfl) ((show (xk == 4) = decide (xk = 4) from by rw [Bool.eq_iff_iff]; simp).trans Hc5.out)) (hK _ _ (Below.refl _ _) rfl)
                            · intro vs W35 hb35 hT
                              have v0 := Flow.eqn (hT 0 (by decide))
                              have v1 := Flow.eqn (hT 1 (by decide))
                              have v2 := Flow.eqn (hT 2 (by decide))
                              simp only [Flow.putsT, v0, v1, v2, Act.put, List.setIfInBounds_toArray, List.set_cons_zero, List.set_cons_succ]
                              clear hT v0 v1 v2
                              have HB35 := Aside0.mk (below_step HBc34.out hb35)
                              clear hb35
                              go_upto_if 86 with fail
                              go_cut [3] (fun v wx => ∃ t2 : ByteArray, v = .string t2 ∧ Aside0 (t2.size ≤ 2139) ∧ Aside0 (t2 = rt1 xk xe xq ++ pc c1 (itoaB xz) ++ pc c2 (itoaB xg) ++ pc c3 (itoaB xs) ++ pc c4 (itoaB xw) ++ pc c5 (hexB l)) ∧ Aside0 (Below W2.heap.size W2 wx))
                              case first =>
                                cases c5 with
                                | true =>
                                  go_upto_region 14 with fail
                                  obtain ⟨t36_1, Ht36_1⟩ : ∃ tQ, Aside0 (t34 ++ ⟨#[32]⟩ = tQ) := ⟨_, ⟨rfl⟩⟩
                                  have zt36_1 : t36_1.size ≤ 139 := Ht36_1.out ▸ szapp zt34 (Nat.le_refl 1) (by decide)
                                  obtain ⟨t36_5, Ht36_5⟩ : ∃ tQ, Aside0 (t36_1 ++ hexB l = tQ) := ⟨_, ⟨rfl⟩⟩
                                  have zt36_5 : t36_5.size ≤ 2139 := Ht36_5.out ▸ szapp zt36_1 (show (hexB l).size ≤ 2000 by rw [hexB_size]; omega) (by decide)
                                  refine Flow.seqT (E := fun u v => Below u.heap.size u v) [(some 87, []), (some 88, [0]), (some 89, []), (some 90, [2]), (some 91, [3]), (some 92, [1, 4]), (some 3, [5, 4, 0, 1, 2, 3, 4, 5])] (fun iQ vQ wQ => match iQ with | 0 => vQ = (.string t34) | 1 => vQ = (.string t36_1) | 2 => vQ = (.pointer (some ⟨g1, 9, none⟩)) | 3 => vQ = (.slice A l.length c) | 4 => vQ = (.string (hexB l)) | 5 => vQ = (.string t36_5) | 6 => vQ = (.string t36_5) | _ => True) rfl (by kernel_rfl) (Below.refl _ _) (fun _ _ _ h k => h.trans (k.mono h.size)) (fun _ _ _ _ h _ => h) ?_ ?_
                                  · refine ⟨?_, ?_, ?_, ?_, ?_, ?_, ?_, trivial⟩
                                    · intro a w' hx hu hd K hK; have e3 : a.tmps.getD 3 undef = (.string t34) := hu 3 rfl; exact Flow.run1 rfl (Flow.r_move rfl e3) (hK _ _ (Below.refl _ _) rfl)
                                    · intro a w' hx hu hd K hK; have e87 := Flow.got (hd 0 rfl) 87 rfl; exact Flow.run1 rfl (Ht36_1.out ▸ cat rfl e87 rfl zt34 (Nat.le_refl 1) (by decide)) (hK _ _ (Below.refl _ _) rfl)
                                    · intro a w' hx hu hd K hK; have e1 : a.tmps.getD 1 undef = (.pointer (some ⟨g1, 0, none⟩)) := hu 1 rfl; exact Flow.run1 rfl (fa rfl e1 (fa45_9 _ _ _)) (hK _ _ (Below.refl _ _) rfl)
                                    · intro a w' hx hu hd K hK; have e89 := Flow.got (hd 2 rfl) 89 rfl; exact Flow.run1 rfl (ld rfl e89 ((blk_cell (blk_below Kg1_2.out (below_step HB35.out hx)) 9).trans rfl) Tryd.underlying43 rfl) (hK _ _ (Below.refl _ _) rfl)
                                    · intro a w' hx hu hd K hK; have e90 := Flow.got (hd 3 rfl) 90 rfl; refine Flow.want rfl ?_; refine Flow.val_call rfl Tryd.func26 (by kernel_rfl) rfl (by first | (simp only [List.map_toArray, List.map_cons, List.map_nil, Act.eval, e90]; done) | (simp only [List.map_toArray, List.map_cons, List.map_nil, Act.eval, e90]; rfl)) (rhex_c l A c HB8.out (by omega) w' (Kd.C_below HC.out (below_step HB35.out hx))) ?_; rintro e w2 ⟨rfl, hb2⟩; exact ⟨_, rfl, hK _ _ hb2 (by rfl)⟩
                                    · intro a w' hx hu hd K hK; have e88 := Flow.got (hd 1 rfl) 88 rfl; have e91 := Flow.got (hd 4 rfl) 91 rfl; exact Flow.run1 rfl (Ht36_5.out ▸ cat rfl e88 e91 zt36_1 (show (hexB l).size ≤ 2000 by rw [hexB_size]; omega) (by decide)) (hK _ _ (Below.refl _ _) rfl)
                                    · intro a w' hx hu hd K hK; have e92 := Flow.got (hd 5 rfl) 92 rfl; exact Flow.run1 rfl (Flow.r_assign rfl e92) (hK _ _ (Below.refl _ _) rfl)
                                  · intro vs W36 hb36 hT
                                    have v0 := Flow.eqn (hT 0 (by decide))
                                    have v1 := Flow.eqn (hT 1 (by decide))
                                    have v2 := Flow.eqn (hT 2 (by decide))
                                    have v3 := Flow.eqn (hT 3 (by decide))
                                    have v4 := Flow.eqn (hT 4 (by decide))
                                    have v5 := Flow.eqn (hT 5 (by decide))
                                    have v6 := Flow.eqn (hT 6 (by decide))
                                    simp only [Flow.putsT, v0, v1, v2, v3, v4, v5, v6, Act.put, List.setIfInBounds_toArray, List.set_cons_zero, List.set_cons_succ]
                                    clear hT v0 v1 v2 v3 v4 v5 v6
                                    have HB36 := Aside0.mk (below_step HB35.out hb36)
                                    clear hb36
                                    go_wp2_with fail
                                    go_meet
                                    exact ⟨_, rfl, ⟨Nat.le_trans zt36_5 (by decide)⟩, ⟨by rw [← Ht36_5.out, ← Ht36_1.out, HE34.out, pc_t]; (try simp only [ByteArray.append_assoc])⟩, HB36⟩
                                | false =>
                                  go_wp2_with fail
                                  go_meet
                                  exact ⟨_, rfl, ⟨Nat.le_trans zt34 (by decide)⟩, ⟨by rw [HE34.out, pc_f]⟩, HB35⟩
                              case rest =>
                                clear HB35 HE34
                                obtain ⟨t37, rfl, Zt37, HE37, HBc37⟩ := hcut
                                have zt37 := Zt37.out
                                clear Zt37
                                obtain ⟨c6, Hc6⟩ : ∃ b, Aside0 (decide (xk = 6) = b) := ⟨_, ⟨rfl⟩⟩
                                go_upto_region 15 with fail
                                refine Flow.seqT (E := fun u v => Below u.heap.size u v) [(some 93, []), (some 94, [0]), (some 95, [1])] (fun iQ vQ wQ => match iQ with | 0 => vQ = (.pointer (some ⟨g1, 0, none⟩)) | 1 => vQ = (.int .i64 xk) | 2 => vQ = (.bool c6) | _ => True) rfl (by kernel_rfl) (Below.refl _ _) (fun _ _ _ h k => h.trans (k.mono h.size)) (fun _ _ _ _ h _ => h) ?_ ?_
                                · refine ⟨?_, ?_, ?_, trivial⟩
                                  · intro a w' hx hu hd K hK; have e1 : a.tmps.getD 1 undef = (.pointer (some ⟨g1, 0, none⟩)) := hu 1 rfl; exact Flow.run1 rfl (fa rfl e1 (fa45_0 _ _ _)) (hK _ _ (Below.refl _ _) rfl)
                                  · intro a w' hx hu hd K hK; have e93 := Flow.got (hd 0 rfl) 93 rfl; exact Flow.run1 rfl (ld rfl e93 ((blk_cell (blk_below Kg1_2.out (below_step HBc37.out hx)) 0).trans rfl) Tryd.underlying3 rfl) (hK _ _ (Below.refl _ _) rfl)
                                  · intro a w' hx hu hd K hK; have e94 := Flow.got (hd 1 rfl) 94 rfl; exact Flow.run1 rfl (is (eql rfl e94 rfl) ((show (xk == 6) = decide (xk = 6) from by rw [Bool.eq_iff_iff]; simp).trans Hc6.out)) (hK _ _ (Below.refl _ _) rfl)
                                · intro vs W38 hb38 hT
                                  have v0 := Flow.eqn (hT 0 (by decide))
                                  have v1 := Flow.eqn (hT 1 (by decide))
                                  have v2 := Flow.eqn (hT 2 (by decide))
                                  simp only [Flow.putsT, v0, v1, v2, Act.put, List.setIfInBounds_toArray, List.set_cons_zero, List.set_cons_succ]
                                  clear hT v0 v1 v2
                                  have HB38 := Aside0.mk (below_step HBc37.out hb38)
                                  clear hb38
                                  go_upto_if 95 with fail
                                  go_cut [3] (fun v wx => ∃ t2 : ByteArray, v = .string t2 ∧ Aside0 (t2.size ≤ 2183) ∧ Aside0 (t2 = rt1 xk xe xq ++ pc c1 (itoaB xz) ++ pc c2 (itoaB xg) ++ pc c3 (itoaB xs) ++ pc c4 (itoaB xw) ++ pc c5 (hexB l) ++ pc c6 (itoaB xm ++ ⟨#[32]⟩ ++ itoaB xu)) ∧ Aside0 (Below W2.heap.size W2 wx))
                                  case first =>
                                    cases c6 with
                                    | true =>
                                      go_upto_region 16 with fail
                                      obtain ⟨t39_1, Ht39_1⟩ : ∃ tQ, Aside0 (t37 ++ ⟨#[32]⟩ = tQ) := ⟨_, ⟨rfl⟩⟩
                                      have zt39_1 : t39_1.size ≤ 2140 := Ht39_1.out ▸ szapp zt37 (Nat.le_refl 1) (by decide)
                                      obtain ⟨t39_5, Ht39_5⟩ : ∃ tQ, Aside0 (t39_1 ++ itoaB xm = tQ) := ⟨_, ⟨rfl⟩⟩
                                      have zt39_5 : t39_5.size ≤ 2161 := Ht39_5.out ▸ szapp zt39_1 (itoa_size xm hm) (by decide)
                                      obtain ⟨t39_6, Ht39_6⟩ : ∃ tQ, Aside0 (t39_5 ++ ⟨#[32]⟩ = tQ) := ⟨_, ⟨rfl⟩⟩
                                      have zt39_6 : t39_6.size ≤ 2162 := Ht39_6.out ▸ szapp zt39_5 (Nat.le_refl 1) (by decide)
                                      obtain ⟨t39_10, Ht39_10⟩ : ∃ tQ, Aside0 (t39_6 ++ itoaB xu = tQ) := ⟨_, ⟨rfl⟩⟩
                                      have zt39_10 : t39_10.size ≤ 2183 := Ht39_10.out ▸ szapp zt39_6 (itoa_size xu hxu) (by decide)
                                      refine Flow.flowT (E := fun u v => Below u.heap.size u v) [(some 96, []), (some 97, [0]), (some 98, []), (some 99, [2]), (some 100, [3]), (some 101, [1, 4]), (some 102, [5]), (some 103, []), (some 104, [7]), (some 105, [8, 4]), (some 106, [6, 9]), (some 3, [10, 9, 0, 1, 2, 3, 4, 5, 6, 7, 8, 9, 10])] (fun iQ vQ wQ => match iQ with | 0 => vQ = (.string t37) | 1 => vQ = (.string t39_1) | 2 => vQ = (.pointer (some ⟨g1, 7, none⟩)) | 3 => vQ = (.int .i64 xm) | 4 => vQ = (.string (itoaB xm)) | 5 => vQ = (.string t39_5) | 6 => vQ = (.string t39_6) | 7 => vQ = (.pointer (some ⟨g1, 8, none⟩)) | 8 => vQ = (.int .i64 xu) | 9 => vQ = (.string (itoaB xu)) | 10 => vQ = (.string t39_10) | 11 => vQ = (.string t39_10) | _ => True) rfl (by kernel_rfl) (by kernel_rfl) (by kernel_rfl) ((Below.refl _ _).drew) (fun _ _ _ h k => h.trans (k.mono h.size)) (fun _ _ _ _ h _ => h) ?_ ?_
                                      · refine ⟨?_, ?_, ?_, ?_, ?_, ?_, ?_, ?_, ?_, ?_, ?_, ?_, trivial⟩
                                        · intro a w' hx hu hd K hK; have e3 : a.tmps.getD 3 undef = (.string t37) := hu 3 rfl; exact Flow.run1 rfl (Flow.r_move rfl e3) (hK _ _ (Below.refl _ _) rfl)
                                        · intro a w' hx hu hd K hK; have e96 := Flow.got (hd 0 (by decide)) 96 rfl; exact Flow.run1 rfl (Ht39_1.out ▸ cat rfl e96 rfl zt37 (Nat.le_refl 1) (by decide)) (hK _ _ (Below.refl _ _) rfl)
                                        · intro a w' hx hu hd K hK; have e1 : a.tmps.getD 1 undef = (.pointer (some ⟨g1, 0, none⟩)) := hu 1 rfl; exact Flow.run1 rfl (fa rfl e1 (fa45_7 _ _ _)) (hK _ _ (Below.refl _ _) rfl)
                                        · intro a w' hx hu hd K hK; have e98 := Flow.got (hd 2 (by decide)) 98 rfl; exact Flow.run1 rfl (ld rfl e98 ((blk_cell (blk_below Kg1_2.out (below_step HB38.out hx)) 7).trans rfl) Tryd.underlying3 rfl) (hK _ _ (Below.refl _ _) rfl)
                                        · intro a w' hx hu hd K hK; have e99 := Flow.got (hd 3 (by decide)) 99 rfl; refine Flow.want rfl ?_; refine Flow.val_call rfl Tryd.func38 (by kernel_rfl) rfl (by first | (simp only [List.map_toArray, List.map_cons, List.map_nil, Act.eval, e99]; done) | (simp only [List.map_toArray, List.map_cons, List.map_nil, Act.eval, e99]; rfl)) (rnum_c xm hm w') ?_; rintro e w2 ⟨rfl, hb2⟩; exact ⟨_, rfl, hK _ _ hb2 (by rfl)⟩
                                        · intro a w' hx hu hd K hK; have e97 := Flow.got (hd 1 (by decide)) 97 rfl; have e100 := Flow.got (hd 4 (by decide)) 100 rfl; exact Flow.run1 rfl (Ht39_5.out ▸ cat rfl e97 e100 zt39_1 (itoa_size xm hm) (by decide)) (hK _ _ (Below.refl _ _) rfl)
                                        · intro a w' hx hu hd K hK; have e101 := Flow.got (hd 5 (by decide)) 101 rfl; exact Flow.run1 rfl (Ht39_6.out ▸ cat rfl e101 rfl zt39_5 (Nat.le_refl 1) (by decide)) (hK _ _ (Below.refl _ _) rfl)
                                        · intro a w' hx hu hd K hK; have e1 : a.tmps.getD 1 undef = (.pointer (some ⟨g1, 0, none⟩)) := hu 1 rfl; exact Flow.run1 rfl (fa rfl e1 (fa45_8 _ _ _)) (hK _ _ (Below.refl _ _) rfl)
                                        · intro a w' hx hu hd K hK; have e103 := Flow.got (hd 7 (by decide)) 103 rfl; exact Flow.run1 rfl (ld rfl e103 ((blk_cell (blk_below Kg1_2.out (below_step HB38.out hx)) 8).trans rfl) Tryd.underlying3 rfl) (hK _ _ (Below.refl _ _) rfl)
                                        · intro a w' hx hu hd K hK; have e104 := Flow.got (hd 8 (by decide)) 104 rfl; refine Flow.want rfl ?_; refine Flow.val_call rfl Tryd.func38 (by kernel_rfl) rfl (by first | (simp only [List.map_toArray, List.map_cons, List.map_nil, Act.eval, e104]; done) | (simp only [List.map_toArray, List.map_cons, List.map_nil, Act.eval, e104]; rfl)) (rnum_c xu hxu w') ?_; rintro e w2 ⟨rfl, hb2⟩; exact ⟨_, rfl, hK _ _ hb2 (by rfl)⟩
                                        · intro a w' hx hu hd K hK; have e102 := Flow.got (hd 6 (by decide)) 102 rfl; have e105 := Flow.got (hd 9 (by decide)) 105 rfl; exact Flow.run1 rfl (Ht39_10.out ▸ cat rfl e102 e105 zt39_6 (itoa_size xu hxu) (by decide)) (hK _ _ (Below.refl _ _) rfl)
                                        · intro a w' hx hu hd K hK; have e106 := Flow.got (hd 10 (by decide)) 106 rfl; exact Flow.run1 rfl (Flow.r_assign rfl e106) (hK _ _ (Below.refl _ _) rfl)
                                      · intro vs W39 hb39 hT
                                        have v0 := Flow.eqn (hT 0 (by decide))
                                        have v1 := Flow.eqn (hT 1 (by decide))
                                        have v2 := Flow.eqn (hT 2 (by decide))
                                        have v3 := Flow.eqn (hT 3 (by decide))
                                        have v4 := Flow.eqn (hT 4 (by decide))
                                        have v5 := Flow.eqn (hT 5 (by decide))
                                        have v6 := Flow.eqn (hT 6 (by decide))
                                        have v7 := Flow.eqn (hT 7 (by decide))
                                        have v8 := Flow.eqn (hT 8 (by decide))
                                        have v9 := Flow.eqn (hT 9 (by decide))
                                        have v10 := Flow.eqn (hT 10 (by decide))
                                        have v11 := Flow.eqn (hT 11 (by decide))
                                        simp only [Flow.putsT, v0, v1, v2, v3, v4, v5, v6, v7, v8, v9, v10, v11, Act.put, List.setIfInBounds_toArray, List.set_cons_zero, List.set_cons_succ]
                                        clear hT v0 v1 v2 v3 v4 v5 v6 v7 v8 v9 v10 v11
                                        have HB39 := Aside0.mk (below_step HB38.out hb39)
                                        clear hb39
                                        go_wp2_with fail
                                        go_meet
                                        exact ⟨_, rfl, ⟨Nat.le_trans zt39_10 (by decide)⟩, ⟨by rw [← Ht39_10.out, ← Ht39_6.out, ← Ht39_5.out, ← Ht39_1.out, HE37.out, pc_t]; (try simp only [ByteArray.append_assoc])⟩, HB39⟩
                                    | false =>
                                      go_wp2_with fail
                                      go_meet
                                      exact ⟨_, rfl, ⟨Nat.le_trans zt37 (by decide)⟩, ⟨by rw [HE37.out, pc_f]⟩, HB38⟩
                                  case rest =>
                                    clear HB38 HE37
                                    obtain ⟨t40, rfl, Zt40, HE40, HBc40⟩ := hcut
                                    have zt40 := Zt40.out
                                    clear Zt40
                                    go_upto_region 17 with fail
                                    refine Flow.seqT (E := fun u v => Below u.heap.size u v) [(some 107, []), (some 2, [0, 0])] (fun iQ vQ wQ => match iQ with | 0 => vQ = (.string t40) | 1 => vQ = (.string t40) | _ => True) rfl (by kernel_rfl) (Below.refl _ _) (fun _ _ _ h k => h.trans (k.mono h.size)) (fun _ _ _ _ h _ => h) ?_ ?_
                                    · refine ⟨?_, ?_, trivial⟩
                                      · intro a w' hx hu hd K hK; have e3 : a.tmps.getD 3 undef = (.string t40) := hu 3 rfl; exact Flow.run1 rfl (Flow.r_move rfl e3) (hK _ _ (Below.refl _ _) rfl)
                                      · intro a w' hx hu hd K hK; have e107 := Flow.got (hd 0 rfl) 107 rfl; exact Flow.run1 rfl (Flow.r_assign rfl e107) (hK _ _ (Below.refl _ _) rfl)
                                    · intro vs W41 hb41 hT
                                      have v0 := Flow.eqn (hT 0 (by decide))
                                      have v1 := Flow.eqn (hT 1 (by decide))
                                      simp only [Flow.putsT, v0, v1, Act.put, List.setIfInBounds_toArray, List.set_cons_zero, List.set_cons_succ]
                                      clear hT v0 v1
                                      have HB41 := Aside0.mk (below_step HBc40.out hb41)
                                      clear hb41
                                      go_wp2
                                      go_ret
                                      exact ⟨by rw [Hc1.out, Hc2.out, Hc3.out, Hc4.out, Hc5.out, Hc6.out, ← HE40.out]; rfl, below_step HB2.out HB41.out⟩
end Go.Proofs.YtlhmpmmblnbmbaaDoor.Rep
