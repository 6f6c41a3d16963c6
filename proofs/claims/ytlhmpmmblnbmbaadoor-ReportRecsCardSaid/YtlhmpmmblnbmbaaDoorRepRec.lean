/- A record as the program's text. -/
import Derived.Test.YtlhmpmmblnbmbaaDoorRepRecP
set_option linter.unusedVariables false
set_option linter.unusedSimpArgs false
namespace Go.Proofs.YtlhmpmmblnbmbaaDoor.Rep
open Go.Lib Go.RowKit Go.Proofs.YtlhmpmmblnbmbaaDoor.Ev Go.Proofs.YtlhmpmmblnbmbaaDoor.Cells Go.Proofs.YtlhmpmmblnbmbaaDoorW.PrintWords Go.Proofs.YtlhmpmmblnbmbaaDoorW.PrintLast Go.Proofs.YtlhmpmmblnbmbaaDoorW.PrintMore
theorem strs_slice {w : World} {B : Nat} {v : Value} {l : List ByteArray} (h : SliceAt (l.map Value.string).toArray 9 l.length B v w) : Strs w v l := by
  obtain ⟨g, rfl, _, h3⟩ := h
  exact strs_new h3
set_option maxHeartbeats 4000000 in
set_option maxRecDepth 100000 in
theorem rec_c (xk xe xq xz xg xs xw xm xu : Int) (l : List Int) (A : Option Addr) (c : Nat) (he : I64 xe) (hq : I64 xq) (hz : I64 xz) (hg : I64 xg) (hs : I64 xs) (hw : I64 xw) (hm : I64 xm) (hxu : I64 xu) (hb : B8 l) (hn : l.length ≤ 1000) (w : World) (hC : Kd.C (Kd.int .u8) w A l.length l) (hpow : POW w) : Calls Tryd.prog 21 #[.agg #[.int .i64 xk, .int .i64 xe, .int .i64 xq, .int .i64 xz, .int .i64 xg, .int .i64 xs, .int .i64 xw, .int .i64 xm, .int .i64 xu, .slice A l.length c]] w fun e w' => e = .returned (.string (recB xk xe xq xz xg xs xw xm xu l)) ∧ Below w.heap.size w w' := by
  have HZ := Aside0.mk (recB_size xk xe xq xz xg xs xw xm xu l he hq hz hg hs hw hm hxu hn)
  have HC0 := Aside0.mk hC
  have HB8 := Aside0.mk hb
  have HPW := Aside0.mk hpow
  clear hC hb hpow
  go_enter Tryd.func21, Tryd.ntmps21
  go_upto_region 0 with fail
  refine wp_region_lit ?_
  refine ebox (v := (.agg #[.int .i64 xk, .int .i64 xe, .int .i64 xq, .int .i64 xz, .int .i64 xg, .int .i64 xs, .int .i64 xw, .int .i64 xm, .int .i64 xu, .slice A l.length c])) rfl rfl rfl ?_
  intro g1 hg1 W1 hk1 hb1
  have Kg1 := Aside0.mk hk1
  have HB1 := Aside0.mk hb1
  clear hb1
  have Gg1 := Aside0.mk (show w.heap.size ≤ g1 by rw [hg1]; exact Nat.le_refl _)
  clear hg1 hk1
  simp only [Act.put, List.setIfInBounds_toArray, List.set_cons_zero, List.set_cons_succ]
  refine Flow.seqL (E := fun u v => Below u.heap.size u v) 1 1 [(some 1, []), (some 2, [])] (fun iQ vQ wQ => match iQ with | 1 => vQ = (.string ⟨#[]⟩) | _ => True) rfl (by decide) (by kernel_rfl) (Below.refl _ _) (fun _ _ _ h k => h.trans (k.mono h.size)) (fun _ _ _ _ h _ => h) ?_ ?_
  · refine ⟨?_, trivial⟩
    · intro a w' hx hu hd K hK; exact Flow.run1 rfl (Flow.r_assign rfl rfl) (hK _ _ (Below.refl _ _) rfl)
  · intro vs W2 hb2 hT
    have v1 := Flow.eqn (hT 1 (by decide) (by decide))
    simp only [Flow.putsT, v1, Act.put, List.setIfInBounds_toArray, List.set_cons_zero, List.set_cons_succ, List.drop_succ_cons, List.drop_zero, List.take_succ_cons, List.take_zero]
    clear hT v1
    have HB2 := Aside0.mk (below_step HB1.out hb2)
    have Kg1_2 := Aside0.mk (blk_below Kg1.out hb2)
    clear hb2
    have HC := Aside0.mk (Kd.C_below HC0.out HB2.out)
    have HPA := Aside0.mk (HPW.out.below HB2.out)
    go_upto_region 1 with fail
    obtain ⟨t4_7, Ht4_7⟩ : ∃ tQ, Aside0 (itoaB xe ++ ⟨#[46]⟩ = tQ) := ⟨_, ⟨rfl⟩⟩
    have zt4_7 : t4_7.size ≤ 22 := Ht4_7.out ▸ szapp (itoa_size xe he) (Nat.le_refl 1) (by decide)
    obtain ⟨t4_11, Ht4_11⟩ : ∃ tQ, Aside0 (t4_7 ++ itoaB xq = tQ) := ⟨_, ⟨rfl⟩⟩
    have zt4_11 : t4_11.size ≤ 43 := Ht4_11.out ▸ szapp zt4_7 (itoa_size xq hq) (by decide)
    refine Flow.flowT (E := fun u v => Below u.heap.size u v) [(some 4, []), (some 5, [0]), (some 6, []), (some 7, [1, 2]), (some 8, []), (some 9, [4]), (some 10, [5, 3]), (some 11, [6]), (some 12, []), (some 13, [8]), (some 14, [9, 6]), (some 15, [7, 10]), (some 16, [3, 11]), (some 3, [12, 10, 0, 1, 2, 3, 4, 5, 6, 7, 8, 9, 10, 11, 12])] (fun iQ vQ wQ => match iQ with | 0 => vQ = (.pointer (some ⟨g1, 0, none⟩)) | 1 => vQ = (.int .i64 xk) | 2 => SliceAt #[.string ⟨#[99, 104, 101, 99, 107]⟩, .string ⟨#[109, 97, 112]⟩, .string ⟨#[114, 101, 115, 101, 116]⟩, .string ⟨#[102, 105, 110, 105, 115, 104]⟩, .string ⟨#[112, 97, 114, 105, 116, 121]⟩, .string ⟨#[119, 104, 111, 108, 101]⟩, .string ⟨#[115, 116, 97, 116, 117, 115]⟩] 9 7 W2.heap.size vQ wQ | 3 => vQ = (.string (nameB xk nam7)) | 4 => vQ = (.pointer (some ⟨g1, 1, none⟩)) | 5 => vQ = (.int .i64 xe) | 6 => vQ = (.string (itoaB xe)) | 7 => vQ = (.string t4_7) | 8 => vQ = (.pointer (some ⟨g1, 2, none⟩)) | 9 => vQ = (.int .i64 xq) | 10 => vQ = (.string (itoaB xq)) | 11 => vQ = (.string t4_11) | 12 => SliceAt #[.string (nameB xk nam7), .string t4_11] 9 2 W2.heap.size vQ wQ | 13 => SliceAt #[.string (nameB xk nam7), .string t4_11] 9 2 W2.heap.size vQ wQ | _ => True) rfl (by kernel_rfl) (by kernel_rfl) (by kernel_rfl) ((Below.refl _ _).drew) (fun _ _ _ h k => h.trans (k.mono h.size)) (fun iQ vQ w1Q w2Q hQ hEQ => match iQ, hQ with | 0, hQ => hQ | 1, hQ => hQ | 2, hQ => slice_below hQ hEQ | 3, hQ => hQ | 4, hQ => hQ | 5, hQ => hQ | 6, hQ => hQ | 7, hQ => hQ | 8, hQ => hQ | 9, hQ => hQ | 10, hQ => hQ | 11, hQ => hQ | 12, hQ => slice_below hQ hEQ | 13, hQ => slice_below hQ hEQ | _ + 14, _ => trivial) ?_ ?_
    · refine ⟨?_, ?_, ?_, ?_, ?_, ?_, ?_, ?_, ?_, ?_, ?_, ?_, ?_, ?_, trivial⟩
      · intro a w' hx hu hd K hK; have e1 : a.tmps.getD 1 undef = (.pointer (some ⟨g1, 0, none⟩)) := hu 1 rfl; exact Flow.run1 rfl (fa rfl e1 (fa45_0 _ _ _)) (hK _ _ (Below.refl _ _) rfl)
      · intro a w' hx hu hd K hK; have e4 := Flow.got (hd 0 (by decide)) 4 rfl; exact Flow.run1 rfl (ld rfl e4 ((blk_cell (blk_below Kg1_2.out hx) 0).trans rfl) Tryd.underlying3 rfl) (hK _ _ (Below.refl _ _) rfl)
      · intro a w' hx hu hd K hK; exact Flow.run1 rfl (row7_79 rfl rfl rfl rfl rfl rfl rfl rfl) (hK _ _ (below_alloc (Below.refl _ _) _) (slice_new (hx : Below _ _ _).size))
      · intro a w' hx hu hd K hK; have e5 := Flow.got (hd 1 (by decide)) 5 rfl; obtain ⟨v6, p6, q6⟩ := hd 2 (by decide); have e6 : a.tmps.getD 6 undef = v6 := q6 6 rfl; refine Flow.want rfl ?_; refine Flow.val_call rfl Tryd.func43 (by kernel_rfl) rfl (by first | (simp only [List.map_toArray, List.map_cons, List.map_nil, Act.eval, e5, e6]; done) | (simp only [List.map_toArray, List.map_cons, List.map_nil, Act.eval, e5, e6]; rfl)) (name_c xk nam7 _ w' (strs_slice (l := nam7) p6)) ?_; rintro e w2 ⟨rfl, hb2⟩; exact ⟨_, rfl, hK _ _ hb2 (by rfl)⟩
      · intro a w' hx hu hd K hK; have e1 : a.tmps.getD 1 undef = (.pointer (some ⟨g1, 0, none⟩)) := hu 1 rfl; exact Flow.run1 rfl (fa rfl e1 (fa45_1 _ _ _)) (hK _ _ (Below.refl _ _) rfl)
      · intro a w' hx hu hd K hK; have e8 := Flow.got (hd 4 (by decide)) 8 rfl; exact Flow.run1 rfl (ld rfl e8 ((blk_cell (blk_below Kg1_2.out hx) 1).trans rfl) Tryd.underlying3 rfl) (hK _ _ (Below.refl _ _) rfl)
      · intro a w' hx hu hd K hK; have e9 := Flow.got (hd 5 (by decide)) 9 rfl; refine Flow.want rfl ?_; refine Flow.val_call rfl Tryd.func41 (by kernel_rfl) rfl (by first | (simp only [List.map_toArray, List.map_cons, List.map_nil, Act.eval, e9]; done) | (simp only [List.map_toArray, List.map_cons, List.map_nil, Act.eval, e9]; rfl)) (num_c xe he w' (HPA.out.below hx)) ?_; rintro e w2 ⟨rfl, hb2⟩; exact ⟨_, rfl, hK _ _ hb2 (by rfl)⟩
      · intro a w' hx hu hd K hK; have e10 := Flow.got (hd 6 (by decide)) 10 rfl; exact Flow.run1 rfl (Ht4_7.out ▸ cat rfl e10 rfl (itoa_size xe he) (Nat.le_refl 1) (by decide)) (hK _ _ (Below.refl _ _) rfl)
      · intro a w' hx hu hd K hK; have e1 : a.tmps.getD 1 undef = (.pointer (some ⟨g1, 0, none⟩)) := hu 1 rfl; exact Flow.run1 rfl (fa rfl e1 (fa45_2 _ _ _)) (hK _ _ (Below.refl _ _) rfl)
      · intro a w' hx hu hd K hK; have e12 := Flow.got (hd 8 (by decide)) 12 rfl; exact Flow.run1 rfl (ld rfl e12 ((blk_cell (blk_below Kg1_2.out hx) 2).trans rfl) Tryd.underlying3 rfl) (hK _ _ (Below.refl _ _) rfl)
      · intro a w' hx hu hd K hK; have e13 := Flow.got (hd 9 (by decide)) 13 rfl; refine Flow.want rfl ?_; refine Flow.val_call rfl Tryd.func41 (by kernel_rfl) rfl (by first | (simp only [List.map_toArray, List.map_cons, List.map_nil, Act.eval, e13]; done) | (simp only [List.map_toArray, List.map_cons, List.map_nil, Act.eval, e13]; rfl)) (num_c xq hq w' (HPA.out.below hx)) ?_; rintro e w2 ⟨rfl, hb2⟩; exact ⟨_, rfl, hK _ _ hb2 (by rfl)⟩
      · intro a w' hx hu hd K hK; have e11 := Flow.got (hd 7 (by decide)) 11 rfl; have e14 := Flow.got (hd 10 (by decide)) 14 rfl; exact Flow.run1 rfl (Ht4_11.out ▸ cat rfl e11 e14 zt4_7 (itoa_size xq hq) (by decide)) (hK _ _ (Below.refl _ _) rfl)
      · intro a w' hx hu hd K hK; have e7 := Flow.got (hd 3 (by decide)) 7 rfl; have e15 := Flow.got (hd 11 (by decide)) 15 rfl; exact Flow.run1 rfl (row2_79 rfl e7 e15) (hK _ _ (below_alloc (Below.refl _ _) _) (slice_new (hx : Below _ _ _).size))
      · intro a w' hx hu hd K hK; obtain ⟨v16, p16, q16⟩ := hd 12 (by decide); have e16 : a.tmps.getD 16 undef = v16 := q16 16 rfl; exact Flow.run1 rfl (Flow.r_assign rfl e16) (hK _ _ (Below.refl _ _) p16)
    · intro vs W4 hb4 hT
      have v0 := Flow.eqn (hT 0 (by decide))
      have v1 := Flow.eqn (hT 1 (by decide))
      have v3 := Flow.eqn (hT 3 (by decide))
      have v4 := Flow.eqn (hT 4 (by decide))
      have v5 := Flow.eqn (hT 5 (by decide))
      have v6 := Flow.eqn (hT 6 (by decide))
      have v7 := Flow.eqn (hT 7 (by decide))
      have v8 := Flow.eqn (hT 8 (by decide))
      have v9 := Flow.eqn (hT 9 (by decide))
      have v10 := Flow.eqn (hT 10 (by decide))
      have v11 := Flow.eqn (hT 11 (by decide))
      obtain ⟨g4_2, v2, hge2, hk2⟩ : SliceAt _ _ _ _ _ _ := hT 2 (by decide)
      have Kg4_2 := Aside0.mk hk2
      have Gg4_2 := Aside0.mk hge2
      clear hk2 hge2
      obtain ⟨g4_12, v12, hge12, hk12⟩ : SliceAt _ _ _ _ _ _ := hT 12 (by decide)
      have Kg4_12 := Aside0.mk hk12
      have Gg4_12 := Aside0.mk hge12
      clear hk12 hge12
      obtain ⟨g4_13, v13, hge13, hk13⟩ : SliceAt _ _ _ _ _ _ := hT 13 (by decide)
      have Kg4_13 := Aside0.mk hk13
      have Gg4_13 := Aside0.mk hge13
      clear hk13 hge13
      simp only [Flow.putsT, v0, v1, v2, v3, v4, v5, v6, v7, v8, v9, v10, v11, v12, v13, Act.put, List.setIfInBounds_toArray, List.set_cons_zero, List.set_cons_succ]
      clear hT v0 v1 v2 v3 v4 v5 v6 v7 v8 v9 v10 v11 v12 v13
      have HB4 := Aside0.mk hb4
      clear hb4
      have HR0 := Aside0.mk (show Kd.R Kd.string 9 W4 W2.heap.size (fun _ => True) (.slice (some ⟨g4_13, 0, none⟩) 2 2) (recH xk xe xq) from R_row Value.string (fun _ => rfl) (l := recH xk xe xq) (by simp only [recH, List.map_cons, List.map_nil, Ht4_7.out, Ht4_11.out]; exact Kg4_13.out) Gg4_13.out (show 2 ≤ maxLen by decide))
      go_upto_region 2 with fail
      refine Flow.seqT (E := fun u v => Below u.heap.size u v) [(some 17, []), (some 18, [0])] (fun iQ vQ wQ => match iQ with | 0 => vQ = (.pointer (some ⟨g1, 0, none⟩)) | 1 => vQ = (.int .i64 xk) | _ => True) rfl (by kernel_rfl) (Below.refl _ _) (fun _ _ _ h k => h.trans (k.mono h.size)) (fun _ _ _ _ h _ => h) ?_ ?_
      · refine ⟨?_, ?_, trivial⟩
        · intro a w' hx hu hd K hK; have e1 : a.tmps.getD 1 undef = (.pointer (some ⟨g1, 0, none⟩)) := hu 1 rfl; exact Flow.run1 rfl (fa rfl e1 (fa45_0 _ _ _)) (hK _ _ (Below.refl _ _) rfl)
        · intro a w' hx hu hd K hK; have e17 := Flow.got (hd 0 rfl) 17 rfl; exact Flow.run1 rfl (ld rfl e17 ((blk_cell (blk_below Kg1_2.out (below_step HB4.out hx)) 0).trans rfl) Tryd.underlying3 rfl) (hK _ _ (Below.refl _ _) rfl)
      · intro vs W5 hb5 hT
        have v0 := Flow.eqn (hT 0 (by decide))
        have v1 := Flow.eqn (hT 1 (by decide))
        simp only [Flow.putsT, v0, v1, Act.put, List.setIfInBounds_toArray, List.set_cons_zero, List.set_cons_succ]
        clear hT v0 v1
        have HB5 := Aside0.mk (below_step HB4.out hb5)
        have HR_5 := Aside0.mk (Kd.R_below HR0.out hb5)
        clear hb5
        go_upto_block 0 with fail
        go_cut [3] (fun v wx => Aside0 (Below W2.heap.size W2 wx) ∧ Aside0 (Kd.R Kd.string 9 wx W2.heap.size (fun _ => True) v (recH xk xe xq ++ recT xk xz xg xs xw xm xu l)))
        case first =>
          by_cases h1 : xk = 1
          · skip
            go_upto_region 3 with fail
            refine Flow.seqT (E := fun u v => Below u.heap.size u v) [(some 20, []), (some 19, [0])] (fun iQ vQ wQ => match iQ with | 0 => vQ = (.bool true) | 1 => vQ = (.bool true) | _ => True) rfl (by kernel_rfl) (Below.refl _ _) (fun _ _ _ h k => h.trans (k.mono h.size)) (fun _ _ _ _ h _ => h) ?_ ?_
            · refine ⟨?_, ?_, trivial⟩
              · intro a w' hx hu hd K hK; have e18 : a.tmps.getD 18 undef = (.int .i64 xk) := hu 18 rfl; exact Flow.run1 rfl (yes (eql rfl e18 rfl) (beq_iff_eq.2 h1)) (hK _ _ (Below.refl _ _) rfl)
              · intro a w' hx hu hd K hK; have e20 := Flow.got (hd 0 rfl) 20 rfl; exact Flow.run1 rfl (Flow.r_assign rfl e20) (hK _ _ (Below.refl _ _) rfl)
            · intro vs W6 hb6 hT
              have v0 := Flow.eqn (hT 0 (by decide))
              have v1 := Flow.eqn (hT 1 (by decide))
              simp only [Flow.putsT, v0, v1, Act.put, List.setIfInBounds_toArray, List.set_cons_zero, List.set_cons_succ]
              clear hT v0 v1
              have HB6 := Aside0.mk (below_step HB5.out hb6)
              have HR_6 := Aside0.mk (Kd.R_below HR_5.out hb6)
              clear hb6
              go_upto_region 4 with fail
              refine Flow.flowT_head (E := fun u v => Below u.heap.size u v) 11 [(some 21, []), (some 22, []), (some 23, [1]), (some 24, [2]), (some 25, []), (some 26, [4]), (some 27, [5, 3]), (some 28, []), (some 29, [7]), (some 30, [8, 6]), (some 31, [3, 6, 9]), (some 32, [0, 10, 9]), (some 3, [11, 11, 0, 1, 2, 3, 4, 5, 6, 7, 8, 9, 10, 11])] (fun iQ vQ wQ => match iQ with | 0 => vQ = (.slice (some ⟨g4_13, 0, none⟩) 2 2) | 1 => vQ = (.pointer (some ⟨g1, 3, none⟩)) | 2 => vQ = (.int .i64 xz) | 3 => vQ = (.string (itoaB xz)) | 4 => vQ = (.pointer (some ⟨g1, 4, none⟩)) | 5 => vQ = (.int .i64 xg) | 6 => vQ = (.string (itoaB xg)) | 7 => vQ = (.pointer (some ⟨g1, 5, none⟩)) | 8 => vQ = (.int .i64 xs) | 9 => vQ = (.string (itoaB xs)) | 10 => SliceAt #[.string (itoaB xz), .string (itoaB xg), .string (itoaB xs)] 9 3 W2.heap.size vQ wQ | _ => True) rfl (by kernel_rfl) (by kernel_rfl) (by kernel_rfl) ((Below.refl _ _).drew) (fun _ _ _ h k => h.trans (k.mono h.size)) (fun iQ vQ w1Q w2Q hQ hEQ => match iQ, hQ with | 0, hQ => hQ | 1, hQ => hQ | 2, hQ => hQ | 3, hQ => hQ | 4, hQ => hQ | 5, hQ => hQ | 6, hQ => hQ | 7, hQ => hQ | 8, hQ => hQ | 9, hQ => hQ | 10, hQ => slice_below hQ hEQ | _ + 11, _ => trivial) ?_ ?_
              · refine ⟨?_, ?_, ?_, ?_, ?_, ?_, ?_, ?_, ?_, ?_, ?_, trivial⟩
                · intro a w' hx hu hd K hK; have e3 : a.tmps.getD 3 undef = (.slice (some ⟨g4_13, 0, none⟩) 2 2) := hu 3 rfl; exact Flow.run1 rfl (Flow.r_move rfl e3) (hK _ _ (Below.refl _ _) rfl)
                · intro a w' hx hu hd K hK; have e1 : a.tmps.getD 1 undef = (.pointer (some ⟨g1, 0, none⟩)) := hu 1 rfl; exact Flow.run1 rfl (fa rfl e1 (fa45_3 _ _ _)) (hK _ _ (Below.refl _ _) rfl)
                · intro a w' hx hu hd K hK; have e22 := Flow.got (hd 1 (by decide)) 22 rfl; exact Flow.run1 rfl (ld rfl e22 ((blk_cell (blk_below Kg1_2.out (below_step HB6.out hx)) 3).trans rfl) Tryd.underlying3 rfl) (hK _ _ (Below.refl _ _) rfl)
                · intro a w' hx hu hd K hK; have e23 := Flow.got (hd 2 (by decide)) 23 rfl; refine Flow.want rfl ?_; refine Flow.val_call rfl Tryd.func41 (by kernel_rfl) rfl (by first | (simp only [List.map_toArray, List.map_cons, List.map_nil, Act.eval, e23]; done) | (simp only [List.map_toArray, List.map_cons, List.map_nil, Act.eval, e23]; rfl)) (num_c xz hz w' (HPA.out.below (below_step HB6.out hx))) ?_; rintro e w2 ⟨rfl, hb2⟩; exact ⟨_, rfl, hK _ _ hb2 (by rfl)⟩
                · intro a w' hx hu hd K hK; have e1 : a.tmps.getD 1 undef = (.pointer (some ⟨g1, 0, none⟩)) := hu 1 rfl; exact Flow.run1 rfl (fa rfl e1 (fa45_4 _ _ _)) (hK _ _ (Below.refl _ _) rfl)
                · intro a w' hx hu hd K hK; have e25 := Flow.got (hd 4 (by decide)) 25 rfl; exact Flow.run1 rfl (ld rfl e25 ((blk_cell (blk_below Kg1_2.out (below_step HB6.out hx)) 4).trans rfl) Tryd.underlying3 rfl) (hK _ _ (Below.refl _ _) rfl)
                · intro a w' hx hu hd K hK; have e26 := Flow.got (hd 5 (by decide)) 26 rfl; refine Flow.want rfl ?_; refine Flow.val_call rfl Tryd.func41 (by kernel_rfl) rfl (by first | (simp only [List.map_toArray, List.map_cons, List.map_nil, Act.eval, e26]; done) | (simp only [List.map_toArray, List.map_cons, List.map_nil, Act.eval, e26]; rfl)) (num_c xg hg w' (HPA.out.below (below_step HB6.out hx))) ?_; rintro e w2 ⟨rfl, hb2⟩; exact ⟨_, rfl, hK _ _ hb2 (by rfl)⟩
                · intro a w' hx hu hd K hK; have e1 : a.tmps.getD 1 undef = (.pointer (some ⟨g1, 0, none⟩)) := hu 1 rfl; exact Flow.run1 rfl (fa rfl e1 (fa45_5 _ _ _)) (hK _ _ (Below.refl _ _) rfl)
                · intro a w' hx hu hd K hK; have e28 := Flow.got (hd 7 (by decide)) 28 rfl; exact Flow.run1 rfl (ld rfl e28 ((blk_cell (blk_below Kg1_2.out (below_step HB6.out hx)) 5).trans rfl) Tryd.underlying3 rfl) (hK _ _ (Below.refl _ _) rfl)
                · intro a w' hx hu hd K hK; have e29 := Flow.got (hd 8 (by decide)) 29 rfl; refine Flow.want rfl ?_; refine Flow.val_call rfl Tryd.func41 (by kernel_rfl) rfl (by first | (simp only [List.map_toArray, List.map_cons, List.map_nil, Act.eval, e29]; done) | (simp only [List.map_toArray, List.map_cons, List.map_nil, Act.eval, e29]; rfl)) (num_c xs hs w' (HPA.out.below (below_step HB6.out hx))) ?_; rintro e w2 ⟨rfl, hb2⟩; exact ⟨_, rfl, hK _ _ hb2 (by rfl)⟩
                · intro a w' hx hu hd K hK; have e24 := Flow.got (hd 3 (by decide)) 24 rfl; have e27 := Flow.got (hd 6 (by decide)) 27 rfl; have e30 := Flow.got (hd 9 (by decide)) 30 rfl; exact Flow.run1 rfl (row3_79 rfl e24 e27 e30) (hK _ _ (below_alloc (Below.refl _ _) _) (slice_new (Nat.le_trans (HB6.out).size (hx : Below _ _ _).size)))
              · intro vs W7 hb7 hT
                have v0 := Flow.eqn (hT 0 (by decide))
                have v1 := Flow.eqn (hT 1 (by decide))
                have v2 := Flow.eqn (hT 2 (by decide))
                have v3 := Flow.eqn (hT 3 (by decide))
                have v4 := Flow.eqn (hT 4 (by decide))
                have v5 := Flow.eqn (hT 5 (by decide))
                have v6 := Flow.eqn (hT 6 (by decide))
                have v7 := Flow.eqn (hT 7 (by decide))
                have v8 := Flow.eqn (hT 8 (by decide))
                have v9 := Flow.eqn (hT 9 (by decide))
                obtain ⟨g7_10, v10, hge10, hk10⟩ : SliceAt _ _ _ _ _ _ := hT 10 (by decide)
                have Kg7_10 := Aside0.mk hk10
                have Gg7_10 := Aside0.mk hge10
                clear hk10 hge10
                simp only [Flow.putsT, v0, v1, v2, v3, v4, v5, v6, v7, v8, v9, v10, Act.put, List.setIfInBounds_toArray, List.set_cons_zero, List.set_cons_succ, List.drop_succ_cons, List.drop_zero, List.take_succ_cons, List.take_zero]
                clear hT v0 v1 v2 v3 v4 v5 v6 v7 v8 v9 v10
                have HB7 := Aside0.mk (below_step HB6.out hb7)
                have HR_7 := Aside0.mk (Kd.R_below HR_6.out hb7)
                clear hb7
                have hl8 : (recH xk xe xq).length ≤ 2 := (Nat.le_refl 2)
                refine eapp Value.string ByteArray.empty (w0 := W2) (base := W2.heap.size) (ys := [itoaB xz, itoaB xg, itoaB xs]) rfl rfl Tryd.underlying79 info9 rfl (by decide) rfl rfl HR_7.out Kg7_10.out HB7.out HB7.out.size ?_ ?_
                · show ((recH xk xe xq).length + 3) * 16 ≤ _; omega
                intro v8 W8 hr8 hb8 _
                have HR_8 := Aside0.mk hr8
                have HB8 := Aside0.mk hb8
                clear hr8 hb8
                simp only [Act.put, List.setIfInBounds_toArray, List.set_cons_zero, List.set_cons_succ]
                refine Flow.seqL (E := fun u v => Below u.heap.size u v) 12 1 [(some 21, []), (some 22, []), (some 23, [1]), (some 24, [2]), (some 25, []), (some 26, [4]), (some 27, [5, 3]), (some 28, []), (some 29, [7]), (some 30, [8, 6]), (some 31, [3, 6, 9]), (some 32, [0, 10, 9]), (some 3, [11, 11, 0, 1, 2, 3, 4, 5, 6, 7, 8, 9, 10, 11])] (fun iQ vQ wQ => match iQ with | 12 => vQ = v8 | _ => True) rfl (by decide) (by kernel_rfl) (Below.refl _ _) (fun _ _ _ h k => h.trans (k.mono h.size)) (fun _ _ _ _ h _ => h) ?_ ?_
                · refine ⟨?_, trivial⟩
                  · intro a w' hx hu hd K hK; have e32 : a.tmps.getD 32 undef = v8 := hu 32 rfl; exact Flow.run1 rfl (Flow.r_assign rfl e32) (hK _ _ (Below.refl _ _) rfl)
                · intro vs W9 hb9 hT
                  have v12 := Flow.eqn (hT 12 (by decide) (by decide))
                  simp only [Flow.putsT, v12, Act.put, List.setIfInBounds_toArray, List.set_cons_zero, List.set_cons_succ, List.drop_succ_cons, List.drop_zero, List.take_succ_cons, List.take_zero]
                  clear hT v12
                  have HB9 := Aside0.mk (below_step HB8.out hb9)
                  have HR_9 := Aside0.mk (Kd.R_below HR_8.out hb9)
                  clear hb9
                  go_wp2_with fail
                  go_meet
                  exact ⟨HB9, ⟨by rw [show recT xk xz xg xs xw xm xu l = [itoaB xz, itoaB xg, itoaB xs] by unfold recT; rw [if_pos h1]]; exact HR_9.out⟩⟩
          · skip
            by_cases h2 : xk = 2
            · skip
              go_upto_region 3 with fail
              refine Flow.seqT (E := fun u v => Below u.heap.size u v) [(some 20, []), (some 19, [0])] (fun iQ vQ wQ => match iQ with | 0 => vQ = (.bool false) | 1 => vQ = (.bool false) | _ => True) rfl (by kernel_rfl) (Below.refl _ _) (fun _ _ _ h k => h.trans (k.mono h.size)) (fun _ _ _ _ h _ => h) ?_ ?_
              · refine ⟨?_, ?_, trivial⟩
                · intro a w' hx hu hd K hK; have e18 : a.tmps.getD 18 undef = (.int .i64 xk) := hu 18 rfl; exact Flow.run1 rfl (no (eql rfl e18 rfl) (beq_eq_false_iff_ne.2 h1)) (hK _ _ (Below.refl _ _) rfl)
                · intro a w' hx hu hd K hK; have e20 := Flow.got (hd 0 rfl) 20 rfl; exact Flow.run1 rfl (Flow.r_assign rfl e20) (hK _ _ (Below.refl _ _) rfl)
              · intro vs W10 hb10 hT
                have v0 := Flow.eqn (hT 0 (by decide))
                have v1 := Flow.eqn (hT 1 (by decide))
                simp only [Flow.putsT, v0, v1, Act.put, List.setIfInBounds_toArray, List.set_cons_zero, List.set_cons_succ]
                clear hT v0 v1
                have HB10 := Aside0.mk (below_step HB5.out hb10)
                have HR_10 := Aside0.mk (Kd.R_below HR_5.out hb10)
                clear hb10
                go_upto_region 5 with fail
                refine Flow.seqT (E := fun u v => Below u.heap.size u v) [(some 34, []), (some 33, [0])] (fun iQ vQ wQ => match iQ with | 0 => vQ = (.bool true) | 1 => vQ = (.bool true) | _ => True) rfl (by kernel_rfl) (Below.refl _ _) (fun _ _ _ h k => h.trans (k.mono h.size)) (fun _ _ _ _ h _ => h) ?_ ?_
                · refine ⟨?_, ?_, trivial⟩
                  · intro a w' hx hu hd K hK; have e18 : a.tmps.getD 18 undef = (.int .i64 xk) := hu 18 rfl; exact Flow.run1 rfl (yes (eql rfl e18 rfl) (beq_iff_eq.2 h2)) (hK _ _ (Below.refl _ _) rfl)
                  · intro a w' hx hu hd K hK; have e34 := Flow.got (hd 0 rfl) 34 rfl; exact Flow.run1 rfl (Flow.r_assign rfl e34) (hK _ _ (Below.refl _ _) rfl)
                · intro vs W11 hb11 hT
                  have v0 := Flow.eqn (hT 0 (by decide))
                  have v1 := Flow.eqn (hT 1 (by decide))
                  simp only [Flow.putsT, v0, v1, Act.put, List.setIfInBounds_toArray, List.set_cons_zero, List.set_cons_succ]
                  clear hT v0 v1
                  have HB11 := Aside0.mk (below_step HB10.out hb11)
                  have HR_11 := Aside0.mk (Kd.R_below HR_10.out hb11)
                  clear hb11
                  go_upto_region 6 with fail
                  refine Flow.flowT_head (E := fun u v => Below u.heap.size u v) 8 [(some 35, []), (some 36, []), (some 37, [1]), (some 38, [2]), (some 39, []), (some 40, [4]), (some 41, [5, 3]), (some 42, [3, 6]), (some 43, [0, 7, 6]), (some 3, [8, 8, 0, 1, 2, 3, 4, 5, 6, 7, 8])] (fun iQ vQ wQ => match iQ with | 0 => vQ = (.slice (some ⟨g4_13, 0, none⟩) 2 2) | 1 => vQ = (.pointer (some ⟨g1, 3, none⟩)) | 2 => vQ = (.int .i64 xz) | 3 => vQ = (.string (itoaB xz)) | 4 => vQ = (.pointer (some ⟨g1, 4, none⟩)) | 5 => vQ = (.int .i64 xg) | 6 => vQ = (.string (itoaB xg)) | 7 => SliceAt #[.string (itoaB xz), .string (itoaB xg)] 9 2 W2.heap.size vQ wQ | _ => True) rfl (by kernel_rfl) (by kernel_rfl) (by kernel_rfl) ((Below.refl _ _).drew) (fun _ _ _ h k => h.trans (k.mono h.size)) (fun iQ vQ w1Q w2Q hQ hEQ => match iQ, hQ with | 0, hQ => hQ | 1, hQ => hQ | 2, hQ => hQ | 3, hQ => hQ | 4, hQ => hQ | 5, hQ => hQ | 6, hQ => hQ | 7, hQ => slice_below hQ hEQ | _ + 8, _ => trivial) ?_ ?_
                  · refine ⟨?_, ?_, ?_, ?_, ?_, ?_, ?_, ?_, trivial⟩
                    · intro a w' hx hu hd K hK; have e3 : a.tmps.getD 3 undef = (.slice (some ⟨g4_13, 0, none⟩) 2 2) := hu 3 rfl; exact Flow.run1 rfl (Flow.r_move rfl e3) (hK _ _ (Below.refl _ _) rfl)
                    · intro a w' hx hu hd K hK; have e1 : a.tmps.getD 1 undef = (.pointer (some ⟨g1, 0, none⟩)) := hu 1 rfl; exact Flow.run1 rfl (fa rfl e1 (fa45_3 _ _ _)) (hK _ _ (Below.refl _ _) rfl)
                    · intro a w' hx hu hd K hK; have e36 := Flow.got (hd 1 (by decide)) 36 rfl; exact Flow.run1 rfl (ld rfl e36 ((blk_cell (blk_below Kg1_2.out (below_step HB11.out hx)) 3).trans rfl) Tryd.underlying3 rfl) (hK _ _ (Below.refl _ _) rfl)
                    · intro a w' hx hu hd K hK; have e37 := Flow.got (hd 2 (by decide)) 37 rfl; refine Flow.want rfl ?_; refine Flow.val_call rfl Tryd.func41 (by kernel_rfl) rfl (by first | (simp only [List.map_toArray, List.map_cons, List.map_nil, Act.eval, e37]; done) | (simp only [List.map_toArray, List.map_cons, List.map_nil, Act.eval, e37]; rfl)) (num_c xz hz w' (HPA.out.below (below_step HB11.out hx))) ?_; rintro e w2 ⟨rfl, hb2⟩; exact ⟨_, rfl, hK _ _ hb2 (by rfl)⟩
                    · intro a w' hx hu hd K hK; have e1 : a.tmps.getD 1 undef = (.pointer (some ⟨g1, 0, none⟩)) := hu 1 rfl; exact Flow.run1 rfl (fa rfl e1 (fa45_4 _ _ _)) (hK _ _ (Below.refl _ _) rfl)
                    · intro a w' hx hu hd K hK; have e39 := Flow.got (hd 4 (by decide)) 39 rfl; exact Flow.run1 rfl (ld rfl e39 ((blk_cell (blk_below Kg1_2.out (below_step HB11.out hx)) 4).trans rfl) Tryd.underlying3 rfl) (hK _ _ (Below.refl _ _) rfl)
                    · intro a w' hx hu hd K hK; have e40 := Flow.got (hd 5 (by decide)) 40 rfl; refine Flow.want rfl ?_; refine Flow.val_call rfl Tryd.func41 (by kernel_rfl) rfl (by first | (simp only [List.map_toArray, List.map_cons, List.map_nil, Act.eval, e40]; done) | (simp only [List.map_toArray, List.map_cons, List.map_nil, Act.eval, e40]; rfl)) (num_c xg hg w' (HPA.out.below (below_step HB11.out hx))) ?_; rintro e w2 ⟨rfl, hb2⟩; exact ⟨_, rfl, hK _ _ hb2 (by rfl)⟩
                    · intro a w' hx hu hd K hK; have e38 := Flow.got (hd 3 (by decide)) 38 rfl; have e41 := Flow.got (hd 6 (by decide)) 41 rfl; exact Flow.run1 rfl (row2_79 rfl e38 e41) (hK _ _ (below_alloc (Below.refl _ _) _) (slice_new (Nat.le_trans (HB11.out).size (hx : Below _ _ _).size)))
                  · intro vs W12 hb12 hT
                    have v0 := Flow.eqn (hT 0 (by decide))
                    have v1 := Flow.eqn (hT 1 (by decide))
                    have v2 := Flow.eqn (hT 2 (by decide))
                    have v3 := Flow.eqn (hT 3 (by decide))
                    have v4 := Flow.eqn (hT 4 (by decide))
                    have v5 := Flow.eqn (hT 5 (by decide))
                    have v6 := Flow.eqn (hT 6 (by decide))
                    obtain ⟨g12_7, v7, hge7, hk7⟩ : SliceAt _ _ _ _ _ _ := hT 7 (by decide)
                    have Kg12_7 := Aside0.mk hk7
                    have Gg12_7 := Aside0.mk hge7
                    clear hk7 hge7
                    simp only [Flow.putsT, v0, v1, v2, v3, v4, v5, v6, v7, Act.put, List.setIfInBounds_toArray, List.set_cons_zero, List.set_cons_succ, List.drop_succ_cons, List.drop_zero, List.take_succ_cons, List.take_zero]
                    clear hT v0 v1 v2 v3 v4 v5 v6 v7
                    have HB12 := Aside0.mk (below_step HB11.out hb12)
                    have HR_12 := Aside0.mk (Kd.R_below HR_11.out hb12)
                    clear hb12
                    have hl13 : (recH xk xe xq).length ≤ 2 := (Nat.le_refl 2)
                    refine eapp Value.string ByteArray.empty (w0 := W2) (base := W2.heap.size) (ys := [itoaB xz, itoaB xg]) rfl rfl Tryd.underlying79 info9 rfl (by decide) rfl rfl HR_12.out Kg12_7.out HB12.out HB12.out.size ?_ ?_
                    · show ((recH xk xe xq).length + 2) * 16 ≤ _; omega
                    intro v13 W13 hr13 hb13 _
                    have HR_13 := Aside0.mk hr13
                    have HB13 := Aside0.mk hb13
                    clear hr13 hb13
                    simp only [Act.put, List.setIfInBounds_toArray, List.set_cons_zero, List.set_cons_succ]
                    refine Flow.seqL (E := fun u v => Below u.heap.size u v) 9 1 [(some 35, []), (some 36, []), (some 37, [1]), (some 38, [2]), (some 39, []), (some 40, [4]), (some 41, [5, 3]), (some 42, [3, 6]), (some 43, [0, 7, 6]), (some 3, [8, 8, 0, 1, 2, 3, 4, 5, 6, 7, 8])] (fun iQ vQ wQ => match iQ with | 9 => vQ = v13 | _ => True) rfl (by decide) (by kernel_rfl) (Below.refl _ _) (fun _ _ _ h k => h.trans (k.mono h.size)) (fun _ _ _ _ h _ => h) ?_ ?_
                    · refine ⟨?_, trivial⟩
                      · intro a w' hx hu hd K hK; have e43 : a.tmps.getD 43 undef = v13 := hu 43 rfl; exact Flow.run1 rfl (Flow.r_assign rfl e43) (hK _ _ (Below.refl _ _) rfl)
                    · intro vs W14 hb14 hT
                      have v9 := Flow.eqn (hT 9 (by decide) (by decide))
                      simp only [Flow.putsT, v9, Act.put, List.setIfInBounds_toArray, List.set_cons_zero, List.set_cons_succ, List.drop_succ_cons, List.drop_zero, List.take_succ_cons, List.take_zero]
                      clear hT v9
                      have HB14 := Aside0.mk (below_step HB13.out hb14)
                      have HR_14 := Aside0.mk (Kd.R_below HR_13.out hb14)
                      clear hb14
                      go_wp2_with fail
                      go_meet
                      exact ⟨HB14, ⟨by rw [show recT xk xz xg xs xw xm xu l = [itoaB xz, itoaB xg] by unfold recT; rw [if_neg h1, if_pos h2]]; exact HR_14.out⟩⟩
            · skip
              by_cases h3 : xk = 3
              · skip
                go_upto_region 3 with fail
                refine Flow.seqT (E := fun u v => Below u.heap.size u v) [(some 20, []), (some 19, [0])] (fun iQ vQ wQ => match iQ with | 0 => vQ = (.bool false) | 1 => vQ = (.bool false) | _ => True) rfl (by kernel_rfl) (Below.refl _ _) (fun _ _ _ h k => h.trans (k.mono h.size)) (fun _ _ _ _ h _ => h) ?_ ?_
                · refine ⟨?_, ?_, trivial⟩
                  · intro a w' hx hu hd K hK; have e18 : a.tmps.getD 18 undef = (.int .i64 xk) := hu 18 rfl; exact Flow.run1 rfl (no (eql rfl e18 rfl) (beq_eq_false_iff_ne.2 h1)) (hK _ _ (Below.refl _ _) rfl)
                  · intro a w' hx hu hd K hK; have e20 := Flow.got (hd 0 rfl) 20 rfl; exact Flow.run1 rfl (Flow.r_assign rfl e20) (hK _ _ (Below.refl _ _) rfl)
                · intro vs W15 hb15 hT
                  have v0 := Flow.eqn (hT 0 (by decide))
                  have v1 := Flow.eqn (hT 1 (by decide))
                  simp only [Flow.putsT, v0, v1, Act.put, List.setIfInBounds_toArray, List.set_cons_zero, List.set_cons_succ]
                  clear hT v0 v1
                  have HB15 := Aside0.mk (below_step HB5.out hb15)
                  have HR_15 := Aside0.mk (Kd.R_below HR_5.out hb15)
                  clear hb15
                  go_upto_region 5 with fail
                  refine Flow.seqT (E := fun u v => Below u.heap.size u v) [(some 34, []), (some 33, [0])] (fun iQ vQ wQ => match iQ with | 0 => vQ = (.bool false) | 1 => vQ = (.bool false) | _ => True) rfl (by kernel_rfl) (Below.refl _ _) (fun _ _ _ h k => h.trans (k.mono h.size)) (fun _ _ _ _ h _ => h) ?_ ?_
                  · refine ⟨?_, ?_, trivial⟩
                    · intro a w' hx hu hd K hK; have e18 : a.tmps.getD 18 undef = (.int .i64 xk) := hu 18 rfl; exact Flow.run1 rfl (no (eql rfl e18 rfl) (beq_eq_false_iff_ne.2 h2)) (hK _ _ (Below.refl _ _) rfl)
                    · intro a w' hx hu hd K hK; have e34 := Flow.got (hd 0 rfl) 34 rfl; exact Flow.run1 rfl (Flow.r_assign rfl e34) (hK _ _ (Below.refl _ _) rfl)
                  · intro vs W16 hb16 hT
                    have v0 := Flow.eqn (hT 0 (by decide))
                    have v1 := Flow.eqn (hT 1 (by decide))
                    simp only [Flow.putsT, v0, v1, Act.put, List.setIfInBounds_toArray, List.set_cons_zero, List.set_cons_succ]
                    clear hT v0 v1
                    have HB16 := Aside0.mk (below_step HB15.out hb16)
                    have HR_16 := Aside0.mk (Kd.R_below HR_15.out hb16)
                    clear hb16
                    go_upto_region 7 with fail
                    refine Flow.seqT (E := fun u v => Below u.heap.size u v) [(some 45, []), (some 44, [0])] (fun iQ vQ wQ => match iQ with | 0 => vQ = (.bool true) | 1 => vQ = (.bool true) | _ => True) rfl (by kernel_rfl) (Below.refl _ _) (fun _ _ _ h k => h.trans (k.mono h.size)) (fun _ _ _ _ h _ => h) ?_ ?_
                    · refine ⟨?_, ?_, trivial⟩
                      · intro a w' hx hu hd K hK; have e18 : a.tmps.getD 18 undef = (.int .i64 xk) := hu 18 rfl; exact Flow.run1 rfl (yes (eql rfl e18 rfl) (beq_iff_eq.2 h3)) (hK _ _ (Below.refl _ _) rfl)
                      · intro a w' hx hu hd K hK; have e45 := Flow.got (hd 0 rfl) 45 rfl; exact Flow.run1 rfl (Flow.r_assign rfl e45) (hK _ _ (Below.refl _ _) rfl)
                    · intro vs W17 hb17 hT
                      have v0 := Flow.eqn (hT 0 (by decide))
                      have v1 := Flow.eqn (hT 1 (by decide))
                      simp only [Flow.putsT, v0, v1, Act.put, List.setIfInBounds_toArray, List.set_cons_zero, List.set_cons_succ]
                      clear hT v0 v1
                      have HB17 := Aside0.mk (below_step HB16.out hb17)
                      have HR_17 := Aside0.mk (Kd.R_below HR_16.out hb17)
                      clear hb17
                      go_upto_region 8 with fail
                      refine Flow.flowT_head (E := fun u v => Below u.heap.size u v) 8 [(some 46, []), (some 47, []), (some 48, [1]), (some 49, [2]), (some 50, []), (some 51, [4]), (some 52, [5, 3]), (some 53, [3, 6]), (some 54, [0, 7, 6]), (some 3, [8, 8, 0, 1, 2, 3, 4, 5, 6, 7, 8])] (fun iQ vQ wQ => match iQ with | 0 => vQ = (.slice (some ⟨g4_13, 0, none⟩) 2 2) | 1 => vQ = (.pointer (some ⟨g1, 3, none⟩)) | 2 => vQ = (.int .i64 xz) | 3 => vQ = (.string (itoaB xz)) | 4 => vQ = (.pointer (some ⟨g1, 6, none⟩)) | 5 => vQ = (.int .i64 xw) | 6 => vQ = (.string (itoaB xw)) | 7 => SliceAt #[.string (itoaB xz), .string (itoaB xw)] 9 2 W2.heap.size vQ wQ | _ => True) rfl (by kernel_rfl) (by kernel_rfl) (by kernel_rfl) ((Below.refl _ _).drew) (fun _ _ _ h k => h.trans (k.mono h.size)) (fun iQ vQ w1Q w2Q hQ hEQ => match iQ, hQ with | 0, hQ => hQ | 1, hQ => hQ | 2, hQ => hQ | 3, hQ => hQ | 4, hQ => hQ | 5, hQ => hQ | 6, hQ => hQ | 7, hQ => slice_below hQ hEQ | _ + 8, _ => trivial) ?_ ?_
                      · refine ⟨?_, ?_, ?_, ?_, ?_, ?_, ?_, ?_, trivial⟩
                        · intro a w' hx hu hd K hK; have e3 : a.tmps.getD 3 undef = (.slice (some ⟨g4_13, 0, none⟩) 2 2) := hu 3 rfl; exact Flow.run1 rfl (Flow.r_move rfl e3) (hK _ _ (Below.refl _ _) rfl)
                        · intro a w' hx hu hd K hK; have e1 : a.tmps.getD 1 undef = (.pointer (some ⟨g1, 0, none⟩)) := hu 1 rfl; exact Flow.run1 rfl (fa rfl e1 (fa45_3 _ _ _)) (hK _ _ (Below.refl _ _) rfl)
                        · intro a w' hx hu hd K hK; have e47 := Flow.got (hd 1 (by decide)) 47 rfl; exact Flow.run1 rfl (ld rfl e47 ((blk_cell (blk_below Kg1_2.out (below_step HB17.out hx)) 3).trans rfl) Tryd.underlying3 rfl) (hK _ _ (Below.refl _ _) rfl)
                        · intro a w' hx hu hd K hK; have e48 := Flow.got (hd 2 (by decide)) 48 rfl; refine Flow.want rfl ?_; refine Flow.val_call rfl Tryd.func41 (by kernel_rfl) rfl (by first | (simp only [List.map_toArray, List.map_cons, List.map_nil, Act.eval, e48]; done) | (simp only [List.map_toArray, List.map_cons, List.map_nil, Act.eval, e48]; rfl)) (num_c xz hz w' (HPA.out.below (below_step HB17.out hx))) ?_; rintro e w2 ⟨rfl, hb2⟩; exact ⟨_, rfl, hK _ _ hb2 (by rfl)⟩
                        · intro a w' hx hu hd K hK; have e1 : a.tmps.getD 1 undef = (.pointer (some ⟨g1, 0, none⟩)) := hu 1 rfl; exact Flow.run1 rfl (fa rfl e1 (fa45_6 _ _ _)) (hK _ _ (Below.refl _ _) rfl)
                        · intro a w' hx hu hd K hK; have e50 := Flow.got (hd 4 (by decide)) 50 rfl; exact Flow.run1 rfl (ld rfl e50 ((blk_cell (blk_below Kg1_2.out (below_step HB17.out hx)) 6).trans rfl) Tryd.underlying3 rfl) (hK _ _ (Below.refl _ _) rfl)
                        · intro a w' hx hu hd K hK; have e51 := Flow.got (hd 5 (by decide)) 51 rfl; refine Flow.want rfl ?_; refine Flow.val_call rfl Tryd.func41 (by kernel_rfl) rfl (by first | (simp only [List.map_toArray, List.map_cons, List.map_nil, Act.eval, e51]; done) | (simp only [List.map_toArray, List.map_cons, List.map_nil, Act.eval, e51]; rfl)) (num_c xw hw w' (HPA.out.below (below_step HB17.out hx))) ?_; rintro e w2 ⟨rfl, hb2⟩; exact ⟨_, rfl, hK _ _ hb2 (by rfl)⟩
                        · intro a w' hx hu hd K hK; have e49 := Flow.got (hd 3 (by decide)) 49 rfl; have e52 := Flow.got (hd 6 (by decide)) 52 rfl; exact Flow.run1 rfl (row2_79 rfl e49 e52) (hK _ _ (below_alloc (Below.refl _ _) _) (slice_new (Nat.le_trans (HB17.out).size (hx : Below _ _ _).size)))
                      · intro vs W18 hb18 hT
                        have v0 := Flow.eqn (hT 0 (by decide))
                        have v1 := Flow.eqn (hT 1 (by decide))
                        have v2 := Flow.eqn (hT 2 (by decide))
                        have v3 := Flow.eqn (hT 3 (by decide))
                        have v4 := Flow.eqn (hT 4 (by decide))
                        have v5 := Flow.eqn (hT 5 (by decide))
                        have v6 := Flow.eqn (hT 6 (by decide))
                        obtain ⟨g18_7, v7, hge7, hk7⟩ : SliceAt _ _ _ _ _ _ := hT 7 (by decide)
                        have Kg18_7 := Aside0.mk hk7
                        have Gg18_7 := Aside0.mk hge7
                        clear hk7 hge7
                        simp only [Flow.putsT, v0, v1, v2, v3, v4, v5, v6, v7, Act.put, List.setIfInBounds_toArray, List.set_cons_zero, List.set_cons_succ, List.drop_succ_cons, List.drop_zero, List.take_succ_cons, List.take_zero]
                        clear hT v0 v1 v2 v3 v4 v5 v6 v7
                        have HB18 := Aside0.mk (below_step HB17.out hb18)
                        have HR_18 := Aside0.mk (Kd.R_below HR_17.out hb18)
                        clear hb18
                        have hl19 : (recH xk xe xq).length ≤ 2 := (Nat.le_refl 2)
                        refine eapp Value.string ByteArray.empty (w0 := W2) (base := W2.heap.size) (ys := [itoaB xz, itoaB xw]) rfl rfl Tryd.underlying79 info9 rfl (by decide) rfl rfl HR_18.out Kg18_7.out HB18.out HB18.out.size ?_ ?_
                        · show ((recH xk xe xq).length + 2) * 16 ≤ _; omega
                        intro v19 W19 hr19 hb19 _
                        have HR_19 := Aside0.mk hr19
                        have HB19 := Aside0.mk hb19
                        clear hr19 hb19
                        simp only [Act.put, List.setIfInBounds_toArray, List.set_cons_zero, List.set_cons_succ]
                        refine Flow.seqL (E := fun u v => Below u.heap.size u v) 9 1 [(some 46, []), (some 47, []), (some 48, [1]), (some 49, [2]), (some 50, []), (some 51, [4]), (some 52, [5, 3]), (some 53, [3, 6]), (some 54, [0, 7, 6]), (some 3, [8, 8, 0, 1, 2, 3, 4, 5, 6, 7, 8])] (fun iQ vQ wQ => match iQ with | 9 => vQ = v19 | _ => True) rfl (by decide) (by kernel_rfl) (Below.refl _ _) (fun _ _ _ h k => h.trans (k.mono h.size)) (fun _ _ _ _ h _ => h) ?_ ?_
                        · refine ⟨?_, trivial⟩
                          · intro a w' hx hu hd K hK; have e54 : a.tmps.getD 54 undef = v19 := hu 54 rfl; exact Flow.run1 rfl (Flow.r_assign rfl e54) (hK _ _ (Below.refl _ _) rfl)
                        · intro vs W20 hb20 hT
                          have v9 := Flow.eqn (hT 9 (by decide) (by decide))
                          simp only [Flow.putsT, v9, Act.put, List.setIfInBounds_toArray, List.set_cons_zero, List.set_cons_succ, List.drop_succ_cons, List.drop_zero, List.take_succ_cons, List.take_zero]
                          clear hT v9
                          have HB20 := Aside0.mk (below_step HB19.out hb20)
                          have HR_20 := Aside0.mk (Kd.R_below HR_19.out hb20)
                          clear hb20
                          go_wp2_with fail
                          go_meet
                          exact ⟨HB20, ⟨by rw [show recT xk xz xg xs xw xm xu l = [itoaB xz, itoaB xw] by unfold recT; rw [if_neg h1, if_neg h2, if_pos h3]]; exact HR_20.out⟩⟩
              · skip
                by_cases h4 : xk = 4
                · skip
                  go_upto_region 3 with fail
                  refine Flow.seqT (E := fun u v => Below u.heap.size u v) [(some 20, []), (some 19, [0])] (fun iQ vQ wQ => match iQ with | 0 => vQ = (.bool false) | 1 => vQ = (.bool false) | _ => True) rfl (by kernel_rfl) (Below.refl _ _) (fun _ _ _ h k => h.trans (k.mono h.size)) (fun _ _ _ _ h _ => h) ?_ ?_
                  · refine ⟨?_, ?_, trivial⟩
                    · intro a w' hx hu hd K hK; have e18 : a.tmps.getD 18 undef = (.int .i64 xk) := hu 18 rfl; exact Flow.run1 rfl (no (eql rfl e18 rfl) (beq_eq_false_iff_ne.2 h1)) (hK _ _ (Below.refl _ _) rfl)
                    · intro a w' hx hu hd K hK; have e20 := Flow.got (hd 0 rfl) 20 rfl; exact Flow.run1 rfl (Flow.r_assign rfl e20) (hK _ _ (Below.refl _ _) rfl)
                  · intro vs W21 hb21 hT
                    have v0 := Flow.eqn (hT 0 (by decide))
                    have v1 := Flow.eqn (hT 1 (by decide))
                    simp only [Flow.putsT, v0, v1, Act.put, List.setIfInBounds_toArray, List.set_cons_zero, List.set_cons_succ]
                    clear hT v0 v1
                    have HB21 := Aside0.mk (below_step HB5.out hb21)
                    have HR_21 := Aside0.mk (Kd.R_below HR_5.out hb21)
                    clear hb21
                    go_upto_region 5 with fail
                    refine Flow.seqT (E := fun u v => Below u.heap.size u v) [(some 34, []), (some 33, [0])] (fun iQ vQ wQ => match iQ with | 0 => vQ = (.bool false) | 1 => vQ = (.bool false) | _ => True) rfl (by kernel_rfl) (Below.refl _ _) (fun _ _ _ h k => h.trans (k.mono h.size)) (fun _ _ _ _ h _ => h) ?_ ?_
                    · refine ⟨?_, ?_, trivial⟩
                      · intro a w' hx hu hd K hK; have e18 : a.tmps.getD 18 undef = (.int .i64 xk) := hu 18 rfl; exact Flow.run1 rfl (no (eql rfl e18 rfl) (beq_eq_false_iff_ne.2 h2)) (hK _ _ (Below.refl _ _) rfl)
                      · intro a w' hx hu hd K hK; have e34 := Flow.got (hd 0 rfl) 34 rfl; exact Flow.run1 rfl (Flow.r_assign rfl e34) (hK _ _ (Below.refl _ _) rfl)
                    · intro vs W22 hb22 hT
                      have v0 := Flow.eqn (hT 0 (by decide))
                      have v1 := Flow.eqn (hT 1 (by decide))
                      simp only [Flow.putsT, v0, v1, Act.put, List.setIfInBounds_toArray, List.set_cons_zero, List.set_cons_succ]
                      clear hT v0 v1
                      have HB22 := Aside0.mk (below_step HB21.out hb22)
                      have HR_22 := Aside0.mk (Kd.R_below HR_21.out hb22)
                      clear hb22
                      go_upto_region 7 with fail
                      refine Flow.seqT (E := fun u v => Below u.heap.size u v) [(some 45, []), (some 44, [0])] (fun iQ vQ wQ => match iQ with | 0 => vQ = (.bool false) | 1 => vQ = (.bool false) | _ => True) rfl (by kernel_rfl) (Below.refl _ _) (fun _ _ _ h k => h.trans (k.mono h.size)) (fun _ _ _ _ h _ => h) ?_ ?_
                      · refine ⟨?_, ?_, trivial⟩
                        · intro a w' hx hu hd K hK; have e18 : a.tmps.getD 18 undef = (.int .i64 xk) := hu 18 rfl; exact Flow.run1 rfl (no (eql rfl e18 rfl) (beq_eq_false_iff_ne.2 h3)) (hK _ _ (Below.refl _ _) rfl)
                        · intro a w' hx hu hd K hK; have e45 := Flow.got (hd 0 rfl) 45 rfl; exact Flow.run1 rfl (Flow.r_assign rfl e45) (hK _ _ (Below.refl _ _) rfl)
                      · intro vs W23 hb23 hT
                        have v0 := Flow.eqn (hT 0 (by decide))
                        have v1 := Flow.eqn (hT 1 (by decide))
                        simp only [Flow.putsT, v0, v1, Act.put, List.setIfInBounds_toArray, List.set_cons_zero, List.set_cons_succ]
                        clear hT v0 v1
                        have HB23 := Aside0.mk (below_step HB22.out hb23)
                        have HR_23 := Aside0.mk (Kd.R_below HR_22.out hb23)
                        clear hb23
                        go_upto_region 9 with fail
                        refine Flow.seqT (E := fun u v => Below u.heap.size u v) [(some 56, []), (some 55, [0])] (fun iQ vQ wQ => match iQ with | 0 => vQ = (.bool true) | 1 => vQ = (.bool true) | _ => True) rfl (by kernel_rfl) (Below.refl _ _) (fun _ _ _ h k => h.trans (k.mono h.size)) (fun _ _ _ _ h _ => h) ?_ ?_
                        · refine ⟨?_, ?_, trivial⟩
                          · intro a w' hx hu hd K hK; have e18 : a.tmps.getD 18 undef = (.int .i64 xk) := hu 18 rfl; exact Flow.run1 rfl (yes (eql rfl e18 rfl) (beq_iff_eq.2 h4)) (hK _ _ (Below.refl _ _) rfl)
                          · intro a w' hx hu hd K hK; have e56 := Flow.got (hd 0 rfl) 56 rfl; exact Flow.run1 rfl (Flow.r_assign rfl e56) (hK _ _ (Below.refl _ _) rfl)
                        · intro vs W24 hb24 hT
                          have v0 := Flow.eqn (hT 0 (by decide))
                          have v1 := Flow.eqn (hT 1 (by decide))
                          simp only [Flow.putsT, v0, v1, Act.put, List.setIfInBounds_toArray, List.set_cons_zero, List.set_cons_succ]
                          clear hT v0 v1
                          have HB24 := Aside0.mk (below_step HB23.out hb24)
                          have HR_24 := Aside0.mk (Kd.R_below HR_23.out hb24)
                          clear hb24
                          go_upto_region 10 with fail
                          refine Flow.flowT_head (E := fun u v => Below u.heap.size u v) 14 [(some 57, []), (some 58, []), (some 59, [1]), (some 60, [2]), (some 61, []), (some 62, [4]), (some 63, [5, 3]), (some 64, []), (some 65, [7]), (some 66, [8, 6]), (some 67, []), (some 68, [10]), (some 69, [11, 9]), (some 70, [3, 6, 9, 12]), (some 71, [0, 13, 12]), (some 3, [14, 14, 0, 1, 2, 3, 4, 5, 6, 7, 8, 9, 10, 11, 12, 13, 14])] (fun iQ vQ wQ => match iQ with | 0 => vQ = (.slice (some ⟨g4_13, 0, none⟩) 2 2) | 1 => vQ = (.pointer (some ⟨g1, 3, none⟩)) | 2 => vQ = (.int .i64 xz) | 3 => vQ = (.string (itoaB xz)) | 4 => vQ = (.pointer (some ⟨g1, 4, none⟩)) | 5 => vQ = (.int .i64 xg) | 6 => vQ = (.string (itoaB xg)) | 7 => vQ = (.pointer (some ⟨g1, 6, none⟩)) | 8 => vQ = (.int .i64 xw) | 9 => vQ = (.string (itoaB xw)) | 10 => vQ = (.pointer (some ⟨g1, 9, none⟩)) | 11 => vQ = (.slice A l.length c) | 12 => vQ = (.string (hexB l)) | 13 => SliceAt #[.string (itoaB xz), .string (itoaB xg), .string (itoaB xw), .string (hexB l)] 9 4 W2.heap.size vQ wQ | _ => True) rfl (by kernel_rfl) (by kernel_rfl) (by kernel_rfl) ((Below.refl _ _).drew) (fun _ _ _ h k => h.trans (k.mono h.size)) (fun iQ vQ w1Q w2Q hQ hEQ => match iQ, hQ with | 0, hQ => hQ | 1, hQ => hQ | 2, hQ => hQ | 3, hQ => hQ | 4, hQ => hQ | 5, hQ => hQ | 6, hQ => hQ | 7, hQ => hQ | 8, hQ => hQ | 9, hQ => hQ | 10, hQ => hQ | 11, hQ => hQ | 12, hQ => hQ | 13, hQ => slice_below hQ hEQ | _ + 14, _ => trivial) ?_ ?_
                          · refine ⟨?_, ?_, ?_, ?_, ?_, ?_, ?_, ?_, ?_, ?_, ?_, ?_, ?_, ?_, trivial⟩
                            · intro a w' hx hu hd K hK; have e3 : a.tmps.getD 3 undef = (.slice (some ⟨g4_13, 0, none⟩) 2 2) := hu 3 rfl; exact Flow.run1 rfl (Flow.r_move rfl e3) (hK _ _ (Below.refl _ _) rfl)
                            · intro a w' hx hu hd K hK; have e1 : a.tmps.getD 1 undef = (.pointer (some ⟨g1, 0, none⟩)) := hu 1 rfl; exact Flow.run1 rfl (fa rfl e1 (fa45_3 _ _ _)) (hK _ _ (Below.refl _ _) rfl)
                            · intro a w' hx hu hd K hK; have e58 := Flow.got (hd 1 (by decide)) 58 rfl; exact Flow.run1 rfl (ld rfl e58 ((blk_cell (blk_below Kg1_2.out (below_step HB24.out hx)) 3).trans rfl) Tryd.underlying3 rfl) (hK _ _ (Below.refl _ _) rfl)
                            · intro a w' hx hu hd K hK; have e59 := Flow.got (hd 2 (by decide)) 59 rfl; refine Flow.want rfl ?_; refine Flow.val_call rfl Tryd.func41 (by kernel_rfl) rfl (by first | (simp only [List.map_toArray, List.map_cons, List.map_nil, Act.eval, e59]; done) | (simp only [List.map_toArray, List.map_cons, List.map_nil, Act.eval, e59]; rfl)) (num_c xz hz w' (HPA.out.below (below_step HB24.out hx))) ?_; rintro e w2 ⟨rfl, hb2⟩; exact ⟨_, rfl, hK _ _ hb2 (by rfl)⟩
                            · intro a w' hx hu hd K hK; have e1 : a.tmps.getD 1 undef = (.pointer (some ⟨g1, 0, none⟩)) := hu 1 rfl; exact Flow.run1 rfl (fa rfl e1 (fa45_4 _ _ _)) (hK _ _ (Below.refl _ _) rfl)
                            · intro a w' hx hu hd K hK; have e61 := Flow.got (hd 4 (by decide)) 61 rfl; exact Flow.run1 rfl (ld rfl e61 ((blk_cell (blk_below Kg1_2.out (below_step HB24.out hx)) 4).trans rfl) Tryd.underlying3 rfl) (hK _ _ (Below.refl _ _) rfl)
                            · intro a w' hx hu hd K hK; have e62 := Flow.got (hd 5 (by decide)) 62 rfl; refine Flow.want rfl ?_; refine Flow.val_call rfl Tryd.func41 (by kernel_rfl) rfl (by first | (simp only [List.map_toArray, List.map_cons, List.map_nil, Act.eval, e62]; done) | (simp only [List.map_toArray, List.map_cons, List.map_nil, Act.eval, e62]; rfl)) (num_c xg hg w' (HPA.out.below (below_step HB24.out hx))) ?_; rintro e w2 ⟨rfl, hb2⟩; exact ⟨_, rfl, hK _ _ hb2 (by rfl)⟩
                            · intro a w' hx hu hd K hK; have e1 : a.tmps.getD 1 undef = (.pointer (some ⟨g1, 0, none⟩)) := hu 1 rfl; exact Flow.run1 rfl (fa rfl e1 (fa45_6 _ _ _)) (hK _ _ (Below.refl _ _) rfl)
                            · intro a w' hx hu hd K hK; have e64 := Flow.got (hd 7 (by decide)) 64 rfl; exact Flow.run1 rfl (ld rfl e64 ((blk_cell (blk_below Kg1_2.out (below_step HB24.out hx)) 6).trans rfl) Tryd.underlying3 rfl) (hK _ _ (Below.refl _ _) rfl)
                            · intro a w' hx hu hd K hK; have e65 := Flow.got (hd 8 (by decide)) 65 rfl; refine Flow.want rfl ?_; refine Flow.val_call rfl Tryd.func41 (by kernel_rfl) rfl (by first | (simp only [List.map_toArray, List.map_cons, List.map_nil, Act.eval, e65]; done) | (simp only [List.map_toArray, List.map_cons, List.map_nil, Act.eval, e65]; rfl)) (num_c xw hw w' (HPA.out.below (below_step HB24.out hx))) ?_; rintro e w2 ⟨rfl, hb2⟩; exact ⟨_, rfl, hK _ _ hb2 (by rfl)⟩
                            · intro a w' hx hu hd K hK; have e1 : a.tmps.getD 1 undef = (.pointer (some ⟨g1, 0, none⟩)) := hu 1 rfl; exact Flow.run1 rfl (fa rfl e1 (fa45_9 _ _ _)) (hK _ _ (Below.refl _ _) rfl)
                            · intro a w' hx hu hd K hK; have e67 := Flow.got (hd 10 (by decide)) 67 rfl; exact Flow.run1 rfl (ld rfl e67 ((blk_cell (blk_below Kg1_2.out (below_step HB24.out hx)) 9).trans rfl) Tryd.underlying43 rfl) (hK _ _ (Below.refl _ _) rfl)
                            · intro a w' hx hu hd K hK; have e68 := Flow.got (hd 11 (by decide)) 68 rfl; refine Flow.want rfl ?_; refine Flow.val_call rfl Tryd.func25 (by kernel_rfl) rfl (by first | (simp only [List.map_toArray, List.map_cons, List.map_nil, Act.eval, e68]; done) | (simp only [List.map_toArray, List.map_cons, List.map_nil, Act.eval, e68]; rfl)) (hex_c l A c HB8.out (by omega) w' (Kd.C_below HC.out (below_step HB24.out hx))) ?_; rintro e w2 ⟨rfl, hb2⟩; exact ⟨_, rfl, hK _ _ hb2 (by rfl)⟩
                            · intro a w' hx hu hd K hK; have e60 := Flow.got (hd 3 (by decide)) 60 rfl; have e63 := Flow.got (hd 6 (by decide)) 63 rfl; have e66 := Flow.got (hd 9 (by decide)) 66 rfl; have e69 := Flow.got (hd 12 (by decide)) 69 rfl; exact Flow.run1 rfl (row4_79 rfl e60 e63 e66 e69) (hK _ _ (below_alloc (Below.refl _ _) _) (slice_new (Nat.le_trans (HB24.out).size (hx : Below _ _ _).size)))
                          · intro vs W25 hb25 hT
                            have v0 := Flow.eqn (hT 0 (by decide))
                            have v1 := Flow.eqn (hT 1 (by decide))
                            have v2 := Flow.eqn (hT 2 (by decide))
                            have v3 := Flow.eqn (hT 3 (by decide))
                            have v4 := Flow.eqn (hT 4 (by decide))
                            have v5 := Flow.eqn (hT 5 (by decide))
                            have v6 := Flow.eqn (hT 6 (by decide))
                            have v7 := Flow.eqn (hT 7 (by decide))
                            have v8 := Flow.eqn (hT 8 (by decide))
                            have v9 := Flow.eqn (hT 9 (by decide))
                            have v10 := Flow.eqn (hT 10 (by decide))
                            have v11 := Flow.eqn (hT 11 (by decide))
                            have v12 := Flow.eqn (hT 12 (by decide))
                            obtain ⟨g25_13, v13, hge13, hk13⟩ : SliceAt _ _ _ _ _ _ := hT 13 (by decide)
                            have Kg25_13 := Aside0.mk hk13
                            have Gg25_13 := Aside0.mk hge13
                            clear hk13 hge13
                            simp only [Flow.putsT, v0, v1, v2, v3, v4, v5, v6, v7, v8, v9, v10, v11, v12, v13, Act.put, List.setIfInBounds_toArray, List.set_cons_zero, List.set_cons_succ, List.drop_succ_cons, List.drop_zero, List.take_succ_cons, List.take_zero]
                            clear hT v0 v1 v2 v3 v4 v5 v6 v7 v8 v9 v10 v11 v12 v13
                            have HB25 := Aside0.mk (below_step HB24.out hb25)
                            have HR_25 := Aside0.mk (Kd.R_below HR_24.out hb25)
                            clear hb25
                            have hl26 : (recH xk xe xq).length ≤ 2 := (Nat.le_refl 2)
                            refine eapp Value.string ByteArray.empty (w0 := W2) (base := W2.heap.size) (ys := [itoaB xz, itoaB xg, itoaB xw, hexB l]) rfl rfl Tryd.underlying79 info9 rfl (by decide) rfl rfl HR_25.out Kg25_13.out HB25.out HB25.out.size ?_ ?_
                            · show ((recH xk xe xq).length + 4) * 16 ≤ _; omega
                            intro v26 W26 hr26 hb26 _
                            have HR_26 := Aside0.mk hr26
                            have HB26 := Aside0.mk hb26
                            clear hr26 hb26
                            simp only [Act.put, List.setIfInBounds_toArray, List.set_cons_zero, List.set_cons_succ]
                            refine Flow.seqL (E := fun u v => Below u.heap.size u v) 15 1 [(some 57, []), (some 58, []), (some 59, [1]), (some 60, [2]), (some 61, []), (some 62, [4]), (some 63, [5, 3]), (some 64, []), (some 65, [7]), (some 66, [8, 6]), (some 67, []), (some 68, [10]), (some 69, [11, 9]), (some 70, [3, 6, 9, 12]), (some 71, [0, 13, 12]), (some 3, [14, 14, 0, 1, 2, 3, 4, 5, 6, 7, 8, 9, 10, 11, 12, 13, 14])] (fun iQ vQ wQ => match iQ with | 15 => vQ = v26 | _ => True) rfl (by decide) (by kernel_rfl) (Below.refl _ _) (fun _ _ _ h k => h.trans (k.mono h.size)) (fun _ _ _ _ h _ => h) ?_ ?_
                            · refine ⟨?_, trivial⟩
                              · intro a w' hx hu hd K hK; have e71 : a.tmps.getD 71 undef = v26 := hu 71 rfl; exact Flow.run1 rfl (Flow.r_assign rfl e71) (hK _ _ (Below.refl _ _) rfl)
                            · intro vs W27 hb27 hT
                              have v15 := Flow.eqn (hT 15 (by decide) (by decide))
                              simp only [Flow.putsT, v15, Act.put, List.setIfInBounds_toArray, List.set_cons_zero, List.set_cons_succ, List.drop_succ_cons, List.drop_zero, List.take_succ_cons, List.take_zero]
                              clear hT v15
                              have HB27 := Aside0.mk (below_step HB26.out hb27)
                              have HR_27 := Aside0.mk (Kd.R_below HR_26.out hb27)
                              clear hb27
                              go_wp2_with fail
                              go_meet
                              exact ⟨HB27, ⟨by rw [show recT xk xz xg xs xw xm xu l = [itoaB xz, itoaB xg, itoaB xw, hexB l] by unfold recT; rw [if_neg h1, if_neg h2, if_neg h3, if_pos h4]]; exact HR_27.out⟩⟩
                · skip
                  by_cases h5 : xk = 5
                  · skip
                    go_upto_region 3 with fail
                    refine Flow.seqT (E := fun u v => Below u.heap.size u v) [(some 20, []), (some 19, [0])] (fun iQ vQ wQ => match iQ with | 0 => vQ = (.bool false) | 1 => vQ = (.bool false) | _ => True) rfl (by kernel_rfl) (Below.refl _ _) (fun _ _ _ h k => h.trans (k.mono h.size)) (fun _ _ _ _ h _ => h) ?_ ?_
                    · refine ⟨?_, ?_, trivial⟩
                      · intro a w' hx hu hd K hK; have e18 : a.tmps.getD 18 undef = (.int .i64 xk) := hu 18 rfl; exact Flow.run1 rfl (no (eql rfl e18 rfl) (beq_eq_false_iff_ne.2 h1)) (hK _ _ (Below.refl _ _) rfl)
                      · intro a w' hx hu hd K hK; have e20 := Flow.got (hd 0 rfl) 20 rfl; exact Flow.run1 rfl (Flow.r_assign rfl e20) (hK _ _ (Below.refl _ _) rfl)
                    · intro vs W28 hb28 hT
                      have v0 := Flow.eqn (hT 0 (by decide))
                      have v1 := Flow.eqn (hT 1 (by decide))
                      simp only [Flow.putsT, v0, v1, Act.put, List.setIfInBounds_toArray, List.set_cons_zero, List.set_cons_succ]
                      clear hT v0 v1
                      have HB28 := Aside0.mk (below_step HB5.out hb28)
                      have HR_28 := Aside0.mk (Kd.R_below HR_5.out hb28)
                      clear hb28
                      go_upto_region 5 with fail
                      refine Flow.seqT (E := fun u v => Below u.heap.size u v) [(some 34, []), (some 33, [0])] (fun iQ vQ wQ => match iQ with | 0 => vQ = (.bool false) | 1 => vQ = (.bool false) | _ => True) rfl (by kernel_rfl) (Below.refl _ _) (fun _ _ _ h k => h.trans (k.mono h.size)) (fun _ _ _ _ h _ => h) ?_ ?_
                      · refine ⟨?_, ?_, trivial⟩
                        · intro a w' hx hu hd K hK; have e18 : a.tmps.getD 18 undef = (.int .i64 xk) := hu 18 rfl; exact Flow.run1 rfl (no (eql rfl e18 rfl) (beq_eq_false_iff_ne.2 h2)) (hK _ _ (Below.refl _ _) rfl)
                        · intro a w' hx hu hd K hK; have e34 := Flow.got (hd 0 rfl) 34 rfl; exact Flow.run1 rfl (Flow.r_assign rfl e34) (hK _ _ (Below.refl _ _) rfl)
                      · intro vs W29 hb29 hT
                        have v0 := Flow.eqn (hT 0 (by decide))
                        have v1 := Flow.eqn (hT 1 (by decide))
                        simp only [Flow.putsT, v0, v1, Act.put, List.setIfInBounds_toArray, List.set_cons_zero, List.set_cons_succ]
                        clear hT v0 v1
                        have HB29 := Aside0.mk (below_step HB28.out hb29)
                        have HR_29 := Aside0.mk (Kd.R_below HR_28.out hb29)
                        clear hb29
                        go_upto_region 7 with fail
                        refine Flow.seqT (E := fun u v => Below u.heap.size u v) [(some 45, []), (some 44, [0])] (fun iQ vQ wQ => match iQ with | 0 => vQ = (.bool false) | 1 => vQ = (.bool false) | _ => True) rfl (by kernel_rfl) (Below.refl _ _) (fun _ _ _ h k => h.trans (k.mono h.size)) (fun _ _ _ _ h _ => h) ?_ ?_
                        · refine ⟨?_, ?_, trivial⟩
                          · intro a w' hx hu hd K hK; have e18 : a.tmps.getD 18 undef = (.int .i64 xk) := hu 18 rfl; exact Flow.run1 rfl (no (eql rfl e18 rfl) (beq_eq_false_iff_ne.2 h3)) (hK _ _ (Below.refl _ _) rfl)
                          · intro a w' hx hu hd K hK; have e45 := Flow.got (hd 0 rfl) 45 rfl; exact Flow.run1 rfl (Flow.r_assign rfl e45) (hK _ _ (Below.refl _ _) rfl)
                        · intro vs W30 hb30 hT
                          have v0 := Flow.eqn (hT 0 (by decide))
                          have v1 := Flow.eqn (hT 1 (by decide))
                          simp only [Flow.putsT, v0, v1, Act.put, List.setIfInBounds_toArray, List.set_cons_zero, List.set_cons_succ]
                          clear hT v0 v1
                          have HB30 := Aside0.mk (below_step HB29.out hb30)
                          have HR_30 := Aside0.mk (Kd.R_below HR_29.out hb30)
                          clear hb30
                          go_upto_region 9 with fail
                          refine Flow.seqT (E := fun u v => Below u.heap.size u v) [(some 56, []), (some 55, [0])] (fun iQ vQ wQ => match iQ with | 0 => vQ = (.bool false) | 1 => vQ = (.bool false) | _ => True) rfl (by kernel_rfl) (Below.refl _ _) (fun _ _ _ h k => h.trans (k.mono h.size)) (fun _ _ _ _ h _ => h) ?_ ?_
                          · refine ⟨?_, ?_, trivial⟩
                            · intro a w' hx hu hd K hK; have e18 : a.tmps.getD 18 undef = (.int .i64 xk) := hu 18 rfl; exact Flow.run1 rfl (no (eql rfl e18 rfl) (beq_eq_false_iff_ne.2 h4)) (hK _ _ (Below.refl _ _) rfl)
                            · intro a w' hx hu hd K hK; have e56 := Flow.got (hd 0 rfl) 56 rfl; exact Flow.run1 rfl (Flow.r_assign rfl e56) (hK _ _ (Below.refl _ _) rfl)
                          · intro vs W31 hb31 hT
                            have v0 := Flow.eqn (hT 0 (by decide))
                            have v1 := Flow.eqn (hT 1 (by decide))
                            simp only [Flow.putsT, v0, v1, Act.put, List.setIfInBounds_toArray, List.set_cons_zero, List.set_cons_succ]
                            clear hT v0 v1
                            have HB31 := Aside0.mk (below_step HB30.out hb31)
                            have HR_31 := Aside0.mk (Kd.R_below HR_30.out hb31)
                            clear hb31
                            go_upto_region 11 with fail
                            refine Flow.seqT (E := fun u v => Below u.heap.size u v) [(some 73, []), (some 72, [0])] (fun iQ vQ wQ => match iQ with | 0 => vQ = (.bool true) | 1 => vQ = (.bool true) | _ => True) rfl (by kernel_rfl) (Below.refl _ _) (fun _ _ _ h k => h.trans (k.mono h.size)) (fun _ _ _ _ h _ => h) ?_ ?_
                            · refine ⟨?_, ?_, trivial⟩
                              · intro a w' hx hu hd K hK; have e18 : a.tmps.getD 18 undef = (.int .i64 xk) := hu 18 rfl; exact Flow.run1 rfl (yes (eql rfl e18 rfl) (beq_iff_eq.2 h5)) (hK _ _ (Below.refl _ _) rfl)
                              · intro a w' hx hu hd K hK; have e73 := Flow.got (hd 0 rfl) 73 rfl; exact Flow.run1 rfl (Flow.r_assign rfl e73) (hK _ _ (Below.refl _ _) rfl)
                            · intro vs W32 hb32 hT
                              have v0 := Flow.eqn (hT 0 (by decide))
                              have v1 := Flow.eqn (hT 1 (by decide))
                              simp only [Flow.putsT, v0, v1, Act.put, List.setIfInBounds_toArray, List.set_cons_zero, List.set_cons_succ]
                              clear hT v0 v1
                              have HB32 := Aside0.mk (below_step HB31.out hb32)
                              have HR_32 := Aside0.mk (Kd.R_below HR_31.out hb32)
                              clear hb32
                              go_upto_region 12 with fail
                              refine Flow.seqT_head (E := fun u v => Below u.heap.size u v) 5 [(some 74, []), (some 75, []), (some 76, [1]), (some 77, [2]), (some 78, [3]), (some 79, [0, 4, 3]), (some 3, [5, 5, 0, 1, 2, 3, 4, 5])] (fun iQ vQ wQ => match iQ with | 0 => vQ = (.slice (some ⟨g4_13, 0, none⟩) 2 2) | 1 => vQ = (.pointer (some ⟨g1, 3, none⟩)) | 2 => vQ = (.int .i64 xz) | 3 => vQ = (.string (itoaB xz)) | 4 => SliceAt #[.string (itoaB xz)] 9 1 W2.heap.size vQ wQ | _ => True) rfl (by decide) (by kernel_rfl) (Below.refl _ _) (fun _ _ _ h k => h.trans (k.mono h.size)) (fun iQ vQ w1Q w2Q hQ hEQ => match iQ, hQ with | 0, hQ => hQ | 1, hQ => hQ | 2, hQ => hQ | 3, hQ => hQ | 4, hQ => slice_below hQ hEQ | _ + 5, _ => trivial) ?_ ?_
                              · refine ⟨?_, ?_, ?_, ?_, ?_, trivial⟩
                                · intro a w' hx hu hd K hK; have e3 : a.tmps.getD 3 undef = (.slice (some ⟨g4_13, 0, none⟩) 2 2) := hu 3 rfl; exact Flow.run1 rfl (Flow.r_move rfl e3) (hK _ _ (Below.refl _ _) rfl)
                                · intro a w' hx hu hd K hK; have e1 : a.tmps.getD 1 undef = (.pointer (some ⟨g1, 0, none⟩)) := hu 1 rfl; exact Flow.run1 rfl (fa rfl e1 (fa45_3 _ _ _)) (hK _ _ (Below.refl _ _) rfl)
                                · intro a w' hx hu hd K hK; have e75 := Flow.got (hd 1 rfl) 75 rfl; exact Flow.run1 rfl (ld rfl e75 ((blk_cell (blk_below Kg1_2.out (below_step HB32.out hx)) 3).trans rfl) Tryd.underlying3 rfl) (hK _ _ (Below.refl _ _) rfl)
                                · intro a w' hx hu hd K hK; have e76 := Flow.got (hd 2 rfl) 76 rfl; refine Flow.want rfl ?_; refine Flow.val_call rfl Tryd.func41 (by kernel_rfl) rfl (by first | (simp only [List.map_toArray, List.map_cons, List.map_nil, Act.eval, e76]; done) | (simp only [List.map_toArray, List.map_cons, List.map_nil, Act.eval, e76]; rfl)) (num_c xz hz w' (HPA.out.below (below_step HB32.out hx))) ?_; rintro e w2 ⟨rfl, hb2⟩; exact ⟨_, rfl, hK _ _ hb2 (by rfl)⟩
                                · intro a w' hx hu hd K hK; have e77 := Flow.got (hd 3 rfl) 77 rfl; exact Flow.run1 rfl (row1_79 rfl e77) (hK _ _ (below_alloc (Below.refl _ _) _) (slice_new (Nat.le_trans (HB32.out).size (hx : Below _ _ _).size)))
                              · intro vs W33 hb33 hT
                                have v0 := Flow.eqn (hT 0 (by decide))
                                have v1 := Flow.eqn (hT 1 (by decide))
                                have v2 := Flow.eqn (hT 2 (by decide))
                                have v3 := Flow.eqn (hT 3 (by decide))
                                obtain ⟨g33_4, v4, hge4, hk4⟩ : SliceAt _ _ _ _ _ _ := hT 4 (by decide)
                                have Kg33_4 := Aside0.mk hk4
                                have Gg33_4 := Aside0.mk hge4
                                clear hk4 hge4
                                simp only [Flow.putsT, v0, v1, v2, v3, v4, Act.put, List.setIfInBounds_toArray, List.set_cons_zero, List.set_cons_succ, List.drop_succ_cons, List.drop_zero, List.take_succ_cons, List.take_zero]
                                clear hT v0 v1 v2 v3 v4
                                have HB33 := Aside0.mk (below_step HB32.out hb33)
                                have HR_33 := Aside0.mk (Kd.R_below HR_32.out hb33)
                                clear hb33
                                have hl34 : (recH xk xe xq).length ≤ 2 := (Nat.le_refl 2)
                                refine eapp Value.string ByteArray.empty (w0 := W2) (base := W2.heap.size) (ys := [itoaB xz]) rfl rfl Tryd.underlying79 info9 rfl (by decide) rfl rfl HR_33.out Kg33_4.out HB33.out HB33.out.size ?_ ?_
                                · show ((recH xk xe xq).length + 1) * 16 ≤ _; omega
                                intro v34 W34 hr34 hb34 _
                                have HR_34 := Aside0.mk hr34
                                have HB34 := Aside0.mk hb34
                                clear hr34 hb34
                                simp only [Act.put, List.setIfInBounds_toArray, List.set_cons_zero, List.set_cons_succ]
                                refine Flow.seqL (E := fun u v => Below u.heap.size u v) 6 1 [(some 74, []), (some 75, []), (some 76, [1]), (some 77, [2]), (some 78, [3]), (some 79, [0, 4, 3]), (some 3, [5, 5, 0, 1, 2, 3, 4, 5])] (fun iQ vQ wQ => match iQ with | 6 => vQ = v34 | _ => True) rfl (by decide) (by kernel_rfl) (Below.refl _ _) (fun _ _ _ h k => h.trans (k.mono h.size)) (fun _ _ _ _ h _ => h) ?_ ?_
                                · refine ⟨?_, trivial⟩
                                  · intro a w' hx hu hd K hK; have e79 : a.tmps.getD 79 undef = v34 := hu 79 rfl; exact Flow.run1 rfl (Flow.r_assign rfl e79) (hK _ _ (Below.refl _ _) rfl)
                                · intro vs W35 hb35 hT
                                  have v6 := Flow.eqn (hT 6 (by decide) (by decide))
                                  simp only [Flow.putsT, v6, Act.put, List.setIfInBounds_toArray, List.set_cons_zero, List.set_cons_succ, List.drop_succ_cons, List.drop_zero, List.take_succ_cons, List.take_zero]
                                  clear hT v6
                                  have HB35 := Aside0.mk (below_step HB34.out hb35)
                                  have HR_35 := Aside0.mk (Kd.R_below HR_34.out hb35)
                                  clear hb35
                                  go_wp2_with fail
                                  go_meet
                                  exact ⟨HB35, ⟨by rw [show recT xk xz xg xs xw xm xu l = [itoaB xz] by unfold recT; rw [if_neg h1, if_neg h2, if_neg h3, if_neg h4, if_pos h5]]; exact HR_35.out⟩⟩
                  · skip
                    by_cases h6 : xk = 6
                    · skip
                      go_upto_region 3 with fail
                      refine Flow.seqT (E := fun u v => Below u.heap.size u v) [(some 20, []), (some 19, [0])] (fun iQ vQ wQ => match iQ with | 0 => vQ = (.bool false) | 1 => vQ = (.bool false) | _ => True) rfl (by kernel_rfl) (Below.refl _ _) (fun _ _ _ h k => h.trans (k.mono h.size)) (fun _ _ _ _ h _ => h) ?_ ?_
                      · refine ⟨?_, ?_, trivial⟩
                        · intro a w' hx hu hd K hK; have e18 : a.tmps.getD 18 undef = (.int .i64 xk) := hu 18 rfl; exact Flow.run1 rfl (no (eql rfl e18 rfl) (beq_eq_false_iff_ne.2 h1)) (hK _ _ (Below.refl _ _) rfl)
                        · intro a w' hx hu hd K hK; have e20 := Flow.got (hd 0 rfl) 20 rfl; exact Flow.run1 rfl (Flow.r_assign rfl e20) (hK _ _ (Below.refl _ _) rfl)
                      · intro vs W36 hb36 hT
                        have v0 := Flow.eqn (hT 0 (by decide))
                        have v1 := Flow.eqn (hT 1 (by decide))
                        simp only [Flow.putsT, v0, v1, Act.put, List.setIfInBounds_toArray, List.set_cons_zero, List.set_cons_succ]
                        clear hT v0 v1
                        have HB36 := Aside0.mk (below_step HB5.out hb36)
                        have HR_36 := Aside0.mk (Kd.R_below HR_5.out hb36)
                        clear hb36
                        go_upto_region 5 with fail
                        refine Flow.seqT (E := fun u v => Below u.heap.size u v) [(some 34, []), (some 33, [0])] (fun iQ vQ wQ => match iQ with | 0 => vQ = (.bool false) | 1 => vQ = (.bool false) | _ => True) rfl (by kernel_rfl) (Below.refl _ _) (fun _ _ _ h k => h.trans (k.mono h.size)) (fun _ _ _ _ h _ => h) ?_ ?_
                        · refine ⟨?_, ?_, trivial⟩
                          · intro a w' hx hu hd K hK; have e18 : a.tmps.getD 18 undef = (.int .i64 xk) := hu 18 rfl; exact Flow.run1 rfl (no (eql rfl e18 rfl) (beq_eq_false_iff_ne.2 h2)) (hK _ _ (Below.refl _ _) rfl)
                          · intro a w' hx hu hd K hK; have e34 := Flow.got (hd 0 rfl) 34 rfl; exact Flow.run1 rfl (Flow.r_assign rfl e34) (hK _ _ (Below.refl _ _) rfl)
                        · intro vs W37 hb37 hT
                          have v0 := Flow.eqn (hT 0 (by decide))
                          have v1 := Flow.eqn (hT 1 (by decide))
                          simp only [Flow.putsT, v0, v1, Act.put, List.setIfInBounds_toArray, List.set_cons_zero, List.set_cons_succ]
                          clear hT v0 v1
                          have HB37 := Aside0.mk (below_step HB36.out hb37)
                          have HR_37 := Aside0.mk (Kd.R_below HR_36.out hb37)
                          clear hb37
                          go_upto_region 7 with fail
                          refine Flow.seqT (E := fun u v => Below u.heap.size u v) [(some 45, []), (some 44, [0])] (fun iQ vQ wQ => match iQ with | 0 => vQ = (.bool false) | 1 => vQ = (.bool false) | _ => True) rfl (by kernel_rfl) (Below.refl _ _) (fun _ _ _ h k => h.trans (k.mono h.size)) (fun _ _ _ _ h _ => h) ?_ ?_
                          · refine ⟨?_, ?_, trivial⟩
                            · intro a w' hx hu hd K hK; have e18 : a.tmps.getD 18 undef = (.int .i64 xk) := hu 18 rfl; exact Flow.run1 rfl (no (eql rfl e18 rfl) (beq_eq_false_iff_ne.2 h3)) (hK _ _ (Below.refl _ _) rfl)
                            · intro a w' hx hu hd K hK; have e45 := Flow.got (hd 0 rfl) 45 rfl; exact Flow.run1 rfl (Flow.r_assign rfl e45) (hK _ _ (Below.refl _ _) rfl)
                          · intro vs W38 hb38 hT
                            have v0 := Flow.eqn (hT 0 (by decide))
                            have v1 := Flow.eqn (hT 1 (by decide))
                            simp only [Flow.putsT, v0, v1, Act.put, List.setIfInBounds_toArray, List.set_cons_zero, List.set_cons_succ]
                            clear hT v0 v1
                            have HB38 := Aside0.mk (below_step HB37.out hb38)
                            have HR_38 := Aside0.mk (Kd.R_below HR_37.out hb38)
                            clear hb38
                            go_upto_region 9 with fail
                            refine Flow.seqT (E := fun u v => Below u.heap.size u v) [(some 56, []), (some 55, [0])] (fun iQ vQ wQ => match iQ with | 0 => vQ = (.bool false) | 1 => vQ = (.bool false) | _ => True) rfl (by kernel_rfl) (Below.refl _ _) (fun _ _ _ h k => h.trans (k.mono h.size)) (fun _ _ _ _ h _ => h) ?_ ?_
                            · refine ⟨?_, ?_, trivial⟩
                              · intro a w' hx hu hd K hK; have e18 : a.tmps.getD 18 undef = (.int .i64 xk) := hu 18 rfl; exact Flow.run1 rfl (no (eql rfl e18 rfl) (beq_eq_false_iff_ne.2 h4)) (hK _ _ (Below.refl _ _) rfl)
                              · intro a w' hx hu hd K hK; have e56 := Flow.got (hd 0 rfl) 56 rfl; exact Flow.run1 rfl (Flow.r_assign rfl e56) (hK _ _ (Below.refl _ _) rfl)
                            · intro vs W39 hb39 hT
                              have v0 := Flow.eqn (hT 0 (by decide))
                              have v1 := Flow.eqn (hT 1 (by decide))
                              simp only [Flow.putsT, v0, v1, Act.put, List.setIfInBounds_toArray, List.set_cons_zero, List.set_cons_succ]
                              clear hT v0 v1
                              have HB39 := Aside0.mk (below_step HB38.out hb39)
                              have HR_39 := Aside0.mk (Kd.R_below HR_38.out hb39)
                              clear hb39
                              go_upto_region 11 with fail
                              refine Flow.seqT (E := fun u v => Below u.heap.size u v) [(some 73, []), (some 72, [0])] (fun iQ vQ wQ => match iQ with | 0 => vQ = (.bool false) | 1 => vQ = (.bool false) | _ => True) rfl (by kernel_rfl) (Below.refl _ _) (fun _ _ _ h k => h.trans (k.mono h.size)) (fun _ _ _ _ h _ => h) ?_ ?_
                              · refine ⟨?_, ?_, trivial⟩
                                · intro a w' hx hu hd K hK; have e18 : a.tmps.getD 18 undef = (.int .i64 xk) := hu 18 rfl; exact Flow.run1 rfl (no (eql rfl e18 rfl) (beq_eq_false_iff_ne.2 h5)) (hK _ _ (Below.refl _ _) rfl)
                                · intro a w' hx hu hd K hK; have e73 := Flow.got (hd 0 rfl) 73 rfl; exact Flow.run1 rfl (Flow.r_assign rfl e73) (hK _ _ (Below.refl _ _) rfl)
                              · intro vs W40 hb40 hT
                                have v0 := Flow.eqn (hT 0 (by decide))
                                have v1 := Flow.eqn (hT 1 (by decide))
                                simp only [Flow.putsT, v0, v1, Act.put, List.setIfInBounds_toArray, List.set_cons_zero, List.set_cons_succ]
                                clear hT v0 v1
                                have HB40 := Aside0.mk (below_step HB39.out hb40)
                                have HR_40 := Aside0.mk (Kd.R_below HR_39.out hb40)
                                clear hb40
                                go_upto_region 13 with fail
                                refine Flow.seqT (E := fun u v => Below u.heap.size u v) [(some 81, []), (some 80, [0])] (fun iQ vQ wQ => match iQ with | 0 => vQ = (.bool true) | 1 => vQ = (.bool true) | _ => True) rfl (by kernel_rfl) (Below.refl _ _) (fun _ _ _ h k => h.trans (k.mono h.size)) (fun _ _ _ _ h _ => h) ?_ ?_
                                · refine ⟨?_, ?_, trivial⟩
                                  · intro a w' hx hu hd K hK; have e18 : a.tmps.getD 18 undef = (.int .i64 xk) := hu 18 rfl; exact Flow.run1 rfl (yes (eql rfl e18 rfl) (beq_iff_eq.2 h6)) (hK _ _ (Below.refl _ _) rfl)
                                  · intro a w' hx hu hd K hK; have e81 := Flow.got (hd 0 rfl) 81 rfl; exact Flow.run1 rfl (Flow.r_assign rfl e81) (hK _ _ (Below.refl _ _) rfl)
                                · intro vs W41 hb41 hT
                                  have v0 := Flow.eqn (hT 0 (by decide))
                                  have v1 := Flow.eqn (hT 1 (by decide))
                                  simp only [Flow.putsT, v0, v1, Act.put, List.setIfInBounds_toArray, List.set_cons_zero, List.set_cons_succ]
                                  clear hT v0 v1
                                  have HB41 := Aside0.mk (below_step HB40.out hb41)
                                  have HR_41 := Aside0.mk (Kd.R_below HR_40.out hb41)
                                  clear hb41
                                  go_upto_region 14 with fail
                                  refine Flow.flowT_head (E := fun u v => Below u.heap.size u v) 8 [(some 82, []), (some 83, []), (some 84, [1]), (some 85, [2]), (some 86, []), (some 87, [4]), (some 88, [5, 3]), (some 89, [3, 6]), (some 90, [0, 7, 6]), (some 3, [8, 8, 0, 1, 2, 3, 4, 5, 6, 7, 8])] (fun iQ vQ wQ => match iQ with | 0 => vQ = (.slice (some ⟨g4_13, 0, none⟩) 2 2) | 1 => vQ = (.pointer (some ⟨g1, 7, none⟩)) | 2 => vQ = (.int .i64 xm) | 3 => vQ = (.string (itoaB xm)) | 4 => vQ = (.pointer (some ⟨g1, 8, none⟩)) | 5 => vQ = (.int .i64 xu) | 6 => vQ = (.string (itoaB xu)) | 7 => SliceAt #[.string (itoaB xm), .string (itoaB xu)] 9 2 W2.heap.size vQ wQ | _ => True) rfl (by kernel_rfl) (by kernel_rfl) (by kernel_rfl) ((Below.refl _ _).drew) (fun _ _ _ h k => h.trans (k.mono h.size)) (fun iQ vQ w1Q w2Q hQ hEQ => match iQ, hQ with | 0, hQ => hQ | 1, hQ => hQ | 2, hQ => hQ | 3, hQ => hQ | 4, hQ => hQ | 5, hQ => hQ | 6, hQ => hQ | 7, hQ => slice_below hQ hEQ | _ + 8, _ => trivial) ?_ ?_
                                  · refine ⟨?_, ?_, ?_, ?_, ?_, ?_, ?_, ?_, trivial⟩
                                    · intro a w' hx hu hd K hK; have e3 : a.tmps.getD 3 undef = (.slice (some ⟨g4_13, 0, none⟩) 2 2) := hu 3 rfl; exact Flow.run1 rfl (Flow.r_move rfl e3) (hK _ _ (Below.refl _ _) rfl)
                                    · intro a w' hx hu hd K hK; have e1 : a.tmps.getD 1 undef = (.pointer (some ⟨g1, 0, none⟩)) := hu 1 rfl; exact Flow.run1 rfl (fa rfl e1 (fa45_7 _ _ _)) (hK _ _ (Below.refl _ _) rfl)
                                    · intro a w' hx hu hd K hK; have e83 := Flow.got (hd 1 (by decide)) 83 rfl; exact Flow.run1 rfl (ld rfl e83 ((blk_cell (blk_below Kg1_2.out (below_step HB41.out hx)) 7).trans rfl) Tryd.underlying3 rfl) (hK _ _ (Below.refl _ _) rfl)
                                    · intro a w' hx hu hd K hK; have e84 := Flow.got (hd 2 (by decide)) 84 rfl; refine Flow.want rfl ?_; refine Flow.val_call rfl Tryd.func41 (by kernel_rfl) rfl (by first | (simp only [List.map_toArray, List.map_cons, List.map_nil, Act.eval, e84]; done) | (simp only [List.map_toArray, List.map_cons, List.map_nil, Act.eval, e84]; rfl)) (num_c xm hm w' (HPA.out.below (below_step HB41.out hx))) ?_; rintro e w2 ⟨rfl, hb2⟩; exact ⟨_, rfl, hK _ _ hb2 (by rfl)⟩
                                    · intro a w' hx hu hd K hK; have e1 : a.tmps.getD 1 undef = (.pointer (some ⟨g1, 0, none⟩)) := hu 1 rfl; exact Flow.run1 rfl (fa rfl e1 (fa45_8 _ _ _)) (hK _ _ (Below.refl _ _) rfl)
                                    · intro a w' hx hu hd K hK; have e86 := Flow.got (hd 4 (by decide)) 86 rfl; exact Flow.run1 rfl (ld rfl e86 ((blk_cell (blk_below Kg1_2.out (below_step HB41.out hx)) 8).trans rfl) Tryd.underlying3 rfl) (hK _ _ (Below.refl _ _) rfl)
                                    · intro a w' hx hu hd K hK; have e87 := Flow.got (hd 5 (by decide)) 87 rfl; refine Flow.want rfl ?_; refine Flow.val_call rfl Tryd.func41 (by kernel_rfl) rfl (by first | (simp only [List.map_toArray, List.map_cons, List.map_nil, Act.eval, e87]; done) | (simp only [List.map_toArray, List.map_cons, List.map_nil, Act.eval, e87]; rfl)) (num_c xu hxu w' (HPA.out.below (below_step HB41.out hx))) ?_; rintro e w2 ⟨rfl, hb2⟩; exact ⟨_, rfl, hK _ _ hb2 (by rfl)⟩
                                    · intro a w' hx hu hd K hK; have e85 := Flow.got (hd 3 (by decide)) 85 rfl; have e88 := Flow.got (hd 6 (by decide)) 88 rfl; exact Flow.run1 rfl (row2_79 rfl e85 e88) (hK _ _ (below_alloc (Below.refl _ _) _) (slice_new (Nat.le_trans (HB41.out).size (hx : Below _ _ _).size)))
                                  · intro vs W42 hb42 hT
                                    have v0 := Flow.eqn (hT 0 (by decide))
                                    have v1 := Flow.eqn (hT 1 (by decide))
                                    have v2 := Flow.eqn (hT 2 (by decide))
                                    have v3 := Flow.eqn (hT 3 (by decide))
                                    have v4 := Flow.eqn (hT 4 (by decide))
                                    have v5 := Flow.eqn (hT 5 (by decide))
                                    have v6 := Flow.eqn (hT 6 (by decide))
                                    obtain ⟨g42_7, v7, hge7, hk7⟩ : SliceAt _ _ _ _ _ _ := hT 7 (by decide)
                                    have Kg42_7 := Aside0.mk hk7
                                    have Gg42_7 := Aside0.mk hge7
                                    clear hk7 hge7
                                    simp only [Flow.putsT, v0, v1, v2, v3, v4, v5, v6, v7, Act.put, List.setIfInBounds_toArray, List.set_cons_zero, List.set_cons_succ, List.drop_succ_cons, List.drop_zero, List.take_succ_cons, List.take_zero]
                                    clear hT v0 v1 v2 v3 v4 v5 v6 v7
                                    have HB42 := Aside0.mk (below_step HB41.out hb42)
                                    have HR_42 := Aside0.mk (Kd.R_below HR_41.out hb42)
                                    clear hb42
                                    have hl43 : (recH xk xe xq).length ≤ 2 := (Nat.le_refl 2)
                                    refine eapp Value.string ByteArray.empty (w0 := W2) (base := W2.heap.size) (ys := [itoaB xm, itoaB xu]) rfl rfl Tryd.underlying79 info9 rfl (by decide) rfl rfl HR_42.out Kg42_7.out HB42.out HB42.out.size ?_ ?_
                                    · show ((recH xk xe xq).length + 2) * 16 ≤ _; omega
                                    intro v43 W43 hr43 hb43 _
                                    have HR_43 := Aside0.mk hr43
                                    have HB43 := Aside0.mk hb43
                                    clear hr43 hb43
                                    simp only [Act.put, List.setIfInBounds_toArray, List.set_cons_zero, List.set_cons_succ]
                                    refine Flow.seqL (E := fun u v => Below u.heap.size u v) 9 1 [(some 82, []), (some 83, []), (some 84, [1]), (some 85, [2]), (some 86, []), (some 87, [4]), (some 88, [5, 3]), (some 89, [3, 6]), (some 90, [0, 7, 6]), (some 3, [8, 8, 0, 1, 2, 3, 4, 5, 6, 7, 8])] (fun iQ vQ wQ => match iQ with | 9 => vQ = v43 | _ => True) rfl (by decide) (by kernel_rfl) (Below.refl _ _) (fun _ _ _ h k => h.trans (k.mono h.size)) (fun _ _ _ _ h _ => h) ?_ ?_
                                    · refine ⟨?_, trivial⟩
                                      · intro a w' hx hu hd K hK; have e90 : a.tmps.getD 90 undef = v43 := hu 90 rfl; exact Flow.run1 rfl (Flow.r_assign rfl e90) (hK _ _ (Below.refl _ _) rfl)
                                    · intro vs W44 hb44 hT
                                      have v9 := Flow.eqn (hT 9 (by decide) (by decide))
                                      simp only [Flow.putsT, v9, Act.put, List.setIfInBounds_toArray, List.set_cons_zero, List.set_cons_succ, List.drop_succ_cons, List.drop_zero, List.take_succ_cons, List.take_zero]
                                      clear hT v9
                                      have HB44 := Aside0.mk (below_step HB43.out hb44)
                                      have HR_44 := Aside0.mk (Kd.R_below HR_43.out hb44)
                                      clear hb44
                                      go_wp2_with fail
                                      go_meet
                                      exact ⟨HB44, ⟨by rw [show recT xk xz xg xs xw xm xu l = [itoaB xm, itoaB xu] by unfold recT; rw [if_neg h1, if_neg h2, if_neg h3, if_neg h4, if_neg h5, if_pos h6]]; exact HR_44.out⟩⟩
                    · skip
                      go_upto_region 3 with fail
                      refine Flow.seqT (E := fun u v => Below u.heap.size u v) [(some 20, []), (some 19, [0])] (fun iQ vQ wQ => match iQ with | 0 => vQ = (.bool false) | 1 => vQ = (.bool false) | _ => True) rfl (by kernel_rfl) (Below.refl _ _) (fun _ _ _ h k => h.trans (k.mono h.size)) (fun _ _ _ _ h _ => h) ?_ ?_
                      · refine ⟨?_, ?_, trivial⟩
                        · intro a w' hx hu hd K hK; have e18 : a.tmps.getD 18 undef = (.int .i64 xk) := hu 18 rfl; exact Flow.run1 rfl (no (eql rfl e18 rfl) (beq_eq_false_iff_ne.2 h1)) (hK _ _ (Below.refl _ _) rfl)
                        · intro a w' hx hu hd K hK; have e20 := Flow.got (hd 0 rfl) 20 rfl; exact Flow.run1 rfl (Flow.r_assign rfl e20) (hK _ _ (Below.refl _ _) rfl)
                      · intro vs W45 hb45 hT
                        have v0 := Flow.eqn (hT 0 (by decide))
                        have v1 := Flow.eqn (hT 1 (by decide))
                        simp only [Flow.putsT, v0, v1, Act.put, List.setIfInBounds_toArray, List.set_cons_zero, List.set_cons_succ]
                        clear hT v0 v1
                        have HB45 := Aside0.mk (below_step HB5.out hb45)
                        have HR_45 := Aside0.mk (Kd.R_below HR_5.out hb45)
                        clear hb45
                        go_upto_region 5 with fail
                        refine Flow.seqT (E := fun u v => Below u.heap.size u v) [(some 34, []), (some 33, [0])] (fun iQ vQ wQ => match iQ with | 0 => vQ = (.bool false) | 1 => vQ = (.bool false) | _ => True) rfl (by kernel_rfl) (Below.refl _ _) (fun _ _ _ h k => h.trans (k.mono h.size)) (fun _ _ _ _ h _ => h) ?_ ?_
                        · refine ⟨?_, ?_, trivial⟩
                          · intro a w' hx hu hd K hK; have e18 : a.tmps.getD 18 undef = (.int .i64 xk) := hu 18 rfl; exact Flow.run1 rfl (no (eql rfl e18 rfl) (beq_eq_false_iff_ne.2 h2)) (hK _ _ (Below.refl _ _) rfl)
                          · intro a w' hx hu hd K hK; have e34 := Flow.got (hd 0 rfl) 34 rfl; exact Flow.run1 rfl (Flow.r_assign rfl e34) (hK _ _ (Below.refl _ _) rfl)
                        · intro vs W46 hb46 hT
                          have v0 := Flow.eqn (hT 0 (by decide))
                          have v1 := Flow.eqn (hT 1 (by decide))
                          simp only [Flow.putsT, v0, v1, Act.put, List.setIfInBounds_toArray, List.set_cons_zero, List.set_cons_succ]
                          clear hT v0 v1
                          have HB46 := Aside0.mk (below_step HB45.out hb46)
                          have HR_46 := Aside0.mk (Kd.R_below HR_45.out hb46)
                          clear hb46
                          go_upto_region 7 with fail
                          refine Flow.seqT (E := fun u v => Below u.heap.size u v) [(some 45, []), (some 44, [0])] (fun iQ vQ wQ => match iQ with | 0 => vQ = (.bool false) | 1 => vQ = (.bool false) | _ => True) rfl (by kernel_rfl) (Below.refl _ _) (fun _ _ _ h k => h.trans (k.mono h.size)) (fun _ _ _ _ h _ => h) ?_ ?_
                          · refine ⟨?_, ?_, trivial⟩
                            · intro a w' hx hu hd K hK; have e18 : a.tmps.getD 18 undef = (.int .i64 xk) := hu 18 rfl; exact Flow.run1 rfl (no (eql rfl e18 rfl) (beq_eq_false_iff_ne.2 h3)) (hK _ _ (Below.refl _ _) rfl)
                            · intro a w' hx hu hd K hK; have e45 := Flow.got (hd 0 rfl) 45 rfl; exact Flow.run1 rfl (Flow.r_assign rfl e45) (hK _ _ (Below.refl _ _) rfl)
                          · intro vs W47 hb47 hT
                            have v0 := Flow.eqn (hT 0 (by decide))
                            have v1 := Flow.eqn (hT 1 (by decide))
                            simp only [Flow.putsT, v0, v1, Act.put, List.setIfInBounds_toArray, List.set_cons_zero, List.set_cons_succ]
                            clear hT v0 v1
                            have HB47 := Aside0.mk (below_step HB46.out hb47)
                            have HR_47 := Aside0.mk (Kd.R_below HR_46.out hb47)
                            clear hb47
                            go_upto_region 9 with fail
                            refine Flow.seqT (E := fun u v => Below u.heap.size u v) [(some 56, []), (some 55, [0])] (fun iQ vQ wQ => match iQ with | 0 => vQ = (.bool false) | 1 => vQ = (.bool false) | _ => True) rfl (by kernel_rfl) (Below.refl _ _) (fun _ _ _ h k => h.trans (k.mono h.size)) (fun _ _ _ _ h _ => h) ?_ ?_
                            · refine ⟨?_, ?_, trivial⟩
                              · intro a w' hx hu hd K hK; have e18 : a.tmps.getD 18 undef = (.int .i64 xk) := hu 18 rfl; exact Flow.run1 rfl (no (eql rfl e18 rfl) (beq_eq_false_iff_ne.2 h4)) (hK _ _ (Below.refl _ _) rfl)
                              · intro a w' hx hu hd K hK; have e56 := Flow.got (hd 0 rfl) 56 rfl; exact Flow.run1 rfl (Flow.r_assign rfl e56) (hK _ _ (Below.refl _ _) rfl)
                            · intro vs W48 hb48 hT
                              have v0 := Flow.eqn (hT 0 (by decide))
                              have v1 := Flow.eqn (hT 1 (by decide))
                              simp only [Flow.putsT, v0, v1, Act.put, List.setIfInBounds_toArray, List.set_cons_zero, List.set_cons_succ]
                              clear hT v0 v1
                              have HB48 := Aside0.mk (below_step HB47.out hb48)
                              have HR_48 := Aside0.mk (Kd.R_below HR_47.out hb48)
                              clear hb48
                              go_upto_region 11 with fail
                              refine Flow.seqT (E := fun u v => Below u.heap.size u v) [(some 73, []), (some 72, [0])] (fun iQ vQ wQ => match iQ with | 0 => vQ = (.bool false) | 1 => vQ = (.bool false) | _ => True) rfl (by kernel_rfl) (Below.refl _ _) (fun _ _ _ h k => h.trans (k.mono h.size)) (fun _ _ _ _ h _ => h) ?_ ?_
                              · refine ⟨?_, ?_, trivial⟩
                                · intro a w' hx hu hd K hK; have e18 : a.tmps.getD 18 undef = (.int .i64 xk) := hu 18 rfl; exact Flow.run1 rfl (no (eql rfl e18 rfl) (beq_eq_false_iff_ne.2 h5)) (hK _ _ (Below.refl _ _) rfl)
                                · intro a w' hx hu hd K hK; have e73 := Flow.got (hd 0 rfl) 73 rfl; exact Flow.run1 rfl (Flow.r_assign rfl e73) (hK _ _ (Below.refl _ _) rfl)
                              · intro vs W49 hb49 hT
                                have v0 := Flow.eqn (hT 0 (by decide))
                                have v1 := Flow.eqn (hT 1 (by decide))
                                simp only [Flow.putsT, v0, v1, Act.put, List.setIfInBounds_toArray, List.set_cons_zero, List.set_cons_succ]
                                clear hT v0 v1
                                have HB49 := Aside0.mk (below_step HB48.out hb49)
                                have HR_49 := Aside0.mk (Kd.R_below HR_48.out hb49)
                                clear hb49
                                go_upto_region 13 with fail
                                refine Flow.seqT (E := fun u v => Below u.heap.size u v) [(some 81, []), (some 80, [0])] (fun iQ vQ wQ => match iQ with | 0 => vQ = (.bool false) | 1 => vQ = (.bool false) | _ => True) rfl (by kernel_rfl) (Below.refl _ _) (fun _ _ _ h k => h.trans (k.mono h.size)) (fun _ _ _ _ h _ => h) ?_ ?_
                                · refine ⟨?_, ?_, trivial⟩
                                  · intro a w' hx hu hd K hK; have e18 : a.tmps.getD 18 undef = (.int .i64 xk) := hu 18 rfl; exact Flow.run1 rfl (no (eql rfl e18 rfl) (beq_eq_false_iff_ne.2 h6)) (hK _ _ (Below.refl _ _) rfl)
                                  · intro a w' hx hu hd K hK; have e81 := Flow.got (hd 0 rfl) 81 rfl; exact Flow.run1 rfl (Flow.r_assign rfl e81) (hK _ _ (Below.refl _ _) rfl)
                                · intro vs W50 hb50 hT
                                  have v0 := Flow.eqn (hT 0 (by decide))
                                  have v1 := Flow.eqn (hT 1 (by decide))
                                  simp only [Flow.putsT, v0, v1, Act.put, List.setIfInBounds_toArray, List.set_cons_zero, List.set_cons_succ]
                                  clear hT v0 v1
                                  have HB50 := Aside0.mk (below_step HB49.out hb50)
                                  have HR_50 := Aside0.mk (Kd.R_below HR_49.out hb50)
                                  clear hb50
                                  go_wp2_with fail
                                  go_meet
                                  exact ⟨HB50, ⟨by rw [show recT xk xz xg xs xw xm xu l = [] by unfold recT; rw [if_neg h1, if_neg h2, if_neg h3, if_neg h4, if_neg h5, if_neg h6]]; rw [List.append_nil]; exact HR_50.out⟩⟩
        case rest =>
          clear HR_5 HB5
          obtain ⟨HBz, HRz⟩ := hcut
          have HS := Aside0.mk (strs_R (l := recH xk xe xq ++ recT xk xz xg xs xw xm xu l) HRz.out (by simp [recH]))
          have HL := Aside0.mk (show (recH xk xe xq ++ recT xk xz xg xs xw xm xu l).length ≤ 6 by rw [List.length_append]; have := recT_len xk xz xg xs xw xm xu l; have h3 : (recH xk xe xq).length = 2 := rfl; omega)
          have HZ2 := Aside0.mk (show (wordsB (recH xk xe xq ++ recT xk xz xg xs xw xm xu l)).size ≤ 12006 from HZ.out)
          go_upto_region 15 with fail
          refine Flow.seqT (E := fun u v => Below u.heap.size u v) [(some 91, []), (some 92, [0]), (some 2, [1, 1, 0, 1])] (fun iQ vQ wQ => match iQ with | 0 => vQ = u3 | 1 => vQ = (.string (recB xk xe xq xz xg xs xw xm xu l)) | 2 => vQ = (.string (recB xk xe xq xz xg xs xw xm xu l)) | _ => True) rfl (by kernel_rfl) (Below.refl _ _) (fun _ _ _ h k => h.trans (k.mono h.size)) (fun _ _ _ _ h _ => h) ?_ ?_
          · refine ⟨?_, ?_, ?_, trivial⟩
            · intro a w' hx hu hd K hK; have e3 : a.tmps.getD 3 undef = u3 := hu 3 rfl; exact Flow.run1 rfl (Flow.r_move rfl e3) (hK _ _ (Below.refl _ _) rfl)
            · intro a w' hx hu hd K hK; have e91 := Flow.got (hd 0 rfl) 91 rfl; refine Flow.want rfl ?_; refine Flow.val_call rfl Tryd.func42 (by kernel_rfl) rfl (by first | (simp only [List.map_toArray, List.map_cons, List.map_nil, Act.eval, e91]; done) | (simp only [List.map_toArray, List.map_cons, List.map_nil, Act.eval, e91]; rfl)) (words_c _ _ w' (HS.out.below hx) (Nat.le_trans HL.out (by decide)) (Nat.le_trans HZ2.out (by decide))) ?_; rintro e w2 ⟨rfl, hb2⟩; exact ⟨_, rfl, hK _ _ hb2 (by rfl)⟩
            · intro a w' hx hu hd K hK; have e92 := Flow.got (hd 1 rfl) 92 rfl; exact Flow.run1 rfl (Flow.r_assign rfl e92) (hK _ _ (Below.refl _ _) rfl)
          · intro vs W51 hb51 hT
            have v0 := Flow.eqn (hT 0 (by decide))
            have v1 := Flow.eqn (hT 1 (by decide))
            have v2 := Flow.eqn (hT 2 (by decide))
            simp only [Flow.putsT, v0, v1, v2, Act.put, List.setIfInBounds_toArray, List.set_cons_zero, List.set_cons_succ]
            clear hT v0 v1 v2
            have HB51 := Aside0.mk (below_step HBz.out hb51)
            have HS_51 := Aside0.mk (Strs.below HS.out hb51)
            clear hb51
            go_wp2
            go_ret
            exact ⟨rfl, below_step HB2.out HB51.out⟩
end Go.Proofs.YtlhmpmmblnbmbaaDoor.Rep
