/- What a log says, as the program's text. -/
import Derived.Test.YtlhmpmmblnbmbaaDoorRepLogR
set_option linter.unusedVariables false
set_option linter.unusedSimpArgs false
namespace Go.Proofs.YtlhmpmmblnbmbaaDoor.Rep
open Go.Lib Go.RowKit Go.Proofs.YtlhmpmmblnbmbaaDoor.Ev Go.Proofs.YtlhmpmmblnbmbaaDoor.Cells Go.Proofs.YtlhmpmmblnbmbaaDoorW.PrintWords Go.Proofs.YtlhmpmmblnbmbaaDoorW.PrintLast Go.Proofs.YtlhmpmmblnbmbaaDoorW.PrintMore
theorem strs_slice {w : World} {B : Nat} {v : Value} {l : List ByteArray} (h : SliceAt (l.map Value.string).toArray 9 l.length B v w) : Strs w v l := by
  obtain ⟨g, rfl, _, h3⟩ := h
  exact strs_new h3
set_option maxHeartbeats 4000000 in
set_option maxRecDepth 100000 in
theorem log_c (xc : S34) (xe xs : Int) (st : List Int) (zs : List S82) (As Az : Option Addr) (cs cz : Nat) (he : I64 xe) (hs : I64 xs) (hst : st.length ≤ 1000) (hzn : zs.length ≤ 1000) (hz : ∀ i, G82 (zs.getD i z82)) (hp : ∀ i, (zs.getD i z82).f5.length ≤ 1000) (w : World) (hCs : Kd.C (Kd.int .i64) w As st.length st) (hCz : Kd.C k82 w Az zs.length zs) (hpow : POW w) : Calls Tryd.prog 19 #[.agg #[.int .i64 xc.f0, .int .i64 xc.f1, .int .i64 xc.f2, .int .i64 xc.f3, .int .i64 xc.f4, .int .i64 xc.f5, .int .i64 xc.f6, .int .i64 xc.f7, .int .i64 xc.f8, .int .i64 xc.f9, .int .i64 xc.f10, .int .i64 xe, .int .i64 xs, .slice As st.length cs, .slice Az zs.length cz]] w fun e w' => e = .returned (.string (logB xe xs st zs)) ∧ Below w.heap.size w w' := by
  obtain ⟨ns, HNs⟩ : ∃ n, Aside0 (st.length = n) := ⟨_, ⟨rfl⟩⟩
  obtain ⟨nz, HNz⟩ : ∃ n, Aside0 (zs.length = n) := ⟨_, ⟨rfl⟩⟩
  have HG := Aside0.mk hz
  have HPN := Aside0.mk hp
  have HPW := Aside0.mk hpow
  have HE := Aside0.mk (show logB xe xs st zs = headB xe xs ++ wordsB (statL st) ++ ⟨#[10]⟩ ++ zlinesB zs nz by unfold logB; rw [HNz.out])
  rw [HE.out]
  clear hz hp hpow
  rw [HNs.out] at hst hCs ⊢
  rw [HNz.out] at hzn hCz ⊢
  have HCs := Aside0.mk hCs
  have HCz := Aside0.mk hCz
  clear hCs hCz
  go_enter Tryd.func19, Tryd.ntmps19
  go_upto_region 0 with fail
  refine wp_region_lit ?_
  refine ebox (v := (.agg #[.int .i64 xc.f0, .int .i64 xc.f1, .int .i64 xc.f2, .int .i64 xc.f3, .int .i64 xc.f4, .int .i64 xc.f5, .int .i64 xc.f6, .int .i64 xc.f7, .int .i64 xc.f8, .int .i64 xc.f9, .int .i64 xc.f10, .int .i64 xe, .int .i64 xs, .slice As ns cs, .slice Az nz cz])) rfl rfl rfl ?_
  intro g1 hg1 W1 hk1 hb1
  have Kg1 := Aside0.mk hk1
  have HB1 := Aside0.mk hb1
  clear hb1
  have Gg1 := Aside0.mk (show w.heap.size ≤ g1 by rw [hg1]; exact Nat.le_refl _)
  clear hg1 hk1
  simp only [Act.put, List.setIfInBounds_toArray, List.set_cons_zero, List.set_cons_succ]
  refine Flow.seqL (E := fun u v => Below u.heap.size u v) 1 1 [(some 1, []), (some 2, [])] (fun iQ vQ wQ => match iQ with | 1 => vQ = (.string ⟨#[]⟩) | _ => True) rfl (by decide) (by kernel_rfl) (Below.refl _ _) (fun _ _ _ h k => h.trans (k.mono h.size)) (fun _ _ _ _ h _ => h) ?_ ?_
  · refine ⟨?_, trivial⟩
    · intro a w' hx hu hd K hK; exact Flow.run1 rfl (Flow.r_assign rfl rfl) (hK _ _ (Below.refl _ _) rfl)
  · intro vs W2 hb2 hT
    have v1 := Flow.eqn (hT 1 (by decide) (by decide))
    simp only [Flow.putsT, v1, Act.put, List.setIfInBounds_toArray, List.set_cons_zero, List.set_cons_succ, List.drop_succ_cons, List.drop_zero, List.take_succ_cons, List.take_zero]
    clear hT v1
    have HB2 := Aside0.mk (below_step HB1.out hb2)
    have Kg1_2 := Aside0.mk (blk_below Kg1.out hb2)
    clear hb2
    have HCs1 := Aside0.mk (Kd.C_below HCs.out HB2.out)
    have HCz1 := Aside0.mk (Kd.C_below HCz.out HB2.out)
    have HPA := Aside0.mk (HPW.out.below HB2.out)
    go_upto_region 1 with fail
    refine Flow.seqT_head (E := fun u v => Below u.heap.size u v) 1 [(some 9, []), (some 3, [0, 0])] (fun iQ vQ wQ => match iQ with | 0 => SliceAt #[.string ⟨#[109, 101, 109, 98, 101, 114, 115]⟩] 9 1 W2.heap.size vQ wQ | _ => True) rfl (by decide) (by kernel_rfl) (Below.refl _ _) (fun _ _ _ h k => h.trans (k.mono h.size)) (fun iQ vQ w1Q w2Q hQ hEQ => match iQ, hQ with | 0, hQ => slice_below hQ hEQ | _ + 1, _ => trivial) ?_ ?_
    · refine ⟨?_, trivial⟩
      · intro a w' hx hu hd K hK; exact Flow.run1 rfl (row1_79 rfl rfl) (hK _ _ (below_alloc (Below.refl _ _) _) (slice_new (hx : Below _ _ _).size))
    · intro vs W4 hb4 hT
      obtain ⟨g4_0, v0, hge0, hk0⟩ : SliceAt _ _ _ _ _ _ := hT 0 (by decide)
      have Kg4_0 := Aside0.mk hk0
      have Gg4_0 := Aside0.mk hge0
      clear hk0 hge0
      simp only [Flow.putsT, v0, Act.put, List.setIfInBounds_toArray, List.set_cons_zero, List.set_cons_succ, List.drop_succ_cons, List.drop_zero, List.take_succ_cons, List.take_zero]
      clear hT v0
      have HB4 := Aside0.mk hb4
      clear hb4
      refine Flow.seqL (E := fun u v => Below u.heap.size u v) 1 1 [(some 9, []), (some 3, [0, 0])] (fun iQ vQ wQ => match iQ with | 1 => vQ = (.slice (some ⟨g4_0, 0, none⟩) 1 1) | _ => True) rfl (by decide) (by kernel_rfl) (Below.refl _ _) (fun _ _ _ h k => h.trans (k.mono h.size)) (fun _ _ _ _ h _ => h) ?_ ?_
      · refine ⟨?_, trivial⟩
        · intro a w' hx hu hd K hK; have e9 : a.tmps.getD 9 undef = (.slice (some ⟨g4_0, 0, none⟩) 1 1) := hu 9 rfl; exact Flow.run1 rfl (Flow.r_assign rfl e9) (hK _ _ (Below.refl _ _) rfl)
      · intro vs W5 hb5 hT
        have v1 := Flow.eqn (hT 1 (by decide) (by decide))
        simp only [Flow.putsT, v1, Act.put, List.setIfInBounds_toArray, List.set_cons_zero, List.set_cons_succ, List.drop_succ_cons, List.drop_zero, List.take_succ_cons, List.take_zero]
        clear hT v1
        have HB5 := Aside0.mk (below_step HB4.out hb5)
        have Kg4_0_5 := Aside0.mk (blk_below Kg4_0.out hb5)
        clear hb5
        have HR0 := Aside0.mk (R_row Value.string (fun _ => rfl) (l := statL (st.take 0)) (base := W2.heap.size) Kg4_0_5.out Gg4_0.out (show 1 ≤ maxLen by decide))
        go_upto_region 2 with fail
        refine Flow.seqT (E := fun u v => Below u.heap.size u v) [(some 10, []), (some 11, [0]), (some 12, [1]), (some 13, [])] (fun iQ vQ wQ => match iQ with | 0 => vQ = (.pointer (some ⟨g1, 13, none⟩)) | 1 => vQ = (.slice As ns cs) | 2 => vQ = (.int .i64 ns) | 3 => vQ = (.int .i64 0) | _ => True) rfl (by kernel_rfl) (Below.refl _ _) (fun _ _ _ h k => h.trans (k.mono h.size)) (fun _ _ _ _ h _ => h) ?_ ?_
        · refine ⟨?_, ?_, ?_, ?_, trivial⟩
          · intro a w' hx hu hd K hK; have e1 : a.tmps.getD 1 undef = (.pointer (some ⟨g1, 0, none⟩)) := hu 1 rfl; exact Flow.run1 rfl (fa rfl e1 (fa38_3 _ _ _)) (hK _ _ (Below.refl _ _) rfl)
          · intro a w' hx hu hd K hK; have e10 := Flow.got (hd 0 rfl) 10 rfl; exact Flow.run1 rfl (ld rfl e10 ((blk_cell (blk_below Kg1_2.out (below_step HB5.out hx)) 13).trans rfl) Tryd.underlying35 rfl) (hK _ _ (Below.refl _ _) rfl)
          · intro a w' hx hu hd K hK; have e11 := Flow.got (hd 1 rfl) 11 rfl; exact Flow.run1 rfl (lenL Tryd.underlying35 rfl e11) (hK _ _ (Below.refl _ _) rfl)
          · intro a w' hx hu hd K hK; exact Flow.run1 rfl (Flow.r_move rfl rfl) (hK _ _ (Below.refl _ _) rfl)
        · intro vs W6 hb6 hT
          have v0 := Flow.eqn (hT 0 (by decide))
          have v1 := Flow.eqn (hT 1 (by decide))
          have v2 := Flow.eqn (hT 2 (by decide))
          have v3 := Flow.eqn (hT 3 (by decide))
          simp only [Flow.putsT, v0, v1, v2, v3, Act.put, List.setIfInBounds_toArray, List.set_cons_zero, List.set_cons_succ]
          clear hT v0 v1 v2 v3
          have HB6 := Aside0.mk (below_step HB5.out hb6)
          have HR0_6 := Aside0.mk (Kd.R_below HR0.out hb6)
          clear hb6
          go_wp2
          go_loopg [3, 13] ns (fun g v3 v13 wr => ∃ k : Nat, k ≤ ns ∧ Aside0 (g = ns - k) ∧ v13 = .int .i64 k ∧ Aside0 (Below W2.heap.size W2 wr) ∧ Aside0 (Kd.R Kd.string 9 wr W2.heap.size (fun _ => True) v3 (statL (st.take k))))
          case atStart => exact ⟨0, Nat.zero_le _, ⟨rfl⟩, rfl, HB6, HR0_6⟩
          case round =>
            clear HR0_6 HB6
            obtain ⟨k, hk, HGK, rfl, HBR, HR⟩ := hrel
            by_cases hlt : k < ns
            · have hlt2 : (k : Int) < ns := by omega
              go_upto_region 3 with fail
              refine Flow.seqT (E := fun u v => Below u.heap.size u v) [(some 14, [])] (fun iQ vQ wQ => match iQ with | 0 => vQ = (.bool true) | _ => True) rfl (by kernel_rfl) (Below.refl _ _) (fun _ _ _ h k => h.trans (k.mono h.size)) (fun _ _ _ _ h _ => h) ?_ ?_
              · refine ⟨?_, trivial⟩
                · intro a w' hx hu hd K hK; have e13 : a.tmps.getD 13 undef = (.int .i64 k) := hu 13 rfl; have e12 : a.tmps.getD 12 undef = (.int .i64 ns) := hu 12 rfl; exact Flow.run1 rfl (yes (lss rfl e13 e12) (decide_eq_true hlt2)) (hK _ _ (Below.refl _ _) rfl)
              · intro vs W7 hb7 hT
                have v0 := Flow.eqn (hT 0 (by decide))
                simp only [Flow.putsT, v0, Act.put, List.setIfInBounds_toArray, List.set_cons_zero, List.set_cons_succ]
                clear hT v0
                have HB7 := Aside0.mk (below_step HBR.out hb7)
                have HR_7 := Aside0.mk (Kd.R_below HR.out hb7)
                clear hb7
                obtain ⟨ad, hA, hcell⟩ := elemI HCs1.out k hlt
                subst hA
                obtain ⟨q, hq⟩ : ∃ q, st.getD k 0 = q := ⟨_, rfl⟩
                have HS := Aside0.mk (statL_push st k (by rw [HNs.out]; exact hlt))
                rw [hq] at HS hcell
                clear hq
                go_upto_region 4 with fail
                refine Flow.seqT (E := fun u v => Below u.heap.size u v) [(some 15, []), (some 16, [0]), (some 5, [1, 0, 1])] (fun iQ vQ wQ => match iQ with | 0 => vQ = (.pointer (some (ad.add (k * 1)))) | 1 => vQ = (.int .i64 q) | 2 => vQ = (.int .i64 q) | _ => True) rfl (by kernel_rfl) (Below.refl _ _) (fun _ _ _ h k => h.trans (k.mono h.size)) (fun _ _ _ _ h _ => h) ?_ ?_
                · refine ⟨?_, ?_, ?_, trivial⟩
                  · intro a w' hx hu hd K hK; have e11 : a.tmps.getD 11 undef = (.slice (some ad) ns cs) := hu 11 rfl; have e13 : a.tmps.getD 13 undef = (.int .i64 k) := hu 13 rfl; exact Flow.run1 rfl (ix Tryd.underlying35 size3 rfl e11 e13 hlt) (hK _ _ (Below.refl _ _) rfl)
                  · intro a w' hx hu hd K hK; have e15 := Flow.got (hd 0 rfl) 15 rfl; exact Flow.run1 rfl (ld rfl e15 (pw_cell_below (below_step HB7.out hx) hcell) Tryd.underlying3 rfl) (hK _ _ (Below.refl _ _) rfl)
                  · intro a w' hx hu hd K hK; have e16 := Flow.got (hd 1 rfl) 16 rfl; exact Flow.run1 rfl (Flow.r_assign rfl e16) (hK _ _ (Below.refl _ _) rfl)
                · intro vs W8 hb8 hT
                  have v0 := Flow.eqn (hT 0 (by decide))
                  have v1 := Flow.eqn (hT 1 (by decide))
                  have v2 := Flow.eqn (hT 2 (by decide))
                  simp only [Flow.putsT, v0, v1, v2, Act.put, List.setIfInBounds_toArray, List.set_cons_zero, List.set_cons_succ]
                  clear hT v0 v1 v2
                  have HB8 := Aside0.mk (below_step HB7.out hb8)
                  have HR_8 := Aside0.mk (Kd.R_below HR_7.out hb8)
                  clear hb8
                  go_upto_region 5 with fail
                  refine Flow.seqT_head (E := fun u v => Below u.heap.size u v) 3 [(some 17, []), (some 18, []), (some 19, []), (some 20, [1, 2]), (some 21, [3]), (some 22, [0, 4, 3]), (some 3, [5, 5, 0, 1, 2, 3, 4, 5])] (fun iQ vQ wQ => match iQ with | 0 => vQ = u3 | 1 => vQ = (.int .i64 q) | 2 => SliceAt #[.string ⟨#[119, 104, 111, 108, 101]⟩, .string ⟨#[108, 111, 115, 116]⟩, .string ⟨#[114, 101, 98, 117, 105, 108, 100]⟩] 9 3 W2.heap.size vQ wQ | _ => True) rfl (by decide) (by kernel_rfl) (Below.refl _ _) (fun _ _ _ h k => h.trans (k.mono h.size)) (fun iQ vQ w1Q w2Q hQ hEQ => match iQ, hQ with | 0, hQ => hQ | 1, hQ => hQ | 2, hQ => slice_below hQ hEQ | _ + 3, _ => trivial) ?_ ?_
                  · refine ⟨?_, ?_, ?_, trivial⟩
                    · intro a w' hx hu hd K hK; have e3 : a.tmps.getD 3 undef = u3 := hu 3 rfl; exact Flow.run1 rfl (Flow.r_move rfl e3) (hK _ _ (Below.refl _ _) rfl)
                    · intro a w' hx hu hd K hK; have e5 : a.tmps.getD 5 undef = (.int .i64 q) := hu 5 rfl; exact Flow.run1 rfl (Flow.r_move rfl e5) (hK _ _ (Below.refl _ _) rfl)
                    · intro a w' hx hu hd K hK; exact Flow.run1 rfl (row3_79 rfl rfl rfl rfl) (hK _ _ (below_alloc (Below.refl _ _) _) (slice_new (Nat.le_trans (HB8.out).size (hx : Below _ _ _).size)))
                  · intro vs W9 hb9 hT
                    have v0 := Flow.eqn (hT 0 (by decide))
                    have v1 := Flow.eqn (hT 1 (by decide))
                    obtain ⟨g9_2, v2, hge2, hk2⟩ : SliceAt _ _ _ _ _ _ := hT 2 (by decide)
                    have Kg9_2 := Aside0.mk hk2
                    have Gg9_2 := Aside0.mk hge2
                    clear hk2 hge2
                    simp only [Flow.putsT, v0, v1, v2, Act.put, List.setIfInBounds_toArray, List.set_cons_zero, List.set_cons_succ, List.drop_succ_cons, List.drop_zero, List.take_succ_cons, List.take_zero]
                    clear hT v0 v1 v2
                    have HB9 := Aside0.mk (below_step HB8.out hb9)
                    have HR_9 := Aside0.mk (Kd.R_below HR_8.out hb9)
                    clear hb9
                    refine Flow.seqL (E := fun u v => Below u.heap.size u v) 3 2 [(some 17, []), (some 18, []), (some 19, []), (some 20, [1, 2]), (some 21, [3]), (some 22, [0, 4, 3]), (some 3, [5, 5, 0, 1, 2, 3, 4, 5])] (fun iQ vQ wQ => match iQ with | 3 => vQ = (.string (nameB q nam3)) | 4 => SliceAt #[.string (nameB q nam3)] 9 1 W2.heap.size vQ wQ | _ => True) rfl (by decide) (by kernel_rfl) (Below.refl _ _) (fun _ _ _ h k => h.trans (k.mono h.size)) (fun iQ vQ w1Q w2Q hQ hEQ => match iQ, hQ with | 0, hQ => hQ | 1, hQ => hQ | 2, hQ => hQ | 3, hQ => hQ | 4, hQ => slice_below hQ hEQ | _ + 5, _ => trivial) ?_ ?_
                    · refine ⟨?_, ?_, trivial⟩
                      · intro a w' hx hu hd K hK; have e18 : a.tmps.getD 18 undef = (.int .i64 q) := hu 18 rfl; have e19 : a.tmps.getD 19 undef = (.slice (some ⟨g9_2, 0, none⟩) 3 3) := hu 19 rfl; refine Flow.want rfl ?_; refine Flow.val_call rfl Tryd.func43 (by kernel_rfl) rfl (by first | (simp only [List.map_toArray, List.map_cons, List.map_nil, Act.eval, e18, e19]; done) | (simp only [List.map_toArray, List.map_cons, List.map_nil, Act.eval, e18, e19]; rfl)) (name_c q nam3 _ w' (strs_new (l := nam3) (blk_below Kg9_2.out hx))) ?_; rintro e w2 ⟨rfl, hb2⟩; exact ⟨_, rfl, hK _ _ hb2 (by rfl)⟩
                      · intro a w' hx hu hd K hK; have e20 := Flow.got (hd 3 rfl) 20 rfl; exact Flow.run1 rfl (row1_79 rfl e20) (hK _ _ (below_alloc (Below.refl _ _) _) (slice_new (Nat.le_trans (HB9.out).size (hx : Below _ _ _).size)))
                    · intro vs W10 hb10 hT
                      have v3 := Flow.eqn (hT 3 (by decide) (by decide))
                      obtain ⟨g10_4, v4, hge4, hk4⟩ : SliceAt _ _ _ _ _ _ := hT 4 (by decide) (by decide)
                      have Kg10_4 := Aside0.mk hk4
                      have Gg10_4 := Aside0.mk hge4
                      clear hk4 hge4
                      simp only [Flow.putsT, v3, v4, Act.put, List.setIfInBounds_toArray, List.set_cons_zero, List.set_cons_succ, List.drop_succ_cons, List.drop_zero, List.take_succ_cons, List.take_zero]
                      clear hT v3 v4
                      have HB10 := Aside0.mk (below_step HB9.out hb10)
                      have HR_10 := Aside0.mk (Kd.R_below HR_9.out hb10)
                      have Kg9_2_10 := Aside0.mk (blk_below Kg9_2.out hb10)
                      clear hb10
                      have hl11 : (statL (st.take k)).length ≤ 1001 := (by simp only [statL, List.length_cons, List.length_map, List.length_take]; omega)
                      refine eapp Value.string ByteArray.empty (w0 := W2) (base := W2.heap.size) (ys := [nameB q nam3]) rfl rfl Tryd.underlying79 info9 rfl (by decide) rfl rfl HR_10.out Kg10_4.out HB10.out HB10.out.size ?_ ?_
                      · show ((statL (st.take k)).length + 1) * 16 ≤ _; omega
                      intro v11 W11 hr11 hb11 _
                      have HR_11 := Aside0.mk hr11
                      have HB11 := Aside0.mk hb11
                      clear hr11 hb11
                      simp only [Act.put, List.setIfInBounds_toArray, List.set_cons_zero, List.set_cons_succ]
                      refine Flow.seqL (E := fun u v => Below u.heap.size u v) 6 1 [(some 17, []), (some 18, []), (some 19, []), (some 20, [1, 2]), (some 21, [3]), (some 22, [0, 4, 3]), (some 3, [5, 5, 0, 1, 2, 3, 4, 5])] (fun iQ vQ wQ => match iQ with | 6 => vQ = v11 | _ => True) rfl (by decide) (by kernel_rfl) (Below.refl _ _) (fun _ _ _ h k => h.trans (k.mono h.size)) (fun _ _ _ _ h _ => h) ?_ ?_
                      · refine ⟨?_, trivial⟩
                        · intro a w' hx hu hd K hK; have e22 : a.tmps.getD 22 undef = v11 := hu 22 rfl; exact Flow.run1 rfl (Flow.r_assign rfl e22) (hK _ _ (Below.refl _ _) rfl)
                      · intro vs W12 hb12 hT
                        have v6 := Flow.eqn (hT 6 (by decide) (by decide))
                        simp only [Flow.putsT, v6, Act.put, List.setIfInBounds_toArray, List.set_cons_zero, List.set_cons_succ, List.drop_succ_cons, List.drop_zero, List.take_succ_cons, List.take_zero]
                        clear hT v6
                        have HB12 := Aside0.mk (below_step HB11.out hb12)
                        have HR_12 := Aside0.mk (Kd.R_below HR_11.out hb12)
                        clear hb12
                        go_wp2
                        go_roundg (ns - (k + 1))
                        case measure => have := HGK.out; omega
                        case rel => exact ⟨k + 1, by omega, ⟨rfl⟩, by go_num, HB12, ⟨by rw [← HS.out]; exact HR_12.out⟩⟩
            · obtain rfl : k = ns := by omega
              have hlt2 : ¬ ((k : Nat) : Int) < k := by omega
              go_upto_region 3 with fail
              refine Flow.seqT (E := fun u v => Below u.heap.size u v) [(some 14, [])] (fun iQ vQ wQ => match iQ with | 0 => vQ = (.bool false) | _ => True) rfl (by kernel_rfl) (Below.refl _ _) (fun _ _ _ h k => h.trans (k.mono h.size)) (fun _ _ _ _ h _ => h) ?_ ?_
              · refine ⟨?_, trivial⟩
                · intro a w' hx hu hd K hK; have e13 : a.tmps.getD 13 undef = (.int .i64 k) := hu 13 rfl; have e12 : a.tmps.getD 12 undef = (.int .i64 k) := hu 12 rfl; exact Flow.run1 rfl (no (lss rfl e13 e12) (decide_eq_false hlt2)) (hK _ _ (Below.refl _ _) rfl)
              · intro vs W13 hb13 hT
                have v0 := Flow.eqn (hT 0 (by decide))
                simp only [Flow.putsT, v0, Act.put, List.setIfInBounds_toArray, List.set_cons_zero, List.set_cons_succ]
                clear hT v0
                have HB13 := Aside0.mk (below_step HBR.out hb13)
                have HR_13 := Aside0.mk (Kd.R_below HR.out hb13)
                clear hb13
                have HTL := Aside0.mk (show statL (st.take k) = statL st by rw [List.take_of_length_le (by rw [HNs.out]; exact Nat.le_refl _)])
                have HZS := Aside0.mk (show (wordsB (statL st)).size ≤ 9000 by have := statL_size st; rw [HNs.out] at this; omega)
                have HRS := Aside0.mk (HTL.out ▸ HR_13.out : Kd.R Kd.string 9 W13 W2.heap.size (fun _ => True) u3 (statL st))
                have HLS := Aside0.mk (show (statL st).length ≤ 1001 by simp only [statL, List.length_cons, List.length_map]; have := HNs.out; omega)
                have HW4 := Aside0.mk (show (wordsB [⟨#[101, 112, 111, 99, 104]⟩, itoaB xe, ⟨#[115, 101, 113]⟩, itoaB xs]).size ≤ 60 by have h := headB_size xe xs he hs; rw [headB, ByteArray.size_append] at h; have h2 : (⟨#[10]⟩ : ByteArray).size = 1 := rfl; omega)
                go_upto_region 7 with fail
                obtain ⟨t14_8, Ht14_8⟩ : ∃ tQ, Aside0 (wordsB [⟨#[101, 112, 111, 99, 104]⟩, itoaB xe, ⟨#[115, 101, 113]⟩, itoaB xs] ++ ⟨#[10]⟩ = tQ) := ⟨_, ⟨rfl⟩⟩
                have zt14_8 : t14_8.size ≤ 61 := Ht14_8.out ▸ szapp HW4.out (Nat.le_refl 1) (by decide)
                obtain ⟨t14_11, Ht14_11⟩ : ∃ tQ, Aside0 (t14_8 ++ (wordsB (statL st)) = tQ) := ⟨_, ⟨rfl⟩⟩
                have zt14_11 : t14_11.size ≤ 9061 := Ht14_11.out ▸ szapp zt14_8 HZS.out (by decide)
                obtain ⟨t14_12, Ht14_12⟩ : ∃ tQ, Aside0 (t14_11 ++ ⟨#[10]⟩ = tQ) := ⟨_, ⟨rfl⟩⟩
                have zt14_12 : t14_12.size ≤ 9062 := Ht14_12.out ▸ szapp zt14_11 (Nat.le_refl 1) (by decide)
                refine Flow.flowT (E := fun u v => Below u.heap.size u v) [(some 24, []), (some 25, [0]), (some 26, [1]), (some 27, []), (some 28, [3]), (some 29, [4, 2]), (some 30, [2, 5]), (some 31, [6, 5]), (some 32, [7]), (some 33, []), (some 34, [9, 7]), (some 35, [8, 10]), (some 36, [11]), (some 6, [12, 10, 0, 1, 2, 3, 4, 5, 6, 7, 8, 9, 10, 11, 12])] (fun iQ vQ wQ => match iQ with | 0 => vQ = (.pointer (some ⟨g1, 11, none⟩)) | 1 => vQ = (.int .i64 xe) | 2 => vQ = (.string (itoaB xe)) | 3 => vQ = (.pointer (some ⟨g1, 12, none⟩)) | 4 => vQ = (.int .i64 xs) | 5 => vQ = (.string (itoaB xs)) | 6 => SliceAt #[.string ⟨#[101, 112, 111, 99, 104]⟩, .string (itoaB xe), .string ⟨#[115, 101, 113]⟩, .string (itoaB xs)] 9 4 W2.heap.size vQ wQ | 7 => vQ = (.string (wordsB [⟨#[101, 112, 111, 99, 104]⟩, itoaB xe, ⟨#[115, 101, 113]⟩, itoaB xs])) | 8 => vQ = (.string t14_8) | 9 => vQ = u3 | 10 => vQ = (.string (wordsB (statL st))) | 11 => vQ = (.string t14_11) | 12 => vQ = (.string t14_12) | 13 => vQ = (.string t14_12) | _ => True) rfl (by kernel_rfl) (by kernel_rfl) (by kernel_rfl) ((Below.refl _ _).drew) (fun _ _ _ h k => h.trans (k.mono h.size)) (fun iQ vQ w1Q w2Q hQ hEQ => match iQ, hQ with | 0, hQ => hQ | 1, hQ => hQ | 2, hQ => hQ | 3, hQ => hQ | 4, hQ => hQ | 5, hQ => hQ | 6, hQ => slice_below hQ hEQ | 7, hQ => hQ | 8, hQ => hQ | 9, hQ => hQ | 10, hQ => hQ | 11, hQ => hQ | 12, hQ => hQ | 13, hQ => hQ | _ + 14, _ => trivial) ?_ ?_
                · refine ⟨?_, ?_, ?_, ?_, ?_, ?_, ?_, ?_, ?_, ?_, ?_, ?_, ?_, ?_, trivial⟩
                  · intro a w' hx hu hd K hK; have e1 : a.tmps.getD 1 undef = (.pointer (some ⟨g1, 0, none⟩)) := hu 1 rfl; exact Flow.run1 rfl (fa rfl e1 (fa38_1 _ _ _)) (hK _ _ (Below.refl _ _) rfl)
                  · intro a w' hx hu hd K hK; have e24 := Flow.got (hd 0 (by decide)) 24 rfl; exact Flow.run1 rfl (ld rfl e24 ((blk_cell (blk_below Kg1_2.out (below_step HB13.out hx)) 11).trans rfl) Tryd.underlying3 rfl) (hK _ _ (Below.refl _ _) rfl)
                  · intro a w' hx hu hd K hK; have e25 := Flow.got (hd 1 (by decide)) 25 rfl; refine Flow.want rfl ?_; refine Flow.val_call rfl Tryd.func41 (by kernel_rfl) rfl (by first | (simp only [List.map_toArray, List.map_cons, List.map_nil, Act.eval, e25]; done) | (simp only [List.map_toArray, List.map_cons, List.map_nil, Act.eval, e25]; rfl)) (num_c xe he w' (HPA.out.below (below_step HB13.out hx))) ?_; rintro e w2 ⟨rfl, hb2⟩; exact ⟨_, rfl, hK _ _ hb2 (by rfl)⟩
                  · intro a w' hx hu hd K hK; have e1 : a.tmps.getD 1 undef = (.pointer (some ⟨g1, 0, none⟩)) := hu 1 rfl; exact Flow.run1 rfl (fa rfl e1 (fa38_2 _ _ _)) (hK _ _ (Below.refl _ _) rfl)
                  · intro a w' hx hu hd K hK; have e27 := Flow.got (hd 3 (by decide)) 27 rfl; exact Flow.run1 rfl (ld rfl e27 ((blk_cell (blk_below Kg1_2.out (below_step HB13.out hx)) 12).trans rfl) Tryd.underlying3 rfl) (hK _ _ (Below.refl _ _) rfl)
                  · intro a w' hx hu hd K hK; have e28 := Flow.got (hd 4 (by decide)) 28 rfl; refine Flow.want rfl ?_; refine Flow.val_call rfl Tryd.func41 (by kernel_rfl) rfl (by first | (simp only [List.map_toArray, List.map_cons, List.map_nil, Act.eval, e28]; done) | (simp only [List.map_toArray, List.map_cons, List.map_nil, Act.eval, e28]; rfl)) (num_c xs hs w' (HPA.out.below (below_step HB13.out hx))) ?_; rintro e w2 ⟨rfl, hb2⟩; exact ⟨_, rfl, hK _ _ hb2 (by rfl)⟩
                  · intro a w' hx hu hd K hK; have e26 := Flow.got (hd 2 (by decide)) 26 rfl; have e29 := Flow.got (hd 5 (by decide)) 29 rfl; exact Flow.run1 rfl (row4_79 rfl rfl e26 rfl e29) (hK _ _ (below_alloc (Below.refl _ _) _) (slice_new (Nat.le_trans (HB13.out).size (hx : Below _ _ _).size)))
                  · intro a w' hx hu hd K hK; obtain ⟨v30, p30, q30⟩ := hd 6 (by decide); have e30 : a.tmps.getD 30 undef = v30 := q30 30 rfl; refine Flow.want rfl ?_; refine Flow.val_call rfl Tryd.func42 (by kernel_rfl) rfl (by first | (simp only [List.map_toArray, List.map_cons, List.map_nil, Act.eval, e30]; done) | (simp only [List.map_toArray, List.map_cons, List.map_nil, Act.eval, e30]; rfl)) (words_c [⟨#[101, 112, 111, 99, 104]⟩, itoaB xe, ⟨#[115, 101, 113]⟩, itoaB xs] _ w' (strs_slice (l := [⟨#[101, 112, 111, 99, 104]⟩, itoaB xe, ⟨#[115, 101, 113]⟩, itoaB xs]) p30) (by simp only [List.length_cons, List.length_nil]; decide) (Nat.le_trans HW4.out (by decide))) ?_; rintro e w2 ⟨rfl, hb2⟩; exact ⟨_, rfl, hK _ _ hb2 (by rfl)⟩
                  · intro a w' hx hu hd K hK; have e31 := Flow.got (hd 7 (by decide)) 31 rfl; exact Flow.run1 rfl (Ht14_8.out ▸ cat rfl e31 rfl HW4.out (Nat.le_refl 1) (by decide)) (hK _ _ (Below.refl _ _) rfl)
                  · intro a w' hx hu hd K hK; have e3 : a.tmps.getD 3 undef = u3 := hu 3 rfl; exact Flow.run1 rfl (Flow.r_move rfl e3) (hK _ _ (Below.refl _ _) rfl)
                  · intro a w' hx hu hd K hK; have e33 := Flow.got (hd 9 (by decide)) 33 rfl; refine Flow.want rfl ?_; refine Flow.val_call rfl Tryd.func42 (by kernel_rfl) rfl (by first | (simp only [List.map_toArray, List.map_cons, List.map_nil, Act.eval, e33]; done) | (simp only [List.map_toArray, List.map_cons, List.map_nil, Act.eval, e33]; rfl)) (words_c (statL st) _ w' (strs_R (Kd.R_below HRS.out hx) (by simp [statL])) (Nat.le_trans HLS.out (by decide)) (Nat.le_trans HZS.out (by decide))) ?_; rintro e w2 ⟨rfl, hb2⟩; exact ⟨_, rfl, hK _ _ hb2 (by rfl)⟩
                  · intro a w' hx hu hd K hK; have e32 := Flow.got (hd 8 (by decide)) 32 rfl; have e34 := Flow.got (hd 10 (by decide)) 34 rfl; exact Flow.run1 rfl (Ht14_11.out ▸ cat rfl e32 e34 zt14_8 HZS.out (by decide)) (hK _ _ (Below.refl _ _) rfl)
                  · intro a w' hx hu hd K hK; have e35 := Flow.got (hd 11 (by decide)) 35 rfl; exact Flow.run1 rfl (Ht14_12.out ▸ cat rfl e35 rfl zt14_11 (Nat.le_refl 1) (by decide)) (hK _ _ (Below.refl _ _) rfl)
                  · intro a w' hx hu hd K hK; have e36 := Flow.got (hd 12 (by decide)) 36 rfl; exact Flow.run1 rfl (Flow.r_assign rfl e36) (hK _ _ (Below.refl _ _) rfl)
                · intro vs W14 hb14 hT
                  have v0 := Flow.eqn (hT 0 (by decide))
                  have v1 := Flow.eqn (hT 1 (by decide))
                  have v2 := Flow.eqn (hT 2 (by decide))
                  have v3 := Flow.eqn (hT 3 (by decide))
                  have v4 := Flow.eqn (hT 4 (by decide))
                  have v5 := Flow.eqn (hT 5 (by decide))
                  have v7 := Flow.eqn (hT 7 (by decide))
                  have v8 := Flow.eqn (hT 8 (by decide))
                  have v9 := Flow.eqn (hT 9 (by decide))
                  have v10 := Flow.eqn (hT 10 (by decide))
                  have v11 := Flow.eqn (hT 11 (by decide))
                  have v12 := Flow.eqn (hT 12 (by decide))
                  have v13 := Flow.eqn (hT 13 (by decide))
                  obtain ⟨g14_6, v6, hge6, hk6⟩ : SliceAt _ _ _ _ _ _ := hT 6 (by decide)
                  have Kg14_6 := Aside0.mk hk6
                  have Gg14_6 := Aside0.mk hge6
                  clear hk6 hge6
                  simp only [Flow.putsT, v0, v1, v2, v3, v4, v5, v6, v7, v8, v9, v10, v11, v12, v13, Act.put, List.setIfInBounds_toArray, List.set_cons_zero, List.set_cons_succ]
                  clear hT v0 v1 v2 v3 v4 v5 v6 v7 v8 v9 v10 v11 v12 v13
                  have HB14 := Aside0.mk (below_step HB13.out hb14)
                  have HRS_14 := Aside0.mk (Kd.R_below HRS.out hb14)
                  clear hb14
                  obtain ⟨P0, HP0⟩ : ∃ x, Aside0 (t14_12 = x) := ⟨_, ⟨rfl⟩⟩
                  have zP0 : P0.size ≤ 9062 := HP0.out ▸ zt14_12
                  rw [HP0.out]
                  have HPE := Aside0.mk (show headB xe xs ++ wordsB (statL st) ++ ⟨#[10]⟩ = P0 by rw [← HP0.out, headB]; simp only [← Ht14_12.out, ← Ht14_11.out, ← Ht14_8.out])
                  go_upto_region 8 with fail
                  refine Flow.seqT (E := fun u v => Below u.heap.size u v) [(some 37, []), (some 38, [0]), (some 39, [1]), (some 40, [])] (fun iQ vQ wQ => match iQ with | 0 => vQ = (.pointer (some ⟨g1, 14, none⟩)) | 1 => vQ = (.slice Az nz cz) | 2 => vQ = (.int .i64 nz) | 3 => vQ = (.int .i64 0) | _ => True) rfl (by kernel_rfl) (Below.refl _ _) (fun _ _ _ h k => h.trans (k.mono h.size)) (fun _ _ _ _ h _ => h) ?_ ?_
                  · refine ⟨?_, ?_, ?_, ?_, trivial⟩
                    · intro a w' hx hu hd K hK; have e1 : a.tmps.getD 1 undef = (.pointer (some ⟨g1, 0, none⟩)) := hu 1 rfl; exact Flow.run1 rfl (fa rfl e1 (fa38_4 _ _ _)) (hK _ _ (Below.refl _ _) rfl)
                    · intro a w' hx hu hd K hK; have e37 := Flow.got (hd 0 rfl) 37 rfl; exact Flow.run1 rfl (ld rfl e37 ((blk_cell (blk_below Kg1_2.out (below_step HB14.out hx)) 14).trans rfl) Tryd.underlying36 rfl) (hK _ _ (Below.refl _ _) rfl)
                    · intro a w' hx hu hd K hK; have e38 := Flow.got (hd 1 rfl) 38 rfl; exact Flow.run1 rfl (lenL Tryd.underlying36 rfl e38) (hK _ _ (Below.refl _ _) rfl)
                    · intro a w' hx hu hd K hK; exact Flow.run1 rfl (Flow.r_move rfl rfl) (hK _ _ (Below.refl _ _) rfl)
                  · intro vs W15 hb15 hT
                    have v0 := Flow.eqn (hT 0 (by decide))
                    have v1 := Flow.eqn (hT 1 (by decide))
                    have v2 := Flow.eqn (hT 2 (by decide))
                    have v3 := Flow.eqn (hT 3 (by decide))
                    simp only [Flow.putsT, v0, v1, v2, v3, Act.put, List.setIfInBounds_toArray, List.set_cons_zero, List.set_cons_succ]
                    clear hT v0 v1 v2 v3
                    have HB15 := Aside0.mk (below_step HB14.out hb15)
                    have Kg14_6_15 := Aside0.mk (blk_below Kg14_6.out hb15)
                    clear hb15
                    go_wp2
                    go_loopg [6, 40] nz (fun g v6 v40 wr => ∃ (i : Nat) (t : ByteArray), i ≤ nz ∧ Aside0 (g = nz - i) ∧ v40 = .int .i64 i ∧ Aside0 (Below W2.heap.size W2 wr) ∧ v6 = .string t ∧ Aside0 (t = P0 ++ zlinesB zs i))
                    case atStart => exact ⟨0, _, Nat.zero_le _, ⟨rfl⟩, rfl, HB15, rfl, ⟨(ByteArray.append_empty).symm⟩⟩
                    case round =>
                      clear HB15
                      obtain ⟨i, t, hi, HGI, rfl, HBR2, rfl, HT2⟩ := hrel
                      have zt : t.size ≤ 50100000 := by rw [HT2.out, ByteArray.size_append]; have := zlines_size zs HG.out HPN.out i (by omega); omega
                      by_cases hlt3 : i < nz
                      · have hlt4 : (i : Int) < nz := by omega
                        go_upto_region 9 with fail
                        refine Flow.seqT (E := fun u v => Below u.heap.size u v) [(some 41, [])] (fun iQ vQ wQ => match iQ with | 0 => vQ = (.bool true) | _ => True) rfl (by kernel_rfl) (Below.refl _ _) (fun _ _ _ h k => h.trans (k.mono h.size)) (fun _ _ _ _ h _ => h) ?_ ?_
                        · refine ⟨?_, trivial⟩
                          · intro a w' hx hu hd K hK; have e40 : a.tmps.getD 40 undef = (.int .i64 i) := hu 40 rfl; have e39 : a.tmps.getD 39 undef = (.int .i64 nz) := hu 39 rfl; exact Flow.run1 rfl (yes (lss rfl e40 e39) (decide_eq_true hlt4)) (hK _ _ (Below.refl _ _) rfl)
                        · intro vs W16 hb16 hT
                          have v0 := Flow.eqn (hT 0 (by decide))
                          simp only [Flow.putsT, v0, Act.put, List.setIfInBounds_toArray, List.set_cons_zero, List.set_cons_succ]
                          clear hT v0
                          have HB16 := Aside0.mk (below_step HBR2.out hb16)
                          clear hb16
                          obtain ⟨ad3, B, c2, hA, hlies, hCp, _⟩ := elem82 HCz1.out i hlt3
                          subst hA
                          have HZL := Aside0.mk (show zlinesB zs (i + 1) = zlinesB zs i ++ zlineB i (zs.getD i z82) from rfl)
                          have hG1 := HG.out i
                          have hP1 := HPN.out i
                          obtain ⟨z, hz⟩ : ∃ q, zs.getD i z82 = q := ⟨_, rfl⟩
                          rw [hz] at hlies hCp HZL hG1 hP1
                          clear hz
                          obtain ⟨zg, zi, zf, zw, zh, ps⟩ := z
                          dsimp only at hlies hCp hG1 hP1
                          obtain ⟨hzg, hzi, hzw, hzp⟩ := hG1
                          dsimp only at hzg hzi hzw hzp
                          have HLI := Aside0.mk hlies
                          have HCP := Aside0.mk hCp
                          have HZP := Aside0.mk hzp
                          clear hlies hCp hzp
                          have HZB := Aside0.mk (show (zlB zg zi zf zw zh ps).size ≤ 50000 by have := zlB_size zg zi hzg hzi zf zw hzw zh ps HZP.out; omega)
                          go_upto_region 10 with fail
                          refine Flow.seqT_head (E := fun u v => Below u.heap.size u v) 3 [(some 42, []), (some 43, []), (some 44, [1]), (some 8, []), (some 7, [0, 0, 1, 2, 3]), (none, [3, 2, 4, 0, 1, 2, 3, 4])] (fun iQ vQ wQ => match iQ with | 0 => vQ = (.int .i64 i) | 1 => vQ = (.pointer (some (ad3.add (i * 6)))) | 2 => vQ = (.agg #[.int .i64 zg, .int .i64 zi, .bool zf, .int .i64 zw, .bool zh, .slice B ps.length c2]) | _ => True) rfl (by decide) (by kernel_rfl) (Below.refl _ _) (fun _ _ _ h k => h.trans (k.mono h.size)) (fun _ _ _ _ h _ => h) ?_ ?_
                          · refine ⟨?_, ?_, ?_, trivial⟩
                            · intro a w' hx hu hd K hK; have e40 : a.tmps.getD 40 undef = (.int .i64 i) := hu 40 rfl; exact Flow.run1 rfl (Flow.r_move rfl e40) (hK _ _ (Below.refl _ _) rfl)
                            · intro a w' hx hu hd K hK; have e38 : a.tmps.getD 38 undef = (.slice (some ad3) nz cz) := hu 38 rfl; have e40 : a.tmps.getD 40 undef = (.int .i64 i) := hu 40 rfl; exact Flow.run1 rfl (ix Tryd.underlying36 size82 rfl e38 e40 hlt3) (hK _ _ (Below.refl _ _) rfl)
                            · intro a w' hx hu hd K hK; have e43 := Flow.got (hd 1 rfl) 43 rfl; exact Flow.run1 rfl (ldrow rfl e43 (lies_below HLI.out (below_step HB16.out hx)) Tryd.underlying82 rfl size82) (hK _ _ (Below.refl _ _) rfl)
                          · intro vs W17 hb17 hT
                            have v0 := Flow.eqn (hT 0 (by decide))
                            have v1 := Flow.eqn (hT 1 (by decide))
                            have v2 := Flow.eqn (hT 2 (by decide))
                            simp only [Flow.putsT, v0, v1, v2, Act.put, List.setIfInBounds_toArray, List.set_cons_zero, List.set_cons_succ, List.drop_succ_cons, List.drop_zero, List.take_succ_cons, List.take_zero]
                            clear hT v0 v1 v2
                            have HB17 := Aside0.mk (below_step HB16.out hb17)
                            clear hb17
                            refine ealloc rfl rfl zero82_is ?_
                            intro g18 hg18 W18 hk18 hb18
                            have Kg18 := Aside0.mk hk18
                            have HB18 := Aside0.mk (below_step HB17.out hb18)
                            clear hb18
                            have Gg18 := Aside0.mk (show W2.heap.size ≤ g18 by rw [hg18]; exact HB17.out.size)
                            clear hg18 hk18
                            simp only [Act.put, List.setIfInBounds_toArray, List.set_cons_zero, List.set_cons_succ]
                            refine Flow.seqL (E := fun u v => Below u.heap.size u v) 4 1 [(some 42, []), (some 43, []), (some 44, [1]), (some 8, []), (some 7, [0, 0, 1, 2, 3]), (none, [3, 2, 4, 0, 1, 2, 3, 4])] (fun iQ vQ wQ => match iQ with | 4 => vQ = (.int .i64 i) | _ => True) rfl (by decide) (by kernel_rfl) (Below.refl _ _) (fun _ _ _ h k => h.trans (k.mono h.size)) (fun _ _ _ _ h _ => h) ?_ ?_
                            · refine ⟨?_, trivial⟩
                              · intro a w' hx hu hd K hK; have e42 : a.tmps.getD 42 undef = (.int .i64 i) := hu 42 rfl; exact Flow.run1 rfl (Flow.r_assign rfl e42) (hK _ _ (Below.refl _ _) rfl)
                            · intro vs W19 hb19 hT
                              have v4 := Flow.eqn (hT 4 (by decide) (by decide))
                              simp only [Flow.putsT, v4, Act.put, List.setIfInBounds_toArray, List.set_cons_zero, List.set_cons_succ, List.drop_succ_cons, List.drop_zero, List.take_succ_cons, List.take_zero]
                              clear hT v4
                              have HB19 := Aside0.mk (below_step HB18.out hb19)
                              have Kg18_19 := Aside0.mk (blk_below Kg18.out hb19)
                              clear hb19
                              refine Cells.store_whole rfl rfl 82 _ _ rfl g18 [.int .i64 zg, .int .i64 zi, .bool zf, .int .i64 zw, .bool zh, .slice B ps.length c2] #[.int .i64 0, .int .i64 0, .bool false, .int .i64 0, .bool false, .slice none 0 0] rfl rfl Kg18_19.out rfl size82 rfl ?_
                              intro W20 hk20 hf20 hb20
                              have HB20 := Aside0.mk (HB19.out.trans (hb20 _ Gg18.out))
                              have Kg18_20 := Aside0.mk hk20
                              clear hk20 hf20 hb20
                              go_upto_region 11 with fail
                              obtain ⟨t21_3, Ht21_3⟩ : ∃ tQ, Aside0 (itoaB i ++ ⟨#[58, 32]⟩ = tQ) := ⟨_, ⟨rfl⟩⟩
                              have zt21_3 : t21_3.size ≤ 23 := Ht21_3.out ▸ szapp (itoa_size i (show I64 (i : Int) by unfold I64; omega)) (Nat.le_refl 2) (by decide)
                              obtain ⟨t21_6, Ht21_6⟩ : ∃ tQ, Aside0 (t21_3 ++ (zlB zg zi zf zw zh ps) = tQ) := ⟨_, ⟨rfl⟩⟩
                              have zt21_6 : t21_6.size ≤ 50023 := Ht21_6.out ▸ szapp zt21_3 HZB.out (by decide)
                              obtain ⟨t21_7, Ht21_7⟩ : ∃ tQ, Aside0 (t21_6 ++ ⟨#[10]⟩ = tQ) := ⟨_, ⟨rfl⟩⟩
                              have zt21_7 : t21_7.size ≤ 50024 := Ht21_7.out ▸ szapp zt21_6 (Nat.le_refl 1) (by decide)
                              obtain ⟨t21_8, Ht21_8⟩ : ∃ tQ, Aside0 (t ++ t21_7 = tQ) := ⟨_, ⟨rfl⟩⟩
                              have zt21_8 : t21_8.size ≤ 50150024 := Ht21_8.out ▸ szapp zt zt21_7 (by decide)
                              refine Flow.flowT (E := fun u v => Below u.heap.size u v) [(some 45, []), (some 46, []), (some 47, [1]), (some 48, [2]), (some 49, []), (some 50, [4, 2]), (some 51, [3, 5]), (some 52, [6]), (some 53, [0, 7]), (some 6, [8, 5, 0, 1, 2, 3, 4, 5, 6, 7, 8])] (fun iQ vQ wQ => match iQ with | 0 => vQ = (.string t) | 1 => vQ = (.int .i64 i) | 2 => vQ = (.string (itoaB i)) | 3 => vQ = (.string t21_3) | 4 => vQ = (.agg #[.int .i64 zg, .int .i64 zi, .bool zf, .int .i64 zw, .bool zh, .slice B ps.length c2]) | 5 => vQ = (.string (zlB zg zi zf zw zh ps)) | 6 => vQ = (.string t21_6) | 7 => vQ = (.string t21_7) | 8 => vQ = (.string t21_8) | 9 => vQ = (.string t21_8) | _ => True) rfl (by kernel_rfl) (by kernel_rfl) (by kernel_rfl) ((Below.refl _ _).drew) (fun _ _ _ h k => h.trans (k.mono h.size)) (fun _ _ _ _ h _ => h) ?_ ?_
                              · refine ⟨?_, ?_, ?_, ?_, ?_, ?_, ?_, ?_, ?_, ?_, trivial⟩
                                · intro a w' hx hu hd K hK; have e6 : a.tmps.getD 6 undef = (.string t) := hu 6 rfl; exact Flow.run1 rfl (Flow.r_move rfl e6) (hK _ _ (Below.refl _ _) rfl)
                                · intro a w' hx hu hd K hK; have e7 : a.tmps.getD 7 undef = (.int .i64 i) := hu 7 rfl; exact Flow.run1 rfl (Flow.r_move rfl e7) (hK _ _ (Below.refl _ _) rfl)
                                · intro a w' hx hu hd K hK; have e46 := Flow.got (hd 1 (by decide)) 46 rfl; refine Flow.want rfl ?_; refine Flow.val_call rfl Tryd.func41 (by kernel_rfl) rfl (by first | (simp only [List.map_toArray, List.map_cons, List.map_nil, Act.eval, e46]; done) | (simp only [List.map_toArray, List.map_cons, List.map_nil, Act.eval, e46]; rfl)) (num_c i (show I64 (i : Int) by unfold I64; omega) w' (HPA.out.below (below_step HB20.out hx))) ?_; rintro e w2 ⟨rfl, hb2⟩; exact ⟨_, rfl, hK _ _ hb2 (by rfl)⟩
                                · intro a w' hx hu hd K hK; have e47 := Flow.got (hd 2 (by decide)) 47 rfl; exact Flow.run1 rfl (Ht21_3.out ▸ cat rfl e47 rfl (itoa_size i (show I64 (i : Int) by unfold I64; omega)) (Nat.le_refl 2) (by decide)) (hK _ _ (Below.refl _ _) rfl)
                                · intro a w' hx hu hd K hK; have e8 : a.tmps.getD 8 undef = (.pointer (some ⟨g18, 0, none⟩)) := hu 8 rfl; exact Flow.run1 rfl (ldrow rfl e8 (lies_block (blk_below Kg18_20.out hx)) Tryd.underlying82 rfl size82) (hK _ _ (Below.refl _ _) rfl)
                                · intro a w' hx hu hd K hK; have e49 := Flow.got (hd 4 (by decide)) 49 rfl; refine Flow.want rfl ?_; refine Flow.val_call rfl Tryd.func44 (by kernel_rfl) rfl (by first | (simp only [List.map_toArray, List.map_cons, List.map_nil, Act.eval, e49]; done) | (simp only [List.map_toArray, List.map_cons, List.map_nil, Act.eval, e49]; rfl)) (lzone_c zg zi zf zw zh ps B c2 hzg hzi hzw HZP.out hP1 w' (Kd.C_below HCP.out (below_step HB20.out hx)) (HPA.out.below (below_step HB20.out hx))) ?_; rintro e w2 ⟨rfl, hb2⟩; exact ⟨_, rfl, hK _ _ hb2 (by rfl)⟩
                                · intro a w' hx hu hd K hK; have e48 := Flow.got (hd 3 (by decide)) 48 rfl; have e50 := Flow.got (hd 5 (by decide)) 50 rfl; exact Flow.run1 rfl (Ht21_6.out ▸ cat rfl e48 e50 zt21_3 HZB.out (by decide)) (hK _ _ (Below.refl _ _) rfl)
                                · intro a w' hx hu hd K hK; have e51 := Flow.got (hd 6 (by decide)) 51 rfl; exact Flow.run1 rfl (Ht21_7.out ▸ cat rfl e51 rfl zt21_6 (Nat.le_refl 1) (by decide)) (hK _ _ (Below.refl _ _) rfl)
                                · intro a w' hx hu hd K hK; have e45 := Flow.got (hd 0 (by decide)) 45 rfl; have e52 := Flow.got (hd 7 (by decide)) 52 rfl; exact Flow.run1 rfl (Ht21_8.out ▸ cat rfl e45 e52 zt zt21_7 (by decide)) (hK _ _ (Below.refl _ _) rfl)
                                · intro a w' hx hu hd K hK; have e53 := Flow.got (hd 8 (by decide)) 53 rfl; exact Flow.run1 rfl (Flow.r_assign rfl e53) (hK _ _ (Below.refl _ _) rfl)
                              · intro vs W21 hb21 hT
                                have v0 := Flow.eqn (hT 0 (by decide))
                                have v1 := Flow.eqn (hT 1 (by decide))
                                have v2 := Flow.eqn (hT 2 (by decide))
                                have v3 := Flow.eqn (hT 3 (by decide))
                                have v4 := Flow.eqn (hT 4 (by decide))
                                have v5 := Flow.eqn (hT 5 (by decide))
                                have v6 := Flow.eqn (hT 6 (by decide))
                                have v7 := Flow.eqn (hT 7 (by decide))
                                have v8 := Flow.eqn (hT 8 (by decide))
                                have v9 := Flow.eqn (hT 9 (by decide))
                                simp only [Flow.putsT, v0, v1, v2, v3, v4, v5, v6, v7, v8, v9, Act.put, List.setIfInBounds_toArray, List.set_cons_zero, List.set_cons_succ]
                                clear hT v0 v1 v2 v3 v4 v5 v6 v7 v8 v9
                                have HB21 := Aside0.mk (below_step HB20.out hb21)
                                have Kg18_20_21 := Aside0.mk (blk_below Kg18_20.out hb21)
                                clear hb21
                                go_wp2
                                go_roundg (nz - (i + 1))
                                case measure => have := HGI.out; omega
                                case rel => exact ⟨i + 1, _, by omega, ⟨rfl⟩, by go_num, HB21, rfl, ⟨by rw [HZL.out, ← Ht21_8.out, ← Ht21_7.out, ← Ht21_6.out, ← Ht21_3.out, HT2.out]; simp only [zlineB, ByteArray.append_assoc]⟩⟩
                      · obtain rfl : i = nz := by omega
                        have hlt4 : ¬ ((i : Nat) : Int) < i := by omega
                        go_upto_region 9 with fail
                        refine Flow.seqT (E := fun u v => Below u.heap.size u v) [(some 41, [])] (fun iQ vQ wQ => match iQ with | 0 => vQ = (.bool false) | _ => True) rfl (by kernel_rfl) (Below.refl _ _) (fun _ _ _ h k => h.trans (k.mono h.size)) (fun _ _ _ _ h _ => h) ?_ ?_
                        · refine ⟨?_, trivial⟩
                          · intro a w' hx hu hd K hK; have e40 : a.tmps.getD 40 undef = (.int .i64 i) := hu 40 rfl; have e39 : a.tmps.getD 39 undef = (.int .i64 i) := hu 39 rfl; exact Flow.run1 rfl (no (lss rfl e40 e39) (decide_eq_false hlt4)) (hK _ _ (Below.refl _ _) rfl)
                        · intro vs W22 hb22 hT
                          have v0 := Flow.eqn (hT 0 (by decide))
                          simp only [Flow.putsT, v0, Act.put, List.setIfInBounds_toArray, List.set_cons_zero, List.set_cons_succ]
                          clear hT v0
                          have HB22 := Aside0.mk (below_step HBR2.out hb22)
                          clear hb22
                          go_upto_region 13 with fail
                          refine Flow.seqT (E := fun u v => Below u.heap.size u v) [(some 55, []), (some 2, [0, 0])] (fun iQ vQ wQ => match iQ with | 0 => vQ = (.string t) | 1 => vQ = (.string t) | _ => True) rfl (by kernel_rfl) (Below.refl _ _) (fun _ _ _ h k => h.trans (k.mono h.size)) (fun _ _ _ _ h _ => h) ?_ ?_
                          · refine ⟨?_, ?_, trivial⟩
                            · intro a w' hx hu hd K hK; have e6 : a.tmps.getD 6 undef = (.string t) := hu 6 rfl; exact Flow.run1 rfl (Flow.r_move rfl e6) (hK _ _ (Below.refl _ _) rfl)
                            · intro a w' hx hu hd K hK; have e55 := Flow.got (hd 0 rfl) 55 rfl; exact Flow.run1 rfl (Flow.r_assign rfl e55) (hK _ _ (Below.refl _ _) rfl)
                          · intro vs W23 hb23 hT
                            have v0 := Flow.eqn (hT 0 (by decide))
                            have v1 := Flow.eqn (hT 1 (by decide))
                            simp only [Flow.putsT, v0, v1, Act.put, List.setIfInBounds_toArray, List.set_cons_zero, List.set_cons_succ]
                            clear hT v0 v1
                            have HB23 := Aside0.mk (below_step HB22.out hb23)
                            clear hb23
                            go_wp2
                            go_ret
                            exact ⟨by rw [HT2.out, ← HPE.out]; rfl, below_step HB2.out HB23.out⟩
end Go.Proofs.YtlhmpmmblnbmbaaDoor.Rep
