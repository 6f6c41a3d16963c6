/- What a log says, as the document's text. -/
import Derived.Test.YtlhmpmmblnbmbaaDoorRepLogP
set_option linter.unusedVariables false
set_option linter.unusedSimpArgs false
namespace Go.Proofs.YtlhmpmmblnbmbaaDoor.Rep
open Go.Lib Go.RowKit Go.Proofs.YtlhmpmmblnbmbaaDoor.Ev Go.Proofs.YtlhmpmmblnbmbaaDoor.Cells Go.Proofs.YtlhmpmmblnbmbaaDoorW.PrintWords Go.Proofs.YtlhmpmmblnbmbaaDoorW.PrintLast Go.Proofs.YtlhmpmmblnbmbaaDoorW.PrintMore
set_option maxHeartbeats 4000000 in
set_option maxRecDepth 100000 in
theorem rlog_c (xc : S34) (xe xs : Int) (st : List Int) (zs : List S82) (As Az : Option Addr) (cs cz : Nat) (he : I64 xe) (hs : I64 xs) (hst : st.length ≤ 1000) (hzn : zs.length ≤ 1000) (hz : ∀ i, G82 (zs.getD i z82)) (hp : ∀ i, (zs.getD i z82).f5.length ≤ 1000) (w : World) (hCs : Kd.C (Kd.int .i64) w As st.length st) (hCz : Kd.C k82 w Az zs.length zs) : Calls Tryd.prog 20 #[.agg #[.int .i64 xc.f0, .int .i64 xc.f1, .int .i64 xc.f2, .int .i64 xc.f3, .int .i64 xc.f4, .int .i64 xc.f5, .int .i64 xc.f6, .int .i64 xc.f7, .int .i64 xc.f8, .int .i64 xc.f9, .int .i64 xc.f10, .int .i64 xe, .int .i64 xs, .slice As st.length cs, .slice Az zs.length cz]] w fun e w' => e = .returned (.string (logB xe xs st zs)) ∧ Below w.heap.size w w' := by
  obtain ⟨ns, HNs⟩ : ∃ n, Aside0 (st.length = n) := ⟨_, ⟨rfl⟩⟩
  obtain ⟨nz, HNz⟩ : ∃ n, Aside0 (zs.length = n) := ⟨_, ⟨rfl⟩⟩
  have HG := Aside0.mk hz
  have HPN := Aside0.mk hp
  have HE := Aside0.mk (show logB xe xs st zs = headB xe xs ++ wordsB (statL st) ++ ⟨#[10]⟩ ++ zlinesB zs nz by unfold logB; rw [HNz.out])
  rw [HE.out]
  clear hz hp
  rw [HNs.out] at hst hCs ⊢
  rw [HNz.out] at hzn hCz ⊢
  have HCs := Aside0.mk hCs
  have HCz := Aside0.mk hCz
  clear hCs hCz
  go_enter Tryd.func20, Tryd.ntmps20
  go_upto_region 0 with fail
  refine wp_region_lit ?_
  refine ebox (v := (.agg #[.int .i64 xc.f0, .int .i64 xc.f1, .int .i64 xc.f2, .int .i64 xc.f3, .int .i64 xc.f4, .int .i64 xc.f5, .int .i64 xc.f6, .int .i64 xc.f7, .int .i64 xc.f8, .int .i64 xc.f9, .int .i64 xc.f10, .int .i64 xe, .int .i64 xs, .slice As ns cs, .slice Az nz cz])) rfl rfl rfl ?_
  intro g1 hg1 W1 hk1 hb1
  have Kg1 := Aside0.mk hk1
  have HB1 := Aside0.mk hb1
  clear hb1
  have Gg1 := Aside0.mk (show w.heap.size ≤ g1 by rw [hg1]; exact Nat.le_refl _)
  clear hg1 hk1
  simp only [Act.put, List.setIfInBounds_toArray, List.set_cons_zero, List.set_cons_succ]
  refine Flow.seqL (E := fun u v => Below u.heap.size u v) 1 1 [(some 1, []), (some 2, [])] (fun iQ vQ wQ => match iQ with | 1 => vQ = (.string ⟨#[]⟩) | _ => True) rfl (by decide) (by kernel_rfl) (Below.refl _ _) (fun _ _ _ h k => h.trans (k.mono h.size)) (fun _ _ _ _ h _ => h) ?_ ?_
  · refine ⟨?_, trivial⟩
    · intro a w' hx hu hd K hK; exact Flow.run1 rfl (Flow.r_assign rfl rfl) (hK _ _ (Below.refl _ _) rfl)
  · intro vs W2 hb2 hT
    have v1 := Flow.eqn (hT 1 (by decide) (by decide))
    simp only [Flow.putsT, v1, Act.put, List.setIfInBounds_toArray, List.set_cons_zero, List.set_cons_succ, List.drop_succ_cons, List.drop_zero, List.take_succ_cons, List.take_zero]
    clear hT v1
    have HB2 := Aside0.mk (below_step HB1.out hb2)
    have Kg1_2 := Aside0.mk (blk_below Kg1.out hb2)
    clear hb2
    go_upto_region 1 with fail
    obtain ⟨t3_3, Ht3_3⟩ : ∃ tQ, Aside0 (⟨#[101, 112, 111, 99, 104, 32]⟩ ++ itoaB xe = tQ) := ⟨_, ⟨rfl⟩⟩
    have zt3_3 : t3_3.size ≤ 27 := Ht3_3.out ▸ szapp (Nat.le_refl 6) (itoa_size xe he) (by decide)
    obtain ⟨t3_4, Ht3_4⟩ : ∃ tQ, Aside0 (t3_3 ++ ⟨#[32, 115, 101, 113, 32]⟩ = tQ) := ⟨_, ⟨rfl⟩⟩
    have zt3_4 : t3_4.size ≤ 32 := Ht3_4.out ▸ szapp zt3_3 (Nat.le_refl 5) (by decide)
    obtain ⟨t3_8, Ht3_8⟩ : ∃ tQ, Aside0 (t3_4 ++ itoaB xs = tQ) := ⟨_, ⟨rfl⟩⟩
    have zt3_8 : t3_8.size ≤ 53 := Ht3_8.out ▸ szapp zt3_4 (itoa_size xs hs) (by decide)
    obtain ⟨t3_9, Ht3_9⟩ : ∃ tQ, Aside0 (t3_8 ++ ⟨#[10, 109, 101, 109, 98, 101, 114, 115]⟩ = tQ) := ⟨_, ⟨rfl⟩⟩
    have zt3_9 : t3_9.size ≤ 61 := Ht3_9.out ▸ szapp zt3_8 (Nat.le_refl 8) (by decide)
    refine Flow.flowT (E := fun u v => Below u.heap.size u v) [(some 9, []), (some 10, [0]), (some 11, [1]), (some 12, [2]), (some 13, [3]), (some 14, []), (some 15, [5]), (some 16, [6, 2]), (some 17, [4, 7]), (some 18, [8]), (some 3, [9, 7, 0, 1, 2, 3, 4, 5, 6, 7, 8, 9])] (fun iQ vQ wQ => match iQ with | 0 => vQ = (.pointer (some ⟨g1, 11, none⟩)) | 1 => vQ = (.int .i64 xe) | 2 => vQ = (.string (itoaB xe)) | 3 => vQ = (.string t3_3) | 4 => vQ = (.string t3_4) | 5 => vQ = (.pointer (some ⟨g1, 12, none⟩)) | 6 => vQ = (.int .i64 xs) | 7 => vQ = (.string (itoaB xs)) | 8 => vQ = (.string t3_8) | 9 => vQ = (.string t3_9) | 10 => vQ = (.string t3_9) | _ => True) rfl (by kernel_rfl) (by kernel_rfl) (by kernel_rfl) ((Below.refl _ _).drew) (fun _ _ _ h k => h.trans (k.mono h.size)) (fun _ _ _ _ h _ => h) ?_ ?_
    · refine ⟨?_, ?_, ?_, ?_, ?_, ?_, ?_, ?_, ?_, ?_, ?_, trivial⟩
      · intro a w' hx hu hd K hK; have e1 : a.tmps.getD 1 undef = (.pointer (some ⟨g1, 0, none⟩)) := hu 1 rfl; exact Flow.run1 rfl (fa rfl e1 (fa38_1 _ _ _)) (hK _ _ (Below.refl _ _) rfl)
      · intro a w' hx hu hd K hK; have e9 := Flow.got (hd 0 (by decide)) 9 rfl; exact Flow.run1 rfl (ld rfl e9 ((blk_cell (blk_below Kg1_2.out hx) 11).trans rfl) Tryd.underlying3 rfl) (hK _ _ (Below.refl _ _) rfl)
      · intro a w' hx hu hd K hK; have e10 := Flow.got (hd 1 (by decide)) 10 rfl; refine Flow.want rfl ?_; refine Flow.val_call rfl Tryd.func38 (by kernel_rfl) rfl (by simp only [List.map_toArray, List.map_cons, List.map_nil, Act.eval, e10]) (rnum_c xe he w') ?_; rintro e w2 ⟨rfl, hb2⟩; exact ⟨_, rfl, hK _ _ hb2 (by rfl)⟩
      · intro a w' hx hu hd K hK; have e11 := Flow.got (hd 2 (by decide)) 11 rfl; exact Flow.run1 rfl (Ht3_3.out ▸ cat rfl rfl e11 (Nat.le_refl 6) (itoa_size xe he) (by decide)) (hK _ _ (Below.refl _ _) rfl)
      · intro a w' hx hu hd K hK; have e12 := Flow.got (hd 3 (by decide)) 12 rfl; exact Flow.run1 rfl (Ht3_4.out ▸ cat rfl e12 rfl zt3_3 (Nat.le_refl 5) (by decide)) (hK _ _ (Below.refl _ _) rfl)
      · intro a w' hx hu hd K hK; have e1 : a.tmps.getD 1 undef = (.pointer (some ⟨g1, 0, none⟩)) := hu 1 rfl; exact Flow.run1 rfl (fa rfl e1 (fa38_2 _ _ _)) (hK _ _ (Below.refl _ _) rfl)
      · intro a w' hx hu hd K hK; have e14 := Flow.got (hd 5 (by decide)) 14 rfl; exact Flow.run1 rfl (ld rfl e14 ((blk_cell (blk_below Kg1_2.out hx) 12).trans rfl) Tryd.underlying3 rfl) (hK _ _ (Below.refl _ _) rfl)
      · intro a w' hx hu hd K hK; have e15 := Flow.got (hd 6 (by decide)) 15 rfl; refine Flow.want rfl ?_; refine Flow.val_call rfl Tryd.func38 (by kernel_rfl) rfl (by simp only [List.map_toArray, List.map_cons, List.map_nil, Act.eval, e15]) (rnum_c xs hs w') ?_; rintro e w2 ⟨rfl, hb2⟩; exact ⟨_, rfl, hK _ _ hb2 (by rfl)⟩
      · intro a w' hx hu hd K hK; have e13 := Flow.got (hd 4 (by decide)) 13 rfl; have e16 := Flow.got (hd 7 (by decide)) 16 rfl; exact Flow.run1 rfl (Ht3_8.out ▸ cat rfl e13 e16 zt3_4 (itoa_size xs hs) (by decide)) (hK _ _ (Below.refl _ _) rfl)
      · intro a w' hx hu hd K hK; have e17 := Flow.got (hd 8 (by decide)) 17 rfl; exact Flow.run1 rfl (Ht3_9.out ▸ cat rfl e17 rfl zt3_8 (Nat.le_refl 8) (by decide)) (hK _ _ (Below.refl _ _) rfl)
      · intro a w' hx hu hd K hK; have e18 := Flow.got (hd 9 (by decide)) 18 rfl; exact Flow.run1 rfl (Flow.r_assign rfl e18) (hK _ _ (Below.refl _ _) rfl)
    · intro vs W3 hb3 hT
      have v0 := Flow.eqn (hT 0 (by decide))
      have v1 := Flow.eqn (hT 1 (by decide))
      have v2 := Flow.eqn (hT 2 (by decide))
      have v3 := Flow.eqn (hT 3 (by decide))
      have v4 := Flow.eqn (hT 4 (by decide))
      have v5 := Flow.eqn (hT 5 (by decide))
      have v6 := Flow.eqn (hT 6 (by decide))
      have v7 := Flow.eqn (hT 7 (by decide))
      have v8 := Flow.eqn (hT 8 (by decide))
      have v9 := Flow.eqn (hT 9 (by decide))
      have v10 := Flow.eqn (hT 10 (by decide))
      simp only [Flow.putsT, v0, v1, v2, v3, v4, v5, v6, v7, v8, v9, v10, Act.put, List.setIfInBounds_toArray, List.set_cons_zero, List.set_cons_succ]
      clear hT v0 v1 v2 v3 v4 v5 v6 v7 v8 v9 v10
      have HB3 := Aside0.mk (below_step HB2.out hb3)
      have Kg1_2_3 := Aside0.mk (blk_below Kg1_2.out hb3)
      clear hb3
      have HT := Aside0.mk (show t3_9 = headB xe xs ++ wordsB (statL (st.take 0)) by simp only [← Ht3_9.out, ← Ht3_8.out, ← Ht3_4.out, ← Ht3_3.out]; rw [List.take_zero, headB, statL, List.map_nil, wordsB_one, words4]; apply ByteArray.ext; apply Array.toList_inj.1; simp [MEM])
      go_upto_region 2 with fail
      refine Flow.seqT (E := fun u v => Below u.heap.size u v) [(some 4, [])] (fun iQ vQ wQ => match iQ with | 0 => vQ = (.int .i64 0) | _ => True) rfl (by kernel_rfl) (Below.refl _ _) (fun _ _ _ h k => h.trans (k.mono h.size)) (fun _ _ _ _ h _ => h) ?_ ?_
      · refine ⟨?_, trivial⟩
        · intro a w' hx hu hd K hK; exact Flow.run1 rfl (Flow.r_assign rfl rfl) (hK _ _ (Below.refl _ _) rfl)
      · intro vs W4 hb4 hT
        have v0 := Flow.eqn (hT 0 (by decide))
        simp only [Flow.putsT, v0, Act.put, List.setIfInBounds_toArray, List.set_cons_zero, List.set_cons_succ]
        clear hT v0
        have HB4 := Aside0.mk (below_step HB3.out hb4)
        have Kg1_2_3_4 := Aside0.mk (blk_below Kg1_2_3.out hb4)
        clear hb4
        go_wp2
        go_loopg [3, 4] ns (fun g v3 v4 wr => ∃ (k : Nat) (t : ByteArray), k ≤ ns ∧ Aside0 (g = ns - k) ∧ v4 = .int .i64 k ∧ Aside0 (Below W4.heap.size W4 wr) ∧ v3 = .string t ∧ Aside0 (t = headB xe xs ++ wordsB (statL (st.take k))))
        case atStart => exact ⟨0, _, Nat.zero_le _, ⟨rfl⟩, rfl, ⟨Below.refl _ _⟩, rfl, HT⟩
        case round =>
          have HCs1 := Aside0.mk (Kd.C_below HCs.out HB4.out)
          have HCz1 := Aside0.mk (Kd.C_below HCz.out HB4.out)
          clear HT Ht3_3 Ht3_4 Ht3_8 Ht3_9
          obtain ⟨k, t, hk, HGK, rfl, HBR, rfl, HT⟩ := hrel
          have zt : t.size ≤ 9000 := by rw [HT.out, ByteArray.size_append]; have := headB_size xe xs he hs; have h2 := statL_size (st.take k); rw [List.length_take] at h2; omega
          by_cases hlt : k < ns
          · have hlt2 : (k : Int) < ns := by omega
            go_upto_region 3 with fail
            refine Flow.seqT (E := fun u v => Below u.heap.size u v) [(some 19, []), (some 20, []), (some 21, [1]), (some 22, [2]), (some 23, [0, 3])] (fun iQ vQ wQ => match iQ with | 0 => vQ = (.int .i64 k) | 1 => vQ = (.pointer (some ⟨g1, 13, none⟩)) | 2 => vQ = (.slice As ns cs) | 3 => vQ = (.int .i64 ns) | 4 => vQ = (.bool true) | _ => True) rfl (by kernel_rfl) (Below.refl _ _) (fun _ _ _ h k => h.trans (k.mono h.size)) (fun _ _ _ _ h _ => h) ?_ ?_
            · refine ⟨?_, ?_, ?_, ?_, ?_, trivial⟩
              · intro a w' hx hu hd K hK; have e4 : a.tmps.getD 4 undef = (.int .i64 k) := hu 4 rfl; exact Flow.run1 rfl (Flow.r_move rfl e4) (hK _ _ (Below.refl _ _) rfl)
              · intro a w' hx hu hd K hK; have e1 : a.tmps.getD 1 undef = (.pointer (some ⟨g1, 0, none⟩)) := hu 1 rfl; exact Flow.run1 rfl (fa rfl e1 (fa38_3 _ _ _)) (hK _ _ (Below.refl _ _) rfl)
              · intro a w' hx hu hd K hK; have e20 := Flow.got (hd 1 rfl) 20 rfl; exact Flow.run1 rfl (ld rfl e20 ((blk_cell (blk_below Kg1_2_3_4.out (below_step HBR.out hx)) 13).trans rfl) Tryd.underlying35 rfl) (hK _ _ (Below.refl _ _) rfl)
              · intro a w' hx hu hd K hK; have e21 := Flow.got (hd 2 rfl) 21 rfl; exact Flow.run1 rfl (lenL Tryd.underlying35 rfl e21) (hK _ _ (Below.refl _ _) rfl)
              · intro a w' hx hu hd K hK; have e19 := Flow.got (hd 0 rfl) 19 rfl; have e22 := Flow.got (hd 3 rfl) 22 rfl; exact Flow.run1 rfl (yes (lss rfl e19 e22) (decide_eq_true hlt2)) (hK _ _ (Below.refl _ _) rfl)
            · intro vs W6 hb6 hT
              have v0 := Flow.eqn (hT 0 (by decide))
              have v1 := Flow.eqn (hT 1 (by decide))
              have v2 := Flow.eqn (hT 2 (by decide))
              have v3 := Flow.eqn (hT 3 (by decide))
              have v4 := Flow.eqn (hT 4 (by decide))
              simp only [Flow.putsT, v0, v1, v2, v3, v4, Act.put, List.setIfInBounds_toArray, List.set_cons_zero, List.set_cons_succ]
              clear hT v0 v1 v2 v3 v4
              have HB6 := Aside0.mk (below_step HBR.out hb6)
              clear hb6
              obtain ⟨ad, hA, hcell⟩ := elemI HCs1.out k hlt
              subst hA
              obtain ⟨q, hq⟩ : ∃ q, st.getD k 0 = q := ⟨_, rfl⟩
              have HS := Aside0.mk (statL_snoc st k (by rw [HNs.out]; exact hlt))
              rw [hq] at HS hcell
              clear hq
              go_upto_region 5 with fail
              refine Flow.seqT (E := fun u v => Below u.heap.size u v) [(some 26, []), (some 27, [0]), (some 28, []), (some 29, [1, 2]), (some 30, [3]), (some 5, [4, 0, 1, 2, 3, 4])] (fun iQ vQ wQ => match iQ with | 0 => vQ = (.pointer (some ⟨g1, 13, none⟩)) | 1 => vQ = (.slice (some ad) ns cs) | 2 => vQ = (.int .i64 k) | 3 => vQ = (.pointer (some (ad.add (k * 1)))) | 4 => vQ = (.int .i64 q) | 5 => vQ = (.int .i64 q) | _ => True) rfl (by kernel_rfl) (Below.refl _ _) (fun _ _ _ h k => h.trans (k.mono h.size)) (fun _ _ _ _ h _ => h) ?_ ?_
              · refine ⟨?_, ?_, ?_, ?_, ?_, ?_, trivial⟩
                · intro a w' hx hu hd K hK; have e1 : a.tmps.getD 1 undef = (.pointer (some ⟨g1, 0, none⟩)) := hu 1 rfl; exact Flow.run1 rfl (fa rfl e1 (fa38_3 _ _ _)) (hK _ _ (Below.refl _ _) rfl)
                · intro a w' hx hu hd K hK; have e26 := Flow.got (hd 0 rfl) 26 rfl; exact Flow.run1 rfl (ld rfl e26 ((blk_cell (blk_below Kg1_2_3_4.out (below_step HB6.out hx)) 13).trans rfl) Tryd.underlying35 rfl) (hK _ _ (Below.refl _ _) rfl)
                · intro a w' hx hu hd K hK; have e4 : a.tmps.getD 4 undef = (.int .i64 k) := hu 4 rfl; exact Flow.run1 rfl (Flow.r_move rfl e4) (hK _ _ (Below.refl _ _) rfl)
                · intro a w' hx hu hd K hK; have e27 := Flow.got (hd 1 rfl) 27 rfl; have e28 := Flow.got (hd 2 rfl) 28 rfl; exact Flow.run1 rfl (ix Tryd.underlying35 size3 rfl e27 e28 hlt) (hK _ _ (Below.refl _ _) rfl)
                · intro a w' hx hu hd K hK; have e29 := Flow.got (hd 3 rfl) 29 rfl; exact Flow.run1 rfl (ld rfl e29 (pw_cell_below (below_step HB6.out hx) hcell) Tryd.underlying3 rfl) (hK _ _ (Below.refl _ _) rfl)
                · intro a w' hx hu hd K hK; have e30 := Flow.got (hd 4 rfl) 30 rfl; exact Flow.run1 rfl (Flow.r_assign rfl e30) (hK _ _ (Below.refl _ _) rfl)
              · intro vs W7 hb7 hT
                have v0 := Flow.eqn (hT 0 (by decide))
                have v1 := Flow.eqn (hT 1 (by decide))
                have v2 := Flow.eqn (hT 2 (by decide))
                have v3 := Flow.eqn (hT 3 (by decide))
                have v4 := Flow.eqn (hT 4 (by decide))
                have v5 := Flow.eqn (hT 5 (by decide))
                simp only [Flow.putsT, v0, v1, v2, v3, v4, v5, Act.put, List.setIfInBounds_toArray, List.set_cons_zero, List.set_cons_succ]
                clear hT v0 v1 v2 v3 v4 v5
                have HB7 := Aside0.mk (below_step HB6.out hb7)
                clear hb7
                by_cases h1 : q < 0
                · have hd := Aside0.mk (show nameB q nam3 = ⟨#[63]⟩ by unfold nameB; rw [if_pos h1])
                  go_upto_region 6 with fail
                  refine Flow.seqT (E := fun u v => Below u.heap.size u v) [(some 31, []), (some 32, [0]), (some 33, [1]), (some 34, [2]), (some 35, [3, 2]), (some 36, [2, 4])] (fun iQ vQ wQ => match iQ with | 0 => vQ = (.int .i64 q) | 1 => vQ = (.bool true) | 2 => vQ = (.bool true) | 3 => vQ = undef | 4 => vQ = undef | 5 => vQ = (.bool true) | _ => True) rfl (by kernel_rfl) (Below.refl _ _) (fun _ _ _ h k => h.trans (k.mono h.size)) (fun _ _ _ _ h _ => h) ?_ ?_
                  · refine ⟨?_, ?_, ?_, ?_, ?_, ?_, trivial⟩
                    · intro a w' hx hu hd K hK; have e5 : a.tmps.getD 5 undef = (.int .i64 q) := hu 5 rfl; exact Flow.run1 rfl (Flow.r_move rfl e5) (hK _ _ (Below.refl _ _) rfl)
                    · intro a w' hx hu hd K hK; have e31 := Flow.got (hd 0 rfl) 31 rfl; exact Flow.run1 rfl (yes (lss rfl e31 rfl) (decide_eq_true h1)) (hK _ _ (Below.refl _ _) rfl)
                    · intro a w' hx hu hd K hK; have e32 := Flow.got (hd 1 rfl) 32 rfl; exact Flow.run1 rfl (Flow.r_move rfl e32) (hK _ _ (Below.refl _ _) rfl)
                    · intro a w' hx hu hd K hK; have e33 := Flow.got (hd 2 rfl) 33 rfl; exact Flow.spare (Flow.spare_of (k := 33) rfl e33 rfl) (hK _ _ (Below.refl _ _) rfl)
                    · intro a w' hx hu hd K hK; have e33 := Flow.got (hd 2 rfl) 33 rfl; exact Flow.spare (Flow.spare_of (k := 33) rfl e33 rfl) (hK _ _ (Below.refl _ _) rfl)
                    · intro a w' hx hu hd K hK; have e33 := Flow.got (hd 2 rfl) 33 rfl; have e35 := Flow.got (hd 4 rfl) 35 rfl; exact Flow.run1 rfl (Flow.r_pick rfl e33 rfl) (hK _ _ (Below.refl _ _) rfl)
                  · intro vs W8 hb8 hT
                    have v0 := Flow.eqn (hT 0 (by decide))
                    have v1 := Flow.eqn (hT 1 (by decide))
                    have v2 := Flow.eqn (hT 2 (by decide))
                    have v3 := Flow.eqn (hT 3 (by decide))
                    have v4 := Flow.eqn (hT 4 (by decide))
                    have v5 := Flow.eqn (hT 5 (by decide))
                    simp only [Flow.putsT, v0, v1, v2, v3, v4, v5, Act.put, List.setIfInBounds_toArray, List.set_cons_zero, List.set_cons_succ]
                    clear hT v0 v1 v2 v3 v4 v5
                    have HB8 := Aside0.mk (below_step HB7.out hb8)
                    clear hb8
                    go_upto_region 7 with fail
                    obtain ⟨t9_1, Ht9_1⟩ : ∃ tQ, Aside0 (t ++ ⟨#[32, 63]⟩ = tQ) := ⟨_, ⟨rfl⟩⟩
                    have zt9_1 : t9_1.size ≤ 9002 := Ht9_1.out ▸ szapp zt (Nat.le_refl 2) (by decide)
                    refine Flow.seqT (E := fun u v => Below u.heap.size u v) [(some 37, []), (some 38, [0]), (some 3, [1, 0, 1])] (fun iQ vQ wQ => match iQ with | 0 => vQ = (.string t) | 1 => vQ = (.string t9_1) | 2 => vQ = (.string t9_1) | _ => True) rfl (by kernel_rfl) (Below.refl _ _) (fun _ _ _ h k => h.trans (k.mono h.size)) (fun _ _ _ _ h _ => h) ?_ ?_
                    · refine ⟨?_, ?_, ?_, trivial⟩
                      · intro a w' hx hu hd K hK; have e3 : a.tmps.getD 3 undef = (.string t) := hu 3 rfl; exact Flow.run1 rfl (Flow.r_move rfl e3) (hK _ _ (Below.refl _ _) rfl)
                      · intro a w' hx hu hd K hK; have e37 := Flow.got (hd 0 rfl) 37 rfl; exact Flow.run1 rfl (Ht9_1.out ▸ cat rfl e37 rfl zt (Nat.le_refl 2) (by decide)) (hK _ _ (Below.refl _ _) rfl)
                      · intro a w' hx hu hd K hK; have e38 := Flow.got (hd 1 rfl) 38 rfl; exact Flow.run1 rfl (Flow.r_assign rfl e38) (hK _ _ (Below.refl _ _) rfl)
                    · intro vs W9 hb9 hT
                      have v0 := Flow.eqn (hT 0 (by decide))
                      have v1 := Flow.eqn (hT 1 (by decide))
                      have v2 := Flow.eqn (hT 2 (by decide))
                      simp only [Flow.putsT, v0, v1, v2, Act.put, List.setIfInBounds_toArray, List.set_cons_zero, List.set_cons_succ]
                      clear hT v0 v1 v2
                      have HB9 := Aside0.mk (below_step HB8.out hb9)
                      clear hb9
                      go_wp2
                      go_roundg (ns - (k + 1))
                      case measure => have := HGK.out; omega
                      case rel => exact ⟨k + 1, _, by omega, ⟨rfl⟩, by go_num, HB9, rfl, ⟨by rw [HS.out, hd.out, ← Ht9_1.out, HT.out]; simp only [ByteArray.append_assoc]; rfl⟩⟩
                · by_cases h2 : q > 2
                  · have hd := Aside0.mk (show nameB q nam3 = ⟨#[63]⟩ by unfold nameB; rw [if_neg h1, List.getD_eq_getElem?_getD, List.getElem?_eq_none (by simp [nam3]; omega)]; rfl)
                    go_upto_region 6 with fail
                    refine Flow.seqT (E := fun u v => Below u.heap.size u v) [(some 31, []), (some 32, [0]), (some 33, [1]), (some 34, [2]), (some 35, [3, 2]), (some 36, [2, 4])] (fun iQ vQ wQ => match iQ with | 0 => vQ = (.int .i64 q) | 1 => vQ = (.bool false) | 2 => vQ = (.bool false) | 3 => vQ = (.int .i64 q) | 4 => vQ = (.bool true) | 5 => vQ = (.bool true) | _ => True) rfl (by kernel_rfl) (Below.refl _ _) (fun _ _ _ h k => h.trans (k.mono h.size)) (fun _ _ _ _ h _ => h) ?_ ?_
                    · refine ⟨?_, ?_, ?_, ?_, ?_, ?_, trivial⟩
                      · intro a w' hx hu hd K hK; have e5 : a.tmps.getD 5 undef = (.int .i64 q) := hu 5 rfl; exact Flow.run1 rfl (Flow.r_move rfl e5) (hK _ _ (Below.refl _ _) rfl)
                      · intro a w' hx hu hd K hK; have e31 := Flow.got (hd 0 rfl) 31 rfl; exact Flow.run1 rfl (no (lss rfl e31 rfl) (decide_eq_false h1)) (hK _ _ (Below.refl _ _) rfl)
                      · intro a w' hx hu hd K hK; have e32 := Flow.got (hd 1 rfl) 32 rfl; exact Flow.run1 rfl (Flow.r_move rfl e32) (hK _ _ (Below.refl _ _) rfl)
                      · intro a w' hx hu hd K hK; have e5 : a.tmps.getD 5 undef = (.int .i64 q) := hu 5 rfl; have e33 := Flow.got (hd 2 rfl) 33 rfl; exact Flow.run1 (Flow.want_of (k := 33) rfl e33) (Flow.r_move rfl e5) (hK _ _ (Below.refl _ _) rfl)
                      · intro a w' hx hu hd K hK; have e34 := Flow.got (hd 3 rfl) 34 rfl; have e33 := Flow.got (hd 2 rfl) 33 rfl; exact Flow.run1 (Flow.want_of (k := 33) rfl e33) (yes (gtr rfl e34 rfl) (decide_eq_true h2)) (hK _ _ (Below.refl _ _) rfl)
                      · intro a w' hx hu hd K hK; have e33 := Flow.got (hd 2 rfl) 33 rfl; have e35 := Flow.got (hd 4 rfl) 35 rfl; exact Flow.run1 rfl (Flow.r_pick rfl e33 e35) (hK _ _ (Below.refl _ _) rfl)
                    · intro vs W10 hb10 hT
                      have v0 := Flow.eqn (hT 0 (by decide))
                      have v1 := Flow.eqn (hT 1 (by decide))
                      have v2 := Flow.eqn (hT 2 (by decide))
                      have v3 := Flow.eqn (hT 3 (by decide))
                      have v4 := Flow.eqn (hT 4 (by decide))
                      have v5 := Flow.eqn (hT 5 (by decide))
                      simp only [Flow.putsT, v0, v1, v2, v3, v4, v5, Act.put, List.setIfInBounds_toArray, List.set_cons_zero, List.set_cons_succ]
                      clear hT v0 v1 v2 v3 v4 v5
                      have HB10 := Aside0.mk (below_step HB7.out hb10)
                      clear hb10
                      go_upto_region 7 with fail
                      obtain ⟨t11_1, Ht11_1⟩ : ∃ tQ, Aside0 (t ++ ⟨#[32, 63]⟩ = tQ) := ⟨_, ⟨rfl⟩⟩
                      have zt11_1 : t11_1.size ≤ 9002 := Ht11_1.out ▸ szapp zt (Nat.le_refl 2) (by decide)
                      refine Flow.seqT (E := fun u v => Below u.heap.size u v) [(some 37, []), (some 38, [0]), (some 3, [1, 0, 1])] (fun iQ vQ wQ => match iQ with | 0 => vQ = (.string t) | 1 => vQ = (.string t11_1) | 2 => vQ = (.string t11_1) | _ => True) rfl (by kernel_rfl) (Below.refl _ _) (fun _ _ _ h k => h.trans (k.mono h.size)) (fun _ _ _ _ h _ => h) ?_ ?_
                      · refine ⟨?_, ?_, ?_, trivial⟩
                        · intro a w' hx hu hd K hK; have e3 : a.tmps.getD 3 undef = (.string t) := hu 3 rfl; exact Flow.run1 rfl (Flow.r_move rfl e3) (hK _ _ (Below.refl _ _) rfl)
                        · intro a w' hx hu hd K hK; have e37 := Flow.got (hd 0 rfl) 37 rfl; exact Flow.run1 rfl (Ht11_1.out ▸ cat rfl e37 rfl zt (Nat.le_refl 2) (by decide)) (hK _ _ (Below.refl _ _) rfl)
                        · intro a w' hx hu hd K hK; have e38 := Flow.got (hd 1 rfl) 38 rfl; exact Flow.run1 rfl (Flow.r_assign rfl e38) (hK _ _ (Below.refl _ _) rfl)
                      · intro vs W11 hb11 hT
                        have v0 := Flow.eqn (hT 0 (by decide))
                        have v1 := Flow.eqn (hT 1 (by decide))
                        have v2 := Flow.eqn (hT 2 (by decide))
                        simp only [Flow.putsT, v0, v1, v2, Act.put, List.setIfInBounds_toArray, List.set_cons_zero, List.set_cons_succ]
                        clear hT v0 v1 v2
                        have HB11 := Aside0.mk (below_step HB10.out hb11)
                        clear hb11
                        go_wp2
                        go_roundg (ns - (k + 1))
                        case measure => have := HGK.out; omega
                        case rel => exact ⟨k + 1, _, by omega, ⟨rfl⟩, by go_num, HB11, rfl, ⟨by rw [HS.out, hd.out, ← Ht11_1.out, HT.out]; simp only [ByteArray.append_assoc]; rfl⟩⟩
                  · obtain ⟨j, rfl⟩ : ∃ j : Nat, q = j := ⟨q.toNat, by omega⟩
                    have hj : j < 3 := by omega
                    have hd := Aside0.mk (show nameB (j : Int) nam3 = nam3.getD j ByteArray.empty by unfold nameB; rw [if_neg h1, Int.toNat_natCast, List.getD_eq_getElem?_getD, List.getD_eq_getElem?_getD, List.getElem?_eq_getElem (show j < nam3.length from hj)]; rfl)
                    go_upto_region 6 with fail
                    refine Flow.seqT (E := fun u v => Below u.heap.size u v) [(some 31, []), (some 32, [0]), (some 33, [1]), (some 34, [2]), (some 35, [3, 2]), (some 36, [2, 4])] (fun iQ vQ wQ => match iQ with | 0 => vQ = (.int .i64 j) | 1 => vQ = (.bool false) | 2 => vQ = (.bool false) | 3 => vQ = (.int .i64 j) | 4 => vQ = (.bool false) | 5 => vQ = (.bool false) | _ => True) rfl (by kernel_rfl) (Below.refl _ _) (fun _ _ _ h k => h.trans (k.mono h.size)) (fun _ _ _ _ h _ => h) ?_ ?_
                    · refine ⟨?_, ?_, ?_, ?_, ?_, ?_, trivial⟩
                      · intro a w' hx hu hd K hK; have e5 : a.tmps.getD 5 undef = (.int .i64 j) := hu 5 rfl; exact Flow.run1 rfl (Flow.r_move rfl e5) (hK _ _ (Below.refl _ _) rfl)
                      · intro a w' hx hu hd K hK; have e31 := Flow.got (hd 0 rfl) 31 rfl; exact Flow.run1 rfl (no (lss rfl e31 rfl) (decide_eq_false h1)) (hK _ _ (Below.refl _ _) rfl)
                      · intro a w' hx hu hd K hK; have e32 := Flow.got (hd 1 rfl) 32 rfl; exact Flow.run1 rfl (Flow.r_move rfl e32) (hK _ _ (Below.refl _ _) rfl)
                      · intro a w' hx hu hd K hK; have e5 : a.tmps.getD 5 undef = (.int .i64 j) := hu 5 rfl; have e33 := Flow.got (hd 2 rfl) 33 rfl; exact Flow.run1 (Flow.want_of (k := 33) rfl e33) (Flow.r_move rfl e5) (hK _ _ (Below.refl _ _) rfl)
                      · intro a w' hx hu hd K hK; have e34 := Flow.got (hd 3 rfl) 34 rfl; have e33 := Flow.got (hd 2 rfl) 33 rfl; exact Flow.run1 (Flow.want_of (k := 33) rfl e33) (no (gtr rfl e34 rfl) (decide_eq_false h2)) (hK _ _ (Below.refl _ _) rfl)
                      · intro a w' hx hu hd K hK; have e33 := Flow.got (hd 2 rfl) 33 rfl; have e35 := Flow.got (hd 4 rfl) 35 rfl; exact Flow.run1 rfl (Flow.r_pick rfl e33 e35) (hK _ _ (Below.refl _ _) rfl)
                    · intro vs W12 hb12 hT
                      have v0 := Flow.eqn (hT 0 (by decide))
                      have v1 := Flow.eqn (hT 1 (by decide))
                      have v2 := Flow.eqn (hT 2 (by decide))
                      have v3 := Flow.eqn (hT 3 (by decide))
                      have v4 := Flow.eqn (hT 4 (by decide))
                      have v5 := Flow.eqn (hT 5 (by decide))
                      simp only [Flow.putsT, v0, v1, v2, v3, v4, v5, Act.put, List.setIfInBounds_toArray, List.set_cons_zero, List.set_cons_succ]
                      clear hT v0 v1 v2 v3 v4 v5
                      have HB12 := Aside0.mk (below_step HB7.out hb12)
                      clear hb12
                      go_upto_region 8 with fail
                      obtain ⟨t13_1, Ht13_1⟩ : ∃ tQ, Aside0 (t ++ ⟨#[32]⟩ = tQ) := ⟨_, ⟨rfl⟩⟩
                      have zt13_1 : t13_1.size ≤ 9001 := Ht13_1.out ▸ szapp zt (Nat.le_refl 1) (by decide)
                      refine Flow.seqT_head (E := fun u v => Below u.heap.size u v) 3 [(some 39, []), (some 40, [0]), (some 41, []), (some 42, []), (some 43, [2, 3]), (some 44, [4]), (some 45, [1, 5]), (some 3, [6, 0, 1, 2, 3, 4, 5, 6])] (fun iQ vQ wQ => match iQ with | 0 => vQ = (.string t) | 1 => vQ = (.string t13_1) | 2 => SliceAt #[.string ⟨#[119, 104, 111, 108, 101]⟩, .string ⟨#[108, 111, 115, 116]⟩, .string ⟨#[114, 101, 98, 117, 105, 108, 100]⟩] 9 3 W4.heap.size vQ wQ | _ => True) rfl (by decide) (by kernel_rfl) (Below.refl _ _) (fun _ _ _ h k => h.trans (k.mono h.size)) (fun iQ vQ w1Q w2Q hQ hEQ => match iQ, hQ with | 0, hQ => hQ | 1, hQ => hQ | 2, hQ => slice_below hQ hEQ | _ + 3, _ => trivial) ?_ ?_
                      · refine ⟨?_, ?_, ?_, trivial⟩
                        · intro a w' hx hu hd K hK; have e3 : a.tmps.getD 3 undef = (.string t) := hu 3 rfl; exact Flow.run1 rfl (Flow.r_move rfl e3) (hK _ _ (Below.refl _ _) rfl)
                        · intro a w' hx hu hd K hK; have e39 := Flow.got (hd 0 rfl) 39 rfl; exact Flow.run1 rfl (Ht13_1.out ▸ cat rfl e39 rfl zt (Nat.le_refl 1) (by decide)) (hK _ _ (Below.refl _ _) rfl)
                        · intro a w' hx hu hd K hK; exact Flow.run1 rfl (row3_79 rfl rfl rfl rfl) (hK _ _ (below_alloc (Below.refl _ _) _) (slice_new (Nat.le_trans (HB12.out).size (hx : Below _ _ _).size)))
                      · intro vs W13 hb13 hT
                        have v0 := Flow.eqn (hT 0 (by decide))
                        have v1 := Flow.eqn (hT 1 (by decide))
                        obtain ⟨g13_2, v2, hge2, hk2⟩ : SliceAt _ _ _ _ _ _ := hT 2 (by decide)
                        have Kg13_2 := Aside0.mk hk2
                        have Gg13_2 := Aside0.mk hge2
                        clear hk2 hge2
                        simp only [Flow.putsT, v0, v1, v2, Act.put, List.setIfInBounds_toArray, List.set_cons_zero, List.set_cons_succ, List.drop_succ_cons, List.drop_zero, List.take_succ_cons, List.take_zero]
                        clear hT v0 v1 v2
                        have HB13 := Aside0.mk (below_step HB12.out hb13)
                        clear hb13
                        have KN := Aside0.mk (show W13.heap[g13_2]? = some (.cells (nam3.map Value.string).toArray 9 (0, 0)) from Kg13_2.out)
                        have hjs : (nam3.getD j ByteArray.empty).size ≤ 7 := by rw [← hd.out]; exact nam3_size _
                        obtain ⟨t14_6, Ht14_6⟩ : ∃ tQ, Aside0 (t13_1 ++ (nam3.getD j ByteArray.empty) = tQ) := ⟨_, ⟨rfl⟩⟩
                        have zt14_6 : t14_6.size ≤ 9008 := Ht14_6.out ▸ szapp zt13_1 hjs (by decide)
                        refine Flow.seqL (E := fun u v => Below u.heap.size u v) 3 5 [(some 39, []), (some 40, [0]), (some 41, []), (some 42, []), (some 43, [2, 3]), (some 44, [4]), (some 45, [1, 5]), (some 3, [6, 0, 1, 2, 3, 4, 5, 6])] (fun iQ vQ wQ => match iQ with | 3 => vQ = (.int .i64 j) | 4 => vQ = (.pointer (some ⟨g13_2, j, none⟩)) | 5 => vQ = (.string (nam3.getD j ByteArray.empty)) | 6 => vQ = (.string t14_6) | 7 => vQ = (.string t14_6) | _ => True) rfl (by decide) (by kernel_rfl) (Below.refl _ _) (fun _ _ _ h k => h.trans (k.mono h.size)) (fun _ _ _ _ h _ => h) ?_ ?_
                        · refine ⟨?_, ?_, ?_, ?_, ?_, trivial⟩
                          · intro a w' hx hu hd K hK; have e5 : a.tmps.getD 5 undef = (.int .i64 j) := hu 5 rfl; exact Flow.run1 rfl (Flow.r_move rfl e5) (hK _ _ (Below.refl _ _) rfl)
                          · intro a w' hx hu hd K hK; have e41 : a.tmps.getD 41 undef = (.slice (some ⟨g13_2, 0, none⟩) 3 3) := hu 41 rfl; have e42 := Flow.got (hd 3 rfl) 42 rfl; exact Flow.run1 rfl (ixr Tryd.underlying79 size9 rfl e41 e42 hj) (hK _ _ (Below.refl _ _) rfl)
                          · intro a w' hx hu hd K hK; have e43 := Flow.got (hd 4 rfl) 43 rfl; exact Flow.run1 rfl (ld rfl e43 (row_cell Value.string ByteArray.empty (blk_below KN.out hx) hj) Tryd.underlying9 rfl) (hK _ _ (Below.refl _ _) rfl)
                          · intro a w' hx hu hd K hK; have e40 : a.tmps.getD 40 undef = (.string t13_1) := hu 40 rfl; have e44 := Flow.got (hd 5 rfl) 44 rfl; exact Flow.run1 rfl (Ht14_6.out ▸ cat rfl e40 e44 zt13_1 hjs (by decide)) (hK _ _ (Below.refl _ _) rfl)
                          · intro a w' hx hu hd K hK; have e45 := Flow.got (hd 6 rfl) 45 rfl; exact Flow.run1 rfl (Flow.r_assign rfl e45) (hK _ _ (Below.refl _ _) rfl)
                        · intro vs W14 hb14 hT
                          have v3 := Flow.eqn (hT 3 (by decide) (by decide))
                          have v4 := Flow.eqn (hT 4 (by decide) (by decide))
                          have v5 := Flow.eqn (hT 5 (by decide) (by decide))
                          have v6 := Flow.eqn (hT 6 (by decide) (by decide))
                          have v7 := Flow.eqn (hT 7 (by decide) (by decide))
                          simp only [Flow.putsT, v3, v4, v5, v6, v7, Act.put, List.setIfInBounds_toArray, List.set_cons_zero, List.set_cons_succ, List.drop_succ_cons, List.drop_zero, List.take_succ_cons, List.take_zero]
                          clear hT v3 v4 v5 v6 v7
                          have HB14 := Aside0.mk (below_step HB13.out hb14)
                          have Kg13_2_14 := Aside0.mk (blk_below Kg13_2.out hb14)
                          clear hb14
                          go_wp2
                          go_roundg (ns - (k + 1))
                          case measure => have := HGK.out; omega
                          case rel => exact ⟨k + 1, _, by omega, ⟨rfl⟩, by go_num, HB14, rfl, ⟨by rw [HS.out, hd.out, ← Ht14_6.out, ← Ht13_1.out, HT.out]; simp only [ByteArray.append_assoc]⟩⟩
          · obtain rfl : k = ns := by omega
            have hlt2 : ¬ ((k : Nat) : Int) < k := by omega
            go_upto_region 3 with fail
            refine Flow.seqT (E := fun u v => Below u.heap.size u v) [(some 19, []), (some 20, []), (some 21, [1]), (some 22, [2]), (some 23, [0, 3])] (fun iQ vQ wQ => match iQ with | 0 => vQ = (.int .i64 k) | 1 => vQ = (.pointer (some ⟨g1, 13, none⟩)) | 2 => vQ = (.slice As k cs) | 3 => vQ = (.int .i64 k) | 4 => vQ = (.bool false) | _ => True) rfl (by kernel_rfl) (Below.refl _ _) (fun _ _ _ h k => h.trans (k.mono h.size)) (fun _ _ _ _ h _ => h) ?_ ?_
            · refine ⟨?_, ?_, ?_, ?_, ?_, trivial⟩
              · intro a w' hx hu hd K hK; have e4 : a.tmps.getD 4 undef = (.int .i64 k) := hu 4 rfl; exact Flow.run1 rfl (Flow.r_move rfl e4) (hK _ _ (Below.refl _ _) rfl)
              · intro a w' hx hu hd K hK; have e1 : a.tmps.getD 1 undef = (.pointer (some ⟨g1, 0, none⟩)) := hu 1 rfl; exact Flow.run1 rfl (fa rfl e1 (fa38_3 _ _ _)) (hK _ _ (Below.refl _ _) rfl)
              · intro a w' hx hu hd K hK; have e20 := Flow.got (hd 1 rfl) 20 rfl; exact Flow.run1 rfl (ld rfl e20 ((blk_cell (blk_below Kg1_2_3_4.out (below_step HBR.out hx)) 13).trans rfl) Tryd.underlying35 rfl) (hK _ _ (Below.refl _ _) rfl)
              · intro a w' hx hu hd K hK; have e21 := Flow.got (hd 2 rfl) 21 rfl; exact Flow.run1 rfl (lenL Tryd.underlying35 rfl e21) (hK _ _ (Below.refl _ _) rfl)
              · intro a w' hx hu hd K hK; have e19 := Flow.got (hd 0 rfl) 19 rfl; have e22 := Flow.got (hd 3 rfl) 22 rfl; exact Flow.run1 rfl (no (lss rfl e19 e22) (decide_eq_false hlt2)) (hK _ _ (Below.refl _ _) rfl)
            · intro vs W15 hb15 hT
              have v0 := Flow.eqn (hT 0 (by decide))
              have v1 := Flow.eqn (hT 1 (by decide))
              have v2 := Flow.eqn (hT 2 (by decide))
              have v3 := Flow.eqn (hT 3 (by decide))
              have v4 := Flow.eqn (hT 4 (by decide))
              simp only [Flow.putsT, v0, v1, v2, v3, v4, Act.put, List.setIfInBounds_toArray, List.set_cons_zero, List.set_cons_succ]
              clear hT v0 v1 v2 v3 v4
              have HB15 := Aside0.mk (below_step HBR.out hb15)
              clear hb15
              have HTL := Aside0.mk (show t = headB xe xs ++ wordsB (statL st) by rw [HT.out, List.take_of_length_le (by rw [HNs.out]; exact Nat.le_refl _)])
              go_upto_region 9 with fail
              obtain ⟨t16_1, Ht16_1⟩ : ∃ tQ, Aside0 (t ++ ⟨#[10]⟩ = tQ) := ⟨_, ⟨rfl⟩⟩
              have zt16_1 : t16_1.size ≤ 9001 := Ht16_1.out ▸ szapp zt (Nat.le_refl 1) (by decide)
              refine Flow.seqT (E := fun u v => Below u.heap.size u v) [(some 46, []), (some 47, [0]), (some 3, [1, 0, 1])] (fun iQ vQ wQ => match iQ with | 0 => vQ = (.string t) | 1 => vQ = (.string t16_1) | 2 => vQ = (.string t16_1) | _ => True) rfl (by kernel_rfl) (Below.refl _ _) (fun _ _ _ h k => h.trans (k.mono h.size)) (fun _ _ _ _ h _ => h) ?_ ?_
              · refine ⟨?_, ?_, ?_, trivial⟩
                · intro a w' hx hu hd K hK; have e3 : a.tmps.getD 3 undef = (.string t) := hu 3 rfl; exact Flow.run1 rfl (Flow.r_move rfl e3) (hK _ _ (Below.refl _ _) rfl)
                · intro a w' hx hu hd K hK; have e46 := Flow.got (hd 0 rfl) 46 rfl; exact Flow.run1 rfl (Ht16_1.out ▸ cat rfl e46 rfl zt (Nat.le_refl 1) (by decide)) (hK _ _ (Below.refl _ _) rfl)
                · intro a w' hx hu hd K hK; have e47 := Flow.got (hd 1 rfl) 47 rfl; exact Flow.run1 rfl (Flow.r_assign rfl e47) (hK _ _ (Below.refl _ _) rfl)
              · intro vs W16 hb16 hT
                have v0 := Flow.eqn (hT 0 (by decide))
                have v1 := Flow.eqn (hT 1 (by decide))
                have v2 := Flow.eqn (hT 2 (by decide))
                simp only [Flow.putsT, v0, v1, v2, Act.put, List.setIfInBounds_toArray, List.set_cons_zero, List.set_cons_succ]
                clear hT v0 v1 v2
                have HB16 := Aside0.mk (below_step HB15.out hb16)
                clear hb16
                go_upto_region 10 with fail
                refine Flow.seqT (E := fun u v => Below u.heap.size u v) [(some 6, [])] (fun iQ vQ wQ => match iQ with | 0 => vQ = (.int .i64 0) | _ => True) rfl (by kernel_rfl) (Below.refl _ _) (fun _ _ _ h k => h.trans (k.mono h.size)) (fun _ _ _ _ h _ => h) ?_ ?_
                · refine ⟨?_, trivial⟩
                  · intro a w' hx hu hd K hK; exact Flow.run1 rfl (Flow.r_assign rfl rfl) (hK _ _ (Below.refl _ _) rfl)
                · intro vs W17 hb17 hT
                  have v0 := Flow.eqn (hT 0 (by decide))
                  simp only [Flow.putsT, v0, Act.put, List.setIfInBounds_toArray, List.set_cons_zero, List.set_cons_succ]
                  clear hT v0
                  have HB17 := Aside0.mk (below_step HB16.out hb17)
                  clear hb17
                  obtain ⟨P0, HP0⟩ : ∃ x, Aside0 (t16_1 = x) := ⟨_, ⟨rfl⟩⟩
                  have zP0 : P0.size ≤ 9001 := HP0.out ▸ zt16_1
                  rw [HP0.out]
                  go_wp2
                  have Kg1_2_3_4_18 := Aside0.mk (blk_below Kg1_2_3_4.out HB17.out)
                  have HCz2 := Aside0.mk (Kd.C_below HCz1.out HB17.out)
                  go_loopg [3, 6] nz (fun g v3 v6 wr => ∃ (i : Nat) (t : ByteArray), i ≤ nz ∧ Aside0 (g = nz - i) ∧ v6 = .int .i64 i ∧ Aside0 (Below W17.heap.size W17 wr) ∧ v3 = .string t ∧ Aside0 (t = P0 ++ zlinesB zs i))
                  case atStart => exact ⟨0, _, Nat.zero_le _, ⟨rfl⟩, rfl, ⟨Below.refl _ _⟩, rfl, ⟨(ByteArray.append_empty).symm⟩⟩
                  case round =>
                    obtain ⟨i, t, hi, HGI, rfl, HBR2, rfl, HT2⟩ := hrel
                    have zt : t.size ≤ 50100000 := by rw [HT2.out, ByteArray.size_append]; have := zlines_size zs HG.out HPN.out i (by omega); omega
                    by_cases hlt3 : i < nz
                    · have hlt4 : (i : Int) < nz := by omega
                      go_upto_region 11 with fail
                      refine Flow.seqT (E := fun u v => Below u.heap.size u v) [(some 48, []), (some 49, []), (some 50, [1]), (some 51, [2]), (some 52, [0, 3])] (fun iQ vQ wQ => match iQ with | 0 => vQ = (.int .i64 i) | 1 => vQ = (.pointer (some ⟨g1, 14, none⟩)) | 2 => vQ = (.slice Az nz cz) | 3 => vQ = (.int .i64 nz) | 4 => vQ = (.bool true) | _ => True) rfl (by kernel_rfl) (Below.refl _ _) (fun _ _ _ h k => h.trans (k.mono h.size)) (fun _ _ _ _ h _ => h) ?_ ?_
                      · refine ⟨?_, ?_, ?_, ?_, ?_, trivial⟩
                        · intro a w' hx hu hd K hK; have e6 : a.tmps.getD 6 undef = (.int .i64 i) := hu 6 rfl; exact Flow.run1 rfl (Flow.r_move rfl e6) (hK _ _ (Below.refl _ _) rfl)
                        · intro a w' hx hu hd K hK; have e1 : a.tmps.getD 1 undef = (.pointer (some ⟨g1, 0, none⟩)) := hu 1 rfl; exact Flow.run1 rfl (fa rfl e1 (fa38_4 _ _ _)) (hK _ _ (Below.refl _ _) rfl)
                        · intro a w' hx hu hd K hK; have e49 := Flow.got (hd 1 rfl) 49 rfl; exact Flow.run1 rfl (ld rfl e49 ((blk_cell (blk_below Kg1_2_3_4_18.out (below_step HBR2.out hx)) 14).trans rfl) Tryd.underlying36 rfl) (hK _ _ (Below.refl _ _) rfl)
                        · intro a w' hx hu hd K hK; have e50 := Flow.got (hd 2 rfl) 50 rfl; exact Flow.run1 rfl (lenL Tryd.underlying36 rfl e50) (hK _ _ (Below.refl _ _) rfl)
                        · intro a w' hx hu hd K hK; have e48 := Flow.got (hd 0 rfl) 48 rfl; have e51 := Flow.got (hd 3 rfl) 51 rfl; exact Flow.run1 rfl (yes (lss rfl e48 e51) (decide_eq_true hlt4)) (hK _ _ (Below.refl _ _) rfl)
                      · intro vs W19 hb19 hT
                        have v0 := Flow.eqn (hT 0 (by decide))
                        have v1 := Flow.eqn (hT 1 (by decide))
                        have v2 := Flow.eqn (hT 2 (by decide))
                        have v3 := Flow.eqn (hT 3 (by decide))
                        have v4 := Flow.eqn (hT 4 (by decide))
                        simp only [Flow.putsT, v0, v1, v2, v3, v4, Act.put, List.setIfInBounds_toArray, List.set_cons_zero, List.set_cons_succ]
                        clear hT v0 v1 v2 v3 v4
                        have HB19 := Aside0.mk (below_step HBR2.out hb19)
                        clear hb19
                        obtain ⟨ad, B, c2, hA, hlies, hCp, _⟩ := elem82 HCz2.out i hlt3
                        subst hA
                        have HZL := Aside0.mk (show zlinesB zs (i + 1) = zlinesB zs i ++ zlineB i (zs.getD i z82) from rfl)
                        have hG1 := HG.out i
                        have hP1 := HPN.out i
                        obtain ⟨z, hz⟩ : ∃ q, zs.getD i z82 = q := ⟨_, rfl⟩
                        rw [hz] at hlies hCp HZL hG1 hP1
                        clear hz
                        obtain ⟨zg, zi, zf, zw, zh, ps⟩ := z
                        dsimp only at hlies hCp hG1 hP1
                        obtain ⟨hzg, hzi, hzw, hzp⟩ := hG1
                        dsimp only at hzg hzi hzw hzp
                        obtain ⟨np, HNP⟩ : ∃ n, Aside0 (ps.length = n) := ⟨_, ⟨rfl⟩⟩
                        have hps := hP1
                        rw [HNP.out] at hlies hCp hps
                        have HLI := Aside0.mk hlies
                        have HCP := Aside0.mk hCp
                        have HZP := Aside0.mk hzp
                        clear hlies hCp hzp
                        go_upto_region 13 with fail
                        refine Flow.seqT_head (E := fun u v => Below u.heap.size u v) 5 [(some 55, []), (some 56, [0]), (some 57, []), (some 58, [1, 2]), (some 59, [3]), (some 7, []), (none, [5, 4, 0, 1, 2, 3, 4, 5])] (fun iQ vQ wQ => match iQ with | 0 => vQ = (.pointer (some ⟨g1, 14, none⟩)) | 1 => vQ = (.slice (some ad) nz cz) | 2 => vQ = (.int .i64 i) | 3 => vQ = (.pointer (some (ad.add (i * 6)))) | 4 => vQ = (.agg #[.int .i64 zg, .int .i64 zi, .bool zf, .int .i64 zw, .bool zh, .slice B np c2]) | _ => True) rfl (by decide) (by kernel_rfl) (Below.refl _ _) (fun _ _ _ h k => h.trans (k.mono h.size)) (fun _ _ _ _ h _ => h) ?_ ?_
                        · refine ⟨?_, ?_, ?_, ?_, ?_, trivial⟩
                          · intro a w' hx hu hd K hK; have e1 : a.tmps.getD 1 undef = (.pointer (some ⟨g1, 0, none⟩)) := hu 1 rfl; exact Flow.run1 rfl (fa rfl e1 (fa38_4 _ _ _)) (hK _ _ (Below.refl _ _) rfl)
                          · intro a w' hx hu hd K hK; have e55 := Flow.got (hd 0 rfl) 55 rfl; exact Flow.run1 rfl (ld rfl e55 ((blk_cell (blk_below Kg1_2_3_4_18.out (below_step HB19.out hx)) 14).trans rfl) Tryd.underlying36 rfl) (hK _ _ (Below.refl _ _) rfl)
                          · intro a w' hx hu hd K hK; have e6 : a.tmps.getD 6 undef = (.int .i64 i) := hu 6 rfl; exact Flow.run1 rfl (Flow.r_move rfl e6) (hK _ _ (Below.refl _ _) rfl)
                          · intro a w' hx hu hd K hK; have e56 := Flow.got (hd 1 rfl) 56 rfl; have e57 := Flow.got (hd 2 rfl) 57 rfl; exact Flow.run1 rfl (ix Tryd.underlying36 size82 rfl e56 e57 hlt3) (hK _ _ (Below.refl _ _) rfl)
                          · intro a w' hx hu hd K hK; have e58 := Flow.got (hd 3 rfl) 58 rfl; exact Flow.run1 rfl (ldrow rfl e58 (lies_below HLI.out (below_step HB19.out hx)) Tryd.underlying82 rfl size82) (hK _ _ (Below.refl _ _) rfl)
                        · intro vs W20 hb20 hT
                          have v0 := Flow.eqn (hT 0 (by decide))
                          have v1 := Flow.eqn (hT 1 (by decide))
                          have v2 := Flow.eqn (hT 2 (by decide))
                          have v3 := Flow.eqn (hT 3 (by decide))
                          have v4 := Flow.eqn (hT 4 (by decide))
                          simp only [Flow.putsT, v0, v1, v2, v3, v4, Act.put, List.setIfInBounds_toArray, List.set_cons_zero, List.set_cons_succ, List.drop_succ_cons, List.drop_zero, List.take_succ_cons, List.take_zero]
                          clear hT v0 v1 v2 v3 v4
                          have HB20 := Aside0.mk (below_step HB19.out hb20)
                          clear hb20
                          refine ealloc rfl rfl zero82_is ?_
                          intro g21 hg21 W21 hk21 hb21
                          have Kg21 := Aside0.mk hk21
                          have HB21 := Aside0.mk (below_step HB20.out hb21)
                          clear hb21
                          have Gg21 := Aside0.mk (show W17.heap.size ≤ g21 by rw [hg21]; exact HB20.out.size)
                          clear hg21 hk21
                          simp only [Act.put, List.setIfInBounds_toArray, List.set_cons_zero, List.set_cons_succ]
                          refine Cells.store_whole rfl rfl 82 _ _ rfl g21 [.int .i64 zg, .int .i64 zi, .bool zf, .int .i64 zw, .bool zh, .slice B np c2] #[.int .i64 0, .int .i64 0, .bool false, .int .i64 0, .bool false, .slice none 0 0] rfl rfl Kg21.out rfl size82 rfl ?_
                          intro W22 hk22 hf22 hb22
                          have HB22 := Aside0.mk (HB21.out.trans (hb22 _ Gg21.out))
                          have Kg21_22 := Aside0.mk hk22
                          clear hk22 hf22 hb22
                          go_upto_region 14 with fail
                          obtain ⟨t23_3, Ht23_3⟩ : ∃ tQ, Aside0 (t ++ itoaB i = tQ) := ⟨_, ⟨rfl⟩⟩
                          have zt23_3 : t23_3.size ≤ 50100021 := Ht23_3.out ▸ szapp zt (itoa_size i (show I64 (i : Int) by unfold I64; omega)) (by decide)
                          obtain ⟨t23_4, Ht23_4⟩ : ∃ tQ, Aside0 (t23_3 ++ ⟨#[58, 32, 103, 101, 110, 32]⟩ = tQ) := ⟨_, ⟨rfl⟩⟩
                          have zt23_4 : t23_4.size ≤ 50100027 := Ht23_4.out ▸ szapp zt23_3 (Nat.le_refl 6) (by decide)
                          obtain ⟨t23_8, Ht23_8⟩ : ∃ tQ, Aside0 (t23_4 ++ itoaB zg = tQ) := ⟨_, ⟨rfl⟩⟩
                          have zt23_8 : t23_8.size ≤ 50100048 := Ht23_8.out ▸ szapp zt23_4 (itoa_size zg hzg) (by decide)
                          refine Flow.flowT (E := fun u v => Below u.heap.size u v) [(some 60, []), (some 61, []), (some 62, [1]), (some 63, [0, 2]), (some 64, [3]), (some 65, []), (some 66, [5]), (some 67, [6, 2]), (some 68, [4, 7]), (some 3, [8, 7, 0, 1, 2, 3, 4, 5, 6, 7, 8])] (fun iQ vQ wQ => match iQ with | 0 => vQ = (.string t) | 1 => vQ = (.int .i64 i) | 2 => vQ = (.string (itoaB i)) | 3 => vQ = (.string t23_3) | 4 => vQ = (.string t23_4) | 5 => vQ = (.pointer (some ⟨g21, 0, none⟩)) | 6 => vQ = (.int .i64 zg) | 7 => vQ = (.string (itoaB zg)) | 8 => vQ = (.string t23_8) | 9 => vQ = (.string t23_8) | _ => True) rfl (by kernel_rfl) (by kernel_rfl) (by kernel_rfl) ((Below.refl _ _).drew) (fun _ _ _ h k => h.trans (k.mono h.size)) (fun _ _ _ _ h _ => h) ?_ ?_
                          · refine ⟨?_, ?_, ?_, ?_, ?_, ?_, ?_, ?_, ?_, ?_, trivial⟩
                            · intro a w' hx hu hd K hK; have e3 : a.tmps.getD 3 undef = (.string t) := hu 3 rfl; exact Flow.run1 rfl (Flow.r_move rfl e3) (hK _ _ (Below.refl _ _) rfl)
                            · intro a w' hx hu hd K hK; have e6 : a.tmps.getD 6 undef = (.int .i64 i) := hu 6 rfl; exact Flow.run1 rfl (Flow.r_move rfl e6) (hK _ _ (Below.refl _ _) rfl)
                            · intro a w' hx hu hd K hK; have e61 := Flow.got (hd 1 (by decide)) 61 rfl; refine Flow.want rfl ?_; refine Flow.val_call rfl Tryd.func38 (by kernel_rfl) rfl (by simp only [List.map_toArray, List.map_cons, List.map_nil, Act.eval, e61]) (rnum_c i (show I64 (i : Int) by unfold I64; omega) w') ?_; rintro e w2 ⟨rfl, hb2⟩; exact ⟨_, rfl, hK _ _ hb2 (by rfl)⟩
                            · intro a w' hx hu hd K hK; have e60 := Flow.got (hd 0 (by decide)) 60 rfl; have e62 := Flow.got (hd 2 (by decide)) 62 rfl; exact Flow.run1 rfl (Ht23_3.out ▸ cat rfl e60 e62 zt (itoa_size i (show I64 (i : Int) by unfold I64; omega)) (by decide)) (hK _ _ (Below.refl _ _) rfl)
                            · intro a w' hx hu hd K hK; have e63 := Flow.got (hd 3 (by decide)) 63 rfl; exact Flow.run1 rfl (Ht23_4.out ▸ cat rfl e63 rfl zt23_3 (Nat.le_refl 6) (by decide)) (hK _ _ (Below.refl _ _) rfl)
                            · intro a w' hx hu hd K hK; have e7 : a.tmps.getD 7 undef = (.pointer (some ⟨g21, 0, none⟩)) := hu 7 rfl; exact Flow.run1 rfl (fa rfl e7 (fa82_0 _ _ _)) (hK _ _ (Below.refl _ _) rfl)
                            · intro a w' hx hu hd K hK; have e65 := Flow.got (hd 5 (by decide)) 65 rfl; exact Flow.run1 rfl (ld rfl e65 ((blk_cell (blk_below Kg21_22.out hx) 0).trans rfl) Tryd.underlying3 rfl) (hK _ _ (Below.refl _ _) rfl)
                            · intro a w' hx hu hd K hK; have e66 := Flow.got (hd 6 (by decide)) 66 rfl; refine Flow.want rfl ?_; refine Flow.val_call rfl Tryd.func38 (by kernel_rfl) rfl (by simp only [List.map_toArray, List.map_cons, List.map_nil, Act.eval, e66]) (rnum_c zg hzg w') ?_; rintro e w2 ⟨rfl, hb2⟩; exact ⟨_, rfl, hK _ _ hb2 (by rfl)⟩
                            · intro a w' hx hu hd K hK; have e64 := Flow.got (hd 4 (by decide)) 64 rfl; have e67 := Flow.got (hd 7 (by decide)) 67 rfl; exact Flow.run1 rfl (Ht23_8.out ▸ cat rfl e64 e67 zt23_4 (itoa_size zg hzg) (by decide)) (hK _ _ (Below.refl _ _) rfl)
                            · intro a w' hx hu hd K hK; have e68 := Flow.got (hd 8 (by decide)) 68 rfl; exact Flow.run1 rfl (Flow.r_assign rfl e68) (hK _ _ (Below.refl _ _) rfl)
                          · intro vs W23 hb23 hT
                            have v0 := Flow.eqn (hT 0 (by decide))
                            have v1 := Flow.eqn (hT 1 (by decide))
                            have v2 := Flow.eqn (hT 2 (by decide))
                            have v3 := Flow.eqn (hT 3 (by decide))
                            have v4 := Flow.eqn (hT 4 (by decide))
                            have v5 := Flow.eqn (hT 5 (by decide))
                            have v6 := Flow.eqn (hT 6 (by decide))
                            have v7 := Flow.eqn (hT 7 (by decide))
                            have v8 := Flow.eqn (hT 8 (by decide))
                            have v9 := Flow.eqn (hT 9 (by decide))
                            simp only [Flow.putsT, v0, v1, v2, v3, v4, v5, v6, v7, v8, v9, Act.put, List.setIfInBounds_toArray, List.set_cons_zero, List.set_cons_succ]
                            clear hT v0 v1 v2 v3 v4 v5 v6 v7 v8 v9
                            have HB23 := Aside0.mk (below_step HB22.out hb23)
                            have Kg21_22_23 := Aside0.mk (blk_below Kg21_22.out hb23)
                            clear hb23
                            obtain ⟨Pz, HPz⟩ : ∃ x, Aside0 (t ++ itoaB i = x) := ⟨_, ⟨rfl⟩⟩
                            have HE1 := Aside0.mk (show t23_8 = Pz ++ ⟨#[58, 32]⟩ ++ wordsB (zl1 zg) by rw [ByteArray.append_assoc, ← tz1, ← HPz.out]; simp only [← Ht23_8.out, ← Ht23_4.out, ← Ht23_3.out]; simp only [ByteArray.append_assoc])
                            have Kg1_2_3_4_18_24 := Aside0.mk (blk_below Kg1_2_3_4_18.out HB23.out)
                            have HCP2 := Aside0.mk (Kd.C_below HCP.out HB23.out)
                            obtain ⟨b0, Hb0⟩ : ∃ b, Aside0 (decide (zi < 0) = b) := ⟨_, ⟨rfl⟩⟩
                            go_upto_region 15 with fail
                            refine Flow.seqT (E := fun u v => Below u.heap.size u v) [(some 69, []), (some 70, [0]), (some 71, [1])] (fun iQ vQ wQ => match iQ with | 0 => vQ = (.pointer (some ⟨g21, 1, none⟩)) | 1 => vQ = (.int .i64 zi) | 2 => vQ = (.bool b0) | _ => True) rfl (by kernel_rfl) (Below.refl _ _) (fun _ _ _ h k => h.trans (k.mono h.size)) (fun _ _ _ _ h _ => h) ?_ ?_
                            · refine ⟨?_, ?_, ?_, trivial⟩
                              · intro a w' hx hu hd K hK; have e7 : a.tmps.getD 7 undef = (.pointer (some ⟨g21, 0, none⟩)) := hu 7 rfl; exact Flow.run1 rfl (fa rfl e7 (fa82_1 _ _ _)) (hK _ _ (Below.refl _ _) rfl)
                              · intro a w' hx hu hd K hK; have e69 := Flow.got (hd 0 rfl) 69 rfl; exact Flow.run1 rfl (ld rfl e69 ((blk_cell (blk_below Kg21_22_23.out hx) 1).trans rfl) Tryd.underlying3 rfl) (hK _ _ (Below.refl _ _) rfl)
                              · intro a w' hx hu hd K hK; have e70 := Flow.got (hd 1 rfl) 70 rfl; exact Flow.run1 rfl (is (lss rfl e70 rfl) Hb0.out) (hK _ _ (Below.refl _ _) rfl)
                            · intro vs W25 hb25 hT
                              have v0 := Flow.eqn (hT 0 (by decide))
                              have v1 := Flow.eqn (hT 1 (by decide))
                              have v2 := Flow.eqn (hT 2 (by decide))
                              simp only [Flow.putsT, v0, v1, v2, Act.put, List.setIfInBounds_toArray, List.set_cons_zero, List.set_cons_succ]
                              clear hT v0 v1 v2
                              have HB25 := Aside0.mk hb25
                              clear hb25
                              go_upto_if 71 with fail
                              go_cut [3] (fun v wx => ∃ t2 : ByteArray, v = .string t2 ∧ Aside0 (t2.size ≤ 50100075) ∧ Aside0 (t2 = Pz ++ ⟨#[58, 32]⟩ ++ wordsB (zl2 zg zi b0)) ∧ Aside0 (Below W23.heap.size W23 wx))
                              case first =>
                                cases b0 with
                                | true =>
                                  go_upto_region 16 with fail
                                  obtain ⟨t26_1, Ht26_1⟩ : ∃ tQ, Aside0 (t23_8 ++ ⟨#[32, 110, 111, 110, 101]⟩ = tQ) := ⟨_, ⟨rfl⟩⟩
                                  have zt26_1 : t26_1.size ≤ 50100053 := Ht26_1.out ▸ szapp zt23_8 (Nat.le_refl 5) (by decide)
                                  refine Flow.seqT (E := fun u v => Below u.heap.size u v) [(some 72, []), (some 73, [0]), (some 3, [1, 0, 1])] (fun iQ vQ wQ => match iQ with | 0 => vQ = (.string t23_8) | 1 => vQ = (.string t26_1) | 2 => vQ = (.string t26_1) | _ => True) rfl (by kernel_rfl) (Below.refl _ _) (fun _ _ _ h k => h.trans (k.mono h.size)) (fun _ _ _ _ h _ => h) ?_ ?_
                                  · refine ⟨?_, ?_, ?_, trivial⟩
                                    · intro a w' hx hu hd K hK; have e3 : a.tmps.getD 3 undef = (.string t23_8) := hu 3 rfl; exact Flow.run1 rfl (Flow.r_move rfl e3) (hK _ _ (Below.refl _ _) rfl)
                                    · intro a w' hx hu hd K hK; have e72 := Flow.got (hd 0 rfl) 72 rfl; exact Flow.run1 rfl (Ht26_1.out ▸ cat rfl e72 rfl zt23_8 (Nat.le_refl 5) (by decide)) (hK _ _ (Below.refl _ _) rfl)
                                    · intro a w' hx hu hd K hK; have e73 := Flow.got (hd 1 rfl) 73 rfl; exact Flow.run1 rfl (Flow.r_assign rfl e73) (hK _ _ (Below.refl _ _) rfl)
                                  · intro vs W26 hb26 hT
                                    have v0 := Flow.eqn (hT 0 (by decide))
                                    have v1 := Flow.eqn (hT 1 (by decide))
                                    have v2 := Flow.eqn (hT 2 (by decide))
                                    simp only [Flow.putsT, v0, v1, v2, Act.put, List.setIfInBounds_toArray, List.set_cons_zero, List.set_cons_succ]
                                    clear hT v0 v1 v2
                                    have HB26 := Aside0.mk (below_step HB25.out hb26)
                                    clear hb26
                                    go_wp2_with fail
                                    go_meet
                                    exact ⟨_, rfl, ⟨Nat.le_trans zt26_1 (by decide)⟩, ⟨by rw [← Ht26_1.out, HE1.out, tz2t]; simp only [ByteArray.append_assoc]⟩, HB26⟩
                                | false =>
                                  go_upto_region 17 with fail
                                  obtain ⟨t27_1, Ht27_1⟩ : ∃ tQ, Aside0 (t23_8 ++ ⟨#[32, 115, 108, 111, 116, 32]⟩ = tQ) := ⟨_, ⟨rfl⟩⟩
                                  have zt27_1 : t27_1.size ≤ 50100054 := Ht27_1.out ▸ szapp zt23_8 (Nat.le_refl 6) (by decide)
                                  obtain ⟨t27_5, Ht27_5⟩ : ∃ tQ, Aside0 (t27_1 ++ itoaB zi = tQ) := ⟨_, ⟨rfl⟩⟩
                                  have zt27_5 : t27_5.size ≤ 50100075 := Ht27_5.out ▸ szapp zt27_1 (itoa_size zi hzi) (by decide)
                                  refine Flow.seqT (E := fun u v => Below u.heap.size u v) [(some 74, []), (some 75, [0]), (some 76, []), (some 77, [2]), (some 78, [3]), (some 79, [1, 4]), (some 3, [5, 4, 0, 1, 2, 3, 4, 5])] (fun iQ vQ wQ => match iQ with | 0 => vQ = (.string t23_8) | 1 => vQ = (.string t27_1) | 2 => vQ = (.pointer (some ⟨g21, 1, none⟩)) | 3 => vQ = (.int .i64 zi) | 4 => vQ = (.string (itoaB zi)) | 5 => vQ = (.string t27_5) | 6 => vQ = (.string t27_5) | _ => True) rfl (by kernel_rfl) (Below.refl _ _) (fun _ _ _ h k => h.trans (k.mono h.size)) (fun _ _ _ _ h _ => h) ?_ ?_
                                  · refine ⟨?_, ?_, ?_, ?_, ?_, ?_, ?_, trivial⟩
                                    · intro a w' hx hu hd K hK; have e3 : a.tmps.getD 3 undef = (.string t23_8) := hu 3 rfl; exact Flow.run1 rfl (Flow.r_move rfl e3) (hK _ _ (Below.refl _ _) rfl)
                                    · intro a w' hx hu hd K hK; have e74 := Flow.got (hd 0 rfl) 74 rfl; exact Flow.run1 rfl (Ht27_1.out ▸ cat rfl e74 rfl zt23_8 (Nat.le_refl 6) (by decide)) (hK _ _ (Below.refl _ _) rfl)
                                    · intro a w' hx hu hd K hK; have e7 : a.tmps.getD 7 undef = (.pointer (some ⟨g21, 0, none⟩)) := hu 7 rfl; exact Flow.run1 rfl (fa rfl e7 (fa82_1 _ _ _)) (hK _ _ (Below.refl _ _) rfl)
                                    · intro a w' hx hu hd K hK; have e76 := Flow.got (hd 2 rfl) 76 rfl; exact Flow.run1 rfl (ld rfl e76 ((blk_cell (blk_below Kg21_22_23.out (below_step HB25.out hx)) 1).trans rfl) Tryd.underlying3 rfl) (hK _ _ (Below.refl _ _) rfl)
                                    · intro a w' hx hu hd K hK; have e77 := Flow.got (hd 3 rfl) 77 rfl; refine Flow.want rfl ?_; refine Flow.val_call rfl Tryd.func38 (by kernel_rfl) rfl (by simp only [List.map_toArray, List.map_cons, List.map_nil, Act.eval, e77]) (rnum_c zi hzi w') ?_; rintro e w2 ⟨rfl, hb2⟩; exact ⟨_, rfl, hK _ _ hb2 (by rfl)⟩
                                    · intro a w' hx hu hd K hK; have e75 := Flow.got (hd 1 rfl) 75 rfl; have e78 := Flow.got (hd 4 rfl) 78 rfl; exact Flow.run1 rfl (Ht27_5.out ▸ cat rfl e75 e78 zt27_1 (itoa_size zi hzi) (by decide)) (hK _ _ (Below.refl _ _) rfl)
                                    · intro a w' hx hu hd K hK; have e79 := Flow.got (hd 5 rfl) 79 rfl; exact Flow.run1 rfl (Flow.r_assign rfl e79) (hK _ _ (Below.refl _ _) rfl)
                                  · intro vs W27 hb27 hT
                                    have v0 := Flow.eqn (hT 0 (by decide))
                                    have v1 := Flow.eqn (hT 1 (by decide))
                                    have v2 := Flow.eqn (hT 2 (by decide))
                                    have v3 := Flow.eqn (hT 3 (by decide))
                                    have v4 := Flow.eqn (hT 4 (by decide))
                                    have v5 := Flow.eqn (hT 5 (by decide))
                                    have v6 := Flow.eqn (hT 6 (by decide))
                                    simp only [Flow.putsT, v0, v1, v2, v3, v4, v5, v6, Act.put, List.setIfInBounds_toArray, List.set_cons_zero, List.set_cons_succ]
                                    clear hT v0 v1 v2 v3 v4 v5 v6
                                    have HB27 := Aside0.mk (below_step HB25.out hb27)
                                    clear hb27
                                    go_wp2_with fail
                                    go_meet
                                    exact ⟨_, rfl, ⟨Nat.le_trans zt27_5 (by decide)⟩, ⟨by rw [← Ht27_5.out, ← Ht27_1.out, HE1.out, tz2f]; simp only [ByteArray.append_assoc]⟩, HB27⟩
                              case rest =>
                                clear HB25 HE1
                                obtain ⟨t28, rfl, Zt28, HE28, HBc28⟩ := hcut
                                have zt28 := Zt28.out
                                clear Zt28
                                go_upto_region 18 with fail
                                refine Flow.seqT (E := fun u v => Below u.heap.size u v) [(some 80, []), (some 81, [0])] (fun iQ vQ wQ => match iQ with | 0 => vQ = (.pointer (some ⟨g21, 2, none⟩)) | 1 => vQ = (.bool zf) | _ => True) rfl (by kernel_rfl) (Below.refl _ _) (fun _ _ _ h k => h.trans (k.mono h.size)) (fun _ _ _ _ h _ => h) ?_ ?_
                                · refine ⟨?_, ?_, trivial⟩
                                  · intro a w' hx hu hd K hK; have e7 : a.tmps.getD 7 undef = (.pointer (some ⟨g21, 0, none⟩)) := hu 7 rfl; exact Flow.run1 rfl (fa rfl e7 (fa82_2 _ _ _)) (hK _ _ (Below.refl _ _) rfl)
                                  · intro a w' hx hu hd K hK; have e80 := Flow.got (hd 0 rfl) 80 rfl; exact Flow.run1 rfl (ld rfl e80 ((blk_cell (blk_below Kg21_22_23.out (below_step HBc28.out hx)) 2).trans rfl) Tryd.underlying4 rfl) (hK _ _ (Below.refl _ _) rfl)
                                · intro vs W29 hb29 hT
                                  have v0 := Flow.eqn (hT 0 (by decide))
                                  have v1 := Flow.eqn (hT 1 (by decide))
                                  simp only [Flow.putsT, v0, v1, Act.put, List.setIfInBounds_toArray, List.set_cons_zero, List.set_cons_succ]
                                  clear hT v0 v1
                                  have HB29 := Aside0.mk (below_step HBc28.out hb29)
                                  clear hb29
                                  go_upto_if 81 with fail
                                  go_cut [3] (fun v wx => ∃ t2 : ByteArray, v = .string t2 ∧ Aside0 (t2.size ≤ 50100102) ∧ Aside0 (t2 = Pz ++ ⟨#[58, 32]⟩ ++ wordsB (zl3 zg zi b0 zf zw)) ∧ Aside0 (Below W23.heap.size W23 wx))
                                  case first =>
                                    cases zf with
                                    | true =>
                                      go_upto_region 19 with fail
                                      obtain ⟨t30_1, Ht30_1⟩ : ∃ tQ, Aside0 (t28 ++ ⟨#[32, 102, 117, 108, 108, 32]⟩ = tQ) := ⟨_, ⟨rfl⟩⟩
                                      have zt30_1 : t30_1.size ≤ 50100081 := Ht30_1.out ▸ szapp zt28 (Nat.le_refl 6) (by decide)
                                      obtain ⟨t30_5, Ht30_5⟩ : ∃ tQ, Aside0 (t30_1 ++ itoaB zw = tQ) := ⟨_, ⟨rfl⟩⟩
                                      have zt30_5 : t30_5.size ≤ 50100102 := Ht30_5.out ▸ szapp zt30_1 (itoa_size zw hzw) (by decide)
                                      refine Flow.seqT (E := fun u v => Below u.heap.size u v) [(some 82, []), (some 83, [0]), (some 84, []), (some 85, [2]), (some 86, [3]), (some 87, [1, 4]), (some 3, [5, 4, 0, 1, 2, 3, 4, 5])] (fun iQ vQ wQ => match iQ with | 0 => vQ = (.string t28) | 1 => vQ = (.string t30_1) | 2 => vQ = (.pointer (some ⟨g21, 3, none⟩)) | 3 => vQ = (.int .i64 zw) | 4 => vQ = (.string (itoaB zw)) | 5 => vQ = (.string t30_5) | 6 => vQ = (.string t30_5) | _ => True) rfl (by kernel_rfl) (Below.refl _ _) (fun _ _ _ h k => h.trans (k.mono h.size)) (fun _ _ _ _ h _ => h) ?_ ?_
                                      · refine ⟨?_, ?_, ?_, ?_, ?_, ?_, ?_, trivial⟩
                                        · intro a w' hx hu hd K hK; have e3 : a.tmps.getD 3 undef = (.string t28) := hu 3 rfl; exact Flow.run1 rfl (Flow.r_move rfl e3) (hK _ _ (Below.refl _ _) rfl)
                                        · intro a w' hx hu hd K hK; have e82 := Flow.got (hd 0 rfl) 82 rfl; exact Flow.run1 rfl (Ht30_1.out ▸ cat rfl e82 rfl zt28 (Nat.le_refl 6) (by decide)) (hK _ _ (Below.refl _ _) rfl)
                                        · intro a w' hx hu hd K hK; have e7 : a.tmps.getD 7 undef = (.pointer (some ⟨g21, 0, none⟩)) := hu 7 rfl; exact Flow.run1 rfl (fa rfl e7 (fa82_3 _ _ _)) (hK _ _ (Below.refl _ _) rfl)
                                        · intro a w' hx hu hd K hK; have e84 := Flow.got (hd 2 rfl) 84 rfl; exact Flow.run1 rfl (ld rfl e84 ((blk_cell (blk_below Kg21_22_23.out (below_step HB29.out hx)) 3).trans rfl) Tryd.underlying3 rfl) (hK _ _ (Below.refl _ _) rfl)
                                        · intro a w' hx hu hd K hK; have e85 := Flow.got (hd 3 rfl) 85 rfl; refine Flow.want rfl ?_; refine Flow.val_call rfl Tryd.func38 (by kernel_rfl) rfl (by simp only [List.map_toArray, List.map_cons, List.map_nil, Act.eval, e85]) (rnum_c zw hzw w') ?_; rintro e w2 ⟨rfl, hb2⟩; exact ⟨_, rfl, hK _ _ hb2 (by rfl)⟩
                                        · intro a w' hx hu hd K hK; have e83 := Flow.got (hd 1 rfl) 83 rfl; have e86 := Flow.got (hd 4 rfl) 86 rfl; exact Flow.run1 rfl (Ht30_5.out ▸ cat rfl e83 e86 zt30_1 (itoa_size zw hzw) (by decide)) (hK _ _ (Below.refl _ _) rfl)
                                        · intro a w' hx hu hd K hK; have e87 := Flow.got (hd 5 rfl) 87 rfl; exact Flow.run1 rfl (Flow.r_assign rfl e87) (hK _ _ (Below.refl _ _) rfl)
                                      · intro vs W30 hb30 hT
                                        have v0 := Flow.eqn (hT 0 (by decide))
                                        have v1 := Flow.eqn (hT 1 (by decide))
                                        have v2 := Flow.eqn (hT 2 (by decide))
                                        have v3 := Flow.eqn (hT 3 (by decide))
                                        have v4 := Flow.eqn (hT 4 (by decide))
                                        have v5 := Flow.eqn (hT 5 (by decide))
                                        have v6 := Flow.eqn (hT 6 (by decide))
                                        simp only [Flow.putsT, v0, v1, v2, v3, v4, v5, v6, Act.put, List.setIfInBounds_toArray, List.set_cons_zero, List.set_cons_succ]
                                        clear hT v0 v1 v2 v3 v4 v5 v6
                                        have HB30 := Aside0.mk (below_step HB29.out hb30)
                                        clear hb30
                                        go_wp2_with fail
                                        go_meet
                                        exact ⟨_, rfl, ⟨Nat.le_trans zt30_5 (by decide)⟩, ⟨by rw [← Ht30_5.out, ← Ht30_1.out, HE28.out, tz3t]; simp only [ByteArray.append_assoc]⟩, HB30⟩
                                    | false =>
                                      go_wp2_with fail
                                      go_meet
                                      exact ⟨_, rfl, ⟨Nat.le_trans zt28 (by decide)⟩, ⟨by rw [HE28.out, tz3f]⟩, HB29⟩
                                  case rest =>
                                    clear HB29 HE28
                                    obtain ⟨t31, rfl, Zt31, HE31, HBc31⟩ := hcut
                                    have zt31 := Zt31.out
                                    clear Zt31
                                    go_upto_region 20 with fail
                                    refine Flow.seqT (E := fun u v => Below u.heap.size u v) [(some 88, []), (some 89, [0])] (fun iQ vQ wQ => match iQ with | 0 => vQ = (.pointer (some ⟨g21, 4, none⟩)) | 1 => vQ = (.bool zh) | _ => True) rfl (by kernel_rfl) (Below.refl _ _) (fun _ _ _ h k => h.trans (k.mono h.size)) (fun _ _ _ _ h _ => h) ?_ ?_
                                    · refine ⟨?_, ?_, trivial⟩
                                      · intro a w' hx hu hd K hK; have e7 : a.tmps.getD 7 undef = (.pointer (some ⟨g21, 0, none⟩)) := hu 7 rfl; exact Flow.run1 rfl (fa rfl e7 (fa82_4 _ _ _)) (hK _ _ (Below.refl _ _) rfl)
                                      · intro a w' hx hu hd K hK; have e88 := Flow.got (hd 0 rfl) 88 rfl; exact Flow.run1 rfl (ld rfl e88 ((blk_cell (blk_below Kg21_22_23.out (below_step HBc31.out hx)) 4).trans rfl) Tryd.underlying4 rfl) (hK _ _ (Below.refl _ _) rfl)
                                    · intro vs W32 hb32 hT
                                      have v0 := Flow.eqn (hT 0 (by decide))
                                      have v1 := Flow.eqn (hT 1 (by decide))
                                      simp only [Flow.putsT, v0, v1, Act.put, List.setIfInBounds_toArray, List.set_cons_zero, List.set_cons_succ]
                                      clear hT v0 v1
                                      have HB32 := Aside0.mk (below_step HBc31.out hb32)
                                      clear hb32
                                      go_upto_if 89 with fail
                                      go_cut [3] (fun v wx => ∃ t2 : ByteArray, v = .string t2 ∧ Aside0 (t2.size ≤ 50100108) ∧ Aside0 (t2 = Pz ++ ⟨#[58, 32]⟩ ++ wordsB (zl4 zg zi b0 zf zw zh)) ∧ Aside0 (Below W23.heap.size W23 wx))
                                      case first =>
                                        cases zh with
                                        | true =>
                                          go_upto_region 21 with fail
                                          obtain ⟨t33_1, Ht33_1⟩ : ∃ tQ, Aside0 (t31 ++ ⟨#[32, 119, 104, 111, 108, 101]⟩ = tQ) := ⟨_, ⟨rfl⟩⟩
                                          have zt33_1 : t33_1.size ≤ 50100108 := Ht33_1.out ▸ szapp zt31 (Nat.le_refl 6) (by decide)
                                          refine Flow.seqT (E := fun u v => Below u.heap.size u v) [(some 90, []), (some 91, [0]), (some 3, [1, 0, 1])] (fun iQ vQ wQ => match iQ with | 0 => vQ = (.string t31) | 1 => vQ = (.string t33_1) | 2 => vQ = (.string t33_1) | _ => True) rfl (by kernel_rfl) (Below.refl _ _) (fun _ _ _ h k => h.trans (k.mono h.size)) (fun _ _ _ _ h _ => h) ?_ ?_
                                          · refine ⟨?_, ?_, ?_, trivial⟩
                                            · intro a w' hx hu hd K hK; have e3 : a.tmps.getD 3 undef = (.string t31) := hu 3 rfl; exact Flow.run1 rfl (Flow.r_move rfl e3) (hK _ _ (Below.refl _ _) rfl)
                                            · intro a w' hx hu hd K hK; have e90 := Flow.got (hd 0 rfl) 90 rfl; exact Flow.run1 rfl (Ht33_1.out ▸ cat rfl e90 rfl zt31 (Nat.le_refl 6) (by decide)) (hK _ _ (Below.refl _ _) rfl)
                                            · intro a w' hx hu hd K hK; have e91 := Flow.got (hd 1 rfl) 91 rfl; exact Flow.run1 rfl (Flow.r_assign rfl e91) (hK _ _ (Below.refl _ _) rfl)
                                          · intro vs W33 hb33 hT
                                            have v0 := Flow.eqn (hT 0 (by decide))
                                            have v1 := Flow.eqn (hT 1 (by decide))
                                            have v2 := Flow.eqn (hT 2 (by decide))
                                            simp only [Flow.putsT, v0, v1, v2, Act.put, List.setIfInBounds_toArray, List.set_cons_zero, List.set_cons_succ]
                                            clear hT v0 v1 v2
                                            have HB33 := Aside0.mk (below_step HB32.out hb33)
                                            clear hb33
                                            go_wp2_with fail
                                            go_meet
                                            exact ⟨_, rfl, ⟨Nat.le_trans zt33_1 (by decide)⟩, ⟨by rw [← Ht33_1.out, HE31.out, tz4t]; simp only [ByteArray.append_assoc]⟩, HB33⟩
                                        | false =>
                                          go_wp2_with fail
                                          go_meet
                                          exact ⟨_, rfl, ⟨Nat.le_trans zt31 (by decide)⟩, ⟨by rw [HE31.out, tz4f]⟩, HB32⟩
                                      case rest =>
                                        clear HB32 HE31
                                        obtain ⟨t34, rfl, Zt34, HE34, HBc34⟩ := hcut
                                        have zt34 := Zt34.out
                                        clear Zt34
                                        go_upto_region 22 with fail
                                        refine Flow.seqT (E := fun u v => Below u.heap.size u v) [(some 8, [])] (fun iQ vQ wQ => match iQ with | 0 => vQ = (.int .i64 0) | _ => True) rfl (by kernel_rfl) (Below.refl _ _) (fun _ _ _ h k => h.trans (k.mono h.size)) (fun _ _ _ _ h _ => h) ?_ ?_
                                        · refine ⟨?_, trivial⟩
                                          · intro a w' hx hu hd K hK; exact Flow.run1 rfl (Flow.r_assign rfl rfl) (hK _ _ (Below.refl _ _) rfl)
                                        · intro vs W35 hb35 hT
                                          have v0 := Flow.eqn (hT 0 (by decide))
                                          simp only [Flow.putsT, v0, Act.put, List.setIfInBounds_toArray, List.set_cons_zero, List.set_cons_succ]
                                          clear hT v0
                                          have HB35 := Aside0.mk (below_step HBc34.out hb35)
                                          clear hb35
                                          go_wp2
                                          go_loopg [3, 8] np (fun gg v3 v8 wr => ∃ (j : Nat) (t : ByteArray), j ≤ np ∧ Aside0 (gg = np - j) ∧ v8 = .int .i64 j ∧ Aside0 (Below W23.heap.size W23 wr) ∧ v3 = .string t ∧ Aside0 (t = Pz ++ ⟨#[58, 32]⟩ ++ wordsB (zl4 zg zi b0 zf zw zh ++ parL (ps.take j))))
                                          case atStart => exact ⟨0, _, Nat.zero_le _, ⟨rfl⟩, rfl, HB35, rfl, ⟨by rw [show parL (ps.take 0) = [] from rfl, List.append_nil]; exact HE34.out⟩⟩
                                          case round =>
                                            clear HB35 HE34
                                            obtain ⟨j, t3, hj, HGJ, rfl, HBR3, rfl, HT3⟩ := hrel
                                            have zt3 : t3.size ≤ 60000000 := by rw [HT3.out, ByteArray.size_append, ByteArray.size_append, ← HPz.out, ByteArray.size_append]; have h1 := tzs zg zi hzg hzi b0 Hb0.out zf zw hzw zh ps HZP.out (by rw [HNP.out]; exact hps) j; have h2 := itoa_size i (by unfold I64; omega); have h3 : (⟨#[58, 32]⟩ : ByteArray).size = 2 := rfl; omega
                                            by_cases hlt5 : j < np
                                            · have hlt6 : (j : Int) < np := by omega
                                              go_upto_region 23 with fail
                                              refine Flow.seqT (E := fun u v => Below u.heap.size u v) [(some 92, []), (some 93, []), (some 94, [1]), (some 95, [2]), (some 96, [0, 3])] (fun iQ vQ wQ => match iQ with | 0 => vQ = (.int .i64 j) | 1 => vQ = (.pointer (some ⟨g21, 5, none⟩)) | 2 => vQ = (.slice B np c2) | 3 => vQ = (.int .i64 np) | 4 => vQ = (.bool true) | _ => True) rfl (by kernel_rfl) (Below.refl _ _) (fun _ _ _ h k => h.trans (k.mono h.size)) (fun _ _ _ _ h _ => h) ?_ ?_
                                              · refine ⟨?_, ?_, ?_, ?_, ?_, trivial⟩
                                                · intro a w' hx hu hd K hK; have e8 : a.tmps.getD 8 undef = (.int .i64 j) := hu 8 rfl; exact Flow.run1 rfl (Flow.r_move rfl e8) (hK _ _ (Below.refl _ _) rfl)
                                                · intro a w' hx hu hd K hK; have e7 : a.tmps.getD 7 undef = (.pointer (some ⟨g21, 0, none⟩)) := hu 7 rfl; exact Flow.run1 rfl (fa rfl e7 (fa82_5 _ _ _)) (hK _ _ (Below.refl _ _) rfl)
                                                · intro a w' hx hu hd K hK; have e93 := Flow.got (hd 1 rfl) 93 rfl; exact Flow.run1 rfl (ld rfl e93 ((blk_cell (blk_below Kg21_22_23.out (below_step HBR3.out hx)) 5).trans rfl) Tryd.underlying80 rfl) (hK _ _ (Below.refl _ _) rfl)
                                                · intro a w' hx hu hd K hK; have e94 := Flow.got (hd 2 rfl) 94 rfl; exact Flow.run1 rfl (lenL Tryd.underlying80 rfl e94) (hK _ _ (Below.refl _ _) rfl)
                                                · intro a w' hx hu hd K hK; have e92 := Flow.got (hd 0 rfl) 92 rfl; have e95 := Flow.got (hd 3 rfl) 95 rfl; exact Flow.run1 rfl (yes (lss rfl e92 e95) (decide_eq_true hlt6)) (hK _ _ (Below.refl _ _) rfl)
                                              · intro vs W36 hb36 hT
                                                have v0 := Flow.eqn (hT 0 (by decide))
                                                have v1 := Flow.eqn (hT 1 (by decide))
                                                have v2 := Flow.eqn (hT 2 (by decide))
                                                have v3 := Flow.eqn (hT 3 (by decide))
                                                have v4 := Flow.eqn (hT 4 (by decide))
                                                simp only [Flow.putsT, v0, v1, v2, v3, v4, Act.put, List.setIfInBounds_toArray, List.set_cons_zero, List.set_cons_succ]
                                                clear hT v0 v1 v2 v3 v4
                                                have HB36 := Aside0.mk (below_step HBR3.out hb36)
                                                clear hb36
                                                obtain ⟨ad2, B2, c3, hA2, hlies2⟩ := elem84 HCP2.out j hlt5
                                                subst hA2
                                                have HTP := Aside0.mk (tzp zg zi b0 zf zw zh ps j (by rw [HNP.out]; exact hlt5))
                                                have hGp := HZP.out j
                                                obtain ⟨p, hp⟩ : ∃ q, ps.getD j z84 = q := ⟨_, rfl⟩
                                                rw [hp] at hlies2 HTP hGp
                                                clear hp
                                                have HLI2 := Aside0.mk hlies2
                                                clear hlies2
                                                go_upto_region 25 with fail
                                                obtain ⟨t37_1, Ht37_1⟩ : ∃ tQ, Aside0 (t3 ++ ⟨#[32, 112, 97, 114, 32]⟩ = tQ) := ⟨_, ⟨rfl⟩⟩
                                                have zt37_1 : t37_1.size ≤ 60000005 := Ht37_1.out ▸ szapp zt3 (Nat.le_refl 5) (by decide)
                                                obtain ⟨t37_9, Ht37_9⟩ : ∃ tQ, Aside0 (t37_1 ++ itoaB p.f0 = tQ) := ⟨_, ⟨rfl⟩⟩
                                                have zt37_9 : t37_9.size ≤ 60000026 := Ht37_9.out ▸ szapp zt37_1 (itoa_size p.f0 hGp) (by decide)
                                                refine Flow.seqT (E := fun u v => Below u.heap.size u v) [(some 99, []), (some 100, [0]), (some 101, []), (some 102, [2]), (some 103, []), (some 104, [3, 4]), (some 105, [5]), (some 106, [6]), (some 107, [7]), (some 108, [1, 8]), (some 3, [9, 8, 0, 1, 2, 3, 4, 5, 6, 7, 8, 9])] (fun iQ vQ wQ => match iQ with | 0 => vQ = (.string t3) | 1 => vQ = (.string t37_1) | 2 => vQ = (.pointer (some ⟨g21, 5, none⟩)) | 3 => vQ = (.slice (some ad2) np c2) | 4 => vQ = (.int .i64 j) | 5 => vQ = (.pointer (some (ad2.add (j * 2)))) | 6 => vQ = (.pointer (some ((ad2.add (j * 2)).add 0))) | 7 => vQ = (.int .i64 p.f0) | 8 => vQ = (.string (itoaB p.f0)) | 9 => vQ = (.string t37_9) | 10 => vQ = (.string t37_9) | _ => True) rfl (by kernel_rfl) (Below.refl _ _) (fun _ _ _ h k => h.trans (k.mono h.size)) (fun _ _ _ _ h _ => h) ?_ ?_
                                                · refine ⟨?_, ?_, ?_, ?_, ?_, ?_, ?_, ?_, ?_, ?_, ?_, trivial⟩
                                                  · intro a w' hx hu hd K hK; have e3 : a.tmps.getD 3 undef = (.string t3) := hu 3 rfl; exact Flow.run1 rfl (Flow.r_move rfl e3) (hK _ _ (Below.refl _ _) rfl)
                                                  · intro a w' hx hu hd K hK; have e99 := Flow.got (hd 0 rfl) 99 rfl; exact Flow.run1 rfl (Ht37_1.out ▸ cat rfl e99 rfl zt3 (Nat.le_refl 5) (by decide)) (hK _ _ (Below.refl _ _) rfl)
                                                  · intro a w' hx hu hd K hK; have e7 : a.tmps.getD 7 undef = (.pointer (some ⟨g21, 0, none⟩)) := hu 7 rfl; exact Flow.run1 rfl (fa rfl e7 (fa82_5 _ _ _)) (hK _ _ (Below.refl _ _) rfl)
                                                  · intro a w' hx hu hd K hK; have e101 := Flow.got (hd 2 rfl) 101 rfl; exact Flow.run1 rfl (ld rfl e101 ((blk_cell (blk_below Kg21_22_23.out (below_step HB36.out hx)) 5).trans rfl) Tryd.underlying80 rfl) (hK _ _ (Below.refl _ _) rfl)
                                                  · intro a w' hx hu hd K hK; have e8 : a.tmps.getD 8 undef = (.int .i64 j) := hu 8 rfl; exact Flow.run1 rfl (Flow.r_move rfl e8) (hK _ _ (Below.refl _ _) rfl)
                                                  · intro a w' hx hu hd K hK; have e102 := Flow.got (hd 3 rfl) 102 rfl; have e103 := Flow.got (hd 4 rfl) 103 rfl; exact Flow.run1 rfl (ix Tryd.underlying80 size84 rfl e102 e103 hlt5) (hK _ _ (Below.refl _ _) rfl)
                                                  · intro a w' hx hu hd K hK; have e104 := Flow.got (hd 5 rfl) 104 rfl; exact Flow.run1 rfl (fa rfl e104 (fad84_0 _ _)) (hK _ _ (Below.refl _ _) rfl)
                                                  · intro a w' hx hu hd K hK; have e105 := Flow.got (hd 6 rfl) 105 rfl; exact Flow.run1 rfl (ld rfl e105 (lies_below HLI2.out (below_step HB36.out hx) 0 _ rfl) Tryd.underlying3 rfl) (hK _ _ (Below.refl _ _) rfl)
                                                  · intro a w' hx hu hd K hK; have e106 := Flow.got (hd 7 rfl) 106 rfl; refine Flow.want rfl ?_; refine Flow.val_call rfl Tryd.func38 (by kernel_rfl) rfl (by simp only [List.map_toArray, List.map_cons, List.map_nil, Act.eval, e106]) (rnum_c p.f0 hGp w') ?_; rintro e w2 ⟨rfl, hb2⟩; exact ⟨_, rfl, hK _ _ hb2 (by rfl)⟩
                                                  · intro a w' hx hu hd K hK; have e100 := Flow.got (hd 1 rfl) 100 rfl; have e107 := Flow.got (hd 8 rfl) 107 rfl; exact Flow.run1 rfl (Ht37_9.out ▸ cat rfl e100 e107 zt37_1 (itoa_size p.f0 hGp) (by decide)) (hK _ _ (Below.refl _ _) rfl)
                                                  · intro a w' hx hu hd K hK; have e108 := Flow.got (hd 9 rfl) 108 rfl; exact Flow.run1 rfl (Flow.r_assign rfl e108) (hK _ _ (Below.refl _ _) rfl)
                                                · intro vs W37 hb37 hT
                                                  have v0 := Flow.eqn (hT 0 (by decide))
                                                  have v1 := Flow.eqn (hT 1 (by decide))
                                                  have v2 := Flow.eqn (hT 2 (by decide))
                                                  have v3 := Flow.eqn (hT 3 (by decide))
                                                  have v4 := Flow.eqn (hT 4 (by decide))
                                                  have v5 := Flow.eqn (hT 5 (by decide))
                                                  have v6 := Flow.eqn (hT 6 (by decide))
                                                  have v7 := Flow.eqn (hT 7 (by decide))
                                                  have v8 := Flow.eqn (hT 8 (by decide))
                                                  have v9 := Flow.eqn (hT 9 (by decide))
                                                  have v10 := Flow.eqn (hT 10 (by decide))
                                                  simp only [Flow.putsT, v0, v1, v2, v3, v4, v5, v6, v7, v8, v9, v10, Act.put, List.setIfInBounds_toArray, List.set_cons_zero, List.set_cons_succ]
                                                  clear hT v0 v1 v2 v3 v4 v5 v6 v7 v8 v9 v10
                                                  have HB37 := Aside0.mk (below_step HB36.out hb37)
                                                  clear hb37
                                                  go_wp2
                                                  go_roundg (np - (j + 1))
                                                  case measure => have := HGJ.out; omega
                                                  case rel => exact ⟨j + 1, _, by omega, ⟨rfl⟩, by go_num, HB37, rfl, ⟨by rw [HTP.out, ← Ht37_9.out, ← Ht37_1.out, HT3.out]; simp only [ByteArray.append_assoc]⟩⟩
                                            · obtain rfl : j = np := by omega
                                              have hlt6 : ¬ ((j : Nat) : Int) < j := by omega
                                              go_upto_region 23 with fail
                                              refine Flow.seqT (E := fun u v => Below u.heap.size u v) [(some 92, []), (some 93, []), (some 94, [1]), (some 95, [2]), (some 96, [0, 3])] (fun iQ vQ wQ => match iQ with | 0 => vQ = (.int .i64 j) | 1 => vQ = (.pointer (some ⟨g21, 5, none⟩)) | 2 => vQ = (.slice B j c2) | 3 => vQ = (.int .i64 j) | 4 => vQ = (.bool false) | _ => True) rfl (by kernel_rfl) (Below.refl _ _) (fun _ _ _ h k => h.trans (k.mono h.size)) (fun _ _ _ _ h _ => h) ?_ ?_
                                              · refine ⟨?_, ?_, ?_, ?_, ?_, trivial⟩
                                                · intro a w' hx hu hd K hK; have e8 : a.tmps.getD 8 undef = (.int .i64 j) := hu 8 rfl; exact Flow.run1 rfl (Flow.r_move rfl e8) (hK _ _ (Below.refl _ _) rfl)
                                                · intro a w' hx hu hd K hK; have e7 : a.tmps.getD 7 undef = (.pointer (some ⟨g21, 0, none⟩)) := hu 7 rfl; exact Flow.run1 rfl (fa rfl e7 (fa82_5 _ _ _)) (hK _ _ (Below.refl _ _) rfl)
                                                · intro a w' hx hu hd K hK; have e93 := Flow.got (hd 1 rfl) 93 rfl; exact Flow.run1 rfl (ld rfl e93 ((blk_cell (blk_below Kg21_22_23.out (below_step HBR3.out hx)) 5).trans rfl) Tryd.underlying80 rfl) (hK _ _ (Below.refl _ _) rfl)
                                                · intro a w' hx hu hd K hK; have e94 := Flow.got (hd 2 rfl) 94 rfl; exact Flow.run1 rfl (lenL Tryd.underlying80 rfl e94) (hK _ _ (Below.refl _ _) rfl)
                                                · intro a w' hx hu hd K hK; have e92 := Flow.got (hd 0 rfl) 92 rfl; have e95 := Flow.got (hd 3 rfl) 95 rfl; exact Flow.run1 rfl (no (lss rfl e92 e95) (decide_eq_false hlt6)) (hK _ _ (Below.refl _ _) rfl)
                                              · intro vs W38 hb38 hT
                                                have v0 := Flow.eqn (hT 0 (by decide))
                                                have v1 := Flow.eqn (hT 1 (by decide))
                                                have v2 := Flow.eqn (hT 2 (by decide))
                                                have v3 := Flow.eqn (hT 3 (by decide))
                                                have v4 := Flow.eqn (hT 4 (by decide))
                                                simp only [Flow.putsT, v0, v1, v2, v3, v4, Act.put, List.setIfInBounds_toArray, List.set_cons_zero, List.set_cons_succ]
                                                clear hT v0 v1 v2 v3 v4
                                                have HB38 := Aside0.mk (below_step HBR3.out hb38)
                                                clear hb38
                                                go_upto_region 26 with fail
                                                obtain ⟨t39_1, Ht39_1⟩ : ∃ tQ, Aside0 (t3 ++ ⟨#[10]⟩ = tQ) := ⟨_, ⟨rfl⟩⟩
                                                have zt39_1 : t39_1.size ≤ 60000001 := Ht39_1.out ▸ szapp zt3 (Nat.le_refl 1) (by decide)
                                                refine Flow.seqT (E := fun u v => Below u.heap.size u v) [(some 109, []), (some 110, [0]), (some 3, [1, 0, 1])] (fun iQ vQ wQ => match iQ with | 0 => vQ = (.string t3) | 1 => vQ = (.string t39_1) | 2 => vQ = (.string t39_1) | _ => True) rfl (by kernel_rfl) (Below.refl _ _) (fun _ _ _ h k => h.trans (k.mono h.size)) (fun _ _ _ _ h _ => h) ?_ ?_
                                                · refine ⟨?_, ?_, ?_, trivial⟩
                                                  · intro a w' hx hu hd K hK; have e3 : a.tmps.getD 3 undef = (.string t3) := hu 3 rfl; exact Flow.run1 rfl (Flow.r_move rfl e3) (hK _ _ (Below.refl _ _) rfl)
                                                  · intro a w' hx hu hd K hK; have e109 := Flow.got (hd 0 rfl) 109 rfl; exact Flow.run1 rfl (Ht39_1.out ▸ cat rfl e109 rfl zt3 (Nat.le_refl 1) (by decide)) (hK _ _ (Below.refl _ _) rfl)
                                                  · intro a w' hx hu hd K hK; have e110 := Flow.got (hd 1 rfl) 110 rfl; exact Flow.run1 rfl (Flow.r_assign rfl e110) (hK _ _ (Below.refl _ _) rfl)
                                                · intro vs W39 hb39 hT
                                                  have v0 := Flow.eqn (hT 0 (by decide))
                                                  have v1 := Flow.eqn (hT 1 (by decide))
                                                  have v2 := Flow.eqn (hT 2 (by decide))
                                                  simp only [Flow.putsT, v0, v1, v2, Act.put, List.setIfInBounds_toArray, List.set_cons_zero, List.set_cons_succ]
                                                  clear hT v0 v1 v2
                                                  have HB39 := Aside0.mk (below_step HB38.out hb39)
                                                  clear hb39
                                                  go_wp2
                                                  go_roundg (nz - (i + 1))
                                                  case measure => have := HGI.out; omega
                                                  case rel => exact ⟨i + 1, _, by omega, ⟨rfl⟩, by go_num, ⟨below_step HB23.out HB39.out⟩, rfl, ⟨by rw [HZL.out, ← Ht39_1.out, HT3.out, ← HPz.out, HT2.out, List.take_of_length_le (by rw [HNP.out]; exact Nat.le_refl _), ← Hb0.out]; simp only [zlineB, zlB, ByteArray.append_assoc]⟩⟩
                    · obtain rfl : i = nz := by omega
                      have hlt4 : ¬ ((i : Nat) : Int) < i := by omega
                      go_upto_region 11 with fail
                      refine Flow.seqT (E := fun u v => Below u.heap.size u v) [(some 48, []), (some 49, []), (some 50, [1]), (some 51, [2]), (some 52, [0, 3])] (fun iQ vQ wQ => match iQ with | 0 => vQ = (.int .i64 i) | 1 => vQ = (.pointer (some ⟨g1, 14, none⟩)) | 2 => vQ = (.slice Az i cz) | 3 => vQ = (.int .i64 i) | 4 => vQ = (.bool false) | _ => True) rfl (by kernel_rfl) (Below.refl _ _) (fun _ _ _ h k => h.trans (k.mono h.size)) (fun _ _ _ _ h _ => h) ?_ ?_
                      · refine ⟨?_, ?_, ?_, ?_, ?_, trivial⟩
                        · intro a w' hx hu hd K hK; have e6 : a.tmps.getD 6 undef = (.int .i64 i) := hu 6 rfl; exact Flow.run1 rfl (Flow.r_move rfl e6) (hK _ _ (Below.refl _ _) rfl)
                        · intro a w' hx hu hd K hK; have e1 : a.tmps.getD 1 undef = (.pointer (some ⟨g1, 0, none⟩)) := hu 1 rfl; exact Flow.run1 rfl (fa rfl e1 (fa38_4 _ _ _)) (hK _ _ (Below.refl _ _) rfl)
                        · intro a w' hx hu hd K hK; have e49 := Flow.got (hd 1 rfl) 49 rfl; exact Flow.run1 rfl (ld rfl e49 ((blk_cell (blk_below Kg1_2_3_4_18.out (below_step HBR2.out hx)) 14).trans rfl) Tryd.underlying36 rfl) (hK _ _ (Below.refl _ _) rfl)
                        · intro a w' hx hu hd K hK; have e50 := Flow.got (hd 2 rfl) 50 rfl; exact Flow.run1 rfl (lenL Tryd.underlying36 rfl e50) (hK _ _ (Below.refl _ _) rfl)
                        · intro a w' hx hu hd K hK; have e48 := Flow.got (hd 0 rfl) 48 rfl; have e51 := Flow.got (hd 3 rfl) 51 rfl; exact Flow.run1 rfl (no (lss rfl e48 e51) (decide_eq_false hlt4)) (hK _ _ (Below.refl _ _) rfl)
                      · intro vs W40 hb40 hT
                        have v0 := Flow.eqn (hT 0 (by decide))
                        have v1 := Flow.eqn (hT 1 (by decide))
                        have v2 := Flow.eqn (hT 2 (by decide))
                        have v3 := Flow.eqn (hT 3 (by decide))
                        have v4 := Flow.eqn (hT 4 (by decide))
                        simp only [Flow.putsT, v0, v1, v2, v3, v4, Act.put, List.setIfInBounds_toArray, List.set_cons_zero, List.set_cons_succ]
                        clear hT v0 v1 v2 v3 v4
                        have HB40 := Aside0.mk (below_step HBR2.out hb40)
                        clear hb40
                        go_upto_region 27 with fail
                        refine Flow.seqT (E := fun u v => Below u.heap.size u v) [(some 111, []), (some 2, [0, 0])] (fun iQ vQ wQ => match iQ with | 0 => vQ = (.string t) | 1 => vQ = (.string t) | _ => True) rfl (by kernel_rfl) (Below.refl _ _) (fun _ _ _ h k => h.trans (k.mono h.size)) (fun _ _ _ _ h _ => h) ?_ ?_
                        · refine ⟨?_, ?_, trivial⟩
                          · intro a w' hx hu hd K hK; have e3 : a.tmps.getD 3 undef = (.string t) := hu 3 rfl; exact Flow.run1 rfl (Flow.r_move rfl e3) (hK _ _ (Below.refl _ _) rfl)
                          · intro a w' hx hu hd K hK; have e111 := Flow.got (hd 0 rfl) 111 rfl; exact Flow.run1 rfl (Flow.r_assign rfl e111) (hK _ _ (Below.refl _ _) rfl)
                        · intro vs W41 hb41 hT
                          have v0 := Flow.eqn (hT 0 (by decide))
                          have v1 := Flow.eqn (hT 1 (by decide))
                          simp only [Flow.putsT, v0, v1, Act.put, List.setIfInBounds_toArray, List.set_cons_zero, List.set_cons_succ]
                          clear hT v0 v1
                          have HB41 := Aside0.mk (below_step HB40.out hb41)
                          clear hb41
                          go_wp2
                          go_ret
                          exact ⟨by rw [HT2.out, ← HP0.out, ← Ht16_1.out, HTL.out]; rfl, below_step (below_step HB4.out HB17.out) HB41.out⟩
end Go.Proofs.YtlhmpmmblnbmbaaDoor.Rep
