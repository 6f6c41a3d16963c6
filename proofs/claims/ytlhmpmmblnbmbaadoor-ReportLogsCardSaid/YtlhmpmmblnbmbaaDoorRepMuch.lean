/- More than is asked? -/
import Derived.Test.YtlhmpmmblnbmbaaDoorRepLog
set_option linter.unusedVariables false
set_option linter.unusedSimpArgs false
namespace Go.Proofs.YtlhmpmmblnbmbaaDoor.Rep
open Go.Lib Go.RowKit Go.Proofs.YtlhmpmmblnbmbaaDoor.Ev Go.Proofs.YtlhmpmmblnbmbaaDoor.Cells Go.Proofs.YtlhmpmmblnbmbaaDoorW.PrintWords Go.Proofs.YtlhmpmmblnbmbaaDoorW.PrintLast Go.Proofs.YtlhmpmmblnbmbaaDoorW.PrintMore
def Fits (st : List Int) (zs : List S82) : Prop := zs.length ≤ 70 ∧ st.length ≤ 30 ∧ ∀ i, i < zs.length → (zs.getD i z82).f5.length ≤ 5
def MuchPost (st : List Int) (zs : List S82) (w : World) (e : Ending) (w2 : World) : Prop := ∃ b : Bool, e = .returned (.bool b) ∧ (b = false → Fits st zs) ∧ Below w.heap.size w w2
set_option maxHeartbeats 4000000 in
set_option maxRecDepth 100000 in
theorem much_c (xc : S34) (xe xs : Int) (st : List Int) (zs : List S82) (As Az : Option Addr) (cs cz : Nat) (hst : st.length ≤ maxLen) (hzn : zs.length ≤ maxLen) (w : World) (hCz : Kd.C k82 w Az zs.length zs) : Calls Tryd.prog 16 #[.agg #[.int .i64 xc.f0, .int .i64 xc.f1, .int .i64 xc.f2, .int .i64 xc.f3, .int .i64 xc.f4, .int .i64 xc.f5, .int .i64 xc.f6, .int .i64 xc.f7, .int .i64 xc.f8, .int .i64 xc.f9, .int .i64 xc.f10, .int .i64 xe, .int .i64 xs, .slice As st.length cs, .slice Az zs.length cz]] w (MuchPost st zs w) := by
  obtain ⟨ns, HNs⟩ : ∃ n, Aside0 (st.length = n) := ⟨_, ⟨rfl⟩⟩
  obtain ⟨nz, HNz⟩ : ∃ n, Aside0 (zs.length = n) := ⟨_, ⟨rfl⟩⟩
  unfold maxLen at hst hzn
  rw [HNs.out] at hst ⊢
  rw [HNz.out] at hzn hCz ⊢
  have HCz := Aside0.mk hCz
  clear hCz
  go_enter Tryd.func16, Tryd.ntmps16
  go_upto_region 0 with fail
  refine wp_region_lit ?_
  refine ebox (v := (.agg #[.int .i64 xc.f0, .int .i64 xc.f1, .int .i64 xc.f2, .int .i64 xc.f3, .int .i64 xc.f4, .int .i64 xc.f5, .int .i64 xc.f6, .int .i64 xc.f7, .int .i64 xc.f8, .int .i64 xc.f9, .int .i64 xc.f10, .int .i64 xe, .int .i64 xs, .slice As ns cs, .slice Az nz cz])) rfl rfl rfl ?_
  intro g1 hg1 W1 hk1 hb1
  have Kg1 := Aside0.mk hk1
  have HB1 := Aside0.mk hb1
  clear hb1
  have Gg1 := Aside0.mk (show w.heap.size ≤ g1 by rw [hg1]; exact Nat.le_refl _)
  clear hg1 hk1
  simp only [Act.put, List.setIfInBounds_toArray, List.set_cons_zero, List.set_cons_succ]
  refine Flow.seqL (E := fun u v => Below u.heap.size u v) 1 1 [(some 1, []), (some 2, [])] (fun iQ vQ wQ => match iQ with | 1 => vQ = (.bool false) | _ => True) rfl (by decide) (by kernel_rfl) (Below.refl _ _) (fun _ _ _ h k => h.trans (k.mono h.size)) (fun _ _ _ _ h _ => h) ?_ ?_
  · refine ⟨?_, trivial⟩
    · intro a w' hx hu hd K hK; exact Flow.run1 rfl (Flow.r_assign rfl rfl) (hK _ _ (Below.refl _ _) rfl)
  · intro vs W2 hb2 hT
    have v1 := Flow.eqn (hT 1 (by decide) (by decide))
    simp only [Flow.putsT, v1, Act.put, List.setIfInBounds_toArray, List.set_cons_zero, List.set_cons_succ, List.drop_succ_cons, List.drop_zero, List.take_succ_cons, List.take_zero]
    clear hT v1
    have HB2 := Aside0.mk (below_step HB1.out hb2)
    have Kg1_2 := Aside0.mk (blk_below Kg1.out hb2)
    clear hb2
    have HCz1 := Aside0.mk (Kd.C_below HCz.out HB2.out)
    go_upto_region 1 with fail
    refine Flow.seqT (E := fun u v => Below u.heap.size u v) [(some 3, [])] (fun iQ vQ wQ => match iQ with | 0 => vQ = (.int .i64 0) | _ => True) rfl (by kernel_rfl) (Below.refl _ _) (fun _ _ _ h k => h.trans (k.mono h.size)) (fun _ _ _ _ h _ => h) ?_ ?_
    · refine ⟨?_, trivial⟩
      · intro a w' hx hu hd K hK; exact Flow.run1 rfl (Flow.r_assign rfl rfl) (hK _ _ (Below.refl _ _) rfl)
    · intro vs W4 hb4 hT
      have v0 := Flow.eqn (hT 0 (by decide))
      simp only [Flow.putsT, v0, Act.put, List.setIfInBounds_toArray, List.set_cons_zero, List.set_cons_succ]
      clear hT v0
      have HB4 := Aside0.mk hb4
      clear hb4
      go_upto_region 2 with fail
      refine Flow.seqT (E := fun u v => Below u.heap.size u v) [(some 4, [])] (fun iQ vQ wQ => match iQ with | 0 => vQ = (.int .i64 0) | _ => True) rfl (by kernel_rfl) (Below.refl _ _) (fun _ _ _ h k => h.trans (k.mono h.size)) (fun _ _ _ _ h _ => h) ?_ ?_
      · refine ⟨?_, trivial⟩
        · intro a w' hx hu hd K hK; exact Flow.run1 rfl (Flow.r_assign rfl rfl) (hK _ _ (Below.refl _ _) rfl)
      · intro vs W5 hb5 hT
        have v0 := Flow.eqn (hT 0 (by decide))
        simp only [Flow.putsT, v0, Act.put, List.setIfInBounds_toArray, List.set_cons_zero, List.set_cons_succ]
        clear hT v0
        have HB5 := Aside0.mk (below_step HB4.out hb5)
        clear hb5
        go_wp2
        go_loopg [3, 4] 81 (fun g v3 v4 wr => ∃ (i : Nat) (x : Int), i ≤ nz ∧ i ≤ 80 ∧ Aside0 (g = 81 - i) ∧ v4 = .int .i64 i ∧ v3 = .int .i64 x ∧ Aside0 (Below W2.heap.size W2 wr) ∧ Aside0 (∀ j, j < i → (zs.getD j z82).f5.length ≤ 5))
        case atStart => exact ⟨0, 0, Nat.zero_le _, Nat.zero_le _, ⟨rfl⟩, rfl, rfl, HB5, ⟨fun j h => absurd h (Nat.not_lt_zero j)⟩⟩
        case round =>
          clear HB5
          obtain ⟨i, x, hi, hi8, HGI, rfl, rfl, HBR, HF⟩ := hrel
          by_cases hlt : i < nz
          · have hlt2 : (i : Int) < nz := by omega
            by_cases h8 : i < 80
            · have h82 : (i : Int) < 80 := by omega
              go_upto_region 3 with fail
              refine Flow.seqT (E := fun u v => Below u.heap.size u v) [(some 6, []), (some 7, []), (some 8, [1]), (some 9, [2]), (some 10, [0, 3]), (some 11, [4]), (some 12, [5]), (some 13, [6, 5]), (some 14, [5, 7])] (fun iQ vQ wQ => match iQ with | 0 => vQ = (.int .i64 i) | 1 => vQ = (.pointer (some ⟨g1, 14, none⟩)) | 2 => vQ = (.slice Az nz cz) | 3 => vQ = (.int .i64 nz) | 4 => vQ = (.bool true) | 5 => vQ = (.bool true) | 6 => vQ = (.int .i64 i) | 7 => vQ = (.bool true) | 8 => vQ = (.bool true) | _ => True) rfl (by kernel_rfl) (Below.refl _ _) (fun _ _ _ h k => h.trans (k.mono h.size)) (fun _ _ _ _ h _ => h) ?_ ?_
              · refine ⟨?_, ?_, ?_, ?_, ?_, ?_, ?_, ?_, ?_, trivial⟩
                · intro a w' hx hu hd K hK; have e4 : a.tmps.getD 4 undef = (.int .i64 i) := hu 4 rfl; exact Flow.run1 rfl (Flow.r_move rfl e4) (hK _ _ (Below.refl _ _) rfl)
                · intro a w' hx hu hd K hK; have e1 : a.tmps.getD 1 undef = (.pointer (some ⟨g1, 0, none⟩)) := hu 1 rfl; exact Flow.run1 rfl (fa rfl e1 (fa38_4 _ _ _)) (hK _ _ (Below.refl _ _) rfl)
                · intro a w' hx hu hd K hK; have e7 := Flow.got (hd 1 rfl) 7 rfl; exact Flow.run1 rfl (ld rfl e7 ((blk_cell (blk_below Kg1_2.out (below_step HBR.out hx)) 14).trans rfl) Tryd.underlying36 rfl) (hK _ _ (Below.refl _ _) rfl)
                · intro a w' hx hu hd K hK; have e8 := Flow.got (hd 2 rfl) 8 rfl; exact Flow.run1 rfl (lenL Tryd.underlying36 rfl e8) (hK _ _ (Below.refl _ _) rfl)
                · intro a w' hx hu hd K hK; have e6 := Flow.got (hd 0 rfl) 6 rfl; have e9 := Flow.got (hd 3 rfl) 9 rfl; exact Flow.run1 rfl (yes (lss rfl e6 e9) (decide_eq_true hlt2)) (hK _ _ (Below.refl _ _) rfl)
                · intro a w' hx hu hd K hK; have e10 := Flow.got (hd 4 rfl) 10 rfl; exact Flow.run1 rfl (Flow.r_move rfl e10) (hK _ _ (Below.refl _ _) rfl)
                · intro a w' hx hu hd K hK; have e4 : a.tmps.getD 4 undef = (.int .i64 i) := hu 4 rfl; have e11 := Flow.got (hd 5 rfl) 11 rfl; exact Flow.run1 (Flow.want_of (k := 11) rfl e11) (Flow.r_move rfl e4) (hK _ _ (Below.refl _ _) rfl)
                · intro a w' hx hu hd K hK; have e12 := Flow.got (hd 6 rfl) 12 rfl; have e11 := Flow.got (hd 5 rfl) 11 rfl; exact Flow.run1 (Flow.want_of (k := 11) rfl e11) (yes (lss rfl e12 rfl) (decide_eq_true h82)) (hK _ _ (Below.refl _ _) rfl)
                · intro a w' hx hu hd K hK; have e11 := Flow.got (hd 5 rfl) 11 rfl; have e13 := Flow.got (hd 7 rfl) 13 rfl; exact Flow.run1 rfl (Flow.r_pick rfl e11 e13) (hK _ _ (Below.refl _ _) rfl)
              · intro vs W6 hb6 hT
                have v0 := Flow.eqn (hT 0 (by decide))
                have v1 := Flow.eqn (hT 1 (by decide))
                have v2 := Flow.eqn (hT 2 (by decide))
                have v3 := Flow.eqn (hT 3 (by decide))
                have v4 := Flow.eqn (hT 4 (by decide))
                have v5 := Flow.eqn (hT 5 (by decide))
                have v6 := Flow.eqn (hT 6 (by decide))
                have v7 := Flow.eqn (hT 7 (by decide))
                have v8 := Flow.eqn (hT 8 (by decide))
                simp only [Flow.putsT, v0, v1, v2, v3, v4, v5, v6, v7, v8, Act.put, List.setIfInBounds_toArray, List.set_cons_zero, List.set_cons_succ]
                clear hT v0 v1 v2 v3 v4 v5 v6 v7 v8
                have HB6 := Aside0.mk (below_step HBR.out hb6)
                clear hb6
                obtain ⟨ad, B, c2, hA, hlies, hCp, _⟩ := elem82 HCz1.out i hlt
                subst hA
                obtain ⟨np, HNP⟩ : ∃ n, Aside0 ((zs.getD i z82).f5.length = n) := ⟨_, ⟨rfl⟩⟩
                obtain ⟨ps, HPS⟩ : ∃ q, Aside0 ((zs.getD i z82).f5 = q) := ⟨_, ⟨rfl⟩⟩
                rw [HNP.out] at hlies hCp
                rw [HPS.out] at hCp
                have HLI := Aside0.mk hlies
                have HCP := Aside0.mk hCp
                clear hlies hCp
                by_cases h5 : np > 5
                · have h52 : (np : Int) > 5 := by omega
                  go_upto_region 5 with fail
                  refine Flow.seqT (E := fun u v => Below u.heap.size u v) [(some 17, []), (some 18, [0]), (some 19, []), (some 20, [1, 2]), (some 21, [3]), (some 22, [4]), (some 23, [5]), (some 24, [6])] (fun iQ vQ wQ => match iQ with | 0 => vQ = (.pointer (some ⟨g1, 14, none⟩)) | 1 => vQ = (.slice (some ad) nz cz) | 2 => vQ = (.int .i64 i) | 3 => vQ = (.pointer (some (ad.add (i * 6)))) | 4 => vQ = (.pointer (some ((ad.add (i * 6)).add 5))) | 5 => vQ = (.slice B np c2) | 6 => vQ = (.int .i64 np) | 7 => vQ = (.bool true) | _ => True) rfl (by kernel_rfl) (Below.refl _ _) (fun _ _ _ h k => h.trans (k.mono h.size)) (fun _ _ _ _ h _ => h) ?_ ?_
                  · refine ⟨?_, ?_, ?_, ?_, ?_, ?_, ?_, ?_, trivial⟩
                    · intro a w' hx hu hd K hK; have e1 : a.tmps.getD 1 undef = (.pointer (some ⟨g1, 0, none⟩)) := hu 1 rfl; exact Flow.run1 rfl (fa rfl e1 (fa38_4 _ _ _)) (hK _ _ (Below.refl _ _) rfl)
                    · intro a w' hx hu hd K hK; have e17 := Flow.got (hd 0 rfl) 17 rfl; exact Flow.run1 rfl (ld rfl e17 ((blk_cell (blk_below Kg1_2.out (below_step HB6.out hx)) 14).trans rfl) Tryd.underlying36 rfl) (hK _ _ (Below.refl _ _) rfl)
                    · intro a w' hx hu hd K hK; have e4 : a.tmps.getD 4 undef = (.int .i64 i) := hu 4 rfl; exact Flow.run1 rfl (Flow.r_move rfl e4) (hK _ _ (Below.refl _ _) rfl)
                    · intro a w' hx hu hd K hK; have e18 := Flow.got (hd 1 rfl) 18 rfl; have e19 := Flow.got (hd 2 rfl) 19 rfl; exact Flow.run1 rfl (ix Tryd.underlying36 size82 rfl e18 e19 hlt) (hK _ _ (Below.refl _ _) rfl)
                    · intro a w' hx hu hd K hK; have e20 := Flow.got (hd 3 rfl) 20 rfl; exact Flow.run1 rfl (fa rfl e20 (fad82_5 _ _)) (hK _ _ (Below.refl _ _) rfl)
                    · intro a w' hx hu hd K hK; have e21 := Flow.got (hd 4 rfl) 21 rfl; exact Flow.run1 rfl (ld rfl e21 (lies_below HLI.out (below_step HB6.out hx) 5 _ rfl) Tryd.underlying80 rfl) (hK _ _ (Below.refl _ _) rfl)
                    · intro a w' hx hu hd K hK; have e22 := Flow.got (hd 5 rfl) 22 rfl; exact Flow.run1 rfl (lenL Tryd.underlying80 rfl e22) (hK _ _ (Below.refl _ _) rfl)
                    · intro a w' hx hu hd K hK; have e23 := Flow.got (hd 6 rfl) 23 rfl; exact Flow.run1 rfl (yes (gtr rfl e23 rfl) (decide_eq_true h52)) (hK _ _ (Below.refl _ _) rfl)
                  · intro vs W7 hb7 hT
                    have v0 := Flow.eqn (hT 0 (by decide))
                    have v1 := Flow.eqn (hT 1 (by decide))
                    have v2 := Flow.eqn (hT 2 (by decide))
                    have v3 := Flow.eqn (hT 3 (by decide))
                    have v4 := Flow.eqn (hT 4 (by decide))
                    have v5 := Flow.eqn (hT 5 (by decide))
                    have v6 := Flow.eqn (hT 6 (by decide))
                    have v7 := Flow.eqn (hT 7 (by decide))
                    simp only [Flow.putsT, v0, v1, v2, v3, v4, v5, v6, v7, Act.put, List.setIfInBounds_toArray, List.set_cons_zero, List.set_cons_succ]
                    clear hT v0 v1 v2 v3 v4 v5 v6 v7
                    have HB7 := Aside0.mk (below_step HB6.out hb7)
                    clear hb7
                    go_upto_region 6 with fail
                    refine Flow.seqT (E := fun u v => Below u.heap.size u v) [(some 2, [])] (fun iQ vQ wQ => match iQ with | 0 => vQ = (.bool true) | _ => True) rfl (by kernel_rfl) (Below.refl _ _) (fun _ _ _ h k => h.trans (k.mono h.size)) (fun _ _ _ _ h _ => h) ?_ ?_
                    · refine ⟨?_, trivial⟩
                      · intro a w' hx hu hd K hK; exact Flow.run1 rfl (Flow.r_assign rfl rfl) (hK _ _ (Below.refl _ _) rfl)
                    · intro vs W8 hb8 hT
                      have v0 := Flow.eqn (hT 0 (by decide))
                      simp only [Flow.putsT, v0, Act.put, List.setIfInBounds_toArray, List.set_cons_zero, List.set_cons_succ]
                      clear hT v0
                      have HB8 := Aside0.mk (below_step HB7.out hb8)
                      clear hb8
                      go_wp2
                      go_ret
                      exact ⟨true, rfl, (fun h => by cases h), below_step HB2.out HB8.out⟩
                · have h52 : ¬ (np : Int) > 5 := by omega
                  go_upto_region 5 with fail
                  refine Flow.seqT (E := fun u v => Below u.heap.size u v) [(some 17, []), (some 18, [0]), (some 19, []), (some 20, [1, 2]), (some 21, [3]), (some 22, [4]), (some 23, [5]), (some 24, [6])] (fun iQ vQ wQ => match iQ with | 0 => vQ = (.pointer (some ⟨g1, 14, none⟩)) | 1 => vQ = (.slice (some ad) nz cz) | 2 => vQ = (.int .i64 i) | 3 => vQ = (.pointer (some (ad.add (i * 6)))) | 4 => vQ = (.pointer (some ((ad.add (i * 6)).add 5))) | 5 => vQ = (.slice B np c2) | 6 => vQ = (.int .i64 np) | 7 => vQ = (.bool false) | _ => True) rfl (by kernel_rfl) (Below.refl _ _) (fun _ _ _ h k => h.trans (k.mono h.size)) (fun _ _ _ _ h _ => h) ?_ ?_
                  · refine ⟨?_, ?_, ?_, ?_, ?_, ?_, ?_, ?_, trivial⟩
                    · intro a w' hx hu hd K hK; have e1 : a.tmps.getD 1 undef = (.pointer (some ⟨g1, 0, none⟩)) := hu 1 rfl; exact Flow.run1 rfl (fa rfl e1 (fa38_4 _ _ _)) (hK _ _ (Below.refl _ _) rfl)
                    · intro a w' hx hu hd K hK; have e17 := Flow.got (hd 0 rfl) 17 rfl; exact Flow.run1 rfl (ld rfl e17 ((blk_cell (blk_below Kg1_2.out (below_step HB6.out hx)) 14).trans rfl) Tryd.underlying36 rfl) (hK _ _ (Below.refl _ _) rfl)
                    · intro a w' hx hu hd K hK; have e4 : a.tmps.getD 4 undef = (.int .i64 i) := hu 4 rfl; exact Flow.run1 rfl (Flow.r_move rfl e4) (hK _ _ (Below.refl _ _) rfl)
                    · intro a w' hx hu hd K hK; have e18 := Flow.got (hd 1 rfl) 18 rfl; have e19 := Flow.got (hd 2 rfl) 19 rfl; exact Flow.run1 rfl (ix Tryd.underlying36 size82 rfl e18 e19 hlt) (hK _ _ (Below.refl _ _) rfl)
                    · intro a w' hx hu hd K hK; have e20 := Flow.got (hd 3 rfl) 20 rfl; exact Flow.run1 rfl (fa rfl e20 (fad82_5 _ _)) (hK _ _ (Below.refl _ _) rfl)
                    · intro a w' hx hu hd K hK; have e21 := Flow.got (hd 4 rfl) 21 rfl; exact Flow.run1 rfl (ld rfl e21 (lies_below HLI.out (below_step HB6.out hx) 5 _ rfl) Tryd.underlying80 rfl) (hK _ _ (Below.refl _ _) rfl)
                    · intro a w' hx hu hd K hK; have e22 := Flow.got (hd 5 rfl) 22 rfl; exact Flow.run1 rfl (lenL Tryd.underlying80 rfl e22) (hK _ _ (Below.refl _ _) rfl)
                    · intro a w' hx hu hd K hK; have e23 := Flow.got (hd 6 rfl) 23 rfl; exact Flow.run1 rfl (no (gtr rfl e23 rfl) (decide_eq_false h52)) (hK _ _ (Below.refl _ _) rfl)
                  · intro vs W9 hb9 hT
                    have v0 := Flow.eqn (hT 0 (by decide))
                    have v1 := Flow.eqn (hT 1 (by decide))
                    have v2 := Flow.eqn (hT 2 (by decide))
                    have v3 := Flow.eqn (hT 3 (by decide))
                    have v4 := Flow.eqn (hT 4 (by decide))
                    have v5 := Flow.eqn (hT 5 (by decide))
                    have v6 := Flow.eqn (hT 6 (by decide))
                    have v7 := Flow.eqn (hT 7 (by decide))
                    simp only [Flow.putsT, v0, v1, v2, v3, v4, v5, v6, v7, Act.put, List.setIfInBounds_toArray, List.set_cons_zero, List.set_cons_succ]
                    clear hT v0 v1 v2 v3 v4 v5 v6 v7
                    have HB9 := Aside0.mk (below_step HB6.out hb9)
                    clear hb9
                    go_upto_region 7 with fail
                    refine Flow.seqT (E := fun u v => Below u.heap.size u v) [(some 5, [])] (fun iQ vQ wQ => match iQ with | 0 => vQ = (.int .i64 0) | _ => True) rfl (by kernel_rfl) (Below.refl _ _) (fun _ _ _ h k => h.trans (k.mono h.size)) (fun _ _ _ _ h _ => h) ?_ ?_
                    · refine ⟨?_, trivial⟩
                      · intro a w' hx hu hd K hK; exact Flow.run1 rfl (Flow.r_assign rfl rfl) (hK _ _ (Below.refl _ _) rfl)
                    · intro vs W10 hb10 hT
                      have v0 := Flow.eqn (hT 0 (by decide))
                      simp only [Flow.putsT, v0, Act.put, List.setIfInBounds_toArray, List.set_cons_zero, List.set_cons_succ]
                      clear hT v0
                      have HB10 := Aside0.mk (below_step HB9.out hb10)
                      clear hb10
                      go_wp2
                      go_loopg [3, 5] np (fun g v3 v5 wr => ∃ (j : Nat) (x : Int), j ≤ np ∧ Aside0 (g = np - j) ∧ v5 = .int .i64 j ∧ v3 = .int .i64 x ∧ Aside0 (Below W2.heap.size W2 wr))
                      case atStart => exact ⟨0, _, Nat.zero_le _, ⟨rfl⟩, rfl, rfl, HB10⟩
                      case round =>
                        clear HB10
                        obtain ⟨j, y, hj, HGJ, rfl, rfl, HBR2⟩ := hrel
                        by_cases hlt5 : j < np
                        · have hlt6 : (j : Int) < np := by omega
                          go_upto_region 8 with fail
                          refine Flow.seqT (E := fun u v => Below u.heap.size u v) [(some 25, []), (some 26, []), (some 27, [1]), (some 28, []), (some 29, [2, 3]), (some 30, [4]), (some 31, [5]), (some 32, [6]), (some 33, [0, 7])] (fun iQ vQ wQ => match iQ with | 0 => vQ = (.int .i64 j) | 1 => vQ = (.pointer (some ⟨g1, 14, none⟩)) | 2 => vQ = (.slice (some ad) nz cz) | 3 => vQ = (.int .i64 i) | 4 => vQ = (.pointer (some (ad.add (i * 6)))) | 5 => vQ = (.pointer (some ((ad.add (i * 6)).add 5))) | 6 => vQ = (.slice B np c2) | 7 => vQ = (.int .i64 np) | 8 => vQ = (.bool true) | _ => True) rfl (by kernel_rfl) (Below.refl _ _) (fun _ _ _ h k => h.trans (k.mono h.size)) (fun _ _ _ _ h _ => h) ?_ ?_
                          · refine ⟨?_, ?_, ?_, ?_, ?_, ?_, ?_, ?_, ?_, trivial⟩
                            · intro a w' hx hu hd K hK; have e5 : a.tmps.getD 5 undef = (.int .i64 j) := hu 5 rfl; exact Flow.run1 rfl (Flow.r_move rfl e5) (hK _ _ (Below.refl _ _) rfl)
                            · intro a w' hx hu hd K hK; have e1 : a.tmps.getD 1 undef = (.pointer (some ⟨g1, 0, none⟩)) := hu 1 rfl; exact Flow.run1 rfl (fa rfl e1 (fa38_4 _ _ _)) (hK _ _ (Below.refl _ _) rfl)
                            · intro a w' hx hu hd K hK; have e26 := Flow.got (hd 1 rfl) 26 rfl; exact Flow.run1 rfl (ld rfl e26 ((blk_cell (blk_below Kg1_2.out (below_step HBR2.out hx)) 14).trans rfl) Tryd.underlying36 rfl) (hK _ _ (Below.refl _ _) rfl)
                            · intro a w' hx hu hd K hK; have e4 : a.tmps.getD 4 undef = (.int .i64 i) := hu 4 rfl; exact Flow.run1 rfl (Flow.r_move rfl e4) (hK _ _ (Below.refl _ _) rfl)
                            · intro a w' hx hu hd K hK; have e27 := Flow.got (hd 2 rfl) 27 rfl; have e28 := Flow.got (hd 3 rfl) 28 rfl; exact Flow.run1 rfl (ix Tryd.underlying36 size82 rfl e27 e28 hlt) (hK _ _ (Below.refl _ _) rfl)
                            · intro a w' hx hu hd K hK; have e29 := Flow.got (hd 4 rfl) 29 rfl; exact Flow.run1 rfl (fa rfl e29 (fad82_5 _ _)) (hK _ _ (Below.refl _ _) rfl)
                            · intro a w' hx hu hd K hK; have e30 := Flow.got (hd 5 rfl) 30 rfl; exact Flow.run1 rfl (ld rfl e30 (lies_below HLI.out (below_step HBR2.out hx) 5 _ rfl) Tryd.underlying80 rfl) (hK _ _ (Below.refl _ _) rfl)
                            · intro a w' hx hu hd K hK; have e31 := Flow.got (hd 6 rfl) 31 rfl; exact Flow.run1 rfl (lenL Tryd.underlying80 rfl e31) (hK _ _ (Below.refl _ _) rfl)
                            · intro a w' hx hu hd K hK; have e25 := Flow.got (hd 0 rfl) 25 rfl; have e32 := Flow.got (hd 7 rfl) 32 rfl; exact Flow.run1 rfl (yes (lss rfl e25 e32) (decide_eq_true hlt6)) (hK _ _ (Below.refl _ _) rfl)
                          · intro vs W11 hb11 hT
                            have v0 := Flow.eqn (hT 0 (by decide))
                            have v1 := Flow.eqn (hT 1 (by decide))
                            have v2 := Flow.eqn (hT 2 (by decide))
                            have v3 := Flow.eqn (hT 3 (by decide))
                            have v4 := Flow.eqn (hT 4 (by decide))
                            have v5 := Flow.eqn (hT 5 (by decide))
                            have v6 := Flow.eqn (hT 6 (by decide))
                            have v7 := Flow.eqn (hT 7 (by decide))
                            have v8 := Flow.eqn (hT 8 (by decide))
                            simp only [Flow.putsT, v0, v1, v2, v3, v4, v5, v6, v7, v8, Act.put, List.setIfInBounds_toArray, List.set_cons_zero, List.set_cons_succ]
                            clear hT v0 v1 v2 v3 v4 v5 v6 v7 v8
                            have HB11 := Aside0.mk (below_step HBR2.out hb11)
                            clear hb11
                            obtain ⟨ad2, B2, c3, hA2, hlies2⟩ := elem84 HCP.out j hlt5
                            subst hA2
                            obtain ⟨p, hp⟩ : ∃ q, ps.getD j z84 = q := ⟨_, rfl⟩
                            rw [hp] at hlies2
                            clear hp
                            have HLI2 := Aside0.mk hlies2
                            clear hlies2
                            go_upto_region 10 with fail
                            refine Flow.seqT (E := fun u v => Below u.heap.size u v) [(some 36, []), (some 37, []), (some 38, [1]), (some 39, []), (some 40, [2, 3]), (some 41, [4]), (some 42, [5]), (some 43, []), (some 44, [6, 7]), (some 45, [8]), (some 46, [9]), (some 47, [10]), (some 48, [0, 11]), (some 3, [12, 0, 1, 2, 3, 4, 5, 6, 7, 8, 9, 10, 11, 12])] (fun iQ vQ wQ => match iQ with | 0 => vQ = (.int .i64 y) | 1 => vQ = (.pointer (some ⟨g1, 14, none⟩)) | 2 => vQ = (.slice (some ad) nz cz) | 3 => vQ = (.int .i64 i) | 4 => vQ = (.pointer (some (ad.add (i * 6)))) | 5 => vQ = (.pointer (some ((ad.add (i * 6)).add 5))) | 6 => vQ = (.slice (some ad2) np c2) | 7 => vQ = (.int .i64 j) | 8 => vQ = (.pointer (some (ad2.add (j * 2)))) | 9 => vQ = (.pointer (some ((ad2.add (j * 2)).add 1))) | 10 => vQ = (.slice B2 p.f1.length c3) | 11 => vQ = (.int .i64 p.f1.length) | 12 => vQ = (.int .i64 (IntKind.i64.wrap (y + p.f1.length))) | 13 => vQ = (.int .i64 (IntKind.i64.wrap (y + p.f1.length))) | _ => True) rfl (by kernel_rfl) (Below.refl _ _) (fun _ _ _ h k => h.trans (k.mono h.size)) (fun _ _ _ _ h _ => h) ?_ ?_
                            · refine ⟨?_, ?_, ?_, ?_, ?_, ?_, ?_, ?_, ?_, ?_, ?_, ?_, ?_, ?_, trivial⟩
                              · intro a w' hx hu hd K hK; have e3 : a.tmps.getD 3 undef = (.int .i64 y) := hu 3 rfl; exact Flow.run1 rfl (Flow.r_move rfl e3) (hK _ _ (Below.refl _ _) rfl)
                              · intro a w' hx hu hd K hK; have e1 : a.tmps.getD 1 undef = (.pointer (some ⟨g1, 0, none⟩)) := hu 1 rfl; exact Flow.run1 rfl (fa rfl e1 (fa38_4 _ _ _)) (hK _ _ (Below.refl _ _) rfl)
                              · intro a w' hx hu hd K hK; have e37 := Flow.got (hd 1 rfl) 37 rfl; exact Flow.run1 rfl (ld rfl e37 ((blk_cell (blk_below Kg1_2.out (below_step HB11.out hx)) 14).trans rfl) Tryd.underlying36 rfl) (hK _ _ (Below.refl _ _) rfl)
                              · intro a w' hx hu hd K hK; have e4 : a.tmps.getD 4 undef = (.int .i64 i) := hu 4 rfl; exact Flow.run1 rfl (Flow.r_move rfl e4) (hK _ _ (Below.refl _ _) rfl)
                              · intro a w' hx hu hd K hK; have e38 := Flow.got (hd 2 rfl) 38 rfl; have e39 := Flow.got (hd 3 rfl) 39 rfl; exact Flow.run1 rfl (ix Tryd.underlying36 size82 rfl e38 e39 hlt) (hK _ _ (Below.refl _ _) rfl)
                              · intro a w' hx hu hd K hK; have e40 := Flow.got (hd 4 rfl) 40 rfl; exact Flow.run1 rfl (fa rfl e40 (fad82_5 _ _)) (hK _ _ (Below.refl _ _) rfl)
                              · intro a w' hx hu hd K hK; have e41 := Flow.got (hd 5 rfl) 41 rfl; exact Flow.run1 rfl (ld rfl e41 (lies_below HLI.out (below_step HB11.out hx) 5 _ rfl) Tryd.underlying80 rfl) (hK _ _ (Below.refl _ _) rfl)
                              · intro a w' hx hu hd K hK; have e5 : a.tmps.getD 5 undef = (.int .i64 j) := hu 5 rfl; exact Flow.run1 rfl (Flow.r_move rfl e5) (hK _ _ (Below.refl _ _) rfl)
                              · intro a w' hx hu hd K hK; have e42 := Flow.got (hd 6 rfl) 42 rfl; have e43 := Flow.got (hd 7 rfl) 43 rfl; exact Flow.run1 rfl (ix Tryd.underlying80 size84 rfl e42 e43 hlt5) (hK _ _ (Below.refl _ _) rfl)
                              · intro a w' hx hu hd K hK; have e44 := Flow.got (hd 8 rfl) 44 rfl; exact Flow.run1 rfl (fa rfl e44 (fad84_1 _ _)) (hK _ _ (Below.refl _ _) rfl)
                              · intro a w' hx hu hd K hK; have e45 := Flow.got (hd 9 rfl) 45 rfl; exact Flow.run1 rfl (ld rfl e45 (lies_below HLI2.out (below_step HB11.out hx) 1 _ rfl) Tryd.underlying43 rfl) (hK _ _ (Below.refl _ _) rfl)
                              · intro a w' hx hu hd K hK; have e46 := Flow.got (hd 10 rfl) 46 rfl; exact Flow.run1 rfl (lenL Tryd.underlying43 rfl e46) (hK _ _ (Below.refl _ _) rfl)
                              · intro a w' hx hu hd K hK; have e36 := Flow.got (hd 0 rfl) 36 rfl; have e47 := Flow.got (hd 11 rfl) 47 rfl; exact Flow.run1 rfl (addw rfl e36 e47) (hK _ _ (Below.refl _ _) rfl)
                              · intro a w' hx hu hd K hK; have e48 := Flow.got (hd 12 rfl) 48 rfl; exact Flow.run1 rfl (Flow.r_assign rfl e48) (hK _ _ (Below.refl _ _) rfl)
                            · intro vs W12 hb12 hT
                              have v0 := Flow.eqn (hT 0 (by decide))
                              have v1 := Flow.eqn (hT 1 (by decide))
                              have v2 := Flow.eqn (hT 2 (by decide))
                              have v3 := Flow.eqn (hT 3 (by decide))
                              have v4 := Flow.eqn (hT 4 (by decide))
                              have v5 := Flow.eqn (hT 5 (by decide))
                              have v6 := Flow.eqn (hT 6 (by decide))
                              have v7 := Flow.eqn (hT 7 (by decide))
                              have v8 := Flow.eqn (hT 8 (by decide))
                              have v9 := Flow.eqn (hT 9 (by decide))
                              have v10 := Flow.eqn (hT 10 (by decide))
                              have v11 := Flow.eqn (hT 11 (by decide))
                              have v12 := Flow.eqn (hT 12 (by decide))
                              have v13 := Flow.eqn (hT 13 (by decide))
                              simp only [Flow.putsT, v0, v1, v2, v3, v4, v5, v6, v7, v8, v9, v10, v11, v12, v13, Act.put, List.setIfInBounds_toArray, List.set_cons_zero, List.set_cons_succ]
                              clear hT v0 v1 v2 v3 v4 v5 v6 v7 v8 v9 v10 v11 v12 v13
                              have HB12 := Aside0.mk (below_step HB11.out hb12)
                              clear hb12
                              go_wp2
                              go_roundg (np - (j + 1))
                              case measure => have := HGJ.out; omega
                              case rel => exact ⟨j + 1, _, by omega, ⟨rfl⟩, by go_num, rfl, HB12⟩
                        · have hlt6 : ¬ (j : Int) < np := by omega
                          go_upto_region 8 with fail
                          refine Flow.seqT (E := fun u v => Below u.heap.size u v) [(some 25, []), (some 26, []), (some 27, [1]), (some 28, []), (some 29, [2, 3]), (some 30, [4]), (some 31, [5]), (some 32, [6]), (some 33, [0, 7])] (fun iQ vQ wQ => match iQ with | 0 => vQ = (.int .i64 j) | 1 => vQ = (.pointer (some ⟨g1, 14, none⟩)) | 2 => vQ = (.slice (some ad) nz cz) | 3 => vQ = (.int .i64 i) | 4 => vQ = (.pointer (some (ad.add (i * 6)))) | 5 => vQ = (.pointer (some ((ad.add (i * 6)).add 5))) | 6 => vQ = (.slice B np c2) | 7 => vQ = (.int .i64 np) | 8 => vQ = (.bool false) | _ => True) rfl (by kernel_rfl) (Below.refl _ _) (fun _ _ _ h k => h.trans (k.mono h.size)) (fun _ _ _ _ h _ => h) ?_ ?_
                          · refine ⟨?_, ?_, ?_, ?_, ?_, ?_, ?_, ?_, ?_, trivial⟩
                            · intro a w' hx hu hd K hK; have e5 : a.tmps.getD 5 undef = (.int .i64 j) := hu 5 rfl; exact Flow.run1 rfl (Flow.r_move rfl e5) (hK _ _ (Below.refl _ _) rfl)
                            · intro a w' hx hu hd K hK; have e1 : a.tmps.getD 1 undef = (.pointer (some ⟨g1, 0, none⟩)) := hu 1 rfl; exact Flow.run1 rfl (fa rfl e1 (fa38_4 _ _ _)) (hK _ _ (Below.refl _ _) rfl)
                            · intro a w' hx hu hd K hK; have e26 := Flow.got (hd 1 rfl) 26 rfl; exact Flow.run1 rfl (ld rfl e26 ((blk_cell (blk_below Kg1_2.out (below_step HBR2.out hx)) 14).trans rfl) Tryd.underlying36 rfl) (hK _ _ (Below.refl _ _) rfl)
                            · intro a w' hx hu hd K hK; have e4 : a.tmps.getD 4 undef = (.int .i64 i) := hu 4 rfl; exact Flow.run1 rfl (Flow.r_move rfl e4) (hK _ _ (Below.refl _ _) rfl)
                            · intro a w' hx hu hd K hK; have e27 := Flow.got (hd 2 rfl) 27 rfl; have e28 := Flow.got (hd 3 rfl) 28 rfl; exact Flow.run1 rfl (ix Tryd.underlying36 size82 rfl e27 e28 hlt) (hK _ _ (Below.refl _ _) rfl)
                            · intro a w' hx hu hd K hK; have e29 := Flow.got (hd 4 rfl) 29 rfl; exact Flow.run1 rfl (fa rfl e29 (fad82_5 _ _)) (hK _ _ (Below.refl _ _) rfl)
                            · intro a w' hx hu hd K hK; have e30 := Flow.got (hd 5 rfl) 30 rfl; exact Flow.run1 rfl (ld rfl e30 (lies_below HLI.out (below_step HBR2.out hx) 5 _ rfl) Tryd.underlying80 rfl) (hK _ _ (Below.refl _ _) rfl)
                            · intro a w' hx hu hd K hK; have e31 := Flow.got (hd 6 rfl) 31 rfl; exact Flow.run1 rfl (lenL Tryd.underlying80 rfl e31) (hK _ _ (Below.refl _ _) rfl)
                            · intro a w' hx hu hd K hK; have e25 := Flow.got (hd 0 rfl) 25 rfl; have e32 := Flow.got (hd 7 rfl) 32 rfl; exact Flow.run1 rfl (no (lss rfl e25 e32) (decide_eq_false hlt6)) (hK _ _ (Below.refl _ _) rfl)
                          · intro vs W13 hb13 hT
                            have v0 := Flow.eqn (hT 0 (by decide))
                            have v1 := Flow.eqn (hT 1 (by decide))
                            have v2 := Flow.eqn (hT 2 (by decide))
                            have v3 := Flow.eqn (hT 3 (by decide))
                            have v4 := Flow.eqn (hT 4 (by decide))
                            have v5 := Flow.eqn (hT 5 (by decide))
                            have v6 := Flow.eqn (hT 6 (by decide))
                            have v7 := Flow.eqn (hT 7 (by decide))
                            have v8 := Flow.eqn (hT 8 (by decide))
                            simp only [Flow.putsT, v0, v1, v2, v3, v4, v5, v6, v7, v8, Act.put, List.setIfInBounds_toArray, List.set_cons_zero, List.set_cons_succ]
                            clear hT v0 v1 v2 v3 v4 v5 v6 v7 v8
                            have HB13 := Aside0.mk (below_step HBR2.out hb13)
                            clear hb13
                            by_cases h4 : y > 4000
                            · skip
                              go_upto_region 11 with fail
                              refine Flow.seqT (E := fun u v => Below u.heap.size u v) [(some 49, []), (some 50, [0])] (fun iQ vQ wQ => match iQ with | 0 => vQ = (.int .i64 y) | 1 => vQ = (.bool true) | _ => True) rfl (by kernel_rfl) (Below.refl _ _) (fun _ _ _ h k => h.trans (k.mono h.size)) (fun _ _ _ _ h _ => h) ?_ ?_
                              · refine ⟨?_, ?_, trivial⟩
                                · intro a w' hx hu hd K hK; have e3 : a.tmps.getD 3 undef = (.int .i64 y) := hu 3 rfl; exact Flow.run1 rfl (Flow.r_move rfl e3) (hK _ _ (Below.refl _ _) rfl)
                                · intro a w' hx hu hd K hK; have e49 := Flow.got (hd 0 rfl) 49 rfl; exact Flow.run1 rfl (yes (gtr rfl e49 rfl) (decide_eq_true h4)) (hK _ _ (Below.refl _ _) rfl)
                              · intro vs W14 hb14 hT
                                have v0 := Flow.eqn (hT 0 (by decide))
                                have v1 := Flow.eqn (hT 1 (by decide))
                                simp only [Flow.putsT, v0, v1, Act.put, List.setIfInBounds_toArray, List.set_cons_zero, List.set_cons_succ]
                                clear hT v0 v1
                                have HB14 := Aside0.mk (below_step HB13.out hb14)
                                clear hb14
                                go_upto_region 12 with fail
                                refine Flow.seqT (E := fun u v => Below u.heap.size u v) [(some 2, [])] (fun iQ vQ wQ => match iQ with | 0 => vQ = (.bool true) | _ => True) rfl (by kernel_rfl) (Below.refl _ _) (fun _ _ _ h k => h.trans (k.mono h.size)) (fun _ _ _ _ h _ => h) ?_ ?_
                                · refine ⟨?_, trivial⟩
                                  · intro a w' hx hu hd K hK; exact Flow.run1 rfl (Flow.r_assign rfl rfl) (hK _ _ (Below.refl _ _) rfl)
                                · intro vs W15 hb15 hT
                                  have v0 := Flow.eqn (hT 0 (by decide))
                                  simp only [Flow.putsT, v0, Act.put, List.setIfInBounds_toArray, List.set_cons_zero, List.set_cons_succ]
                                  clear hT v0
                                  have HB15 := Aside0.mk (below_step HB14.out hb15)
                                  clear hb15
                                  go_wp2
                                  go_ret
                                  exact ⟨true, rfl, (fun h => by cases h), below_step HB2.out HB15.out⟩
                            · skip
                              go_upto_region 11 with fail
                              refine Flow.seqT (E := fun u v => Below u.heap.size u v) [(some 49, []), (some 50, [0])] (fun iQ vQ wQ => match iQ with | 0 => vQ = (.int .i64 y) | 1 => vQ = (.bool false) | _ => True) rfl (by kernel_rfl) (Below.refl _ _) (fun _ _ _ h k => h.trans (k.mono h.size)) (fun _ _ _ _ h _ => h) ?_ ?_
                              · refine ⟨?_, ?_, trivial⟩
                                · intro a w' hx hu hd K hK; have e3 : a.tmps.getD 3 undef = (.int .i64 y) := hu 3 rfl; exact Flow.run1 rfl (Flow.r_move rfl e3) (hK _ _ (Below.refl _ _) rfl)
                                · intro a w' hx hu hd K hK; have e49 := Flow.got (hd 0 rfl) 49 rfl; exact Flow.run1 rfl (no (gtr rfl e49 rfl) (decide_eq_false h4)) (hK _ _ (Below.refl _ _) rfl)
                              · intro vs W16 hb16 hT
                                have v0 := Flow.eqn (hT 0 (by decide))
                                have v1 := Flow.eqn (hT 1 (by decide))
                                simp only [Flow.putsT, v0, v1, Act.put, List.setIfInBounds_toArray, List.set_cons_zero, List.set_cons_succ]
                                clear hT v0 v1
                                have HB16 := Aside0.mk (below_step HB13.out hb16)
                                clear hb16
                                go_wp2
                                go_roundg (81 - (i + 1))
                                case measure => have := HGI.out; omega
                                case rel => exact ⟨i + 1, _, by omega, by omega, ⟨rfl⟩, by go_num, rfl, HB16, ⟨fun q hq => by rcases Nat.lt_or_eq_of_le (Nat.lt_succ_iff.1 hq) with h | h; exact HF.out q h; rw [h, HNP.out]; omega⟩⟩
            · have h82 : ¬ (i : Int) < 80 := by omega
              go_upto_region 3 with fail
              refine Flow.seqT (E := fun u v => Below u.heap.size u v) [(some 6, []), (some 7, []), (some 8, [1]), (some 9, [2]), (some 10, [0, 3]), (some 11, [4]), (some 12, [5]), (some 13, [6, 5]), (some 14, [5, 7])] (fun iQ vQ wQ => match iQ with | 0 => vQ = (.int .i64 i) | 1 => vQ = (.pointer (some ⟨g1, 14, none⟩)) | 2 => vQ = (.slice Az nz cz) | 3 => vQ = (.int .i64 nz) | 4 => vQ = (.bool true) | 5 => vQ = (.bool true) | 6 => vQ = (.int .i64 i) | 7 => vQ = (.bool false) | 8 => vQ = (.bool false) | _ => True) rfl (by kernel_rfl) (Below.refl _ _) (fun _ _ _ h k => h.trans (k.mono h.size)) (fun _ _ _ _ h _ => h) ?_ ?_
              · refine ⟨?_, ?_, ?_, ?_, ?_, ?_, ?_, ?_, ?_, trivial⟩
                · intro a w' hx hu hd K hK; have e4 : a.tmps.getD 4 undef = (.int .i64 i) := hu 4 rfl; exact Flow.run1 rfl (Flow.r_move rfl e4) (hK _ _ (Below.refl _ _) rfl)
                · intro a w' hx hu hd K hK; have e1 : a.tmps.getD 1 undef = (.pointer (some ⟨g1, 0, none⟩)) := hu 1 rfl; exact Flow.run1 rfl (fa rfl e1 (fa38_4 _ _ _)) (hK _ _ (Below.refl _ _) rfl)
                · intro a w' hx hu hd K hK; have e7 := Flow.got (hd 1 rfl) 7 rfl; exact Flow.run1 rfl (ld rfl e7 ((blk_cell (blk_below Kg1_2.out (below_step HBR.out hx)) 14).trans rfl) Tryd.underlying36 rfl) (hK _ _ (Below.refl _ _) rfl)
                · intro a w' hx hu hd K hK; have e8 := Flow.got (hd 2 rfl) 8 rfl; exact Flow.run1 rfl (lenL Tryd.underlying36 rfl e8) (hK _ _ (Below.refl _ _) rfl)
                · intro a w' hx hu hd K hK; have e6 := Flow.got (hd 0 rfl) 6 rfl; have e9 := Flow.got (hd 3 rfl) 9 rfl; exact Flow.run1 rfl (yes (lss rfl e6 e9) (decide_eq_true hlt2)) (hK _ _ (Below.refl _ _) rfl)
                · intro a w' hx hu hd K hK; have e10 := Flow.got (hd 4 rfl) 10 rfl; exact Flow.run1 rfl (Flow.r_move rfl e10) (hK _ _ (Below.refl _ _) rfl)
                · intro a w' hx hu hd K hK; have e4 : a.tmps.getD 4 undef = (.int .i64 i) := hu 4 rfl; have e11 := Flow.got (hd 5 rfl) 11 rfl; exact Flow.run1 (Flow.want_of (k := 11) rfl e11) (Flow.r_move rfl e4) (hK _ _ (Below.refl _ _) rfl)
                · intro a w' hx hu hd K hK; have e12 := Flow.got (hd 6 rfl) 12 rfl; have e11 := Flow.got (hd 5 rfl) 11 rfl; exact Flow.run1 (Flow.want_of (k := 11) rfl e11) (no (lss rfl e12 rfl) (decide_eq_false h82)) (hK _ _ (Below.refl _ _) rfl)
                · intro a w' hx hu hd K hK; have e11 := Flow.got (hd 5 rfl) 11 rfl; have e13 := Flow.got (hd 7 rfl) 13 rfl; exact Flow.run1 rfl (Flow.r_pick rfl e11 e13) (hK _ _ (Below.refl _ _) rfl)
              · intro vs W17 hb17 hT
                have v0 := Flow.eqn (hT 0 (by decide))
                have v1 := Flow.eqn (hT 1 (by decide))
                have v2 := Flow.eqn (hT 2 (by decide))
                have v3 := Flow.eqn (hT 3 (by decide))
                have v4 := Flow.eqn (hT 4 (by decide))
                have v5 := Flow.eqn (hT 5 (by decide))
                have v6 := Flow.eqn (hT 6 (by decide))
                have v7 := Flow.eqn (hT 7 (by decide))
                have v8 := Flow.eqn (hT 8 (by decide))
                simp only [Flow.putsT, v0, v1, v2, v3, v4, v5, v6, v7, v8, Act.put, List.setIfInBounds_toArray, List.set_cons_zero, List.set_cons_succ]
                clear hT v0 v1 v2 v3 v4 v5 v6 v7 v8
                have HB17 := Aside0.mk (below_step HBR.out hb17)
                clear hb17
                by_cases h70 : nz > 70
                · have h71 : (nz : Int) > 70 := by omega
                  go_upto_region 13 with fail
                  refine Flow.seqT (E := fun u v => Below u.heap.size u v) [(some 51, []), (some 52, [0]), (some 53, [1]), (some 54, [2]), (some 55, [3]), (some 56, [4]), (some 57, [5, 4]), (some 58, [6, 4]), (some 59, [7, 4]), (some 60, [4, 8]), (some 2, [9, 4, 0, 1, 2, 3, 4, 5, 6, 7, 8, 9])] (fun iQ vQ wQ => match iQ with | 0 => vQ = (.pointer (some ⟨g1, 14, none⟩)) | 1 => vQ = (.slice Az nz cz) | 2 => vQ = (.int .i64 nz) | 3 => vQ = (.bool true) | 4 => vQ = (.bool true) | 5 => vQ = undef | 6 => vQ = undef | 7 => vQ = undef | 8 => vQ = undef | 9 => vQ = (.bool true) | 10 => vQ = (.bool true) | _ => True) rfl (by kernel_rfl) (Below.refl _ _) (fun _ _ _ h k => h.trans (k.mono h.size)) (fun _ _ _ _ h _ => h) ?_ ?_
                  · refine ⟨?_, ?_, ?_, ?_, ?_, ?_, ?_, ?_, ?_, ?_, ?_, trivial⟩
                    · intro a w' hx hu hd K hK; have e1 : a.tmps.getD 1 undef = (.pointer (some ⟨g1, 0, none⟩)) := hu 1 rfl; exact Flow.run1 rfl (fa rfl e1 (fa38_4 _ _ _)) (hK _ _ (Below.refl _ _) rfl)
                    · intro a w' hx hu hd K hK; have e51 := Flow.got (hd 0 rfl) 51 rfl; exact Flow.run1 rfl (ld rfl e51 ((blk_cell (blk_below Kg1_2.out (below_step HB17.out hx)) 14).trans rfl) Tryd.underlying36 rfl) (hK _ _ (Below.refl _ _) rfl)
                    · intro a w' hx hu hd K hK; have e52 := Flow.got (hd 1 rfl) 52 rfl; exact Flow.run1 rfl (lenL Tryd.underlying36 rfl e52) (hK _ _ (Below.refl _ _) rfl)
                    · intro a w' hx hu hd K hK; have e53 := Flow.got (hd 2 rfl) 53 rfl; exact Flow.run1 rfl (yes (gtr rfl e53 rfl) (decide_eq_true h71)) (hK _ _ (Below.refl _ _) rfl)
                    · intro a w' hx hu hd K hK; have e54 := Flow.got (hd 3 rfl) 54 rfl; exact Flow.run1 rfl (Flow.r_move rfl e54) (hK _ _ (Below.refl _ _) rfl)
                    · intro a w' hx hu hd K hK; have e55 := Flow.got (hd 4 rfl) 55 rfl; exact Flow.spare (Flow.spare_of (k := 55) rfl e55 rfl) (hK _ _ (Below.refl _ _) rfl)
                    · intro a w' hx hu hd K hK; have e55 := Flow.got (hd 4 rfl) 55 rfl; exact Flow.spare (Flow.spare_of (k := 55) rfl e55 rfl) (hK _ _ (Below.refl _ _) rfl)
                    · intro a w' hx hu hd K hK; have e55 := Flow.got (hd 4 rfl) 55 rfl; exact Flow.spare (Flow.spare_of (k := 55) rfl e55 rfl) (hK _ _ (Below.refl _ _) rfl)
                    · intro a w' hx hu hd K hK; have e55 := Flow.got (hd 4 rfl) 55 rfl; exact Flow.spare (Flow.spare_of (k := 55) rfl e55 rfl) (hK _ _ (Below.refl _ _) rfl)
                    · intro a w' hx hu hd K hK; have e55 := Flow.got (hd 4 rfl) 55 rfl; have e59 := Flow.got (hd 8 rfl) 59 rfl; exact Flow.run1 rfl (Flow.r_pick rfl e55 rfl) (hK _ _ (Below.refl _ _) rfl)
                    · intro a w' hx hu hd K hK; have e60 := Flow.got (hd 9 rfl) 60 rfl; exact Flow.run1 rfl (Flow.r_assign rfl e60) (hK _ _ (Below.refl _ _) rfl)
                  · intro vs W18 hb18 hT
                    have v0 := Flow.eqn (hT 0 (by decide))
                    have v1 := Flow.eqn (hT 1 (by decide))
                    have v2 := Flow.eqn (hT 2 (by decide))
                    have v3 := Flow.eqn (hT 3 (by decide))
                    have v4 := Flow.eqn (hT 4 (by decide))
                    have v5 := Flow.eqn (hT 5 (by decide))
                    have v6 := Flow.eqn (hT 6 (by decide))
                    have v7 := Flow.eqn (hT 7 (by decide))
                    have v8 := Flow.eqn (hT 8 (by decide))
                    have v9 := Flow.eqn (hT 9 (by decide))
                    have v10 := Flow.eqn (hT 10 (by decide))
                    simp only [Flow.putsT, v0, v1, v2, v3, v4, v5, v6, v7, v8, v9, v10, Act.put, List.setIfInBounds_toArray, List.set_cons_zero, List.set_cons_succ]
                    clear hT v0 v1 v2 v3 v4 v5 v6 v7 v8 v9 v10
                    have HB18 := Aside0.mk (below_step HB17.out hb18)
                    clear hb18
                    go_wp2
                    go_ret
                    exact ⟨true, rfl, (fun h => by cases h), below_step HB2.out HB18.out⟩
                · have h71 : ¬ (nz : Int) > 70 := by omega
                  by_cases h30 : ns > 30
                  · have h31 : (ns : Int) > 30 := by omega
                    go_upto_region 13 with fail
                    refine Flow.seqT (E := fun u v => Below u.heap.size u v) [(some 51, []), (some 52, [0]), (some 53, [1]), (some 54, [2]), (some 55, [3]), (some 56, [4]), (some 57, [5, 4]), (some 58, [6, 4]), (some 59, [7, 4]), (some 60, [4, 8]), (some 2, [9, 4, 0, 1, 2, 3, 4, 5, 6, 7, 8, 9])] (fun iQ vQ wQ => match iQ with | 0 => vQ = (.pointer (some ⟨g1, 14, none⟩)) | 1 => vQ = (.slice Az nz cz) | 2 => vQ = (.int .i64 nz) | 3 => vQ = (.bool false) | 4 => vQ = (.bool false) | 5 => vQ = (.pointer (some ⟨g1, 13, none⟩)) | 6 => vQ = (.slice As ns cs) | 7 => vQ = (.int .i64 ns) | 8 => vQ = (.bool true) | 9 => vQ = (.bool true) | 10 => vQ = (.bool true) | _ => True) rfl (by kernel_rfl) (Below.refl _ _) (fun _ _ _ h k => h.trans (k.mono h.size)) (fun _ _ _ _ h _ => h) ?_ ?_
                    · refine ⟨?_, ?_, ?_, ?_, ?_, ?_, ?_, ?_, ?_, ?_, ?_, trivial⟩
                      · intro a w' hx hu hd K hK; have e1 : a.tmps.getD 1 undef = (.pointer (some ⟨g1, 0, none⟩)) := hu 1 rfl; exact Flow.run1 rfl (fa rfl e1 (fa38_4 _ _ _)) (hK _ _ (Below.refl _ _) rfl)
                      · intro a w' hx hu hd K hK; have e51 := Flow.got (hd 0 rfl) 51 rfl; exact Flow.run1 rfl (ld rfl e51 ((blk_cell (blk_below Kg1_2.out (below_step HB17.out hx)) 14).trans rfl) Tryd.underlying36 rfl) (hK _ _ (Below.refl _ _) rfl)
                      · intro a w' hx hu hd K hK; have e52 := Flow.got (hd 1 rfl) 52 rfl; exact Flow.run1 rfl (lenL Tryd.underlying36 rfl e52) (hK _ _ (Below.refl _ _) rfl)
                      · intro a w' hx hu hd K hK; have e53 := Flow.got (hd 2 rfl) 53 rfl; exact Flow.run1 rfl (no (gtr rfl e53 rfl) (decide_eq_false h71)) (hK _ _ (Below.refl _ _) rfl)
                      · intro a w' hx hu hd K hK; have e54 := Flow.got (hd 3 rfl) 54 rfl; exact Flow.run1 rfl (Flow.r_move rfl e54) (hK _ _ (Below.refl _ _) rfl)
                      · intro a w' hx hu hd K hK; have e1 : a.tmps.getD 1 undef = (.pointer (some ⟨g1, 0, none⟩)) := hu 1 rfl; have e55 := Flow.got (hd 4 rfl) 55 rfl; exact Flow.run1 (Flow.want_of (k := 55) rfl e55) (fa rfl e1 (fa38_3 _ _ _)) (hK _ _ (Below.refl _ _) rfl)
                      · intro a w' hx hu hd K hK; have e56 := Flow.got (hd 5 rfl) 56 rfl; have e55 := Flow.got (hd 4 rfl) 55 rfl; exact Flow.run1 (Flow.want_of (k := 55) rfl e55) (ld rfl e56 ((blk_cell (blk_below Kg1_2.out (below_step HB17.out hx)) 13).trans rfl) Tryd.underlying35 rfl) (hK _ _ (Below.refl _ _) rfl)
                      · intro a w' hx hu hd K hK; have e57 := Flow.got (hd 6 rfl) 57 rfl; have e55 := Flow.got (hd 4 rfl) 55 rfl; exact Flow.run1 (Flow.want_of (k := 55) rfl e55) (lenL Tryd.underlying35 rfl e57) (hK _ _ (Below.refl _ _) rfl)
                      · intro a w' hx hu hd K hK; have e58 := Flow.got (hd 7 rfl) 58 rfl; have e55 := Flow.got (hd 4 rfl) 55 rfl; exact Flow.run1 (Flow.want_of (k := 55) rfl e55) (yes (gtr rfl e58 rfl) (decide_eq_true h31)) (hK _ _ (Below.refl _ _) rfl)
                      · intro a w' hx hu hd K hK; have e55 := Flow.got (hd 4 rfl) 55 rfl; have e59 := Flow.got (hd 8 rfl) 59 rfl; exact Flow.run1 rfl (Flow.r_pick rfl e55 e59) (hK _ _ (Below.refl _ _) rfl)
                      · intro a w' hx hu hd K hK; have e60 := Flow.got (hd 9 rfl) 60 rfl; exact Flow.run1 rfl (Flow.r_assign rfl e60) (hK _ _ (Below.refl _ _) rfl)
                    · intro vs W19 hb19 hT
                      have v0 := Flow.eqn (hT 0 (by decide))
                      have v1 := Flow.eqn (hT 1 (by decide))
                      have v2 := Flow.eqn (hT 2 (by decide))
                      have v3 := Flow.eqn (hT 3 (by decide))
                      have v4 := Flow.eqn (hT 4 (by decide))
                      have v5 := Flow.eqn (hT 5 (by decide))
                      have v6 := Flow.eqn (hT 6 (by decide))
                      have v7 := Flow.eqn (hT 7 (by decide))
                      have v8 := Flow.eqn (hT 8 (by decide))
                      have v9 := Flow.eqn (hT 9 (by decide))
                      have v10 := Flow.eqn (hT 10 (by decide))
                      simp only [Flow.putsT, v0, v1, v2, v3, v4, v5, v6, v7, v8, v9, v10, Act.put, List.setIfInBounds_toArray, List.set_cons_zero, List.set_cons_succ]
                      clear hT v0 v1 v2 v3 v4 v5 v6 v7 v8 v9 v10
                      have HB19 := Aside0.mk (below_step HB17.out hb19)
                      clear hb19
                      go_wp2
                      go_ret
                      exact ⟨true, rfl, (fun h => by cases h), below_step HB2.out HB19.out⟩
                  · have h31 : ¬ (ns : Int) > 30 := by omega
                    go_upto_region 13 with fail
                    refine Flow.seqT (E := fun u v => Below u.heap.size u v) [(some 51, []), (some 52, [0]), (some 53, [1]), (some 54, [2]), (some 55, [3]), (some 56, [4]), (some 57, [5, 4]), (some 58, [6, 4]), (some 59, [7, 4]), (some 60, [4, 8]), (some 2, [9, 4, 0, 1, 2, 3, 4, 5, 6, 7, 8, 9])] (fun iQ vQ wQ => match iQ with | 0 => vQ = (.pointer (some ⟨g1, 14, none⟩)) | 1 => vQ = (.slice Az nz cz) | 2 => vQ = (.int .i64 nz) | 3 => vQ = (.bool false) | 4 => vQ = (.bool false) | 5 => vQ = (.pointer (some ⟨g1, 13, none⟩)) | 6 => vQ = (.slice As ns cs) | 7 => vQ = (.int .i64 ns) | 8 => vQ = (.bool false) | 9 => vQ = (.bool false) | 10 => vQ = (.bool false) | _ => True) rfl (by kernel_rfl) (Below.refl _ _) (fun _ _ _ h k => h.trans (k.mono h.size)) (fun _ _ _ _ h _ => h) ?_ ?_
                    · refine ⟨?_, ?_, ?_, ?_, ?_, ?_, ?_, ?_, ?_, ?_, ?_, trivial⟩
                      · intro a w' hx hu hd K hK; have e1 : a.tmps.getD 1 undef = (.pointer (some ⟨g1, 0, none⟩)) := hu 1 rfl; exact Flow.run1 rfl (fa rfl e1 (fa38_4 _ _ _)) (hK _ _ (Below.refl _ _) rfl)
                      · intro a w' hx hu hd K hK; have e51 := Flow.got (hd 0 rfl) 51 rfl; exact Flow.run1 rfl (ld rfl e51 ((blk_cell (blk_below Kg1_2.out (below_step HB17.out hx)) 14).trans rfl) Tryd.underlying36 rfl) (hK _ _ (Below.refl _ _) rfl)
                      · intro a w' hx hu hd K hK; have e52 := Flow.got (hd 1 rfl) 52 rfl; exact Flow.run1 rfl (lenL Tryd.underlying36 rfl e52) (hK _ _ (Below.refl _ _) rfl)
                      · intro a w' hx hu hd K hK; have e53 := Flow.got (hd 2 rfl) 53 rfl; exact Flow.run1 rfl (no (gtr rfl e53 rfl) (decide_eq_false h71)) (hK _ _ (Below.refl _ _) rfl)
                      · intro a w' hx hu hd K hK; have e54 := Flow.got (hd 3 rfl) 54 rfl; exact Flow.run1 rfl (Flow.r_move rfl e54) (hK _ _ (Below.refl _ _) rfl)
                      · intro a w' hx hu hd K hK; have e1 : a.tmps.getD 1 undef = (.pointer (some ⟨g1, 0, none⟩)) := hu 1 rfl; have e55 := Flow.got (hd 4 rfl) 55 rfl; exact Flow.run1 (Flow.want_of (k := 55) rfl e55) (fa rfl e1 (fa38_3 _ _ _)) (hK _ _ (Below.refl _ _) rfl)
                      · intro a w' hx hu hd K hK; have e56 := Flow.got (hd 5 rfl) 56 rfl; have e55 := Flow.got (hd 4 rfl) 55 rfl; exact Flow.run1 (Flow.want_of (k := 55) rfl e55) (ld rfl e56 ((blk_cell (blk_below Kg1_2.out (below_step HB17.out hx)) 13).trans rfl) Tryd.underlying35 rfl) (hK _ _ (Below.refl _ _) rfl)
                      · intro a w' hx hu hd K hK; have e57 := Flow.got (hd 6 rfl) 57 rfl; have e55 := Flow.got (hd 4 rfl) 55 rfl; exact Flow.run1 (Flow.want_of (k := 55) rfl e55) (lenL Tryd.underlying35 rfl e57) (hK _ _ (Below.refl _ _) rfl)
                      · intro a w' hx hu hd K hK; have e58 := Flow.got (hd 7 rfl) 58 rfl; have e55 := Flow.got (hd 4 rfl) 55 rfl; exact Flow.run1 (Flow.want_of (k := 55) rfl e55) (no (gtr rfl e58 rfl) (decide_eq_false h31)) (hK _ _ (Below.refl _ _) rfl)
                      · intro a w' hx hu hd K hK; have e55 := Flow.got (hd 4 rfl) 55 rfl; have e59 := Flow.got (hd 8 rfl) 59 rfl; exact Flow.run1 rfl (Flow.r_pick rfl e55 e59) (hK _ _ (Below.refl _ _) rfl)
                      · intro a w' hx hu hd K hK; have e60 := Flow.got (hd 9 rfl) 60 rfl; exact Flow.run1 rfl (Flow.r_assign rfl e60) (hK _ _ (Below.refl _ _) rfl)
                    · intro vs W20 hb20 hT
                      have v0 := Flow.eqn (hT 0 (by decide))
                      have v1 := Flow.eqn (hT 1 (by decide))
                      have v2 := Flow.eqn (hT 2 (by decide))
                      have v3 := Flow.eqn (hT 3 (by decide))
                      have v4 := Flow.eqn (hT 4 (by decide))
                      have v5 := Flow.eqn (hT 5 (by decide))
                      have v6 := Flow.eqn (hT 6 (by decide))
                      have v7 := Flow.eqn (hT 7 (by decide))
                      have v8 := Flow.eqn (hT 8 (by decide))
                      have v9 := Flow.eqn (hT 9 (by decide))
                      have v10 := Flow.eqn (hT 10 (by decide))
                      simp only [Flow.putsT, v0, v1, v2, v3, v4, v5, v6, v7, v8, v9, v10, Act.put, List.setIfInBounds_toArray, List.set_cons_zero, List.set_cons_succ]
                      clear hT v0 v1 v2 v3 v4 v5 v6 v7 v8 v9 v10
                      have HB20 := Aside0.mk (below_step HB17.out hb20)
                      clear hb20
                      go_wp2
                      go_ret
                      exact ⟨false, rfl, (fun _ => ⟨by rw [HNz.out]; omega, by rw [HNs.out]; omega, fun j hj => HF.out j (by rw [HNz.out] at hj; omega)⟩), below_step HB2.out HB20.out⟩
          · have hlt2 : ¬ (i : Int) < nz := by omega
            go_upto_region 3 with fail
            refine Flow.seqT (E := fun u v => Below u.heap.size u v) [(some 6, []), (some 7, []), (some 8, [1]), (some 9, [2]), (some 10, [0, 3]), (some 11, [4]), (some 12, [5]), (some 13, [6, 5]), (some 14, [5, 7])] (fun iQ vQ wQ => match iQ with | 0 => vQ = (.int .i64 i) | 1 => vQ = (.pointer (some ⟨g1, 14, none⟩)) | 2 => vQ = (.slice Az nz cz) | 3 => vQ = (.int .i64 nz) | 4 => vQ = (.bool false) | 5 => vQ = (.bool false) | 6 => vQ = undef | 7 => vQ = undef | 8 => vQ = (.bool false) | _ => True) rfl (by kernel_rfl) (Below.refl _ _) (fun _ _ _ h k => h.trans (k.mono h.size)) (fun _ _ _ _ h _ => h) ?_ ?_
            · refine ⟨?_, ?_, ?_, ?_, ?_, ?_, ?_, ?_, ?_, trivial⟩
              · intro a w' hx hu hd K hK; have e4 : a.tmps.getD 4 undef = (.int .i64 i) := hu 4 rfl; exact Flow.run1 rfl (Flow.r_move rfl e4) (hK _ _ (Below.refl _ _) rfl)
              · intro a w' hx hu hd K hK; have e1 : a.tmps.getD 1 undef = (.pointer (some ⟨g1, 0, none⟩)) := hu 1 rfl; exact Flow.run1 rfl (fa rfl e1 (fa38_4 _ _ _)) (hK _ _ (Below.refl _ _) rfl)
              · intro a w' hx hu hd K hK; have e7 := Flow.got (hd 1 rfl) 7 rfl; exact Flow.run1 rfl (ld rfl e7 ((blk_cell (blk_below Kg1_2.out (below_step HBR.out hx)) 14).trans rfl) Tryd.underlying36 rfl) (hK _ _ (Below.refl _ _) rfl)
              · intro a w' hx hu hd K hK; have e8 := Flow.got (hd 2 rfl) 8 rfl; exact Flow.run1 rfl (lenL Tryd.underlying36 rfl e8) (hK _ _ (Below.refl _ _) rfl)
              · intro a w' hx hu hd K hK; have e6 := Flow.got (hd 0 rfl) 6 rfl; have e9 := Flow.got (hd 3 rfl) 9 rfl; exact Flow.run1 rfl (no (lss rfl e6 e9) (decide_eq_false hlt2)) (hK _ _ (Below.refl _ _) rfl)
              · intro a w' hx hu hd K hK; have e10 := Flow.got (hd 4 rfl) 10 rfl; exact Flow.run1 rfl (Flow.r_move rfl e10) (hK _ _ (Below.refl _ _) rfl)
              · intro a w' hx hu hd K hK; have e11 := Flow.got (hd 5 rfl) 11 rfl; exact Flow.spare (Flow.spare_of (k := 11) rfl e11 rfl) (hK _ _ (Below.refl _ _) rfl)
              · intro a w' hx hu hd K hK; have e11 := Flow.got (hd 5 rfl) 11 rfl; exact Flow.spare (Flow.spare_of (k := 11) rfl e11 rfl) (hK _ _ (Below.refl _ _) rfl)
              · intro a w' hx hu hd K hK; have e11 := Flow.got (hd 5 rfl) 11 rfl; have e13 := Flow.got (hd 7 rfl) 13 rfl; exact Flow.run1 rfl (Flow.r_pick rfl e11 rfl) (hK _ _ (Below.refl _ _) rfl)
            · intro vs W21 hb21 hT
              have v0 := Flow.eqn (hT 0 (by decide))
              have v1 := Flow.eqn (hT 1 (by decide))
              have v2 := Flow.eqn (hT 2 (by decide))
              have v3 := Flow.eqn (hT 3 (by decide))
              have v4 := Flow.eqn (hT 4 (by decide))
              have v5 := Flow.eqn (hT 5 (by decide))
              have v6 := Flow.eqn (hT 6 (by decide))
              have v7 := Flow.eqn (hT 7 (by decide))
              have v8 := Flow.eqn (hT 8 (by decide))
              simp only [Flow.putsT, v0, v1, v2, v3, v4, v5, v6, v7, v8, Act.put, List.setIfInBounds_toArray, List.set_cons_zero, List.set_cons_succ]
              clear hT v0 v1 v2 v3 v4 v5 v6 v7 v8
              have HB21 := Aside0.mk (below_step HBR.out hb21)
              clear hb21
              by_cases h70 : nz > 70
              · have h71 : (nz : Int) > 70 := by omega
                go_upto_region 13 with fail
                refine Flow.seqT (E := fun u v => Below u.heap.size u v) [(some 51, []), (some 52, [0]), (some 53, [1]), (some 54, [2]), (some 55, [3]), (some 56, [4]), (some 57, [5, 4]), (some 58, [6, 4]), (some 59, [7, 4]), (some 60, [4, 8]), (some 2, [9, 4, 0, 1, 2, 3, 4, 5, 6, 7, 8, 9])] (fun iQ vQ wQ => match iQ with | 0 => vQ = (.pointer (some ⟨g1, 14, none⟩)) | 1 => vQ = (.slice Az nz cz) | 2 => vQ = (.int .i64 nz) | 3 => vQ = (.bool true) | 4 => vQ = (.bool true) | 5 => vQ = undef | 6 => vQ = undef | 7 => vQ = undef | 8 => vQ = undef | 9 => vQ = (.bool true) | 10 => vQ = (.bool true) | _ => True) rfl (by kernel_rfl) (Below.refl _ _) (fun _ _ _ h k => h.trans (k.mono h.size)) (fun _ _ _ _ h _ => h) ?_ ?_
                · refine ⟨?_, ?_, ?_, ?_, ?_, ?_, ?_, ?_, ?_, ?_, ?_, trivial⟩
                  · intro a w' hx hu hd K hK; have e1 : a.tmps.getD 1 undef = (.pointer (some ⟨g1, 0, none⟩)) := hu 1 rfl; exact Flow.run1 rfl (fa rfl e1 (fa38_4 _ _ _)) (hK _ _ (Below.refl _ _) rfl)
                  · intro a w' hx hu hd K hK; have e51 := Flow.got (hd 0 rfl) 51 rfl; exact Flow.run1 rfl (ld rfl e51 ((blk_cell (blk_below Kg1_2.out (below_step HB21.out hx)) 14).trans rfl) Tryd.underlying36 rfl) (hK _ _ (Below.refl _ _) rfl)
                  · intro a w' hx hu hd K hK; have e52 := Flow.got (hd 1 rfl) 52 rfl; exact Flow.run1 rfl (lenL Tryd.underlying36 rfl e52) (hK _ _ (Below.refl _ _) rfl)
                  · intro a w' hx hu hd K hK; have e53 := Flow.got (hd 2 rfl) 53 rfl; exact Flow.run1 rfl (yes (gtr rfl e53 rfl) (decide_eq_true h71)) (hK _ _ (Below.refl _ _) rfl)
                  · intro a w' hx hu hd K hK; have e54 := Flow.got (hd 3 rfl) 54 rfl; exact Flow.run1 rfl (Flow.r_move rfl e54) (hK _ _ (Below.refl _ _) rfl)
                  · intro a w' hx hu hd K hK; have e55 := Flow.got (hd 4 rfl) 55 rfl; exact Flow.spare (Flow.spare_of (k := 55) rfl e55 rfl) (hK _ _ (Below.refl _ _) rfl)
                  · intro a w' hx hu hd K hK; have e55 := Flow.got (hd 4 rfl) 55 rfl; exact Flow.spare (Flow.spare_of (k := 55) rfl e55 rfl) (hK _ _ (Below.refl _ _) rfl)
                  · intro a w' hx hu hd K hK; have e55 := Flow.got (hd 4 rfl) 55 rfl; exact Flow.spare (Flow.spare_of (k := 55) rfl e55 rfl) (hK _ _ (Below.refl _ _) rfl)
                  · intro a w' hx hu hd K hK; have e55 := Flow.got (hd 4 rfl) 55 rfl; exact Flow.spare (Flow.spare_of (k := 55) rfl e55 rfl) (hK _ _ (Below.refl _ _) rfl)
                  · intro a w' hx hu hd K hK; have e55 := Flow.got (hd 4 rfl) 55 rfl; have e59 := Flow.got (hd 8 rfl) 59 rfl; exact Flow.run1 rfl (Flow.r_pick rfl e55 rfl) (hK _ _ (Below.refl _ _) rfl)
                  · intro a w' hx hu hd K hK; have e60 := Flow.got (hd 9 rfl) 60 rfl; exact Flow.run1 rfl (Flow.r_assign rfl e60) (hK _ _ (Below.refl _ _) rfl)
                · intro vs W22 hb22 hT
                  have v0 := Flow.eqn (hT 0 (by decide))
                  have v1 := Flow.eqn (hT 1 (by decide))
                  have v2 := Flow.eqn (hT 2 (by decide))
                  have v3 := Flow.eqn (hT 3 (by decide))
                  have v4 := Flow.eqn (hT 4 (by decide))
                  have v5 := Flow.eqn (hT 5 (by decide))
                  have v6 := Flow.eqn (hT 6 (by decide))
                  have v7 := Flow.eqn (hT 7 (by decide))
                  have v8 := Flow.eqn (hT 8 (by decide))
                  have v9 := Flow.eqn (hT 9 (by decide))
                  have v10 := Flow.eqn (hT 10 (by decide))
                  simp only [Flow.putsT, v0, v1, v2, v3, v4, v5, v6, v7, v8, v9, v10, Act.put, List.setIfInBounds_toArray, List.set_cons_zero, List.set_cons_succ]
                  clear hT v0 v1 v2 v3 v4 v5 v6 v7 v8 v9 v10
                  have HB22 := Aside0.mk (below_step HB21.out hb22)
                  clear hb22
                  go_wp2
                  go_ret
                  exact ⟨true, rfl, (fun h => by cases h), below_step HB2.out HB22.out⟩
              · have h71 : ¬ (nz : Int) > 70 := by omega
                by_cases h30 : ns > 30
                · have h31 : (ns : Int) > 30 := by omega
                  go_upto_region 13 with fail
                  refine Flow.seqT (E := fun u v => Below u.heap.size u v) [(some 51, []), (some 52, [0]), (some 53, [1]), (some 54, [2]), (some 55, [3]), (some 56, [4]), (some 57, [5, 4]), (some 58, [6, 4]), (some 59, [7, 4]), (some 60, [4, 8]), (some 2, [9, 4, 0, 1, 2, 3, 4, 5, 6, 7, 8, 9])] (fun iQ vQ wQ => match iQ with | 0 => vQ = (.pointer (some ⟨g1, 14, none⟩)) | 1 => vQ = (.slice Az nz cz) | 2 => vQ = (.int .i64 nz) | 3 => vQ = (.bool false) | 4 => vQ = (.bool false) | 5 => vQ = (.pointer (some ⟨g1, 13, none⟩)) | 6 => vQ = (.slice As ns cs) | 7 => vQ = (.int .i64 ns) | 8 => vQ = (.bool true) | 9 => vQ = (.bool true) | 10 => vQ = (.bool true) | _ => True) rfl (by kernel_rfl) (Below.refl _ _) (fun _ _ _ h k => h.trans (k.mono h.size)) (fun _ _ _ _ h _ => h) ?_ ?_
                  · refine ⟨?_, ?_, ?_, ?_, ?_, ?_, ?_, ?_, ?_, ?_, ?_, trivial⟩
                    · intro a w' hx hu hd K hK; have e1 : a.tmps.getD 1 undef = (.pointer (some ⟨g1, 0, none⟩)) := hu 1 rfl; exact Flow.run1 rfl (fa rfl e1 (fa38_4 _ _ _)) (hK _ _ (Below.refl _ _) rfl)
                    · intro a w' hx hu hd K hK; have e51 := Flow.got (hd 0 rfl) 51 rfl; exact Flow.run1 rfl (ld rfl e51 ((blk_cell (blk_below Kg1_2.out (below_step HB21.out hx)) 14).trans rfl) Tryd.underlying36 rfl) (hK _ _ (Below.refl _ _) rfl)
                    · intro a w' hx hu hd K hK; have e52 := Flow.got (hd 1 rfl) 52 rfl; exact Flow.run1 rfl (lenL Tryd.underlying36 rfl e52) (hK _ _ (Below.refl _ _) rfl)
                    · intro a w' hx hu hd K hK; have e53 := Flow.got (hd 2 rfl) 53 rfl; exact Flow.run1 rfl (no (gtr rfl e53 rfl) (decide_eq_false h71)) (hK _ _ (Below.refl _ _) rfl)
                    · intro a w' hx hu hd K hK; have e54 := Flow.got (hd 3 rfl) 54 rfl; exact Flow.run1 rfl (Flow.r_move rfl e54) (hK _ _ (Below.refl _ _) rfl)
                    · intro a w' hx hu hd K hK; have e1 : a.tmps.getD 1 undef = (.pointer (some ⟨g1, 0, none⟩)) := hu 1 rfl; have e55 := Flow.got (hd 4 rfl) 55 rfl; exact Flow.run1 (Flow.want_of (k := 55) rfl e55) (fa rfl e1 (fa38_3 _ _ _)) (hK _ _ (Below.refl _ _) rfl)
                    · intro a w' hx hu hd K hK; have e56 := Flow.got (hd 5 rfl) 56 rfl; have e55 := Flow.got (hd 4 rfl) 55 rfl; exact Flow.run1 (Flow.want_of (k := 55) rfl e55) (ld rfl e56 ((blk_cell (blk_below Kg1_2.out (below_step HB21.out hx)) 13).trans rfl) Tryd.underlying35 rfl) (hK _ _ (Below.refl _ _) rfl)
                    · intro a w' hx hu hd K hK; have e57 := Flow.got (hd 6 rfl) 57 rfl; have e55 := Flow.got (hd 4 rfl) 55 rfl; exact Flow.run1 (Flow.want_of (k := 55) rfl e55) (lenL Tryd.underlying35 rfl e57) (hK _ _ (Below.refl _ _) rfl)
                    · intro a w' hx hu hd K hK; have e58 := Flow.got (hd 7 rfl) 58 rfl; have e55 := Flow.got (hd 4 rfl) 55 rfl; exact Flow.run1 (Flow.want_of (k := 55) rfl e55) (yes (gtr rfl e58 rfl) (decide_eq_true h31)) (hK _ _ (Below.refl _ _) rfl)
                    · intro a w' hx hu hd K hK; have e55 := Flow.got (hd 4 rfl) 55 rfl; have e59 := Flow.got (hd 8 rfl) 59 rfl; exact Flow.run1 rfl (Flow.r_pick rfl e55 e59) (hK _ _ (Below.refl _ _) rfl)
                    · intro a w' hx hu hd K hK; have e60 := Flow.got (hd 9 rfl) 60 rfl; exact Flow.run1 rfl (Flow.r_assign rfl e60) (hK _ _ (Below.refl _ _) rfl)
                  · intro vs W23 hb23 hT
                    have v0 := Flow.eqn (hT 0 (by decide))
                    have v1 := Flow.eqn (hT 1 (by decide))
                    have v2 := Flow.eqn (hT 2 (by decide))
                    have v3 := Flow.eqn (hT 3 (by decide))
                    have v4 := Flow.eqn (hT 4 (by decide))
                    have v5 := Flow.eqn (hT 5 (by decide))
                    have v6 := Flow.eqn (hT 6 (by decide))
                    have v7 := Flow.eqn (hT 7 (by decide))
                    have v8 := Flow.eqn (hT 8 (by decide))
                    have v9 := Flow.eqn (hT 9 (by decide))
                    have v10 := Flow.eqn (hT 10 (by decide))
                    simp only [Flow.putsT, v0, v1, v2, v3, v4, v5, v6, v7, v8, v9, v10, Act.put, List.setIfInBounds_toArray, List.set_cons_zero, List.set_cons_succ]
                    clear hT v0 v1 v2 v3 v4 v5 v6 v7 v8 v9 v10
                    have HB23 := Aside0.mk (below_step HB21.out hb23)
                    clear hb23
                    go_wp2
                    go_ret
                    exact ⟨true, rfl, (fun h => by cases h), below_step HB2.out HB23.out⟩
                · have h31 : ¬ (ns : Int) > 30 := by omega
                  go_upto_region 13 with fail
                  refine Flow.seqT (E := fun u v => Below u.heap.size u v) [(some 51, []), (some 52, [0]), (some 53, [1]), (some 54, [2]), (some 55, [3]), (some 56, [4]), (some 57, [5, 4]), (some 58, [6, 4]), (some 59, [7, 4]), (some 60, [4, 8]), (some 2, [9, 4, 0, 1, 2, 3, 4, 5, 6, 7, 8, 9])] (fun iQ vQ wQ => match iQ with | 0 => vQ = (.pointer (some ⟨g1, 14, none⟩)) | 1 => vQ = (.slice Az nz cz) | 2 => vQ = (.int .i64 nz) | 3 => vQ = (.bool false) | 4 => vQ = (.bool false) | 5 => vQ = (.pointer (some ⟨g1, 13, none⟩)) | 6 => vQ = (.slice As ns cs) | 7 => vQ = (.int .i64 ns) | 8 => vQ = (.bool false) | 9 => vQ = (.bool false) | 10 => vQ = (.bool false) | _ => True) rfl (by kernel_rfl) (Below.refl _ _) (fun _ _ _ h k => h.trans (k.mono h.size)) (fun _ _ _ _ h _ => h) ?_ ?_
                  · refine ⟨?_, ?_, ?_, ?_, ?_, ?_, ?_, ?_, ?_, ?_, ?_, trivial⟩
                    · intro a w' hx hu hd K hK; have e1 : a.tmps.getD 1 undef = (.pointer (some ⟨g1, 0, none⟩)) := hu 1 rfl; exact Flow.run1 rfl (fa rfl e1 (fa38_4 _ _ _)) (hK _ _ (Below.refl _ _) rfl)
                    · intro a w' hx hu hd K hK; have e51 := Flow.got (hd 0 rfl) 51 rfl; exact Flow.run1 rfl (ld rfl e51 ((blk_cell (blk_below Kg1_2.out (below_step HB21.out hx)) 14).trans rfl) Tryd.underlying36 rfl) (hK _ _ (Below.refl _ _) rfl)
                    · intro a w' hx hu hd K hK; have e52 := Flow.got (hd 1 rfl) 52 rfl; exact Flow.run1 rfl (lenL Tryd.underlying36 rfl e52) (hK _ _ (Below.refl _ _) rfl)
                    · intro a w' hx hu hd K hK; have e53 := Flow.got (hd 2 rfl) 53 rfl; exact Flow.run1 rfl (no (gtr rfl e53 rfl) (decide_eq_false h71)) (hK _ _ (Below.refl _ _) rfl)
                    · intro a w' hx hu hd K hK; have e54 := Flow.got (hd 3 rfl) 54 rfl; exact Flow.run1 rfl (Flow.r_move rfl e54) (hK _ _ (Below.refl _ _) rfl)
                    · intro a w' hx hu hd K hK; have e1 : a.tmps.getD 1 undef = (.pointer (some ⟨g1, 0, none⟩)) := hu 1 rfl; have e55 := Flow.got (hd 4 rfl) 55 rfl; exact Flow.run1 (Flow.want_of (k := 55) rfl e55) (fa rfl e1 (fa38_3 _ _ _)) (hK _ _ (Below.refl _ _) rfl)
                    · intro a w' hx hu hd K hK; have e56 := Flow.got (hd 5 rfl) 56 rfl; have e55 := Flow.got (hd 4 rfl) 55 rfl; exact Flow.run1 (Flow.want_of (k := 55) rfl e55) (ld rfl e56 ((blk_cell (blk_below Kg1_2.out (below_step HB21.out hx)) 13).trans rfl) Tryd.underlying35 rfl) (hK _ _ (Below.refl _ _) rfl)
                    · intro a w' hx hu hd K hK; have e57 := Flow.got (hd 6 rfl) 57 rfl; have e55 := Flow.got (hd 4 rfl) 55 rfl; exact Flow.run1 (Flow.want_of (k := 55) rfl e55) (lenL Tryd.underlying35 rfl e57) (hK _ _ (Below.refl _ _) rfl)
                    · intro a w' hx hu hd K hK; have e58 := Flow.got (hd 7 rfl) 58 rfl; have e55 := Flow.got (hd 4 rfl) 55 rfl; exact Flow.run1 (Flow.want_of (k := 55) rfl e55) (no (gtr rfl e58 rfl) (decide_eq_false h31)) (hK _ _ (Below.refl _ _) rfl)
                    · intro a w' hx hu hd K hK; have e55 := Flow.got (hd 4 rfl) 55 rfl; have e59 := Flow.got (hd 8 rfl) 59 rfl; exact Flow.run1 rfl (Flow.r_pick rfl e55 e59) (hK _ _ (Below.refl _ _) rfl)
                    · intro a w' hx hu hd K hK; have e60 := Flow.got (hd 9 rfl) 60 rfl; exact Flow.run1 rfl (Flow.r_assign rfl e60) (hK _ _ (Below.refl _ _) rfl)
                  · intro vs W24 hb24 hT
                    have v0 := Flow.eqn (hT 0 (by decide))
                    have v1 := Flow.eqn (hT 1 (by decide))
                    have v2 := Flow.eqn (hT 2 (by decide))
                    have v3 := Flow.eqn (hT 3 (by decide))
                    have v4 := Flow.eqn (hT 4 (by decide))
                    have v5 := Flow.eqn (hT 5 (by decide))
                    have v6 := Flow.eqn (hT 6 (by decide))
                    have v7 := Flow.eqn (hT 7 (by decide))
                    have v8 := Flow.eqn (hT 8 (by decide))
                    have v9 := Flow.eqn (hT 9 (by decide))
                    have v10 := Flow.eqn (hT 10 (by decide))
                    simp only [Flow.putsT, v0, v1, v2, v3, v4, v5, v6, v7, v8, v9, v10, Act.put, List.setIfInBounds_toArray, List.set_cons_zero, List.set_cons_succ]
                    clear hT v0 v1 v2 v3 v4 v5 v6 v7 v8 v9 v10
                    have HB24 := Aside0.mk (below_step HB21.out hb24)
                    clear hb24
                    go_wp2
                    go_ret
                    exact ⟨false, rfl, (fun _ => ⟨by rw [HNz.out]; omega, by rw [HNs.out]; omega, fun j hj => HF.out j (by rw [HNz.out] at hj; omega)⟩), below_step HB2.out HB24.out⟩
end Go.Proofs.YtlhmpmmblnbmbaaDoor.Rep
