/- Bytes as hexadecimal digits: the program's and the document's way. -/
import Derived.Test.YtlhmpmmblnbmbaaDoorRepHexP
set_option linter.unusedVariables false
set_option linter.unusedSimpArgs false
namespace Go.Proofs.YtlhmpmmblnbmbaaDoor.Rep
open Go.Lib Go.RowKit Go.Proofs.YtlhmpmmblnbmbaaDoor.Ev Go.Proofs.YtlhmpmmblnbmbaaDoor.Cells Go.Proofs.YtlhmpmmblnbmbaaDoorW.PrintWords Go.Proofs.YtlhmpmmblnbmbaaDoorW.PrintLast Go.Proofs.YtlhmpmmblnbmbaaDoorW.PrintMore
set_option maxHeartbeats 4000000 in
set_option maxRecDepth 100000 in
theorem hex_c (l : List Int) (A : Option Addr) (c : Nat) (hb : B8 l) (hn : l.length ≤ 1000000) (w : World) (hC : Kd.C (Kd.int .u8) w A l.length l) : Calls Tryd.prog 25 #[.slice A l.length c] w fun e w' => e = .returned (.string (hexB l)) ∧ Below w.heap.size w w' := by
  obtain ⟨n, HN⟩ : ∃ n, Aside0 (l.length = n) := ⟨_, ⟨rfl⟩⟩
  have HB8 := Aside0.mk hb
  rw [HN.out] at hn hC ⊢
  have HC := Aside0.mk hC
  clear hC hb
  go_enter Tryd.func25, Tryd.ntmps25
  go_upto_region 0 with fail
  refine Flow.seqT (E := fun u v => Below u.heap.size u v) [(some 2, [])] (fun iQ vQ wQ => match iQ with | 0 => vQ = (.string ⟨#[]⟩) | _ => True) rfl (by kernel_rfl) (Below.refl _ _) (fun _ _ _ h k => h.trans (k.mono h.size)) (fun _ _ _ _ h _ => h) ?_ ?_
  · refine ⟨?_, trivial⟩
    · intro a w' hx hu hd K hK; exact Flow.run1 rfl (Flow.r_assign rfl rfl) (hK _ _ (Below.refl _ _) rfl)
  · intro vs W1 hb1 hT
    have v0 := Flow.eqn (hT 0 (by decide))
    simp only [Flow.putsT, v0, Act.put, List.setIfInBounds_toArray, List.set_cons_zero, List.set_cons_succ]
    clear hT v0
    have HB1 := Aside0.mk hb1
    clear hb1
    go_upto_region 1 with fail
    refine Flow.seqT (E := fun u v => Below u.heap.size u v) [(some 3, [])] (fun iQ vQ wQ => match iQ with | 0 => vQ = (.slice none 0 0) | _ => True) rfl (by kernel_rfl) (Below.refl _ _) (fun _ _ _ h k => h.trans (k.mono h.size)) (fun _ _ _ _ h _ => h) ?_ ?_
    · refine ⟨?_, trivial⟩
      · intro a w' hx hu hd K hK; exact Flow.run1 rfl (Flow.r_assign rfl rfl) (hK _ _ (Below.refl _ _) rfl)
    · intro vs W2 hb2 hT
      have v0 := Flow.eqn (hT 0 (by decide))
      simp only [Flow.putsT, v0, Act.put, List.setIfInBounds_toArray, List.set_cons_zero, List.set_cons_succ]
      clear hT v0
      have HB2 := Aside0.mk (below_step HB1.out hb2)
      clear hb2
      go_upto_region 2 with fail
      refine Flow.seqT (E := fun u v => Below u.heap.size u v) [(some 6, []), (some 7, [0]), (some 8, [])] (fun iQ vQ wQ => match iQ with | 0 => vQ = (.slice A n c) | 1 => vQ = (.int .i64 n) | 2 => vQ = (.int .i64 0) | _ => True) rfl (by kernel_rfl) (Below.refl _ _) (fun _ _ _ h k => h.trans (k.mono h.size)) (fun _ _ _ _ h _ => h) ?_ ?_
      · refine ⟨?_, ?_, ?_, trivial⟩
        · intro a w' hx hu hd K hK; have e0 : a.tmps.getD 0 undef = (.slice A n c) := hu 0 rfl; exact Flow.run1 rfl (Flow.r_move rfl e0) (hK _ _ (Below.refl _ _) rfl)
        · intro a w' hx hu hd K hK; have e6 := Flow.got (hd 0 rfl) 6 rfl; exact Flow.run1 rfl (lenL Tryd.underlying43 rfl e6) (hK _ _ (Below.refl _ _) rfl)
        · intro a w' hx hu hd K hK; exact Flow.run1 rfl (Flow.r_move rfl rfl) (hK _ _ (Below.refl _ _) rfl)
      · intro vs W3 hb3 hT
        have v0 := Flow.eqn (hT 0 (by decide))
        have v1 := Flow.eqn (hT 1 (by decide))
        have v2 := Flow.eqn (hT 2 (by decide))
        simp only [Flow.putsT, v0, v1, v2, Act.put, List.setIfInBounds_toArray, List.set_cons_zero, List.set_cons_succ]
        clear hT v0 v1 v2
        have HB3 := Aside0.mk (below_step HB2.out hb3)
        clear hb3
        go_wp2
        go_loopg [3, 8] n (fun g v3 v8 wr => ∃ k : Nat, k ≤ n ∧ Aside0 (g = n - k) ∧ v8 = .int .i64 k ∧ Aside0 (Below w.heap.size w wr) ∧ Aside0 (Kd.R (Kd.int .u8) 5 wr w.heap.size (fun _ => True) v3 (hexN (l.take k))))
        case atStart => exact ⟨0, Nat.zero_le _, ⟨rfl⟩, rfl, HB3, ⟨Kd.R_nil _ _ _ _ _⟩⟩
        case round =>
          clear HB3
          obtain ⟨k, hk, HGK, rfl, HBR, HR⟩ := hrel
          by_cases hlt : k < n
          · have hlt2 : (k : Int) < n := by omega
            go_upto_region 3 with fail
            refine Flow.seqT (E := fun u v => Below u.heap.size u v) [(some 9, [])] (fun iQ vQ wQ => match iQ with | 0 => vQ = (.bool true) | _ => True) rfl (by kernel_rfl) (Below.refl _ _) (fun _ _ _ h k => h.trans (k.mono h.size)) (fun _ _ _ _ h _ => h) ?_ ?_
            · refine ⟨?_, trivial⟩
              · intro a w' hx hu hd K hK; have e8 : a.tmps.getD 8 undef = (.int .i64 k) := hu 8 rfl; have e7 : a.tmps.getD 7 undef = (.int .i64 n) := hu 7 rfl; exact Flow.run1 rfl (yes (lss rfl e8 e7) (decide_eq_true hlt2)) (hK _ _ (Below.refl _ _) rfl)
            · intro vs W4 hb4 hT
              have v0 := Flow.eqn (hT 0 (by decide))
              simp only [Flow.putsT, v0, Act.put, List.setIfInBounds_toArray, List.set_cons_zero, List.set_cons_succ]
              clear hT v0
              have HB4 := Aside0.mk (below_step HBR.out hb4)
              have HR_4 := Aside0.mk (Kd.R_below HR.out hb4)
              clear hb4
              obtain ⟨ad, hA, hcell⟩ := elem8 HC.out k hlt
              subst hA
              have hx8 := B8_at HB8.out k
              have HSN := Aside0.mk (hexN_snoc l k (by rw [HN.out]; exact hlt))
              obtain ⟨x, hx⟩ : ∃ q, l.getD k 0 = q := ⟨_, rfl⟩
              rw [hx] at HSN hcell hx8
              clear hx
              go_upto_region 4 with fail
              refine Flow.seqT (E := fun u v => Below u.heap.size u v) [(some 10, []), (some 11, [0]), (some 5, [1, 0, 1])] (fun iQ vQ wQ => match iQ with | 0 => vQ = (.pointer (some (ad.add (k * 1)))) | 1 => vQ = (.int .u8 x) | 2 => vQ = (.int .u8 x) | _ => True) rfl (by kernel_rfl) (Below.refl _ _) (fun _ _ _ h k => h.trans (k.mono h.size)) (fun _ _ _ _ h _ => h) ?_ ?_
              · refine ⟨?_, ?_, ?_, trivial⟩
                · intro a w' hx hu hd K hK; have e6 : a.tmps.getD 6 undef = (.slice (some ad) n c) := hu 6 rfl; have e8 : a.tmps.getD 8 undef = (.int .i64 k) := hu 8 rfl; exact Flow.run1 rfl (ix Tryd.underlying43 size5 rfl e6 e8 hlt) (hK _ _ (Below.refl _ _) rfl)
                · intro a w' hx hu hd K hK; have e10 := Flow.got (hd 0 rfl) 10 rfl; exact Flow.run1 rfl (ld rfl e10 (pw_cell_below (below_step HB4.out hx) hcell) Tryd.underlying5 rfl) (hK _ _ (Below.refl _ _) rfl)
                · intro a w' hx hu hd K hK; have e11 := Flow.got (hd 1 rfl) 11 rfl; exact Flow.run1 rfl (Flow.r_assign rfl e11) (hK _ _ (Below.refl _ _) rfl)
              · intro vs W5 hb5 hT
                have v0 := Flow.eqn (hT 0 (by decide))
                have v1 := Flow.eqn (hT 1 (by decide))
                have v2 := Flow.eqn (hT 2 (by decide))
                simp only [Flow.putsT, v0, v1, v2, Act.put, List.setIfInBounds_toArray, List.set_cons_zero, List.set_cons_succ]
                clear hT v0 v1 v2
                have HB5 := Aside0.mk (below_step HB4.out hb5)
                have HR_5 := Aside0.mk (Kd.R_below HR_4.out hb5)
                clear hb5
                go_upto_region 5 with fail
                refine Flow.flowT_head (E := fun u v => Below u.heap.size u v) 8 [(some 12, []), (some 13, []), (some 14, [1]), (some 15, [2]), (some 16, []), (some 17, [4]), (some 18, [5]), (some 19, [3, 6]), (some 20, [0, 7]), (some 3, [8, 8, 0, 1, 2, 3, 4, 5, 6, 7, 8])] (fun iQ vQ wQ => match iQ with | 0 => vQ = u3 | 1 => vQ = (.int .u8 x) | 2 => vQ = (.int .u8 (x / 16)) | 3 => vQ = (.int .u8 (bt HD (x / 16))) | 4 => vQ = (.int .u8 x) | 5 => vQ = (.int .u8 (x % 16)) | 6 => vQ = (.int .u8 (bt HD (x % 16))) | 7 => SliceAt #[.int .u8 (bt HD (x / 16)), .int .u8 (bt HD (x % 16))] 5 2 w.heap.size vQ wQ | _ => True) rfl (by kernel_rfl) (by kernel_rfl) (by kernel_rfl) ((Below.refl _ _).drew) (fun _ _ _ h k => h.trans (k.mono h.size)) (fun iQ vQ w1Q w2Q hQ hEQ => match iQ, hQ with | 0, hQ => hQ | 1, hQ => hQ | 2, hQ => hQ | 3, hQ => hQ | 4, hQ => hQ | 5, hQ => hQ | 6, hQ => hQ | 7, hQ => slice_below hQ hEQ | _ + 8, _ => trivial) ?_ ?_
                · refine ⟨?_, ?_, ?_, ?_, ?_, ?_, ?_, ?_, trivial⟩
                  · intro a w' hx hu hd K hK; have e3 : a.tmps.getD 3 undef = u3 := hu 3 rfl; exact Flow.run1 rfl (Flow.r_move rfl e3) (hK _ _ (Below.refl _ _) rfl)
                  · intro a w' hx hu hd K hK; have e5 : a.tmps.getD 5 undef = (.int .u8 x) := hu 5 rfl; exact Flow.run1 rfl (Flow.r_move rfl e5) (hK _ _ (Below.refl _ _) rfl)
                  · intro a w' hx hu hd K hK; have e13 := Flow.got (hd 1 (by decide)) 13 rfl; exact Flow.run1 rfl (shr4 rfl e13 rfl) (hK _ _ (Below.refl _ _) rfl)
                  · intro a w' hx hu hd K hK; have e14 := Flow.got (hd 2 (by decide)) 14 rfl; exact Flow.run1 rfl (strix (s := HD) Tryd.underlying9 rfl rfl e14 (by omega) (show x / 16 < 16 by omega)) (hK _ _ (Below.refl _ _) rfl)
                  · intro a w' hx hu hd K hK; have e5 : a.tmps.getD 5 undef = (.int .u8 x) := hu 5 rfl; exact Flow.run1 rfl (Flow.r_move rfl e5) (hK _ _ (Below.refl _ _) rfl)
                  · intro a w' hx hu hd K hK; have e16 := Flow.got (hd 4 (by decide)) 16 rfl; exact Flow.run1 rfl (and15' x hx8.1 hx8.2 ▸ Ev.and15 rfl e16 rfl) (hK _ _ (Below.refl _ _) rfl)
                  · intro a w' hx hu hd K hK; have e17 := Flow.got (hd 5 (by decide)) 17 rfl; exact Flow.run1 rfl (strix (s := HD) Tryd.underlying9 rfl rfl e17 (by omega) (show x % 16 < 16 by omega)) (hK _ _ (Below.refl _ _) rfl)
                  · intro a w' hx hu hd K hK; have e15 := Flow.got (hd 3 (by decide)) 15 rfl; have e18 := Flow.got (hd 6 (by decide)) 18 rfl; exact Flow.run1 rfl (row2_43 rfl e15 e18) (hK _ _ (below_alloc (Below.refl _ _) _) (slice_new (Nat.le_trans (HB5.out).size (hx : Below _ _ _).size)))
                · intro vs W6 hb6 hT
                  have v0 := Flow.eqn (hT 0 (by decide))
                  have v1 := Flow.eqn (hT 1 (by decide))
                  have v2 := Flow.eqn (hT 2 (by decide))
                  have v3 := Flow.eqn (hT 3 (by decide))
                  have v4 := Flow.eqn (hT 4 (by decide))
                  have v5 := Flow.eqn (hT 5 (by decide))
                  have v6 := Flow.eqn (hT 6 (by decide))
                  obtain ⟨g6_7, v7, hge7, hk7⟩ : SliceAt _ _ _ _ _ _ := hT 7 (by decide)
                  have Kg6_7 := Aside0.mk hk7
                  have Gg6_7 := Aside0.mk hge7
                  clear hk7 hge7
                  simp only [Flow.putsT, v0, v1, v2, v3, v4, v5, v6, v7, Act.put, List.setIfInBounds_toArray, List.set_cons_zero, List.set_cons_succ, List.drop_succ_cons, List.drop_zero, List.take_succ_cons, List.take_zero]
                  clear hT v0 v1 v2 v3 v4 v5 v6 v7
                  have HB6 := Aside0.mk (below_step HB5.out hb6)
                  have HR_6 := Aside0.mk (Kd.R_below HR_5.out hb6)
                  clear hb6
                  have hl7 : (hexN (l.take k)).length ≤ 2000000 := (by rw [hexN_len, List.length_take]; omega)
                  refine eapp (Value.int .u8) 0 (w0 := w) (base := w.heap.size) (ys := [bt HD (x / 16), bt HD (x % 16)]) rfl rfl Tryd.underlying43 info5 rfl (by decide) rfl rfl HR_6.out Kg6_7.out HB6.out HB6.out.size ?_ ?_
                  · show ((hexN (l.take k)).length + 2) * 1 ≤ _; omega
                  intro v7 W7 hr7 hb7 _
                  have HR_7 := Aside0.mk hr7
                  have HB7 := Aside0.mk hb7
                  clear hr7 hb7
                  simp only [Act.put, List.setIfInBounds_toArray, List.set_cons_zero, List.set_cons_succ]
                  refine Flow.seqL (E := fun u v => Below u.heap.size u v) 9 1 [(some 12, []), (some 13, []), (some 14, [1]), (some 15, [2]), (some 16, []), (some 17, [4]), (some 18, [5]), (some 19, [3, 6]), (some 20, [0, 7]), (some 3, [8, 8, 0, 1, 2, 3, 4, 5, 6, 7, 8])] (fun iQ vQ wQ => match iQ with | 9 => vQ = v7 | _ => True) rfl (by decide) (by kernel_rfl) (Below.refl _ _) (fun _ _ _ h k => h.trans (k.mono h.size)) (fun _ _ _ _ h _ => h) ?_ ?_
                  · refine ⟨?_, trivial⟩
                    · intro a w' hx hu hd K hK; have e20 : a.tmps.getD 20 undef = v7 := hu 20 rfl; exact Flow.run1 rfl (Flow.r_assign rfl e20) (hK _ _ (Below.refl _ _) rfl)
                  · intro vs W8 hb8 hT
                    have v9 := Flow.eqn (hT 9 (by decide) (by decide))
                    simp only [Flow.putsT, v9, Act.put, List.setIfInBounds_toArray, List.set_cons_zero, List.set_cons_succ, List.drop_succ_cons, List.drop_zero, List.take_succ_cons, List.take_zero]
                    clear hT v9
                    have HB8 := Aside0.mk (below_step HB7.out hb8)
                    have HR_8 := Aside0.mk (Kd.R_below HR_7.out hb8)
                    clear hb8
                    go_wp2
                    go_roundg (n - (k + 1))
                    case measure => have := HGK.out; omega
                    case rel => exact ⟨k + 1, by omega, ⟨rfl⟩, by go_num, HB8, ⟨by rw [← HSN.out]; exact HR_8.out⟩⟩
          · obtain rfl : k = n := by omega
            have hlt2 : ¬ ((k : Nat) : Int) < k := by omega
            go_upto_region 3 with fail
            refine Flow.seqT (E := fun u v => Below u.heap.size u v) [(some 9, [])] (fun iQ vQ wQ => match iQ with | 0 => vQ = (.bool false) | _ => True) rfl (by kernel_rfl) (Below.refl _ _) (fun _ _ _ h k => h.trans (k.mono h.size)) (fun _ _ _ _ h _ => h) ?_ ?_
            · refine ⟨?_, trivial⟩
              · intro a w' hx hu hd K hK; have e8 : a.tmps.getD 8 undef = (.int .i64 k) := hu 8 rfl; have e7 : a.tmps.getD 7 undef = (.int .i64 k) := hu 7 rfl; exact Flow.run1 rfl (no (lss rfl e8 e7) (decide_eq_false hlt2)) (hK _ _ (Below.refl _ _) rfl)
            · intro vs W9 hb9 hT
              have v0 := Flow.eqn (hT 0 (by decide))
              simp only [Flow.putsT, v0, Act.put, List.setIfInBounds_toArray, List.set_cons_zero, List.set_cons_succ]
              clear hT v0
              have HB9 := Aside0.mk (below_step HBR.out hb9)
              have HR_9 := Aside0.mk (Kd.R_below HR.out hb9)
              clear hb9
              have HTL := Aside0.mk (show hexN (l.take k) = hexN l by rw [List.take_of_length_le (by rw [HN.out]; exact Nat.le_refl _)])
              obtain ⟨A3, c3, hv3, _, hC3⟩ := Kd.R_reads HR_9.out
              rw [HTL.out] at hv3 hC3
              subst hv3
              have HC3 := Aside0.mk hC3
              clear hC3 HR_9 HR
              go_upto_region 7 with fail
              refine Flow.seqT (E := fun u v => Below u.heap.size u v) [(some 22, []), (some 23, [0]), (some 2, [1, 0, 1])] (fun iQ vQ wQ => match iQ with | 0 => vQ = (.slice A3 ((hexN l).length) c3) | 1 => vQ = (.string (hexB l)) | 2 => vQ = (.string (hexB l)) | _ => True) rfl (by kernel_rfl) (Below.refl _ _) (fun _ _ _ h k => h.trans (k.mono h.size)) (fun _ _ _ _ h _ => h) ?_ ?_
              · refine ⟨?_, ?_, ?_, trivial⟩
                · intro a w' hx hu hd K hK; have e3 : a.tmps.getD 3 undef = (.slice A3 ((hexN l).length) c3) := hu 3 rfl; exact Flow.run1 rfl (Flow.r_move rfl e3) (hK _ _ (Below.refl _ _) rfl)
                · intro a w' hx hu hd K hK; have e22 := Flow.got (hd 0 rfl) 22 rfl; exact Flow.run1 rfl (cvs rfl e22 (Kd.C_string Tryd.underlying43 Tryd.underlying5 Tryd.underlying9 (Kd.C_below HC3.out hx))) (hK _ _ (Below.refl _ _) rfl)
                · intro a w' hx hu hd K hK; have e23 := Flow.got (hd 1 rfl) 23 rfl; exact Flow.run1 rfl (Flow.r_assign rfl e23) (hK _ _ (Below.refl _ _) rfl)
              · intro vs W10 hb10 hT
                have v0 := Flow.eqn (hT 0 (by decide))
                have v1 := Flow.eqn (hT 1 (by decide))
                have v2 := Flow.eqn (hT 2 (by decide))
                simp only [Flow.putsT, v0, v1, v2, Act.put, List.setIfInBounds_toArray, List.set_cons_zero, List.set_cons_succ]
                clear hT v0 v1 v2
                have HB10 := Aside0.mk (below_step HB9.out hb10)
                have HC3_10 := Aside0.mk (Kd.C_below HC3.out hb10)
                clear hb10
                go_wp2
                go_ret
                exact ⟨rfl, HB10.out⟩
set_option maxHeartbeats 4000000 in
set_option maxRecDepth 100000 in
theorem rhex_c (l : List Int) (A : Option Addr) (c : Nat) (hb : B8 l) (hn : l.length ≤ 1000000) (w : World) (hC : Kd.C (Kd.int .u8) w A l.length l) : Calls Tryd.prog 26 #[.slice A l.length c] w fun e w' => e = .returned (.string (hexB l)) ∧ Below w.heap.size w w' := by
  obtain ⟨n, HN⟩ : ∃ n, Aside0 (l.length = n) := ⟨_, ⟨rfl⟩⟩
  have HB8 := Aside0.mk hb
  rw [HN.out] at hn hC ⊢
  have HC := Aside0.mk hC
  clear hC hb
  go_enter Tryd.func26, Tryd.ntmps26
  go_upto_region 0 with fail
  refine Flow.seqT (E := fun u v => Below u.heap.size u v) [(some 2, [])] (fun iQ vQ wQ => match iQ with | 0 => vQ = (.string ⟨#[]⟩) | _ => True) rfl (by kernel_rfl) (Below.refl _ _) (fun _ _ _ h k => h.trans (k.mono h.size)) (fun _ _ _ _ h _ => h) ?_ ?_
  · refine ⟨?_, trivial⟩
    · intro a w' hx hu hd K hK; exact Flow.run1 rfl (Flow.r_assign rfl rfl) (hK _ _ (Below.refl _ _) rfl)
  · intro vs W1 hb1 hT
    have v0 := Flow.eqn (hT 0 (by decide))
    simp only [Flow.putsT, v0, Act.put, List.setIfInBounds_toArray, List.set_cons_zero, List.set_cons_succ]
    clear hT v0
    have HB1 := Aside0.mk hb1
    clear hb1
    go_upto_region 1 with fail
    refine Flow.seqT (E := fun u v => Below u.heap.size u v) [(some 3, [])] (fun iQ vQ wQ => match iQ with | 0 => vQ = (.string ⟨#[]⟩) | _ => True) rfl (by kernel_rfl) (Below.refl _ _) (fun _ _ _ h k => h.trans (k.mono h.size)) (fun _ _ _ _ h _ => h) ?_ ?_
    · refine ⟨?_, trivial⟩
      · intro a w' hx hu hd K hK; exact Flow.run1 rfl (Flow.r_assign rfl rfl) (hK _ _ (Below.refl _ _) rfl)
    · intro vs W2 hb2 hT
      have v0 := Flow.eqn (hT 0 (by decide))
      simp only [Flow.putsT, v0, Act.put, List.setIfInBounds_toArray, List.set_cons_zero, List.set_cons_succ]
      clear hT v0
      have HB2 := Aside0.mk (below_step HB1.out hb2)
      clear hb2
      go_upto_region 2 with fail
      refine Flow.seqT (E := fun u v => Below u.heap.size u v) [(some 4, [])] (fun iQ vQ wQ => match iQ with | 0 => vQ = (.int .i64 0) | _ => True) rfl (by kernel_rfl) (Below.refl _ _) (fun _ _ _ h k => h.trans (k.mono h.size)) (fun _ _ _ _ h _ => h) ?_ ?_
      · refine ⟨?_, trivial⟩
        · intro a w' hx hu hd K hK; exact Flow.run1 rfl (Flow.r_assign rfl rfl) (hK _ _ (Below.refl _ _) rfl)
      · intro vs W3 hb3 hT
        have v0 := Flow.eqn (hT 0 (by decide))
        simp only [Flow.putsT, v0, Act.put, List.setIfInBounds_toArray, List.set_cons_zero, List.set_cons_succ]
        clear hT v0
        have HB3 := Aside0.mk (below_step HB2.out hb3)
        clear hb3
        go_wp2
        go_loopg [3, 4] n (fun g v3 v4 wr => ∃ (k : Nat) (t : ByteArray), k ≤ n ∧ Aside0 (g = n - k) ∧ v4 = .int .i64 k ∧ Aside0 (Below w.heap.size w wr) ∧ v3 = .string t ∧ Aside0 (t = hexB (l.take k)))
        case atStart => exact ⟨0, _, Nat.zero_le _, ⟨rfl⟩, rfl, HB3, rfl, ⟨rfl⟩⟩
        case round =>
          clear HB3
          obtain ⟨k, t, hk, HGK, rfl, HBR, rfl, HT⟩ := hrel
          have zt : t.size ≤ 2000000 := by rw [HT.out, hexB_size, List.length_take]; omega
          by_cases hlt : k < n
          · have hlt2 : (k : Int) < n := by omega
            go_upto_region 3 with fail
            refine Flow.seqT (E := fun u v => Below u.heap.size u v) [(some 7, []), (some 8, []), (some 9, [1]), (some 10, [0, 2])] (fun iQ vQ wQ => match iQ with | 0 => vQ = (.int .i64 k) | 1 => vQ = (.slice A n c) | 2 => vQ = (.int .i64 n) | 3 => vQ = (.bool true) | _ => True) rfl (by kernel_rfl) (Below.refl _ _) (fun _ _ _ h k => h.trans (k.mono h.size)) (fun _ _ _ _ h _ => h) ?_ ?_
            · refine ⟨?_, ?_, ?_, ?_, trivial⟩
              · intro a w' hx hu hd K hK; have e4 : a.tmps.getD 4 undef = (.int .i64 k) := hu 4 rfl; exact Flow.run1 rfl (Flow.r_move rfl e4) (hK _ _ (Below.refl _ _) rfl)
              · intro a w' hx hu hd K hK; have e0 : a.tmps.getD 0 undef = (.slice A n c) := hu 0 rfl; exact Flow.run1 rfl (Flow.r_move rfl e0) (hK _ _ (Below.refl _ _) rfl)
              · intro a w' hx hu hd K hK; have e8 := Flow.got (hd 1 rfl) 8 rfl; exact Flow.run1 rfl (lenL Tryd.underlying43 rfl e8) (hK _ _ (Below.refl _ _) rfl)
              · intro a w' hx hu hd K hK; have e7 := Flow.got (hd 0 rfl) 7 rfl; have e9 := Flow.got (hd 2 rfl) 9 rfl; exact Flow.run1 rfl (yes (lss rfl e7 e9) (decide_eq_true hlt2)) (hK _ _ (Below.refl _ _) rfl)
            · intro vs W4 hb4 hT
              have v0 := Flow.eqn (hT 0 (by decide))
              have v1 := Flow.eqn (hT 1 (by decide))
              have v2 := Flow.eqn (hT 2 (by decide))
              have v3 := Flow.eqn (hT 3 (by decide))
              simp only [Flow.putsT, v0, v1, v2, v3, Act.put, List.setIfInBounds_toArray, List.set_cons_zero, List.set_cons_succ]
              clear hT v0 v1 v2 v3
              have HB4 := Aside0.mk (below_step HBR.out hb4)
              clear hb4
              obtain ⟨ad, hA, hcell⟩ := elem8 HC.out k hlt
              subst hA
              have hx8 := B8_at HB8.out k
              have HSN := Aside0.mk (hexB_snoc l HB8.out k (by rw [HN.out]; exact hlt))
              obtain ⟨x, hx⟩ : ∃ q, l.getD k 0 = q := ⟨_, rfl⟩
              rw [hx] at HSN hcell hx8
              clear hx
              have zq := cut_size (x / 16) (by omega) (by omega)
              have zm := cut_size (x % 16) (by omega) (by omega)
              go_upto_region 5 with fail
              refine Flow.flowT (E := fun u v => Below u.heap.size u v) [(some 13, []), (some 14, []), (some 15, [0, 1]), (some 16, [2]), (some 17, [3]), (some 18, [4]), (some 19, []), (some 20, []), (some 21, [6, 7]), (some 22, [8]), (some 23, [9]), (some 24, [10]), (some 5, [5, 0, 1, 2, 3, 4, 5]), (some 6, [11, 12, 0, 1, 2, 3, 4, 5, 6, 7, 8, 9, 10, 11, 12])] (fun iQ vQ wQ => match iQ with | 0 => vQ = (.slice (some ad) n c) | 1 => vQ = (.int .i64 k) | 2 => vQ = (.pointer (some (ad.add (k * 1)))) | 3 => vQ = (.int .u8 x) | 4 => vQ = (.int .i64 x) | 5 => vQ = (.int .i64 (x / 16)) | 6 => vQ = (.slice (some ad) n c) | 7 => vQ = (.int .i64 k) | 8 => vQ = (.pointer (some (ad.add (k * 1)))) | 9 => vQ = (.int .u8 x) | 10 => vQ = (.int .i64 x) | 11 => vQ = (.int .i64 (x % 16)) | 12 => vQ = (.int .i64 (x / 16)) | 13 => vQ = (.int .i64 (x % 16)) | _ => True) rfl (by kernel_rfl) (by kernel_rfl) (by kernel_rfl) ((Below.refl _ _).drew) (fun _ _ _ h k => h.trans (k.mono h.size)) (fun _ _ _ _ h _ => h) ?_ ?_
              · refine ⟨?_, ?_, ?_, ?_, ?_, ?_, ?_, ?_, ?_, ?_, ?_, ?_, ?_, ?_, trivial⟩
                · intro a w' hx hu hd K hK; have e0 : a.tmps.getD 0 undef = (.slice (some ad) n c) := hu 0 rfl; exact Flow.run1 rfl (Flow.r_move rfl e0) (hK _ _ (Below.refl _ _) rfl)
                · intro a w' hx hu hd K hK; have e4 : a.tmps.getD 4 undef = (.int .i64 k) := hu 4 rfl; exact Flow.run1 rfl (Flow.r_move rfl e4) (hK _ _ (Below.refl _ _) rfl)
                · intro a w' hx hu hd K hK; have e13 := Flow.got (hd 0 (by decide)) 13 rfl; have e14 := Flow.got (hd 1 (by decide)) 14 rfl; exact Flow.run1 rfl (ix Tryd.underlying43 size5 rfl e13 e14 hlt) (hK _ _ (Below.refl _ _) rfl)
                · intro a w' hx hu hd K hK; have e15 := Flow.got (hd 2 (by decide)) 15 rfl; exact Flow.run1 rfl (ld rfl e15 (pw_cell_below (below_step HB4.out hx) hcell) Tryd.underlying5 rfl) (hK _ _ (Below.refl _ _) rfl)
                · intro a w' hx hu hd K hK; have e16 := Flow.got (hd 3 (by decide)) 16 rfl; exact Flow.run1 rfl (cv8 Tryd.underlying5 Tryd.underlying3 rfl e16 hx8.1 hx8.2) (hK _ _ (Below.refl _ _) rfl)
                · intro a w' hx hu hd K hK; have e17 := Flow.got (hd 4 (by decide)) 17 rfl; exact Flow.run1 rfl (quo16 rfl e17 rfl hx8.1 hx8.2) (hK _ _ (Below.refl _ _) rfl)
                · intro a w' hx hu hd K hK; have e0 : a.tmps.getD 0 undef = (.slice (some ad) n c) := hu 0 rfl; exact Flow.run1 rfl (Flow.r_move rfl e0) (hK _ _ (Below.refl _ _) rfl)
                · intro a w' hx hu hd K hK; have e4 : a.tmps.getD 4 undef = (.int .i64 k) := hu 4 rfl; exact Flow.run1 rfl (Flow.r_move rfl e4) (hK _ _ (Below.refl _ _) rfl)
                · intro a w' hx hu hd K hK; have e19 := Flow.got (hd 6 (by decide)) 19 rfl; have e20 := Flow.got (hd 7 (by decide)) 20 rfl; exact Flow.run1 rfl (ix Tryd.underlying43 size5 rfl e19 e20 hlt) (hK _ _ (Below.refl _ _) rfl)
                · intro a w' hx hu hd K hK; have e21 := Flow.got (hd 8 (by decide)) 21 rfl; exact Flow.run1 rfl (ld rfl e21 (pw_cell_below (below_step HB4.out hx) hcell) Tryd.underlying5 rfl) (hK _ _ (Below.refl _ _) rfl)
                · intro a w' hx hu hd K hK; have e22 := Flow.got (hd 9 (by decide)) 22 rfl; exact Flow.run1 rfl (cv8 Tryd.underlying5 Tryd.underlying3 rfl e22 hx8.1 hx8.2) (hK _ _ (Below.refl _ _) rfl)
                · intro a w' hx hu hd K hK; have e23 := Flow.got (hd 10 (by decide)) 23 rfl; exact Flow.run1 rfl (rem16 rfl e23 rfl hx8.1) (hK _ _ (Below.refl _ _) rfl)
                · intro a w' hx hu hd K hK; have e18 := Flow.got (hd 5 (by decide)) 18 rfl; exact Flow.run1 rfl (Flow.r_assign rfl e18) (hK _ _ (Below.refl _ _) rfl)
                · intro a w' hx hu hd K hK; have e24 := Flow.got (hd 11 (by decide)) 24 rfl; exact Flow.run1 rfl (Flow.r_assign rfl e24) (hK _ _ (Below.refl _ _) rfl)
              · intro vs W5 hb5 hT
                have v0 := Flow.eqn (hT 0 (by decide))
                have v1 := Flow.eqn (hT 1 (by decide))
                have v2 := Flow.eqn (hT 2 (by decide))
                have v3 := Flow.eqn (hT 3 (by decide))
                have v4 := Flow.eqn (hT 4 (by decide))
                have v5 := Flow.eqn (hT 5 (by decide))
                have v6 := Flow.eqn (hT 6 (by decide))
                have v7 := Flow.eqn (hT 7 (by decide))
                have v8 := Flow.eqn (hT 8 (by decide))
                have v9 := Flow.eqn (hT 9 (by decide))
                have v10 := Flow.eqn (hT 10 (by decide))
                have v11 := Flow.eqn (hT 11 (by decide))
                have v12 := Flow.eqn (hT 12 (by decide))
                have v13 := Flow.eqn (hT 13 (by decide))
                simp only [Flow.putsT, v0, v1, v2, v3, v4, v5, v6, v7, v8, v9, v10, v11, v12, v13, Act.put, List.setIfInBounds_toArray, List.set_cons_zero, List.set_cons_succ]
                clear hT v0 v1 v2 v3 v4 v5 v6 v7 v8 v9 v10 v11 v12 v13
                have HB5 := Aside0.mk (below_step HB4.out hb5)
                clear hb5
                go_upto_region 6 with fail
                obtain ⟨t6_5, Ht6_5⟩ : ∃ tQ, Aside0 (t ++ (HD.extract (x / 16).toNat (x / 16 + 1).toNat) = tQ) := ⟨_, ⟨rfl⟩⟩
                have zt6_5 : t6_5.size ≤ 2000001 := Ht6_5.out ▸ szapp zt zq (by decide)
                obtain ⟨t6_10, Ht6_10⟩ : ∃ tQ, Aside0 (t6_5 ++ (HD.extract (x % 16).toNat (x % 16 + 1).toNat) = tQ) := ⟨_, ⟨rfl⟩⟩
                have zt6_10 : t6_10.size ≤ 2000002 := Ht6_10.out ▸ szapp zt6_5 zm (by decide)
                refine Flow.flowT (E := fun u v => Below u.heap.size u v) [(some 25, []), (some 26, []), (some 27, []), (some 28, [2]), (some 29, [1, 3]), (some 30, [0, 4]), (some 31, []), (some 32, []), (some 33, [7]), (some 34, [6, 8]), (some 35, [5, 9]), (some 3, [10, 0, 1, 2, 3, 4, 5, 6, 7, 8, 9, 10])] (fun iQ vQ wQ => match iQ with | 0 => vQ = (.string t) | 1 => vQ = (.int .i64 (x / 16)) | 2 => vQ = (.int .i64 (x / 16)) | 3 => vQ = (.int .i64 (x / 16 + 1)) | 4 => vQ = (.string (HD.extract (x / 16).toNat (x / 16 + 1).toNat)) | 5 => vQ = (.string t6_5) | 6 => vQ = (.int .i64 (x % 16)) | 7 => vQ = (.int .i64 (x % 16)) | 8 => vQ = (.int .i64 (x % 16 + 1)) | 9 => vQ = (.string (HD.extract (x % 16).toNat (x % 16 + 1).toNat)) | 10 => vQ = (.string t6_10) | 11 => vQ = (.string t6_10) | _ => True) rfl (by kernel_rfl) (by kernel_rfl) (by kernel_rfl) ((Below.refl _ _).drew) (fun _ _ _ h k => h.trans (k.mono h.size)) (fun _ _ _ _ h _ => h) ?_ ?_
                · refine ⟨?_, ?_, ?_, ?_, ?_, ?_, ?_, ?_, ?_, ?_, ?_, ?_, trivial⟩
                  · intro a w' hx hu hd K hK; have e3 : a.tmps.getD 3 undef = (.string t) := hu 3 rfl; exact Flow.run1 rfl (Flow.r_move rfl e3) (hK _ _ (Below.refl _ _) rfl)
                  · intro a w' hx hu hd K hK; have e5 : a.tmps.getD 5 undef = (.int .i64 (x / 16)) := hu 5 rfl; exact Flow.run1 rfl (Flow.r_move rfl e5) (hK _ _ (Below.refl _ _) rfl)
                  · intro a w' hx hu hd K hK; have e5 : a.tmps.getD 5 undef = (.int .i64 (x / 16)) := hu 5 rfl; exact Flow.run1 rfl (Flow.r_move rfl e5) (hK _ _ (Below.refl _ _) rfl)
                  · intro a w' hx hu hd K hK; have e27 := Flow.got (hd 2 (by decide)) 27 rfl; exact Flow.run1 rfl (add rfl e27 rfl (by omega) (by omega)) (hK _ _ (Below.refl _ _) rfl)
                  · intro a w' hx hu hd K hK; have e26 := Flow.got (hd 1 (by decide)) 26 rfl; have e28 := Flow.got (hd 3 (by decide)) 28 rfl; exact Flow.run1 rfl (cut1 (s := HD) Tryd.underlying9 rfl rfl e26 e28 (by omega) (by omega) (show x / 16 + 1 ≤ 16 by omega)) (hK _ _ (Below.refl _ _) rfl)
                  · intro a w' hx hu hd K hK; have e25 := Flow.got (hd 0 (by decide)) 25 rfl; have e29 := Flow.got (hd 4 (by decide)) 29 rfl; exact Flow.run1 rfl (Ht6_5.out ▸ cat rfl e25 e29 zt zq (by decide)) (hK _ _ (Below.refl _ _) rfl)
                  · intro a w' hx hu hd K hK; have e6 : a.tmps.getD 6 undef = (.int .i64 (x % 16)) := hu 6 rfl; exact Flow.run1 rfl (Flow.r_move rfl e6) (hK _ _ (Below.refl _ _) rfl)
                  · intro a w' hx hu hd K hK; have e6 : a.tmps.getD 6 undef = (.int .i64 (x % 16)) := hu 6 rfl; exact Flow.run1 rfl (Flow.r_move rfl e6) (hK _ _ (Below.refl _ _) rfl)
                  · intro a w' hx hu hd K hK; have e32 := Flow.got (hd 7 (by decide)) 32 rfl; exact Flow.run1 rfl (add rfl e32 rfl (by omega) (by omega)) (hK _ _ (Below.refl _ _) rfl)
                  · intro a w' hx hu hd K hK; have e31 := Flow.got (hd 6 (by decide)) 31 rfl; have e33 := Flow.got (hd 8 (by decide)) 33 rfl; exact Flow.run1 rfl (cut1 (s := HD) Tryd.underlying9 rfl rfl e31 e33 (by omega) (by omega) (show x % 16 + 1 ≤ 16 by omega)) (hK _ _ (Below.refl _ _) rfl)
                  · intro a w' hx hu hd K hK; have e30 := Flow.got (hd 5 (by decide)) 30 rfl; have e34 := Flow.got (hd 9 (by decide)) 34 rfl; exact Flow.run1 rfl (Ht6_10.out ▸ cat rfl e30 e34 zt6_5 zm (by decide)) (hK _ _ (Below.refl _ _) rfl)
                  · intro a w' hx hu hd K hK; have e35 := Flow.got (hd 10 (by decide)) 35 rfl; exact Flow.run1 rfl (Flow.r_assign rfl e35) (hK _ _ (Below.refl _ _) rfl)
                · intro vs W6 hb6 hT
                  have v0 := Flow.eqn (hT 0 (by decide))
                  have v1 := Flow.eqn (hT 1 (by decide))
                  have v2 := Flow.eqn (hT 2 (by decide))
                  have v3 := Flow.eqn (hT 3 (by decide))
                  have v4 := Flow.eqn (hT 4 (by decide))
                  have v5 := Flow.eqn (hT 5 (by decide))
                  have v6 := Flow.eqn (hT 6 (by decide))
                  have v7 := Flow.eqn (hT 7 (by decide))
                  have v8 := Flow.eqn (hT 8 (by decide))
                  have v9 := Flow.eqn (hT 9 (by decide))
                  have v10 := Flow.eqn (hT 10 (by decide))
                  have v11 := Flow.eqn (hT 11 (by decide))
                  simp only [Flow.putsT, v0, v1, v2, v3, v4, v5, v6, v7, v8, v9, v10, v11, Act.put, List.setIfInBounds_toArray, List.set_cons_zero, List.set_cons_succ]
                  clear hT v0 v1 v2 v3 v4 v5 v6 v7 v8 v9 v10 v11
                  have HB6 := Aside0.mk (below_step HB5.out hb6)
                  clear hb6
                  go_wp2
                  go_roundg (n - (k + 1))
                  case measure => have := HGK.out; omega
                  case rel => exact ⟨k + 1, _, by omega, ⟨rfl⟩, by go_num, HB6, rfl, ⟨by rw [← HSN.out, ← Ht6_10.out, ← Ht6_5.out, HT.out]⟩⟩
          · obtain rfl : k = n := by omega
            have hlt2 : ¬ ((k : Nat) : Int) < k := by omega
            go_upto_region 3 with fail
            refine Flow.seqT (E := fun u v => Below u.heap.size u v) [(some 7, []), (some 8, []), (some 9, [1]), (some 10, [0, 2])] (fun iQ vQ wQ => match iQ with | 0 => vQ = (.int .i64 k) | 1 => vQ = (.slice A k c) | 2 => vQ = (.int .i64 k) | 3 => vQ = (.bool false) | _ => True) rfl (by kernel_rfl) (Below.refl _ _) (fun _ _ _ h k => h.trans (k.mono h.size)) (fun _ _ _ _ h _ => h) ?_ ?_
            · refine ⟨?_, ?_, ?_, ?_, trivial⟩
              · intro a w' hx hu hd K hK; have e4 : a.tmps.getD 4 undef = (.int .i64 k) := hu 4 rfl; exact Flow.run1 rfl (Flow.r_move rfl e4) (hK _ _ (Below.refl _ _) rfl)
              · intro a w' hx hu hd K hK; have e0 : a.tmps.getD 0 undef = (.slice A k c) := hu 0 rfl; exact Flow.run1 rfl (Flow.r_move rfl e0) (hK _ _ (Below.refl _ _) rfl)
              · intro a w' hx hu hd K hK; have e8 := Flow.got (hd 1 rfl) 8 rfl; exact Flow.run1 rfl (lenL Tryd.underlying43 rfl e8) (hK _ _ (Below.refl _ _) rfl)
              · intro a w' hx hu hd K hK; have e7 := Flow.got (hd 0 rfl) 7 rfl; have e9 := Flow.got (hd 2 rfl) 9 rfl; exact Flow.run1 rfl (no (lss rfl e7 e9) (decide_eq_false hlt2)) (hK _ _ (Below.refl _ _) rfl)
            · intro vs W7 hb7 hT
              have v0 := Flow.eqn (hT 0 (by decide))
              have v1 := Flow.eqn (hT 1 (by decide))
              have v2 := Flow.eqn (hT 2 (by decide))
              have v3 := Flow.eqn (hT 3 (by decide))
              simp only [Flow.putsT, v0, v1, v2, v3, Act.put, List.setIfInBounds_toArray, List.set_cons_zero, List.set_cons_succ]
              clear hT v0 v1 v2 v3
              have HB7 := Aside0.mk (below_step HBR.out hb7)
              clear hb7
              go_upto_region 7 with fail
              refine Flow.seqT (E := fun u v => Below u.heap.size u v) [(some 36, []), (some 2, [0, 0])] (fun iQ vQ wQ => match iQ with | 0 => vQ = (.string t) | 1 => vQ = (.string t) | _ => True) rfl (by kernel_rfl) (Below.refl _ _) (fun _ _ _ h k => h.trans (k.mono h.size)) (fun _ _ _ _ h _ => h) ?_ ?_
              · refine ⟨?_, ?_, trivial⟩
                · intro a w' hx hu hd K hK; have e3 : a.tmps.getD 3 undef = (.string t) := hu 3 rfl; exact Flow.run1 rfl (Flow.r_move rfl e3) (hK _ _ (Below.refl _ _) rfl)
                · intro a w' hx hu hd K hK; have e36 := Flow.got (hd 0 rfl) 36 rfl; exact Flow.run1 rfl (Flow.r_assign rfl e36) (hK _ _ (Below.refl _ _) rfl)
              · intro vs W8 hb8 hT
                have v0 := Flow.eqn (hT 0 (by decide))
                have v1 := Flow.eqn (hT 1 (by decide))
                simp only [Flow.putsT, v0, v1, Act.put, List.setIfInBounds_toArray, List.set_cons_zero, List.set_cons_succ]
                clear hT v0 v1
                have HB8 := Aside0.mk (below_step HB7.out hb8)
                clear hb8
                go_wp2
                go_ret
                exact ⟨by rw [HT.out, List.take_of_length_le (by rw [HN.out]; exact Nat.le_refl _)]; rfl, HB8.out⟩
end Go.Proofs.YtlhmpmmblnbmbaaDoor.Rep
