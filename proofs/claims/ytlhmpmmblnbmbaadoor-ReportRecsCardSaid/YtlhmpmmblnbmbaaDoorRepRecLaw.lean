/- The law ReportRecs, walked. -/
import Derived.Test.YtlhmpmmblnbmbaaDoorRepReply
import Derived.Test.YtlhmpmmblnbmbaaDoorRepRecR
import Derived.Test.YtlhmpmmblnbmbaaDoorRepRec
import Derived.Test.YtlhmpmmblnbmbaaDoorRepLive
set_option linter.unusedVariables false
set_option linter.unusedSimpArgs false
namespace Go.Proofs.YtlhmpmmblnbmbaaDoor.Rep
open Go.Lib Go.RowKit Go.Proofs.YtlhmpmmblnbmbaaDoor.Ev Go.Proofs.YtlhmpmmblnbmbaaDoor.Cells Go.Proofs.YtlhmpmmblnbmbaaDoorW.PrintWords Go.Proofs.YtlhmpmmblnbmbaaDoorW.PrintLast Go.Proofs.YtlhmpmmblnbmbaaDoorW.PrintMore
structure S45 where
  f0 : Int
  f1 : Int
  f2 : Int
  f3 : Int
  f4 : Int
  f5 : Int
  f6 : Int
  f7 : Int
  f8 : Int
  f9 : List Int
def k45 : Kd S45 := Kd.iso (Kd.pair (Kd.int .i64) (Kd.pair (Kd.int .i64) (Kd.pair (Kd.int .i64) (Kd.pair (Kd.int .i64) (Kd.pair (Kd.int .i64) (Kd.pair (Kd.int .i64) (Kd.pair (Kd.int .i64) (Kd.pair (Kd.int .i64) (Kd.pair (Kd.int .i64) (Kd.slice 5 (Kd.int .u8))))))))))) (fun x : S45 => (x.f0, x.f1, x.f2, x.f3, x.f4, x.f5, x.f6, x.f7, x.f8, x.f9))
theorem k45_open {w : World} {x : S45} {cs : List Value} (h : k45.K w x cs) : ∃ A c, cs = [.int .i64 x.f0, .int .i64 x.f1, .int .i64 x.f2, .int .i64 x.f3, .int .i64 x.f4, .int .i64 x.f5, .int .i64 x.f6, .int .i64 x.f7, .int .i64 x.f8, .slice A x.f9.length c] ∧ Kd.C (Kd.int .u8) w A x.f9.length x.f9 := by
  obtain ⟨_, _, rfl, rfl, ⟨_, _, rfl, rfl, ⟨_, _, rfl, rfl, ⟨_, _, rfl, rfl, ⟨_, _, rfl, rfl, ⟨_, _, rfl, rfl, ⟨_, _, rfl, rfl, ⟨_, _, rfl, rfl, ⟨_, _, rfl, rfl, ⟨A, c, rfl, hc, hC⟩⟩⟩⟩⟩⟩⟩⟩⟩⟩ := h
  exact ⟨A, c, rfl, hC⟩
structure S48 where
  f0 : Int
  f1 : List Int
  f2 : S24
def k48 : Kd S48 := Kd.iso (Kd.pair (Kd.int .i64) (Kd.pair (Kd.slice 5 (Kd.int .u8)) k24)) (fun x : S48 => (x.f0, x.f1, x.f2))
theorem k48_open {w : World} {x : S48} {cs : List Value} (h : k48.K w x cs) : ∃ A c, cs = [.int .i64 x.f0, .slice A x.f1.length c, .int .i64 x.f2.f0, .int .i64 x.f2.f1, .int .i64 x.f2.f2] := by
  obtain ⟨_, _, rfl, rfl, ⟨_, _, rfl, ⟨A, c, rfl, hc, hC⟩, h2⟩⟩ := h
  obtain rfl := k24_open h2
  exact ⟨A, c, rfl⟩
set_option maxHeartbeats 4000000 in
set_option maxRecDepth 100000 in
theorem lawrecs_c (xk xe xq xz xg xs xw xm xu : Int) (l : List Int) (A : Option Addr) (c : Nat) (he : I64 xe) (hq : I64 xq) (hz : I64 xz) (hg : I64 xg) (hs : I64 xs) (hw : I64 xw) (hm : I64 xm) (hxu : I64 xu) (hb : B8 l) (w : World) (hC : Kd.C (Kd.int .u8) w A l.length l) (er s wp g : Int) (d : List Int) (Ad : Option Addr) (cd : Nat) (her : I64 er) (hwp : I64 wp) (b : List Int) (Ab : Option Addr) (cb : Nat) (hb2 : B8 b) (hCb : Kd.C (Kd.int .u8) w Ab b.length b) (hpow : POW w) : Calls Tryd.prog 5 #[.agg #[.int .i64 xk, .int .i64 xe, .int .i64 xq, .int .i64 xz, .int .i64 xg, .int .i64 xs, .int .i64 xw, .int .i64 xm, .int .i64 xu, .slice A l.length c], .agg #[.int .i64 er, .slice Ad d.length cd, .int .i64 s, .int .i64 wp, .int .i64 g], .slice Ab b.length cb] w fun e w' => e = .returned (.bool true) ∧ Below w.heap.size w w' := by
  have HPW := Aside0.mk hpow
  have HC0 := Aside0.mk hC
  have HCb := Aside0.mk hCb
  have HB8 := Aside0.mk hb
  have HBb := Aside0.mk hb2
  clear hpow hC hCb hb hb2
  go_enter Tryd.func5, Tryd.ntmps5
  go_upto_region 0 with fail
  refine wp_region_lit ?_
  refine ebox (v := (.agg #[.int .i64 xk, .int .i64 xe, .int .i64 xq, .int .i64 xz, .int .i64 xg, .int .i64 xs, .int .i64 xw, .int .i64 xm, .int .i64 xu, .slice A l.length c])) rfl rfl rfl ?_
  intro g1 hg1 W1 hk1 hb1
  have Kg1 := Aside0.mk hk1
  have HB1 := Aside0.mk hb1
  clear hb1
  have Gg1 := Aside0.mk (show w.heap.size ≤ g1 by rw [hg1]; exact Nat.le_refl _)
  clear hg1 hk1
  simp only [Act.put, List.setIfInBounds_toArray, List.set_cons_zero, List.set_cons_succ]
  refine ebox (v := (.agg #[.int .i64 er, .slice Ad d.length cd, .int .i64 s, .int .i64 wp, .int .i64 g])) rfl rfl rfl ?_
  intro g2 hg2 W2 hk2 hb2
  have Kg2 := Aside0.mk hk2
  have HB2 := Aside0.mk (below_step HB1.out hb2)
  have Kg1_2 := Aside0.mk (blk_below Kg1.out hb2)
  clear hb2
  have Gg2 := Aside0.mk (show w.heap.size ≤ g2 by rw [hg2]; exact HB1.out.size)
  clear hg2 hk2
  simp only [Act.put, List.setIfInBounds_toArray, List.set_cons_zero, List.set_cons_succ]
  refine Flow.seqL (E := fun u v => Below u.heap.size u v) 2 1 [(some 3, []), (some 4, []), (some 6, [])] (fun iQ vQ wQ => match iQ with | 2 => vQ = (.bool false) | _ => True) rfl (by decide) (by kernel_rfl) (Below.refl _ _) (fun _ _ _ h k => h.trans (k.mono h.size)) (fun _ _ _ _ h _ => h) ?_ ?_
  · refine ⟨?_, trivial⟩
    · intro a w' hx hu hd K hK; exact Flow.run1 rfl (Flow.r_assign rfl rfl) (hK _ _ (Below.refl _ _) rfl)
  · intro vs W3 hb3 hT
    have v2 := Flow.eqn (hT 2 (by decide) (by decide))
    simp only [Flow.putsT, v2, Act.put, List.setIfInBounds_toArray, List.set_cons_zero, List.set_cons_succ, List.drop_succ_cons, List.drop_zero, List.take_succ_cons, List.take_zero]
    clear hT v2
    have HB3 := Aside0.mk (below_step HB2.out hb3)
    have Kg1_2_3 := Aside0.mk (blk_below Kg1_2.out hb3)
    have Kg2_3 := Aside0.mk (blk_below Kg2.out hb3)
    clear hb3
    have HPA := Aside0.mk (HPW.out.below HB3.out)
    have HC1 := Aside0.mk (Kd.C_below HC0.out HB3.out)
    have HCb1 := Aside0.mk (Kd.C_below HCb.out HB3.out)
    by_cases h1 : l.length > 300
    · have q1 : ((l.length : Nat) : Int) > 300 := by omega
      go_upto_region 1 with fail
      refine Flow.seqT (E := fun u v => Below u.heap.size u v) [(some 7, []), (some 8, [0]), (some 9, [1]), (some 10, [2]), (some 11, [3]), (some 12, [4]), (some 13, [5, 4]), (some 14, [6, 4]), (some 15, [7, 4]), (some 16, [4, 8]), (some 17, [9, 4]), (some 18, [10]), (some 19, [11, 10]), (some 20, [12, 10]), (some 21, [10, 13])] (fun iQ vQ wQ => match iQ with | 0 => vQ = (.pointer (some ⟨g1, 9, none⟩)) | 1 => vQ = (.slice A l.length c) | 2 => vQ = (.int .i64 l.length) | 3 => vQ = (.bool true) | 4 => vQ = (.bool true) | 5 => vQ = undef | 6 => vQ = undef | 7 => vQ = undef | 8 => vQ = undef | 9 => vQ = (.bool true) | 10 => vQ = (.bool true) | 11 => vQ = undef | 12 => vQ = undef | 13 => vQ = undef | 14 => vQ = (.bool true) | _ => True) rfl (by kernel_rfl) (Below.refl _ _) (fun _ _ _ h k => h.trans (k.mono h.size)) (fun _ _ _ _ h _ => h) ?_ ?_
      · refine ⟨?_, ?_, ?_, ?_, ?_, ?_, ?_, ?_, ?_, ?_, ?_, ?_, ?_, ?_, ?_, trivial⟩
        · intro a w' hx hu hd K hK; have e3 : a.tmps.getD 3 undef = (.pointer (some ⟨g1, 0, none⟩)) := hu 3 rfl; exact Flow.run1 rfl (fa rfl e3 (fa45_9 _ _ _)) (hK _ _ (Below.refl _ _) rfl)
        · intro a w' hx hu hd K hK; have e7 := Flow.got (hd 0 rfl) 7 rfl; exact Flow.run1 rfl (ld rfl e7 ((blk_cell (blk_below Kg1_2_3.out hx) 9).trans rfl) Tryd.underlying43 rfl) (hK _ _ (Below.refl _ _) rfl)
        · intro a w' hx hu hd K hK; have e8 := Flow.got (hd 1 rfl) 8 rfl; exact Flow.run1 rfl (lenL Tryd.underlying43 rfl e8) (hK _ _ (Below.refl _ _) rfl)
        · intro a w' hx hu hd K hK; have e9 := Flow.got (hd 2 rfl) 9 rfl; exact Flow.run1 rfl (yes (gtr rfl e9 rfl) (decide_eq_true q1)) (hK _ _ (Below.refl _ _) rfl)
        · intro a w' hx hu hd K hK; have e10 := Flow.got (hd 3 rfl) 10 rfl; exact Flow.run1 rfl (Flow.r_move rfl e10) (hK _ _ (Below.refl _ _) rfl)
        · intro a w' hx hu hd K hK; have e11 := Flow.got (hd 4 rfl) 11 rfl; exact Flow.spare (Flow.spare_of (k := 11) rfl e11 rfl) (hK _ _ (Below.refl _ _) rfl)
        · intro a w' hx hu hd K hK; have e11 := Flow.got (hd 4 rfl) 11 rfl; exact Flow.spare (Flow.spare_of (k := 11) rfl e11 rfl) (hK _ _ (Below.refl _ _) rfl)
        · intro a w' hx hu hd K hK; have e11 := Flow.got (hd 4 rfl) 11 rfl; exact Flow.spare (Flow.spare_of (k := 11) rfl e11 rfl) (hK _ _ (Below.refl _ _) rfl)
        · intro a w' hx hu hd K hK; have e11 := Flow.got (hd 4 rfl) 11 rfl; exact Flow.spare (Flow.spare_of (k := 11) rfl e11 rfl) (hK _ _ (Below.refl _ _) rfl)
        · intro a w' hx hu hd K hK; have e11 := Flow.got (hd 4 rfl) 11 rfl; have e15 := Flow.got (hd 8 rfl) 15 rfl; exact Flow.run1 rfl (Flow.r_pick rfl e11 rfl) (hK _ _ (Below.refl _ _) rfl)
        · intro a w' hx hu hd K hK; have e16 := Flow.got (hd 9 rfl) 16 rfl; exact Flow.run1 rfl (Flow.r_move rfl e16) (hK _ _ (Below.refl _ _) rfl)
        · intro a w' hx hu hd K hK; have e17 := Flow.got (hd 10 rfl) 17 rfl; exact Flow.spare (Flow.spare_of (k := 17) rfl e17 rfl) (hK _ _ (Below.refl _ _) rfl)
        · intro a w' hx hu hd K hK; have e17 := Flow.got (hd 10 rfl) 17 rfl; exact Flow.spare (Flow.spare_of (k := 17) rfl e17 rfl) (hK _ _ (Below.refl _ _) rfl)
        · intro a w' hx hu hd K hK; have e17 := Flow.got (hd 10 rfl) 17 rfl; exact Flow.spare (Flow.spare_of (k := 17) rfl e17 rfl) (hK _ _ (Below.refl _ _) rfl)
        · intro a w' hx hu hd K hK; have e17 := Flow.got (hd 10 rfl) 17 rfl; have e20 := Flow.got (hd 13 rfl) 20 rfl; exact Flow.run1 rfl (Flow.r_pick rfl e17 rfl) (hK _ _ (Below.refl _ _) rfl)
      · intro vs W5 hb5 hT
        have v0 := Flow.eqn (hT 0 (by decide))
        have v1 := Flow.eqn (hT 1 (by decide))
        have v2 := Flow.eqn (hT 2 (by decide))
        have v3 := Flow.eqn (hT 3 (by decide))
        have v4 := Flow.eqn (hT 4 (by decide))
        have v5 := Flow.eqn (hT 5 (by decide))
        have v6 := Flow.eqn (hT 6 (by decide))
        have v7 := Flow.eqn (hT 7 (by decide))
        have v8 := Flow.eqn (hT 8 (by decide))
        have v9 := Flow.eqn (hT 9 (by decide))
        have v10 := Flow.eqn (hT 10 (by decide))
        have v11 := Flow.eqn (hT 11 (by decide))
        have v12 := Flow.eqn (hT 12 (by decide))
        have v13 := Flow.eqn (hT 13 (by decide))
        have v14 := Flow.eqn (hT 14 (by decide))
        simp only [Flow.putsT, v0, v1, v2, v3, v4, v5, v6, v7, v8, v9, v10, v11, v12, v13, v14, Act.put, List.setIfInBounds_toArray, List.set_cons_zero, List.set_cons_succ]
        clear hT v0 v1 v2 v3 v4 v5 v6 v7 v8 v9 v10 v11 v12 v13 v14
        have HB5 := Aside0.mk hb5
        clear hb5
        go_upto_region 2 with fail
        refine Flow.seqT (E := fun u v => Below u.heap.size u v) [(some 22, []), (some 6, [0, 0, 0])] (fun iQ vQ wQ => match iQ with | 0 => vQ = (.bool true) | 1 => vQ = (.bool true) | _ => True) rfl (by kernel_rfl) (Below.refl _ _) (fun _ _ _ h k => h.trans (k.mono h.size)) (fun _ _ _ _ h _ => h) ?_ ?_
        · refine ⟨?_, ?_, trivial⟩
          · intro a w' hx hu hd K hK; refine Flow.want rfl ?_; refine Flow.val_call rfl Tryd.func8 (by kernel_rfl) rfl (by first | (simp only [List.map_toArray, List.map_cons, List.map_nil, Act.eval]; done) | (simp only [List.map_toArray, List.map_cons, List.map_nil, Act.eval]; rfl)) (live_c w' (HPA.out.below (below_step HB5.out hx))) ?_; rintro e w2 ⟨rfl, hb2⟩; exact ⟨_, rfl, hK _ _ hb2 (by rfl)⟩
          · intro a w' hx hu hd K hK; have e22 := Flow.got (hd 0 rfl) 22 rfl; exact Flow.run1 rfl (Flow.r_assign rfl e22) (hK _ _ (Below.refl _ _) rfl)
        · intro vs W6 hb6 hT
          have v0 := Flow.eqn (hT 0 (by decide))
          have v1 := Flow.eqn (hT 1 (by decide))
          simp only [Flow.putsT, v0, v1, Act.put, List.setIfInBounds_toArray, List.set_cons_zero, List.set_cons_succ]
          clear hT v0 v1
          have HB6 := Aside0.mk (below_step HB5.out hb6)
          clear hb6
          go_wp2
          go_ret
          exact ⟨rfl, below_step HB3.out HB6.out⟩
    · have q1 : ¬ ((l.length : Nat) : Int) > 300 := by omega
      by_cases h2 : d.length > 2000
      · have q2 : ((d.length : Nat) : Int) > 2000 := by omega
        go_upto_region 1 with fail
        refine Flow.seqT (E := fun u v => Below u.heap.size u v) [(some 7, []), (some 8, [0]), (some 9, [1]), (some 10, [2]), (some 11, [3]), (some 12, [4]), (some 13, [5, 4]), (some 14, [6, 4]), (some 15, [7, 4]), (some 16, [4, 8]), (some 17, [9, 4]), (some 18, [10]), (some 19, [11, 10]), (some 20, [12, 10]), (some 21, [10, 13])] (fun iQ vQ wQ => match iQ with | 0 => vQ = (.pointer (some ⟨g1, 9, none⟩)) | 1 => vQ = (.slice A l.length c) | 2 => vQ = (.int .i64 l.length) | 3 => vQ = (.bool false) | 4 => vQ = (.bool false) | 5 => vQ = (.pointer (some ⟨g2, 1, none⟩)) | 6 => vQ = (.slice Ad d.length cd) | 7 => vQ = (.int .i64 d.length) | 8 => vQ = (.bool true) | 9 => vQ = (.bool true) | 10 => vQ = (.bool true) | 11 => vQ = undef | 12 => vQ = undef | 13 => vQ = undef | 14 => vQ = (.bool true) | _ => True) rfl (by kernel_rfl) (Below.refl _ _) (fun _ _ _ h k => h.trans (k.mono h.size)) (fun _ _ _ _ h _ => h) ?_ ?_
        · refine ⟨?_, ?_, ?_, ?_, ?_, ?_, ?_, ?_, ?_, ?_, ?_, ?_, ?_, ?_, ?_, trivial⟩
          · intro a w' hx hu hd K hK; have e3 : a.tmps.getD 3 undef = (.pointer (some ⟨g1, 0, none⟩)) := hu 3 rfl; exact Flow.run1 rfl (fa rfl e3 (fa45_9 _ _ _)) (hK _ _ (Below.refl _ _) rfl)
          · intro a w' hx hu hd K hK; have e7 := Flow.got (hd 0 rfl) 7 rfl; exact Flow.run1 rfl (ld rfl e7 ((blk_cell (blk_below Kg1_2_3.out hx) 9).trans rfl) Tryd.underlying43 rfl) (hK _ _ (Below.refl _ _) rfl)
          · intro a w' hx hu hd K hK; have e8 := Flow.got (hd 1 rfl) 8 rfl; exact Flow.run1 rfl (lenL Tryd.underlying43 rfl e8) (hK _ _ (Below.refl _ _) rfl)
          · intro a w' hx hu hd K hK; have e9 := Flow.got (hd 2 rfl) 9 rfl; exact Flow.run1 rfl (no (gtr rfl e9 rfl) (decide_eq_false q1)) (hK _ _ (Below.refl _ _) rfl)
          · intro a w' hx hu hd K hK; have e10 := Flow.got (hd 3 rfl) 10 rfl; exact Flow.run1 rfl (Flow.r_move rfl e10) (hK _ _ (Below.refl _ _) rfl)
          · intro a w' hx hu hd K hK; have e4 : a.tmps.getD 4 undef = (.pointer (some ⟨g2, 0, none⟩)) := hu 4 rfl; have e11 := Flow.got (hd 4 rfl) 11 rfl; exact Flow.run1 (Flow.want_of (k := 11) rfl e11) (fa rfl e4 (fa48_1 _ _ _)) (hK _ _ (Below.refl _ _) rfl)
          · intro a w' hx hu hd K hK; have e12 := Flow.got (hd 5 rfl) 12 rfl; have e11 := Flow.got (hd 4 rfl) 11 rfl; exact Flow.run1 (Flow.want_of (k := 11) rfl e11) (ld rfl e12 ((blk_cell (blk_below Kg2_3.out hx) 1).trans rfl) Tryd.underlying43 rfl) (hK _ _ (Below.refl _ _) rfl)
          · intro a w' hx hu hd K hK; have e13 := Flow.got (hd 6 rfl) 13 rfl; have e11 := Flow.got (hd 4 rfl) 11 rfl; exact Flow.run1 (Flow.want_of (k := 11) rfl e11) (lenL Tryd.underlying43 rfl e13) (hK _ _ (Below.refl _ _) rfl)
          · intro a w' hx hu hd K hK; have e14 := Flow.got (hd 7 rfl) 14 rfl; have e11 := Flow.got (hd 4 rfl) 11 rfl; exact Flow.run1 (Flow.want_of (k := 11) rfl e11) (yes (gtr rfl e14 rfl) (decide_eq_true q2)) (hK _ _ (Below.refl _ _) rfl)
          · intro a w' hx hu hd K hK; have e11 := Flow.got (hd 4 rfl) 11 rfl; have e15 := Flow.got (hd 8 rfl) 15 rfl; exact Flow.run1 rfl (Flow.r_pick rfl e11 e15) (hK _ _ (Below.refl _ _) rfl)
          · intro a w' hx hu hd K hK; have e16 := Flow.got (hd 9 rfl) 16 rfl; exact Flow.run1 rfl (Flow.r_move rfl e16) (hK _ _ (Below.refl _ _) rfl)
          · intro a w' hx hu hd K hK; have e17 := Flow.got (hd 10 rfl) 17 rfl; exact Flow.spare (Flow.spare_of (k := 17) rfl e17 rfl) (hK _ _ (Below.refl _ _) rfl)
          · intro a w' hx hu hd K hK; have e17 := Flow.got (hd 10 rfl) 17 rfl; exact Flow.spare (Flow.spare_of (k := 17) rfl e17 rfl) (hK _ _ (Below.refl _ _) rfl)
          · intro a w' hx hu hd K hK; have e17 := Flow.got (hd 10 rfl) 17 rfl; exact Flow.spare (Flow.spare_of (k := 17) rfl e17 rfl) (hK _ _ (Below.refl _ _) rfl)
          · intro a w' hx hu hd K hK; have e17 := Flow.got (hd 10 rfl) 17 rfl; have e20 := Flow.got (hd 13 rfl) 20 rfl; exact Flow.run1 rfl (Flow.r_pick rfl e17 rfl) (hK _ _ (Below.refl _ _) rfl)
        · intro vs W7 hb7 hT
          have v0 := Flow.eqn (hT 0 (by decide))
          have v1 := Flow.eqn (hT 1 (by decide))
          have v2 := Flow.eqn (hT 2 (by decide))
          have v3 := Flow.eqn (hT 3 (by decide))
          have v4 := Flow.eqn (hT 4 (by decide))
          have v5 := Flow.eqn (hT 5 (by decide))
          have v6 := Flow.eqn (hT 6 (by decide))
          have v7 := Flow.eqn (hT 7 (by decide))
          have v8 := Flow.eqn (hT 8 (by decide))
          have v9 := Flow.eqn (hT 9 (by decide))
          have v10 := Flow.eqn (hT 10 (by decide))
          have v11 := Flow.eqn (hT 11 (by decide))
          have v12 := Flow.eqn (hT 12 (by decide))
          have v13 := Flow.eqn (hT 13 (by decide))
          have v14 := Flow.eqn (hT 14 (by decide))
          simp only [Flow.putsT, v0, v1, v2, v3, v4, v5, v6, v7, v8, v9, v10, v11, v12, v13, v14, Act.put, List.setIfInBounds_toArray, List.set_cons_zero, List.set_cons_succ]
          clear hT v0 v1 v2 v3 v4 v5 v6 v7 v8 v9 v10 v11 v12 v13 v14
          have HB7 := Aside0.mk hb7
          clear hb7
          go_upto_region 2 with fail
          refine Flow.seqT (E := fun u v => Below u.heap.size u v) [(some 22, []), (some 6, [0, 0, 0])] (fun iQ vQ wQ => match iQ with | 0 => vQ = (.bool true) | 1 => vQ = (.bool true) | _ => True) rfl (by kernel_rfl) (Below.refl _ _) (fun _ _ _ h k => h.trans (k.mono h.size)) (fun _ _ _ _ h _ => h) ?_ ?_
          · refine ⟨?_, ?_, trivial⟩
            · intro a w' hx hu hd K hK; refine Flow.want rfl ?_; refine Flow.val_call rfl Tryd.func8 (by kernel_rfl) rfl (by first | (simp only [List.map_toArray, List.map_cons, List.map_nil, Act.eval]; done) | (simp only [List.map_toArray, List.map_cons, List.map_nil, Act.eval]; rfl)) (live_c w' (HPA.out.below (below_step HB7.out hx))) ?_; rintro e w2 ⟨rfl, hb2⟩; exact ⟨_, rfl, hK _ _ hb2 (by rfl)⟩
            · intro a w' hx hu hd K hK; have e22 := Flow.got (hd 0 rfl) 22 rfl; exact Flow.run1 rfl (Flow.r_assign rfl e22) (hK _ _ (Below.refl _ _) rfl)
          · intro vs W8 hb8 hT
            have v0 := Flow.eqn (hT 0 (by decide))
            have v1 := Flow.eqn (hT 1 (by decide))
            simp only [Flow.putsT, v0, v1, Act.put, List.setIfInBounds_toArray, List.set_cons_zero, List.set_cons_succ]
            clear hT v0 v1
            have HB8 := Aside0.mk (below_step HB7.out hb8)
            clear hb8
            go_wp2
            go_ret
            exact ⟨rfl, below_step HB3.out HB8.out⟩
      · have q2 : ¬ ((d.length : Nat) : Int) > 2000 := by omega
        by_cases h3 : b.length > 300
        · have q3 : ((b.length : Nat) : Int) > 300 := by omega
          go_upto_region 1 with fail
          refine Flow.seqT (E := fun u v => Below u.heap.size u v) [(some 7, []), (some 8, [0]), (some 9, [1]), (some 10, [2]), (some 11, [3]), (some 12, [4]), (some 13, [5, 4]), (some 14, [6, 4]), (some 15, [7, 4]), (some 16, [4, 8]), (some 17, [9, 4]), (some 18, [10]), (some 19, [11, 10]), (some 20, [12, 10]), (some 21, [10, 13])] (fun iQ vQ wQ => match iQ with | 0 => vQ = (.pointer (some ⟨g1, 9, none⟩)) | 1 => vQ = (.slice A l.length c) | 2 => vQ = (.int .i64 l.length) | 3 => vQ = (.bool false) | 4 => vQ = (.bool false) | 5 => vQ = (.pointer (some ⟨g2, 1, none⟩)) | 6 => vQ = (.slice Ad d.length cd) | 7 => vQ = (.int .i64 d.length) | 8 => vQ = (.bool false) | 9 => vQ = (.bool false) | 10 => vQ = (.bool false) | 11 => vQ = (.slice Ab b.length cb) | 12 => vQ = (.int .i64 b.length) | 13 => vQ = (.bool true) | 14 => vQ = (.bool true) | _ => True) rfl (by kernel_rfl) (Below.refl _ _) (fun _ _ _ h k => h.trans (k.mono h.size)) (fun _ _ _ _ h _ => h) ?_ ?_
          · refine ⟨?_, ?_, ?_, ?_, ?_, ?_, ?_, ?_, ?_, ?_, ?_, ?_, ?_, ?_, ?_, trivial⟩
            · intro a w' hx hu hd K hK; have e3 : a.tmps.getD 3 undef = (.pointer (some ⟨g1, 0, none⟩)) := hu 3 rfl; exact Flow.run1 rfl (fa rfl e3 (fa45_9 _ _ _)) (hK _ _ (Below.refl _ _) rfl)
            · intro a w' hx hu hd K hK; have e7 := Flow.got (hd 0 rfl) 7 rfl; exact Flow.run1 rfl (ld rfl e7 ((blk_cell (blk_below Kg1_2_3.out hx) 9).trans rfl) Tryd.underlying43 rfl) (hK _ _ (Below.refl _ _) rfl)
            · intro a w' hx hu hd K hK; have e8 := Flow.got (hd 1 rfl) 8 rfl; exact Flow.run1 rfl (lenL Tryd.underlying43 rfl e8) (hK _ _ (Below.refl _ _) rfl)
            · intro a w' hx hu hd K hK; have e9 := Flow.got (hd 2 rfl) 9 rfl; exact Flow.run1 rfl (no (gtr rfl e9 rfl) (decide_eq_false q1)) (hK _ _ (Below.refl _ _) rfl)
            · intro a w' hx hu hd K hK; have e10 := Flow.got (hd 3 rfl) 10 rfl; exact Flow.run1 rfl (Flow.r_move rfl e10) (hK _ _ (Below.refl _ _) rfl)
            · intro a w' hx hu hd K hK; have e4 : a.tmps.getD 4 undef = (.pointer (some ⟨g2, 0, none⟩)) := hu 4 rfl; have e11 := Flow.got (hd 4 rfl) 11 rfl; exact Flow.run1 (Flow.want_of (k := 11) rfl e11) (fa rfl e4 (fa48_1 _ _ _)) (hK _ _ (Below.refl _ _) rfl)
            · intro a w' hx hu hd K hK; have e12 := Flow.got (hd 5 rfl) 12 rfl; have e11 := Flow.got (hd 4 rfl) 11 rfl; exact Flow.run1 (Flow.want_of (k := 11) rfl e11) (ld rfl e12 ((blk_cell (blk_below Kg2_3.out hx) 1).trans rfl) Tryd.underlying43 rfl) (hK _ _ (Below.refl _ _) rfl)
            · intro a w' hx hu hd K hK; have e13 := Flow.got (hd 6 rfl) 13 rfl; have e11 := Flow.got (hd 4 rfl) 11 rfl; exact Flow.run1 (Flow.want_of (k := 11) rfl e11) (lenL Tryd.underlying43 rfl e13) (hK _ _ (Below.refl _ _) rfl)
            · intro a w' hx hu hd K hK; have e14 := Flow.got (hd 7 rfl) 14 rfl; have e11 := Flow.got (hd 4 rfl) 11 rfl; exact Flow.run1 (Flow.want_of (k := 11) rfl e11) (no (gtr rfl e14 rfl) (decide_eq_false q2)) (hK _ _ (Below.refl _ _) rfl)
            · intro a w' hx hu hd K hK; have e11 := Flow.got (hd 4 rfl) 11 rfl; have e15 := Flow.got (hd 8 rfl) 15 rfl; exact Flow.run1 rfl (Flow.r_pick rfl e11 e15) (hK _ _ (Below.refl _ _) rfl)
            · intro a w' hx hu hd K hK; have e16 := Flow.got (hd 9 rfl) 16 rfl; exact Flow.run1 rfl (Flow.r_move rfl e16) (hK _ _ (Below.refl _ _) rfl)
            · intro a w' hx hu hd K hK; have e2 : a.tmps.getD 2 undef = (.slice Ab b.length cb) := hu 2 rfl; have e17 := Flow.got (hd 10 rfl) 17 rfl; exact Flow.run1 (Flow.want_of (k := 17) rfl e17) (Flow.r_move rfl e2) (hK _ _ (Below.refl _ _) rfl)
            · intro a w' hx hu hd K hK; have e18 := Flow.got (hd 11 rfl) 18 rfl; have e17 := Flow.got (hd 10 rfl) 17 rfl; exact Flow.run1 (Flow.want_of (k := 17) rfl e17) (lenL Tryd.underlying43 rfl e18) (hK _ _ (Below.refl _ _) rfl)
            · intro a w' hx hu hd K hK; have e19 := Flow.got (hd 12 rfl) 19 rfl; have e17 := Flow.got (hd 10 rfl) 17 rfl; exact Flow.run1 (Flow.want_of (k := 17) rfl e17) (yes (gtr rfl e19 rfl) (decide_eq_true q3)) (hK _ _ (Below.refl _ _) rfl)
            · intro a w' hx hu hd K hK; have e17 := Flow.got (hd 10 rfl) 17 rfl; have e20 := Flow.got (hd 13 rfl) 20 rfl; exact Flow.run1 rfl (Flow.r_pick rfl e17 e20) (hK _ _ (Below.refl _ _) rfl)
          · intro vs W9 hb9 hT
            have v0 := Flow.eqn (hT 0 (by decide))
            have v1 := Flow.eqn (hT 1 (by decide))
            have v2 := Flow.eqn (hT 2 (by decide))
            have v3 := Flow.eqn (hT 3 (by decide))
            have v4 := Flow.eqn (hT 4 (by decide))
            have v5 := Flow.eqn (hT 5 (by decide))
            have v6 := Flow.eqn (hT 6 (by decide))
            have v7 := Flow.eqn (hT 7 (by decide))
            have v8 := Flow.eqn (hT 8 (by decide))
            have v9 := Flow.eqn (hT 9 (by decide))
            have v10 := Flow.eqn (hT 10 (by decide))
            have v11 := Flow.eqn (hT 11 (by decide))
            have v12 := Flow.eqn (hT 12 (by decide))
            have v13 := Flow.eqn (hT 13 (by decide))
            have v14 := Flow.eqn (hT 14 (by decide))
            simp only [Flow.putsT, v0, v1, v2, v3, v4, v5, v6, v7, v8, v9, v10, v11, v12, v13, v14, Act.put, List.setIfInBounds_toArray, List.set_cons_zero, List.set_cons_succ]
            clear hT v0 v1 v2 v3 v4 v5 v6 v7 v8 v9 v10 v11 v12 v13 v14
            have HB9 := Aside0.mk hb9
            clear hb9
            go_upto_region 2 with fail
            refine Flow.seqT (E := fun u v => Below u.heap.size u v) [(some 22, []), (some 6, [0, 0, 0])] (fun iQ vQ wQ => match iQ with | 0 => vQ = (.bool true) | 1 => vQ = (.bool true) | _ => True) rfl (by kernel_rfl) (Below.refl _ _) (fun _ _ _ h k => h.trans (k.mono h.size)) (fun _ _ _ _ h _ => h) ?_ ?_
            · refine ⟨?_, ?_, trivial⟩
              · intro a w' hx hu hd K hK; refine Flow.want rfl ?_; refine Flow.val_call rfl Tryd.func8 (by kernel_rfl) rfl (by first | (simp only [List.map_toArray, List.map_cons, List.map_nil, Act.eval]; done) | (simp only [List.map_toArray, List.map_cons, List.map_nil, Act.eval]; rfl)) (live_c w' (HPA.out.below (below_step HB9.out hx))) ?_; rintro e w2 ⟨rfl, hb2⟩; exact ⟨_, rfl, hK _ _ hb2 (by rfl)⟩
              · intro a w' hx hu hd K hK; have e22 := Flow.got (hd 0 rfl) 22 rfl; exact Flow.run1 rfl (Flow.r_assign rfl e22) (hK _ _ (Below.refl _ _) rfl)
            · intro vs W10 hb10 hT
              have v0 := Flow.eqn (hT 0 (by decide))
              have v1 := Flow.eqn (hT 1 (by decide))
              simp only [Flow.putsT, v0, v1, Act.put, List.setIfInBounds_toArray, List.set_cons_zero, List.set_cons_succ]
              clear hT v0 v1
              have HB10 := Aside0.mk (below_step HB9.out hb10)
              clear hb10
              go_wp2
              go_ret
              exact ⟨rfl, below_step HB3.out HB10.out⟩
        · have q3 : ¬ ((b.length : Nat) : Int) > 300 := by omega
          go_upto_region 1 with fail
          refine Flow.seqT (E := fun u v => Below u.heap.size u v) [(some 7, []), (some 8, [0]), (some 9, [1]), (some 10, [2]), (some 11, [3]), (some 12, [4]), (some 13, [5, 4]), (some 14, [6, 4]), (some 15, [7, 4]), (some 16, [4, 8]), (some 17, [9, 4]), (some 18, [10]), (some 19, [11, 10]), (some 20, [12, 10]), (some 21, [10, 13])] (fun iQ vQ wQ => match iQ with | 0 => vQ = (.pointer (some ⟨g1, 9, none⟩)) | 1 => vQ = (.slice A l.length c) | 2 => vQ = (.int .i64 l.length) | 3 => vQ = (.bool false) | 4 => vQ = (.bool false) | 5 => vQ = (.pointer (some ⟨g2, 1, none⟩)) | 6 => vQ = (.slice Ad d.length cd) | 7 => vQ = (.int .i64 d.length) | 8 => vQ = (.bool false) | 9 => vQ = (.bool false) | 10 => vQ = (.bool false) | 11 => vQ = (.slice Ab b.length cb) | 12 => vQ = (.int .i64 b.length) | 13 => vQ = (.bool false) | 14 => vQ = (.bool false) | _ => True) rfl (by kernel_rfl) (Below.refl _ _) (fun _ _ _ h k => h.trans (k.mono h.size)) (fun _ _ _ _ h _ => h) ?_ ?_
          · refine ⟨?_, ?_, ?_, ?_, ?_, ?_, ?_, ?_, ?_, ?_, ?_, ?_, ?_, ?_, ?_, trivial⟩
            · intro a w' hx hu hd K hK; have e3 : a.tmps.getD 3 undef = (.pointer (some ⟨g1, 0, none⟩)) := hu 3 rfl; exact Flow.run1 rfl (fa rfl e3 (fa45_9 _ _ _)) (hK _ _ (Below.refl _ _) rfl)
            · intro a w' hx hu hd K hK; have e7 := Flow.got (hd 0 rfl) 7 rfl; exact Flow.run1 rfl (ld rfl e7 ((blk_cell (blk_below Kg1_2_3.out hx) 9).trans rfl) Tryd.underlying43 rfl) (hK _ _ (Below.refl _ _) rfl)
            · intro a w' hx hu hd K hK; have e8 := Flow.got (hd 1 rfl) 8 rfl; exact Flow.run1 rfl (lenL Tryd.underlying43 rfl e8) (hK _ _ (Below.refl _ _) rfl)
            · intro a w' hx hu hd K hK; have e9 := Flow.got (hd 2 rfl) 9 rfl; exact Flow.run1 rfl (no (gtr rfl e9 rfl) (decide_eq_false q1)) (hK _ _ (Below.refl _ _) rfl)
            · intro a w' hx hu hd K hK; have e10 := Flow.got (hd 3 rfl) 10 rfl; exact Flow.run1 rfl (Flow.r_move rfl e10) (hK _ _ (Below.refl _ _) rfl)
            · intro a w' hx hu hd K hK; have e4 : a.tmps.getD 4 undef = (.pointer (some ⟨g2, 0, none⟩)) := hu 4 rfl; have e11 := Flow.got (hd 4 rfl) 11 rfl; exact Flow.run1 (Flow.want_of (k := 11) rfl e11) (fa rfl e4 (fa48_1 _ _ _)) (hK _ _ (Below.refl _ _) rfl)
            · intro a w' hx hu hd K hK; have e12 := Flow.got (hd 5 rfl) 12 rfl; have e11 := Flow.got (hd 4 rfl) 11 rfl; exact Flow.run1 (Flow.want_of (k := 11) rfl e11) (ld rfl e12 ((blk_cell (blk_below Kg2_3.out hx) 1).trans rfl) Tryd.underlying43 rfl) (hK _ _ (Below.refl _ _) rfl)
            · intro a w' hx hu hd K hK; have e13 := Flow.got (hd 6 rfl) 13 rfl; have e11 := Flow.got (hd 4 rfl) 11 rfl; exact Flow.run1 (Flow.want_of (k := 11) rfl e11) (lenL Tryd.underlying43 rfl e13) (hK _ _ (Below.refl _ _) rfl)
            · intro a w' hx hu hd K hK; have e14 := Flow.got (hd 7 rfl) 14 rfl; have e11 := Flow.got (hd 4 rfl) 11 rfl; exact Flow.run1 (Flow.want_of (k := 11) rfl e11) (no (gtr rfl e14 rfl) (decide_eq_false q2)) (hK _ _ (Below.refl _ _) rfl)
            · intro a w' hx hu hd K hK; have e11 := Flow.got (hd 4 rfl) 11 rfl; have e15 := Flow.got (hd 8 rfl) 15 rfl; exact Flow.run1 rfl (Flow.r_pick rfl e11 e15) (hK _ _ (Below.refl _ _) rfl)
            · intro a w' hx hu hd K hK; have e16 := Flow.got (hd 9 rfl) 16 rfl; exact Flow.run1 rfl (Flow.r_move rfl e16) (hK _ _ (Below.refl _ _) rfl)
            · intro a w' hx hu hd K hK; have e2 : a.tmps.getD 2 undef = (.slice Ab b.length cb) := hu 2 rfl; have e17 := Flow.got (hd 10 rfl) 17 rfl; exact Flow.run1 (Flow.want_of (k := 17) rfl e17) (Flow.r_move rfl e2) (hK _ _ (Below.refl _ _) rfl)
            · intro a w' hx hu hd K hK; have e18 := Flow.got (hd 11 rfl) 18 rfl; have e17 := Flow.got (hd 10 rfl) 17 rfl; exact Flow.run1 (Flow.want_of (k := 17) rfl e17) (lenL Tryd.underlying43 rfl e18) (hK _ _ (Below.refl _ _) rfl)
            · intro a w' hx hu hd K hK; have e19 := Flow.got (hd 12 rfl) 19 rfl; have e17 := Flow.got (hd 10 rfl) 17 rfl; exact Flow.run1 (Flow.want_of (k := 17) rfl e17) (no (gtr rfl e19 rfl) (decide_eq_false q3)) (hK _ _ (Below.refl _ _) rfl)
            · intro a w' hx hu hd K hK; have e17 := Flow.got (hd 10 rfl) 17 rfl; have e20 := Flow.got (hd 13 rfl) 20 rfl; exact Flow.run1 rfl (Flow.r_pick rfl e17 e20) (hK _ _ (Below.refl _ _) rfl)
          · intro vs W11 hb11 hT
            have v0 := Flow.eqn (hT 0 (by decide))
            have v1 := Flow.eqn (hT 1 (by decide))
            have v2 := Flow.eqn (hT 2 (by decide))
            have v3 := Flow.eqn (hT 3 (by decide))
            have v4 := Flow.eqn (hT 4 (by decide))
            have v5 := Flow.eqn (hT 5 (by decide))
            have v6 := Flow.eqn (hT 6 (by decide))
            have v7 := Flow.eqn (hT 7 (by decide))
            have v8 := Flow.eqn (hT 8 (by decide))
            have v9 := Flow.eqn (hT 9 (by decide))
            have v10 := Flow.eqn (hT 10 (by decide))
            have v11 := Flow.eqn (hT 11 (by decide))
            have v12 := Flow.eqn (hT 12 (by decide))
            have v13 := Flow.eqn (hT 13 (by decide))
            have v14 := Flow.eqn (hT 14 (by decide))
            simp only [Flow.putsT, v0, v1, v2, v3, v4, v5, v6, v7, v8, v9, v10, v11, v12, v13, v14, Act.put, List.setIfInBounds_toArray, List.set_cons_zero, List.set_cons_succ]
            clear hT v0 v1 v2 v3 v4 v5 v6 v7 v8 v9 v10 v11 v12 v13 v14
            have HB11 := Aside0.mk hb11
            clear hb11
            go_upto_region 3 with fail
            refine Flow.flowT (E := fun u v => Below u.heap.size u v) [(some 23, []), (some 24, [0]), (some 25, []), (some 26, [2, 1]), (some 27, [1, 3]), (some 28, [4, 3]), (some 29, [5]), (some 30, [6, 5, 5]), (some 31, [5]), (some 32, [8, 7, 5]), (some 33, [7, 9, 5]), (some 34, [5, 10]), (some 35, [11, 9]), (some 36, [12]), (some 37, [13, 12, 12]), (some 38, [12]), (some 39, [15, 14, 12]), (some 40, [14, 16, 12]), (some 41, [12, 17]), (some 42, [18, 16]), (some 43, [19, 19]), (some 44, [19, 20]), (some 6, [21, 20, 0, 1, 2, 3, 4, 5, 6, 7, 8, 9, 10, 11, 12, 13, 14, 15, 16, 17, 18, 19, 20, 21])] (fun iQ vQ wQ => match iQ with | 0 => vQ = (.agg #[.int .i64 xk, .int .i64 xe, .int .i64 xq, .int .i64 xz, .int .i64 xg, .int .i64 xs, .int .i64 xw, .int .i64 xm, .int .i64 xu, .slice A l.length c]) | 1 => vQ = (.string (recB xk xe xq xz xg xs xw xm xu l)) | 2 => vQ = (.agg #[.int .i64 xk, .int .i64 xe, .int .i64 xq, .int .i64 xz, .int .i64 xg, .int .i64 xs, .int .i64 xw, .int .i64 xm, .int .i64 xu, .slice A l.length c]) | 3 => vQ = (.string (recB xk xe xq xz xg xs xw xm xu l)) | 4 => vQ = (.bool true) | 5 => vQ = (.bool true) | 6 => vQ = (.agg #[.int .i64 er, .slice Ad d.length cd, .int .i64 s, .int .i64 wp, .int .i64 g]) | 7 => vQ = (.string (replyB er d.length s wp g)) | 8 => vQ = (.agg #[.int .i64 er, .slice Ad d.length cd, .int .i64 s, .int .i64 wp, .int .i64 g]) | 9 => vQ = (.string (replyB er d.length s wp g)) | 10 => vQ = (.bool true) | 11 => vQ = (.bool true) | 12 => vQ = (.bool true) | 13 => vQ = (.slice Ab b.length cb) | 14 => vQ = (.string (hexB b)) | 15 => vQ = (.slice Ab b.length cb) | 16 => vQ = (.string (hexB b)) | 17 => vQ = (.bool true) | 18 => vQ = (.bool true) | 19 => vQ = (.bool true) | 20 => vQ = (.bool true) | 21 => vQ = (.bool true) | 22 => vQ = (.bool true) | _ => True) rfl (by kernel_rfl) (by kernel_rfl) (by kernel_rfl) ((Below.refl _ _).drew) (fun _ _ _ h k => h.trans (k.mono h.size)) (fun _ _ _ _ h _ => h) ?_ ?_
            · refine ⟨?_, ?_, ?_, ?_, ?_, ?_, ?_, ?_, ?_, ?_, ?_, ?_, ?_, ?_, ?_, ?_, ?_, ?_, ?_, ?_, ?_, ?_, ?_, trivial⟩
              · intro a w' hx hu hd K hK; have e3 : a.tmps.getD 3 undef = (.pointer (some ⟨g1, 0, none⟩)) := hu 3 rfl; exact Flow.run1 rfl (ldrow rfl e3 (lies_block (blk_below Kg1_2_3.out (below_step HB11.out hx))) Tryd.underlying45 rfl size45) (hK _ _ (Below.refl _ _) rfl)
              · intro a w' hx hu hd K hK; have e23 := Flow.got (hd 0 (by decide)) 23 rfl; refine Flow.want rfl ?_; refine Flow.val_call rfl Tryd.func21 (by kernel_rfl) rfl (by first | (simp only [List.map_toArray, List.map_cons, List.map_nil, Act.eval, e23]; done) | (simp only [List.map_toArray, List.map_cons, List.map_nil, Act.eval, e23]; rfl)) (rec_c xk xe xq xz xg xs xw xm xu l A c he hq hz hg hs hw hm hxu HB8.out (by omega) w' (Kd.C_below HC1.out (below_step HB11.out hx)) (HPA.out.below (below_step HB11.out hx))) ?_; rintro e w2 ⟨rfl, hb2⟩; exact ⟨_, rfl, hK _ _ hb2 (by rfl)⟩
              · intro a w' hx hu hd K hK; have e3 : a.tmps.getD 3 undef = (.pointer (some ⟨g1, 0, none⟩)) := hu 3 rfl; exact Flow.run1 rfl (ldrow rfl e3 (lies_block (blk_below Kg1_2_3.out (below_step HB11.out hx))) Tryd.underlying45 rfl size45) (hK _ _ (Below.refl _ _) rfl)
              · intro a w' hx hu hd K hK; have e25 := Flow.got (hd 2 (by decide)) 25 rfl; refine Flow.want rfl ?_; refine Flow.val_call rfl Tryd.func22 (by kernel_rfl) rfl (by first | (simp only [List.map_toArray, List.map_cons, List.map_nil, Act.eval, e25]; done) | (simp only [List.map_toArray, List.map_cons, List.map_nil, Act.eval, e25]; rfl)) (rrec_c xk xe xq xz xg xs xw xm xu l A c he hq hz hg hs hw hm hxu HB8.out (by omega) w' (Kd.C_below HC1.out (below_step HB11.out hx))) ?_; rintro e w2 ⟨rfl, hb2⟩; exact ⟨_, rfl, hK _ _ hb2 (by rfl)⟩
              · intro a w' hx hu hd K hK; have e24 := Flow.got (hd 1 (by decide)) 24 rfl; have e26 := Flow.got (hd 3 (by decide)) 26 rfl; exact Flow.run1 rfl (seq rfl e24 e26 rfl) (hK _ _ (Below.refl _ _) rfl)
              · intro a w' hx hu hd K hK; have e27 := Flow.got (hd 4 (by decide)) 27 rfl; exact Flow.run1 rfl (Flow.r_move rfl e27) (hK _ _ (Below.refl _ _) rfl)
              · intro a w' hx hu hd K hK; have e4 : a.tmps.getD 4 undef = (.pointer (some ⟨g2, 0, none⟩)) := hu 4 rfl; have e28 := Flow.got (hd 5 (by decide)) 28 rfl; exact Flow.run1 (Flow.want_of (k := 28) rfl e28) (ldrow rfl e4 (lies_block (blk_below Kg2_3.out (below_step HB11.out hx))) Tryd.underlying48 rfl size48) (hK _ _ (Below.refl _ _) rfl)
              · intro a w' hx hu hd K hK; have e29 := Flow.got (hd 6 (by decide)) 29 rfl; have e28 := Flow.got (hd 5 (by decide)) 28 rfl; refine Flow.want (Flow.want_of (k := 28) rfl e28) ?_; refine Flow.val_call rfl Tryd.func23 (by kernel_rfl) rfl (by first | (simp only [List.map_toArray, List.map_cons, List.map_nil, Act.eval, e29]; done) | (simp only [List.map_toArray, List.map_cons, List.map_nil, Act.eval, e29]; rfl)) (reply_c er s wp g d Ad cd her hwp (by omega) w' (HPA.out.below (below_step HB11.out hx))) ?_; rintro e w2 ⟨rfl, hb2⟩; exact ⟨_, rfl, hK _ _ hb2 (by rfl)⟩
              · intro a w' hx hu hd K hK; have e4 : a.tmps.getD 4 undef = (.pointer (some ⟨g2, 0, none⟩)) := hu 4 rfl; have e28 := Flow.got (hd 5 (by decide)) 28 rfl; exact Flow.run1 (Flow.want_of (k := 28) rfl e28) (ldrow rfl e4 (lies_block (blk_below Kg2_3.out (below_step HB11.out hx))) Tryd.underlying48 rfl size48) (hK _ _ (Below.refl _ _) rfl)
              · intro a w' hx hu hd K hK; have e31 := Flow.got (hd 8 (by decide)) 31 rfl; have e28 := Flow.got (hd 5 (by decide)) 28 rfl; refine Flow.want (Flow.want_of (k := 28) rfl e28) ?_; refine Flow.val_call rfl Tryd.func24 (by kernel_rfl) rfl (by first | (simp only [List.map_toArray, List.map_cons, List.map_nil, Act.eval, e31]; done) | (simp only [List.map_toArray, List.map_cons, List.map_nil, Act.eval, e31]; rfl)) (rreply_c er s wp g d Ad cd her hwp (by omega) w') ?_; rintro e w2 ⟨rfl, hb2⟩; exact ⟨_, rfl, hK _ _ hb2 (by rfl)⟩
              · intro a w' hx hu hd K hK; have e30 := Flow.got (hd 7 (by decide)) 30 rfl; have e32 := Flow.got (hd 9 (by decide)) 32 rfl; have e28 := Flow.got (hd 5 (by decide)) 28 rfl; exact Flow.run1 (Flow.want_of (k := 28) rfl e28) (seq rfl e30 e32 rfl) (hK _ _ (Below.refl _ _) rfl)
              · intro a w' hx hu hd K hK; have e28 := Flow.got (hd 5 (by decide)) 28 rfl; have e33 := Flow.got (hd 10 (by decide)) 33 rfl; exact Flow.run1 rfl (Flow.r_pick rfl e28 e33) (hK _ _ (Below.refl _ _) rfl)
              · intro a w' hx hu hd K hK; have e34 := Flow.got (hd 11 (by decide)) 34 rfl; exact Flow.run1 rfl (Flow.r_move rfl e34) (hK _ _ (Below.refl _ _) rfl)
              · intro a w' hx hu hd K hK; have e2 : a.tmps.getD 2 undef = (.slice Ab b.length cb) := hu 2 rfl; have e35 := Flow.got (hd 12 (by decide)) 35 rfl; exact Flow.run1 (Flow.want_of (k := 35) rfl e35) (Flow.r_move rfl e2) (hK _ _ (Below.refl _ _) rfl)
              · intro a w' hx hu hd K hK; have e36 := Flow.got (hd 13 (by decide)) 36 rfl; have e35 := Flow.got (hd 12 (by decide)) 35 rfl; refine Flow.want (Flow.want_of (k := 35) rfl e35) ?_; refine Flow.val_call rfl Tryd.func25 (by kernel_rfl) rfl (by first | (simp only [List.map_toArray, List.map_cons, List.map_nil, Act.eval, e36]; done) | (simp only [List.map_toArray, List.map_cons, List.map_nil, Act.eval, e36]; rfl)) (hex_c b Ab cb HBb.out (by omega) w' (Kd.C_below HCb1.out (below_step HB11.out hx))) ?_; rintro e w2 ⟨rfl, hb2⟩; exact ⟨_, rfl, hK _ _ hb2 (by rfl)⟩
              · intro a w' hx hu hd K hK; have e2 : a.tmps.getD 2 undef = (.slice Ab b.length cb) := hu 2 rfl; have e35 := Flow.got (hd 12 (by decide)) 35 rfl; exact Flow.run1 (Flow.want_of (k := 35) rfl e35) (Flow.r_move rfl e2) (hK _ _ (Below.refl _ _) rfl)
              · intro a w' hx hu hd K hK; have e38 := Flow.got (hd 15 (by decide)) 38 rfl; have e35 := Flow.got (hd 12 (by decide)) 35 rfl; refine Flow.want (Flow.want_of (k := 35) rfl e35) ?_; refine Flow.val_call rfl Tryd.func26 (by kernel_rfl) rfl (by first | (simp only [List.map_toArray, List.map_cons, List.map_nil, Act.eval, e38]; done) | (simp only [List.map_toArray, List.map_cons, List.map_nil, Act.eval, e38]; rfl)) (rhex_c b Ab cb HBb.out (by omega) w' (Kd.C_below HCb1.out (below_step HB11.out hx))) ?_; rintro e w2 ⟨rfl, hb2⟩; exact ⟨_, rfl, hK _ _ hb2 (by rfl)⟩
              · intro a w' hx hu hd K hK; have e37 := Flow.got (hd 14 (by decide)) 37 rfl; have e39 := Flow.got (hd 16 (by decide)) 39 rfl; have e35 := Flow.got (hd 12 (by decide)) 35 rfl; exact Flow.run1 (Flow.want_of (k := 35) rfl e35) (seq rfl e37 e39 rfl) (hK _ _ (Below.refl _ _) rfl)
              · intro a w' hx hu hd K hK; have e35 := Flow.got (hd 12 (by decide)) 35 rfl; have e40 := Flow.got (hd 17 (by decide)) 40 rfl; exact Flow.run1 rfl (Flow.r_pick rfl e35 e40) (hK _ _ (Below.refl _ _) rfl)
              · intro a w' hx hu hd K hK; have e41 := Flow.got (hd 18 (by decide)) 41 rfl; exact Flow.run1 rfl (Flow.r_move rfl e41) (hK _ _ (Below.refl _ _) rfl)
              · intro a w' hx hu hd K hK; have e42 := Flow.got (hd 19 (by decide)) 42 rfl; refine Flow.want (Flow.want_of (k := 42) rfl e42) ?_; refine Flow.val_call rfl Tryd.func8 (by kernel_rfl) rfl (by first | (simp only [List.map_toArray, List.map_cons, List.map_nil, Act.eval]; done) | (simp only [List.map_toArray, List.map_cons, List.map_nil, Act.eval]; rfl)) (live_c w' (HPA.out.below (below_step HB11.out hx))) ?_; rintro e w2 ⟨rfl, hb2⟩; exact ⟨_, rfl, hK _ _ hb2 (by rfl)⟩
              · intro a w' hx hu hd K hK; have e42 := Flow.got (hd 19 (by decide)) 42 rfl; have e43 := Flow.got (hd 20 (by decide)) 43 rfl; exact Flow.run1 rfl (Flow.r_pick rfl e42 e43) (hK _ _ (Below.refl _ _) rfl)
              · intro a w' hx hu hd K hK; have e44 := Flow.got (hd 21 (by decide)) 44 rfl; exact Flow.run1 rfl (Flow.r_assign rfl e44) (hK _ _ (Below.refl _ _) rfl)
            · intro vs W12 hb12 hT
              have v0 := Flow.eqn (hT 0 (by decide))
              have v1 := Flow.eqn (hT 1 (by decide))
              have v2 := Flow.eqn (hT 2 (by decide))
              have v3 := Flow.eqn (hT 3 (by decide))
              have v4 := Flow.eqn (hT 4 (by decide))
              have v5 := Flow.eqn (hT 5 (by decide))
              have v6 := Flow.eqn (hT 6 (by decide))
              have v7 := Flow.eqn (hT 7 (by decide))
              have v8 := Flow.eqn (hT 8 (by decide))
              have v9 := Flow.eqn (hT 9 (by decide))
              have v10 := Flow.eqn (hT 10 (by decide))
              have v11 := Flow.eqn (hT 11 (by decide))
              have v12 := Flow.eqn (hT 12 (by decide))
              have v13 := Flow.eqn (hT 13 (by decide))
              have v14 := Flow.eqn (hT 14 (by decide))
              have v15 := Flow.eqn (hT 15 (by decide))
              have v16 := Flow.eqn (hT 16 (by decide))
              have v17 := Flow.eqn (hT 17 (by decide))
              have v18 := Flow.eqn (hT 18 (by decide))
              have v19 := Flow.eqn (hT 19 (by decide))
              have v20 := Flow.eqn (hT 20 (by decide))
              have v21 := Flow.eqn (hT 21 (by decide))
              have v22 := Flow.eqn (hT 22 (by decide))
              simp only [Flow.putsT, v0, v1, v2, v3, v4, v5, v6, v7, v8, v9, v10, v11, v12, v13, v14, v15, v16, v17, v18, v19, v20, v21, v22, Act.put, List.setIfInBounds_toArray, List.set_cons_zero, List.set_cons_succ]
              clear hT v0 v1 v2 v3 v4 v5 v6 v7 v8 v9 v10 v11 v12 v13 v14 v15 v16 v17 v18 v19 v20 v21 v22
              have HB12 := Aside0.mk (below_step HB11.out hb12)
              clear hb12
              go_wp2
              go_ret
              exact ⟨rfl, below_step HB3.out HB12.out⟩
end Go.Proofs.YtlhmpmmblnbmbaaDoor.Rep
