/- The law ReportLogs, walked. -/
import Derived.Test.YtlhmpmmblnbmbaaDoorRepMuch
import Derived.Test.YtlhmpmmblnbmbaaDoorRepLive
set_option linter.unusedVariables false
set_option linter.unusedSimpArgs false
namespace Go.Proofs.YtlhmpmmblnbmbaaDoor.Rep
open Go.Lib Go.RowKit Go.Proofs.YtlhmpmmblnbmbaaDoor.Ev Go.Proofs.YtlhmpmmblnbmbaaDoor.Cells Go.Proofs.YtlhmpmmblnbmbaaDoorW.PrintWords Go.Proofs.YtlhmpmmblnbmbaaDoorW.PrintLast Go.Proofs.YtlhmpmmblnbmbaaDoorW.PrintMore
def k34 : Kd S34 := Kd.iso (Kd.pair (Kd.int .i64) (Kd.pair (Kd.int .i64) (Kd.pair (Kd.int .i64) (Kd.pair (Kd.int .i64) (Kd.pair (Kd.int .i64) (Kd.pair (Kd.int .i64) (Kd.pair (Kd.int .i64) (Kd.pair (Kd.int .i64) (Kd.pair (Kd.int .i64) (Kd.pair (Kd.int .i64) (Kd.int .i64))))))))))) (fun x : S34 => (x.f0, x.f1, x.f2, x.f3, x.f4, x.f5, x.f6, x.f7, x.f8, x.f9, x.f10))
theorem k34_open {w : World} {x : S34} {cs : List Value} (h : k34.K w x cs) : cs = [.int .i64 x.f0, .int .i64 x.f1, .int .i64 x.f2, .int .i64 x.f3, .int .i64 x.f4, .int .i64 x.f5, .int .i64 x.f6, .int .i64 x.f7, .int .i64 x.f8, .int .i64 x.f9, .int .i64 x.f10] := by
  obtain ⟨_, _, rfl, rfl, ⟨_, _, rfl, rfl, ⟨_, _, rfl, rfl, ⟨_, _, rfl, rfl, ⟨_, _, rfl, rfl, ⟨_, _, rfl, rfl, ⟨_, _, rfl, rfl, ⟨_, _, rfl, rfl, ⟨_, _, rfl, rfl, ⟨_, _, rfl, rfl, rfl⟩⟩⟩⟩⟩⟩⟩⟩⟩⟩ := h
  exact rfl
structure S38 where
  f0 : S34
  f1 : Int
  f2 : Int
  f3 : List Int
  f4 : List S82
def k38 : Kd S38 := Kd.iso (Kd.pair k34 (Kd.pair (Kd.int .i64) (Kd.pair (Kd.int .i64) (Kd.pair (Kd.slice 3 (Kd.int .i64)) (Kd.slice 82 k82))))) (fun x : S38 => (x.f0, x.f1, x.f2, x.f3, x.f4))
theorem k38_open {w : World} {x : S38} {cs : List Value} (h : k38.K w x cs) : ∃ As ks Az kz, cs = [.int .i64 x.f0.f0, .int .i64 x.f0.f1, .int .i64 x.f0.f2, .int .i64 x.f0.f3, .int .i64 x.f0.f4, .int .i64 x.f0.f5, .int .i64 x.f0.f6, .int .i64 x.f0.f7, .int .i64 x.f0.f8, .int .i64 x.f0.f9, .int .i64 x.f0.f10, .int .i64 x.f1, .int .i64 x.f2, .slice As x.f3.length ks, .slice Az x.f4.length kz] ∧ Kd.C (Kd.int .i64) w As x.f3.length x.f3 ∧ Kd.C k82 w Az x.f4.length x.f4 := by
  obtain ⟨c1, _, rfl, h1, ⟨_, _, rfl, rfl, ⟨_, _, rfl, rfl, ⟨_, _, rfl, ⟨As, ks, rfl, _, hs⟩, ⟨Az, kz, rfl, _, hz⟩⟩⟩⟩⟩ := h
  obtain rfl := k34_open h1
  exact ⟨As, ks, Az, kz, rfl, hs, hz⟩
theorem pars_fit {st : List Int} {zs : List S82} (h : Fits st zs) (i : Nat) : (zs.getD i z82).f5.length ≤ 1000 := by
  by_cases hi : i < zs.length
  · have := h.2.2 i hi; omega
  · rw [List.getD_eq_getElem?_getD, List.getElem?_eq_none (by omega)]; exact Nat.zero_le _
def MuchV (st : List Int) (zs : List S82) (v : Value) : Prop := ∃ b : Bool, v = .bool b ∧ (b = false → Fits st zs)
set_option maxHeartbeats 4000000 in
set_option maxRecDepth 100000 in
theorem lawlogs_c (x : S34) (hg : G34 x) (xc : S34) (xe xs : Int) (st : List Int) (zs : List S82) (As Az : Option Addr) (cs cz : Nat) (he : I64 xe) (hs : I64 xs) (hst : st.length ≤ maxLen) (hzn : zs.length ≤ maxLen) (hz : ∀ i, G82 (zs.getD i z82)) (w : World) (hCs : Kd.C (Kd.int .i64) w As st.length st) (hCz : Kd.C k82 w Az zs.length zs) (hpow : POW w) : Calls Tryd.prog 4 #[.agg #[.int .i64 x.f0, .int .i64 x.f1, .int .i64 x.f2, .int .i64 x.f3, .int .i64 x.f4, .int .i64 x.f5, .int .i64 x.f6, .int .i64 x.f7, .int .i64 x.f8, .int .i64 x.f9, .int .i64 x.f10], .agg #[.int .i64 xc.f0, .int .i64 xc.f1, .int .i64 xc.f2, .int .i64 xc.f3, .int .i64 xc.f4, .int .i64 xc.f5, .int .i64 xc.f6, .int .i64 xc.f7, .int .i64 xc.f8, .int .i64 xc.f9, .int .i64 xc.f10, .int .i64 xe, .int .i64 xs, .slice As st.length cs, .slice Az zs.length cz]] w fun e w' => e = .returned (.bool true) ∧ Below w.heap.size w w' := by
  have HPW := Aside0.mk hpow
  have HCs := Aside0.mk hCs
  have HCz := Aside0.mk hCz
  have HG := Aside0.mk hg
  have HZ := Aside0.mk hz
  have HST := Aside0.mk hst
  have HZN := Aside0.mk hzn
  clear hpow hCs hCz hz hst hzn hg
  go_enter Tryd.func4, Tryd.ntmps4
  go_upto_region 0 with fail
  refine wp_region_lit ?_
  refine ebox (v := (.agg #[.int .i64 x.f0, .int .i64 x.f1, .int .i64 x.f2, .int .i64 x.f3, .int .i64 x.f4, .int .i64 x.f5, .int .i64 x.f6, .int .i64 x.f7, .int .i64 x.f8, .int .i64 x.f9, .int .i64 x.f10])) rfl rfl rfl ?_
  intro g1 hg1 W1 hk1 hb1
  have Kg1 := Aside0.mk hk1
  have HB1 := Aside0.mk hb1
  clear hb1
  have Gg1 := Aside0.mk (show w.heap.size ≤ g1 by rw [hg1]; exact Nat.le_refl _)
  clear hg1 hk1
  simp only [Act.put, List.setIfInBounds_toArray, List.set_cons_zero, List.set_cons_succ]
  refine ebox (v := (.agg #[.int .i64 xc.f0, .int .i64 xc.f1, .int .i64 xc.f2, .int .i64 xc.f3, .int .i64 xc.f4, .int .i64 xc.f5, .int .i64 xc.f6, .int .i64 xc.f7, .int .i64 xc.f8, .int .i64 xc.f9, .int .i64 xc.f10, .int .i64 xe, .int .i64 xs, .slice As st.length cs, .slice Az zs.length cz])) rfl rfl rfl ?_
  intro g2 hg2 W2 hk2 hb2
  have Kg2 := Aside0.mk hk2
  have HB2 := Aside0.mk (below_step HB1.out hb2)
  have Kg1_2 := Aside0.mk (blk_below Kg1.out hb2)
  clear hb2
  have Gg2 := Aside0.mk (show w.heap.size ≤ g2 by rw [hg2]; exact HB1.out.size)
  clear hg2 hk2
  simp only [Act.put, List.setIfInBounds_toArray, List.set_cons_zero, List.set_cons_succ]
  refine Flow.seqL (E := fun u v => Below u.heap.size u v) 2 1 [(some 2, []), (some 3, []), (some 4, [])] (fun iQ vQ wQ => match iQ with | 2 => vQ = (.bool false) | _ => True) rfl (by decide) (by kernel_rfl) (Below.refl _ _) (fun _ _ _ h k => h.trans (k.mono h.size)) (fun _ _ _ _ h _ => h) ?_ ?_
  · refine ⟨?_, trivial⟩
    · intro a w' hx hu hd K hK; exact Flow.run1 rfl (Flow.r_assign rfl rfl) (hK _ _ (Below.refl _ _) rfl)
  · intro vs W3 hb3 hT
    have v2 := Flow.eqn (hT 2 (by decide) (by decide))
    simp only [Flow.putsT, v2, Act.put, List.setIfInBounds_toArray, List.set_cons_zero, List.set_cons_succ, List.drop_succ_cons, List.drop_zero, List.take_succ_cons, List.take_zero]
    clear hT v2
    have HB3 := Aside0.mk (below_step HB2.out hb3)
    have Kg1_2_3 := Aside0.mk (blk_below Kg1_2.out hb3)
    have Kg2_3 := Aside0.mk (blk_below Kg2.out hb3)
    clear hb3
    have HPA := Aside0.mk (HPW.out.below HB3.out)
    have HCs1 := Aside0.mk (Kd.C_below HCs.out HB3.out)
    have HCz1 := Aside0.mk (Kd.C_below HCz.out HB3.out)
    go_upto_region 1 with fail
    refine Flow.seqT (E := fun u v => Below u.heap.size u v) [(some 5, []), (some 6, [0])] (fun iQ vQ wQ => match iQ with | 0 => vQ = (.agg #[.int .i64 xc.f0, .int .i64 xc.f1, .int .i64 xc.f2, .int .i64 xc.f3, .int .i64 xc.f4, .int .i64 xc.f5, .int .i64 xc.f6, .int .i64 xc.f7, .int .i64 xc.f8, .int .i64 xc.f9, .int .i64 xc.f10, .int .i64 xe, .int .i64 xs, .slice As st.length cs, .slice Az zs.length cz]) | 1 => MuchV st zs vQ | _ => True) rfl (by kernel_rfl) (Below.refl _ _) (fun _ _ _ h k => h.trans (k.mono h.size)) (fun iQ vQ w1Q w2Q hQ hEQ => match iQ, hQ with | 0, hQ => hQ | 1, hQ => hQ | _ + 2, _ => trivial) ?_ ?_
    · refine ⟨?_, ?_, trivial⟩
      · intro a w' hx hu hd K hK; have e3 : a.tmps.getD 3 undef = (.pointer (some ⟨g2, 0, none⟩)) := hu 3 rfl; exact Flow.run1 rfl (ldrow rfl e3 (lies_block (blk_below Kg2_3.out hx)) Tryd.underlying38 rfl size38) (hK _ _ (Below.refl _ _) rfl)
      · intro a w' hx hu hd K hK; have e5 := Flow.got (hd 0 rfl) 5 rfl; refine Flow.want rfl ?_; refine Flow.val_call rfl Tryd.func16 (by kernel_rfl) rfl (by first | (simp only [List.map_toArray, List.map_cons, List.map_nil, Act.eval, e5]; done) | (simp only [List.map_toArray, List.map_cons, List.map_nil, Act.eval, e5]; rfl)) (much_c xc xe xs st zs As Az cs cz HST.out HZN.out w' (Kd.C_below HCz1.out hx)) ?_; rintro e w2 ⟨b, rfl, hb1, hb2⟩; exact ⟨_, rfl, hK _ _ hb2 ⟨b, rfl, hb1⟩⟩
    · intro vs W5 hb5 hT
      have v0 := Flow.eqn (hT 0 (by decide))
      obtain ⟨bm, v1, hbm⟩ : MuchV st zs _ := hT 1 (by decide)
      have HBM := Aside0.mk hbm
      clear hbm
      simp only [Flow.putsT, v0, v1, Act.put, List.setIfInBounds_toArray, List.set_cons_zero, List.set_cons_succ]
      clear hT v0 v1
      have HB5 := Aside0.mk hb5
      clear hb5
      cases bm with
      | true =>
        go_upto_region 2 with fail
        refine Flow.seqT (E := fun u v => Below u.heap.size u v) [(some 7, []), (some 4, [0, 0, 0])] (fun iQ vQ wQ => match iQ with | 0 => vQ = (.bool true) | 1 => vQ = (.bool true) | _ => True) rfl (by kernel_rfl) (Below.refl _ _) (fun _ _ _ h k => h.trans (k.mono h.size)) (fun _ _ _ _ h _ => h) ?_ ?_
        · refine ⟨?_, ?_, trivial⟩
          · intro a w' hx hu hd K hK; refine Flow.want rfl ?_; refine Flow.val_call rfl Tryd.func8 (by kernel_rfl) rfl (by first | (simp only [List.map_toArray, List.map_cons, List.map_nil, Act.eval]; done) | (simp only [List.map_toArray, List.map_cons, List.map_nil, Act.eval]; rfl)) (live_c w' (HPA.out.below (below_step HB5.out hx))) ?_; rintro e w2 ⟨rfl, hb2⟩; exact ⟨_, rfl, hK _ _ hb2 (by rfl)⟩
          · intro a w' hx hu hd K hK; have e7 := Flow.got (hd 0 rfl) 7 rfl; exact Flow.run1 rfl (Flow.r_assign rfl e7) (hK _ _ (Below.refl _ _) rfl)
        · intro vs W6 hb6 hT
          have v0 := Flow.eqn (hT 0 (by decide))
          have v1 := Flow.eqn (hT 1 (by decide))
          simp only [Flow.putsT, v0, v1, Act.put, List.setIfInBounds_toArray, List.set_cons_zero, List.set_cons_succ]
          clear hT v0 v1
          have HB6 := Aside0.mk (below_step HB5.out hb6)
          clear hb6
          go_wp2
          go_ret
          exact ⟨rfl, below_step HB3.out HB6.out⟩
      | false =>
        have HFI := Aside0.mk (HBM.out rfl)
        go_upto_region 3 with fail
        refine Flow.flowT (E := fun u v => Below u.heap.size u v) [(some 8, []), (some 9, [0]), (some 10, []), (some 11, [2, 1]), (some 12, [1, 3]), (some 13, [4, 3]), (some 14, [5]), (some 15, [6, 5, 5]), (some 16, [5]), (some 17, [8, 7, 5]), (some 18, [7, 9, 5]), (some 19, [5, 10]), (some 20, [11, 9]), (some 21, [12, 12]), (some 22, [12, 13]), (some 4, [14, 13, 0, 1, 2, 3, 4, 5, 6, 7, 8, 9, 10, 11, 12, 13, 14])] (fun iQ vQ wQ => match iQ with | 0 => vQ = (.agg #[.int .i64 x.f0, .int .i64 x.f1, .int .i64 x.f2, .int .i64 x.f3, .int .i64 x.f4, .int .i64 x.f5, .int .i64 x.f6, .int .i64 x.f7, .int .i64 x.f8, .int .i64 x.f9, .int .i64 x.f10]) | 1 => vQ = (.string (confB x)) | 2 => vQ = (.agg #[.int .i64 x.f0, .int .i64 x.f1, .int .i64 x.f2, .int .i64 x.f3, .int .i64 x.f4, .int .i64 x.f5, .int .i64 x.f6, .int .i64 x.f7, .int .i64 x.f8, .int .i64 x.f9, .int .i64 x.f10]) | 3 => vQ = (.string (confB x)) | 4 => vQ = (.bool true) | 5 => vQ = (.bool true) | 6 => vQ = (.agg #[.int .i64 xc.f0, .int .i64 xc.f1, .int .i64 xc.f2, .int .i64 xc.f3, .int .i64 xc.f4, .int .i64 xc.f5, .int .i64 xc.f6, .int .i64 xc.f7, .int .i64 xc.f8, .int .i64 xc.f9, .int .i64 xc.f10, .int .i64 xe, .int .i64 xs, .slice As st.length cs, .slice Az zs.length cz]) | 7 => vQ = (.string (logB xe xs st zs)) | 8 => vQ = (.agg #[.int .i64 xc.f0, .int .i64 xc.f1, .int .i64 xc.f2, .int .i64 xc.f3, .int .i64 xc.f4, .int .i64 xc.f5, .int .i64 xc.f6, .int .i64 xc.f7, .int .i64 xc.f8, .int .i64 xc.f9, .int .i64 xc.f10, .int .i64 xe, .int .i64 xs, .slice As st.length cs, .slice Az zs.length cz]) | 9 => vQ = (.string (logB xe xs st zs)) | 10 => vQ = (.bool true) | 11 => vQ = (.bool true) | 12 => vQ = (.bool true) | 13 => vQ = (.bool true) | 14 => vQ = (.bool true) | 15 => vQ = (.bool true) | _ => True) rfl (by kernel_rfl) (by kernel_rfl) (by kernel_rfl) ((Below.refl _ _).drew) (fun _ _ _ h k => h.trans (k.mono h.size)) (fun _ _ _ _ h _ => h) ?_ ?_
        · refine ⟨?_, ?_, ?_, ?_, ?_, ?_, ?_, ?_, ?_, ?_, ?_, ?_, ?_, ?_, ?_, ?_, trivial⟩
          · intro a w' hx hu hd K hK; have e2 : a.tmps.getD 2 undef = (.pointer (some ⟨g1, 0, none⟩)) := hu 2 rfl; exact Flow.run1 rfl (ldrow rfl e2 (lies_block (blk_below Kg1_2_3.out (below_step HB5.out hx))) Tryd.underlying34 rfl size34) (hK _ _ (Below.refl _ _) rfl)
          · intro a w' hx hu hd K hK; have e8 := Flow.got (hd 0 (by decide)) 8 rfl; refine Flow.want rfl ?_; refine Flow.val_call rfl Tryd.func17 (by kernel_rfl) rfl (by first | (simp only [List.map_toArray, List.map_cons, List.map_nil, Act.eval, e8]; done) | (simp only [List.map_toArray, List.map_cons, List.map_nil, Act.eval, e8]; rfl)) (conf_c x HG.out w' (HPA.out.below (below_step HB5.out hx))) ?_; rintro e w2 ⟨rfl, hb2⟩; exact ⟨_, rfl, hK _ _ hb2 (by rfl)⟩
          · intro a w' hx hu hd K hK; have e2 : a.tmps.getD 2 undef = (.pointer (some ⟨g1, 0, none⟩)) := hu 2 rfl; exact Flow.run1 rfl (ldrow rfl e2 (lies_block (blk_below Kg1_2_3.out (below_step HB5.out hx))) Tryd.underlying34 rfl size34) (hK _ _ (Below.refl _ _) rfl)
          · intro a w' hx hu hd K hK; have e10 := Flow.got (hd 2 (by decide)) 10 rfl; refine Flow.want rfl ?_; refine Flow.val_call rfl Tryd.func18 (by kernel_rfl) rfl (by first | (simp only [List.map_toArray, List.map_cons, List.map_nil, Act.eval, e10]; done) | (simp only [List.map_toArray, List.map_cons, List.map_nil, Act.eval, e10]; rfl)) (rconf_c x HG.out w') ?_; rintro e w2 ⟨rfl, hb2⟩; exact ⟨_, rfl, hK _ _ hb2 (by rfl)⟩
          · intro a w' hx hu hd K hK; have e9 := Flow.got (hd 1 (by decide)) 9 rfl; have e11 := Flow.got (hd 3 (by decide)) 11 rfl; exact Flow.run1 rfl (seq rfl e9 e11 rfl) (hK _ _ (Below.refl _ _) rfl)
          · intro a w' hx hu hd K hK; have e12 := Flow.got (hd 4 (by decide)) 12 rfl; exact Flow.run1 rfl (Flow.r_move rfl e12) (hK _ _ (Below.refl _ _) rfl)
          · intro a w' hx hu hd K hK; have e3 : a.tmps.getD 3 undef = (.pointer (some ⟨g2, 0, none⟩)) := hu 3 rfl; have e13 := Flow.got (hd 5 (by decide)) 13 rfl; exact Flow.run1 (Flow.want_of (k := 13) rfl e13) (ldrow rfl e3 (lies_block (blk_below Kg2_3.out (below_step HB5.out hx))) Tryd.underlying38 rfl size38) (hK _ _ (Below.refl _ _) rfl)
          · intro a w' hx hu hd K hK; have e14 := Flow.got (hd 6 (by decide)) 14 rfl; have e13 := Flow.got (hd 5 (by decide)) 13 rfl; refine Flow.want (Flow.want_of (k := 13) rfl e13) ?_; refine Flow.val_call rfl Tryd.func19 (by kernel_rfl) rfl (by first | (simp only [List.map_toArray, List.map_cons, List.map_nil, Act.eval, e14]; done) | (simp only [List.map_toArray, List.map_cons, List.map_nil, Act.eval, e14]; rfl)) (log_c xc xe xs st zs As Az cs cz he hs (by have := HFI.out.2.1; omega) (by have := HFI.out.1; omega) HZ.out (fun i => pars_fit HFI.out i) w' (Kd.C_below HCs1.out (below_step HB5.out hx)) (Kd.C_below HCz1.out (below_step HB5.out hx)) (HPA.out.below (below_step HB5.out hx))) ?_; rintro e w2 ⟨rfl, hb2⟩; exact ⟨_, rfl, hK _ _ hb2 (by rfl)⟩
          · intro a w' hx hu hd K hK; have e3 : a.tmps.getD 3 undef = (.pointer (some ⟨g2, 0, none⟩)) := hu 3 rfl; have e13 := Flow.got (hd 5 (by decide)) 13 rfl; exact Flow.run1 (Flow.want_of (k := 13) rfl e13) (ldrow rfl e3 (lies_block (blk_below Kg2_3.out (below_step HB5.out hx))) Tryd.underlying38 rfl size38) (hK _ _ (Below.refl _ _) rfl)
          · intro a w' hx hu hd K hK; have e16 := Flow.got (hd 8 (by decide)) 16 rfl; have e13 := Flow.got (hd 5 (by decide)) 13 rfl; refine Flow.want (Flow.want_of (k := 13) rfl e13) ?_; refine Flow.val_call rfl Tryd.func20 (by kernel_rfl) rfl (by first | (simp only [List.map_toArray, List.map_cons, List.map_nil, Act.eval, e16]; done) | (simp only [List.map_toArray, List.map_cons, List.map_nil, Act.eval, e16]; rfl)) (rlog_c xc xe xs st zs As Az cs cz he hs (by have := HFI.out.2.1; omega) (by have := HFI.out.1; omega) HZ.out (fun i => pars_fit HFI.out i) w' (Kd.C_below HCs1.out (below_step HB5.out hx)) (Kd.C_below HCz1.out (below_step HB5.out hx))) ?_; rintro e w2 ⟨rfl, hb2⟩; exact ⟨_, rfl, hK _ _ hb2 (by rfl)⟩
          · intro a w' hx hu hd K hK; have e15 := Flow.got (hd 7 (by decide)) 15 rfl; have e17 := Flow.got (hd 9 (by decide)) 17 rfl; have e13 := Flow.got (hd 5 (by decide)) 13 rfl; exact Flow.run1 (Flow.want_of (k := 13) rfl e13) (seq rfl e15 e17 rfl) (hK _ _ (Below.refl _ _) rfl)
          · intro a w' hx hu hd K hK; have e13 := Flow.got (hd 5 (by decide)) 13 rfl; have e18 := Flow.got (hd 10 (by decide)) 18 rfl; exact Flow.run1 rfl (Flow.r_pick rfl e13 e18) (hK _ _ (Below.refl _ _) rfl)
          · intro a w' hx hu hd K hK; have e19 := Flow.got (hd 11 (by decide)) 19 rfl; exact Flow.run1 rfl (Flow.r_move rfl e19) (hK _ _ (Below.refl _ _) rfl)
          · intro a w' hx hu hd K hK; have e20 := Flow.got (hd 12 (by decide)) 20 rfl; refine Flow.want (Flow.want_of (k := 20) rfl e20) ?_; refine Flow.val_call rfl Tryd.func8 (by kernel_rfl) rfl (by first | (simp only [List.map_toArray, List.map_cons, List.map_nil, Act.eval]; done) | (simp only [List.map_toArray, List.map_cons, List.map_nil, Act.eval]; rfl)) (live_c w' (HPA.out.below (below_step HB5.out hx))) ?_; rintro e w2 ⟨rfl, hb2⟩; exact ⟨_, rfl, hK _ _ hb2 (by rfl)⟩
          · intro a w' hx hu hd K hK; have e20 := Flow.got (hd 12 (by decide)) 20 rfl; have e21 := Flow.got (hd 13 (by decide)) 21 rfl; exact Flow.run1 rfl (Flow.r_pick rfl e20 e21) (hK _ _ (Below.refl _ _) rfl)
          · intro a w' hx hu hd K hK; have e22 := Flow.got (hd 14 (by decide)) 22 rfl; exact Flow.run1 rfl (Flow.r_assign rfl e22) (hK _ _ (Below.refl _ _) rfl)
        · intro vs W7 hb7 hT
          have v0 := Flow.eqn (hT 0 (by decide))
          have v1 := Flow.eqn (hT 1 (by decide))
          have v2 := Flow.eqn (hT 2 (by decide))
          have v3 := Flow.eqn (hT 3 (by decide))
          have v4 := Flow.eqn (hT 4 (by decide))
          have v5 := Flow.eqn (hT 5 (by decide))
          have v6 := Flow.eqn (hT 6 (by decide))
          have v7 := Flow.eqn (hT 7 (by decide))
          have v8 := Flow.eqn (hT 8 (by decide))
          have v9 := Flow.eqn (hT 9 (by decide))
          have v10 := Flow.eqn (hT 10 (by decide))
          have v11 := Flow.eqn (hT 11 (by decide))
          have v12 := Flow.eqn (hT 12 (by decide))
          have v13 := Flow.eqn (hT 13 (by decide))
          have v14 := Flow.eqn (hT 14 (by decide))
          have v15 := Flow.eqn (hT 15 (by decide))
          simp only [Flow.putsT, v0, v1, v2, v3, v4, v5, v6, v7, v8, v9, v10, v11, v12, v13, v14, v15, Act.put, List.setIfInBounds_toArray, List.set_cons_zero, List.set_cons_succ]
          clear hT v0 v1 v2 v3 v4 v5 v6 v7 v8 v9 v10 v11 v12 v13 v14 v15
          have HB7 := Aside0.mk (below_step HB5.out hb7)
          clear hb7
          go_wp2
          go_ret
          exact ⟨rfl, below_step HB3.out HB7.out⟩
end Go.Proofs.YtlhmpmmblnbmbaaDoor.Rep
