/- The cache of the page: live. -/
import Derived.Test.YtlhmpmmblnbmbaaCacI
set_option linter.unusedVariables false
set_option linter.unusedSimpArgs false
namespace Go.Proofs.Ytlhmpmmblnbmbaa.Cac
open Go Go.RowKit Go.Proofs.Ytlhmpmmblnbmbaa.PCachePlays Go.Proofs.YtlhmpmmblnbmbaaW.PrintWords Go.Proofs.YtlhmpmmblnbmbaaW.PrintLast Go.Proofs.YtlhmpmmblnbmbaaW.PrintMore Go.Proofs.Ytlhmpmmblnbmbaa.FlowU Go.Proofs.Ytlhmpmmblnbmbaa.Ev Go.Proofs.Ytlhmpmmblnbmbaa.Ke Go.Proofs.Ytlhmpmmblnbmbaa.Cells
theorem fa36_2 (g o : Nat) (w : World) : (Instr.fieldAt 36 (.pointer (some ⟨g, o, none⟩)) 2).run Try.prog w = .ok (.pointer (some ⟨g, o + 2, none⟩)) w := by
  have hu := Try.underlying36
  go_simp
theorem fad36_2 (ad : Addr) (w : World) : (Instr.fieldAt 36 (.pointer (some ad)) 2).run Try.prog w = .ok (.pointer (some (ad.add 2))) w := by
  have hu := Try.underlying36
  go_simp
theorem bld36_2 {o : Oper} {a : Act} {w : World} {x2 : Operand} {c2 : Int} (ho : o.op = .build 36 #[(2, x2)]) (h2 : a.eval x2 = .int .i64 c2) : (execOp a.eval o).run Try.prog w = .ok (.value (.agg #[.int .i64 0, .int .i64 0, .int .i64 c2])) w := by
  have hu36 := Try.underlying36
  have hu3 := Try.underlying3
  unfold execOp
  simp only [ho, List.map_toArray, List.map_cons, List.map_nil, h2]
  clear ho h2
  first
  | (go_simp; done)
  | (go_simp; rfl)
theorem below_kb {B : Nat} {w W W1 : World} {gC gM : Nat} (h : Below B w W) (hB : B ≤ w.heap.size) (k : KB (S2 gC gM) W W1) (hC : B ≤ gC) (hM : B ≤ gM) : Below B w W1 := ⟨k.os.trans h.os, k.tape.trans h.tape, k.output.trans h.output, Nat.le_trans h.size k.size, fun i hi => (k.block i (Nat.lt_of_lt_of_le (Nat.lt_of_lt_of_le hi hB) h.size) (by rintro (rfl | rfl) <;> omega)).trans (h.block i hi)⟩
set_option maxHeartbeats 4000000 in
set_option maxRecDepth 100000 in
theorem live_c (w : World) : Calls Try.prog 16 #[] w fun e w' => e = .returned (.bool true) ∧ Below w.heap.size w w' := by
  go_enter Try.func16, Try.ntmps16
  go_upto_region 0 with fail
  refine Flow.seqT (E := fun u v => Below u.heap.size u v) [(some 0, [])] (fun iQ vQ wQ => match iQ with | 0 => vQ = (.bool false) | _ => True) rfl (by kernel_rfl) (Below.refl _ _) (fun _ _ _ h k => h.trans (k.mono h.size)) (fun _ _ _ _ h _ => h) ?_ ?_
  · refine ⟨?_, trivial⟩
    · intro a w' hx hu hd K hK; exact Flow.run1 rfl (Flow.r_assign rfl rfl) (hK _ _ (Below.refl _ _) rfl)
  intro vs W1 hb1 hT
  have v0 := Flow.eqn (hT 0 (by decide))
  simp only [Flow.putsT, v0, Act.put, List.setIfInBounds_toArray, List.set_cons_zero, List.set_cons_succ]
  clear hT v0
  have HB1 := Aside0.mk (hb1)
  clear hb1
  go_upto_region 1 with fail
  refine wp_region_lit ?_
  refine ecall rfl rfl Try.func17 (by kernel_rfl) rfl (args := #[.int .i64 2]) (by first | (simp only [List.map_toArray, List.map_cons, List.map_nil, Act.eval]; done) | (simp only [List.map_toArray, List.map_cons, List.map_nil, Act.eval]; rfl)) (new_i 2 2 rfl _) ?_
  rintro e W2 ⟨gC, gM, rfl, hci2, hgc, hgm, hb2⟩
  refine ⟨_, rfl, ?_⟩
  have HGC := Aside0.mk (show w.heap.size ≤ gC from Nat.le_trans HB1.out.size hgc)
  have HGM := Aside0.mk (show w.heap.size ≤ gM from Nat.le_trans HB1.out.size hgm)
  have HCI_2 := Aside0.mk hci2
  clear hci2 hgc hgm
  have HB2 := Aside0.mk (below_step HB1.out hb2)
  clear hb2
  simp only [Act.put, List.setIfInBounds_toArray, List.set_cons_zero, List.set_cons_succ]
  refine Flow.seqL (E := fun u v => Below u.heap.size u v) 1 1 [(some 5, []), (some 1, [0, 0, 0])] (fun iQ vQ wQ => match iQ with | 1 => vQ = (.pointer (some ⟨gC, 0, none⟩)) | _ => True) rfl (by decide) (by kernel_rfl) (Below.refl _ _) (fun _ _ _ h k => h.trans (k.mono h.size)) (fun _ _ _ _ h _ => h) ?_ ?_
  · refine ⟨?_, trivial⟩
    · intro a w' hx hu hd K hK; have e5 : a.tmps.getD 5 undef = (.pointer (some ⟨gC, 0, none⟩)) := hu 5 rfl; exact Flow.run1 rfl (Flow.r_assign rfl e5) (hK _ _ (Below.refl _ _) rfl)
  intro vs W3 hb3 hT
  have v1 := Flow.eqn (hT 1 (by decide) (by decide))
  simp only [Flow.putsT, v1, Act.put, List.setIfInBounds_toArray, List.set_cons_zero, List.set_cons_succ, List.drop_succ_cons, List.drop_zero, List.take_succ_cons, List.take_zero]
  clear hT v1
  have HB3 := Aside0.mk (below_step HB2.out hb3)
  have HCI_3 := Aside0.mk (CI.below HCI_2.out hb3)
  clear hb3
  go_upto_region 2 with fail
  refine Flow.seqT_head (E := fun u v => Below u.heap.size u v) 2 [(some 6, []), (some 7, []), (some 8, [0, 1])] (fun iQ vQ wQ => match iQ with | 0 => vQ = (.pointer (some ⟨gC, 0, none⟩)) | 1 => vQ = (.agg #[.int .i64 0, .int .i64 0, .int .i64 1]) | _ => True) rfl (by decide) (by kernel_rfl) (Below.refl _ _) (fun _ _ _ h k => h.trans (k.mono h.size)) (fun _ _ _ _ h _ => h) ?_ ?_
  · refine ⟨?_, ?_, trivial⟩
    · intro a w' hx hu hd K hK; have e1 : a.tmps.getD 1 undef = (.pointer (some ⟨gC, 0, none⟩)) := hu 1 rfl; exact Flow.run1 rfl (Flow.r_move rfl e1) (hK _ _ (Below.refl _ _) rfl)
    · intro a w' hx hu hd K hK; exact Flow.run1 rfl (bld36_2 rfl rfl) (hK _ _ (Below.refl _ _) rfl)
  intro vs W4 hb4 hT
  have v0 := Flow.eqn (hT 0 (by decide))
  have v1 := Flow.eqn (hT 1 (by decide))
  simp only [Flow.putsT, v0, v1, Act.put, List.setIfInBounds_toArray, List.set_cons_zero, List.set_cons_succ, List.drop_succ_cons, List.drop_zero, List.take_succ_cons, List.take_zero]
  clear hT v0 v1
  have HB4 := Aside0.mk (below_step HB3.out hb4)
  have HCI_4 := Aside0.mk (CI.below HCI_3.out hb4)
  clear hb4
  refine ecall rfl rfl Try.func18 (by kernel_rfl) rfl (args := #[.pointer (some ⟨gC, 0, none⟩), .agg #[.int .i64 0, .int .i64 0, .int .i64 1], .slice none 0 0]) (by first | (simp only [List.map_toArray, List.map_cons, List.map_nil, Act.eval]; done) | (simp only [List.map_toArray, List.map_cons, List.map_nil, Act.eval]; rfl)) (put_i ⟨0, 0, 1⟩ (by refine ⟨?_, ?_, ?_⟩ <;> (unfold wf64; decide)) none 0 0 [] [(⟨0, 0, 1⟩, [])] _ (fun _ _ => Kd.C_nil _ _) rfl (Nat.le_refl _) (by decide) HCI_4.out (by decide) (by rfl)) ?_
  rintro e W5 ⟨rfl, hci5, hkb5⟩
  refine ⟨_, rfl, ?_⟩
  have HB5 := Aside0.mk (below_kb HB4.out (Nat.le_refl _) hkb5 HGC.out HGM.out)
  have HCI_5 := Aside0.mk hci5
  clear hci5 hkb5
  simp only [Act.put, List.setIfInBounds_toArray, List.set_cons_zero, List.set_cons_succ]
  go_upto_region 3 with fail
  refine Flow.seqT_head (E := fun u v => Below u.heap.size u v) 2 [(some 9, []), (some 10, []), (some 11, [0, 1])] (fun iQ vQ wQ => match iQ with | 0 => vQ = (.pointer (some ⟨gC, 0, none⟩)) | 1 => vQ = (.agg #[.int .i64 0, .int .i64 0, .int .i64 2]) | _ => True) rfl (by decide) (by kernel_rfl) (Below.refl _ _) (fun _ _ _ h k => h.trans (k.mono h.size)) (fun _ _ _ _ h _ => h) ?_ ?_
  · refine ⟨?_, ?_, trivial⟩
    · intro a w' hx hu hd K hK; have e1 : a.tmps.getD 1 undef = (.pointer (some ⟨gC, 0, none⟩)) := hu 1 rfl; exact Flow.run1 rfl (Flow.r_move rfl e1) (hK _ _ (Below.refl _ _) rfl)
    · intro a w' hx hu hd K hK; exact Flow.run1 rfl (bld36_2 rfl rfl) (hK _ _ (Below.refl _ _) rfl)
  intro vs W6 hb6 hT
  have v0 := Flow.eqn (hT 0 (by decide))
  have v1 := Flow.eqn (hT 1 (by decide))
  simp only [Flow.putsT, v0, v1, Act.put, List.setIfInBounds_toArray, List.set_cons_zero, List.set_cons_succ, List.drop_succ_cons, List.drop_zero, List.take_succ_cons, List.take_zero]
  clear hT v0 v1
  have HB6 := Aside0.mk (below_step HB5.out hb6)
  have HCI_6 := Aside0.mk (CI.below HCI_5.out hb6)
  clear hb6
  refine ecall rfl rfl Try.func18 (by kernel_rfl) rfl (args := #[.pointer (some ⟨gC, 0, none⟩), .agg #[.int .i64 0, .int .i64 0, .int .i64 2], .slice none 0 0]) (by first | (simp only [List.map_toArray, List.map_cons, List.map_nil, Act.eval]; done) | (simp only [List.map_toArray, List.map_cons, List.map_nil, Act.eval]; rfl)) (put_i ⟨0, 0, 2⟩ (by refine ⟨?_, ?_, ?_⟩ <;> (unfold wf64; decide)) none 0 0 [] [(⟨0, 0, 2⟩, []), (⟨0, 0, 1⟩, [])] _ (fun _ _ => Kd.C_nil _ _) rfl (Nat.le_refl _) (by decide) HCI_6.out (by decide) (by rfl)) ?_
  rintro e W7 ⟨rfl, hci7, hkb7⟩
  refine ⟨_, rfl, ?_⟩
  have HB7 := Aside0.mk (below_kb HB6.out (Nat.le_refl _) hkb7 HGC.out HGM.out)
  have HCI_7 := Aside0.mk hci7
  clear hci7 hkb7
  simp only [Act.put, List.setIfInBounds_toArray, List.set_cons_zero, List.set_cons_succ]
  go_upto_region 4 with fail
  refine Flow.seqT_head (E := fun u v => Below u.heap.size u v) 2 [(some 13, []), (some 14, []), (some 15, [0, 1]), (some 12, [2]), (some 16, [3]), (some 17, [3]), (some 2, [4, 2, 0, 1, 2, 3, 4]), (some 3, [5, 6, 0, 1, 2, 3, 4, 5, 6])] (fun iQ vQ wQ => match iQ with | 0 => vQ = (.pointer (some ⟨gC, 0, none⟩)) | 1 => vQ = (.agg #[.int .i64 0, .int .i64 0, .int .i64 1]) | _ => True) rfl (by decide) (by kernel_rfl) (Below.refl _ _) (fun _ _ _ h k => h.trans (k.mono h.size)) (fun _ _ _ _ h _ => h) ?_ ?_
  · refine ⟨?_, ?_, trivial⟩
    · intro a w' hx hu hd K hK; have e1 : a.tmps.getD 1 undef = (.pointer (some ⟨gC, 0, none⟩)) := hu 1 rfl; exact Flow.run1 rfl (Flow.r_move rfl e1) (hK _ _ (Below.refl _ _) rfl)
    · intro a w' hx hu hd K hK; exact Flow.run1 rfl (bld36_2 rfl rfl) (hK _ _ (Below.refl _ _) rfl)
  intro vs W8 hb8 hT
  have v0 := Flow.eqn (hT 0 (by decide))
  have v1 := Flow.eqn (hT 1 (by decide))
  simp only [Flow.putsT, v0, v1, Act.put, List.setIfInBounds_toArray, List.set_cons_zero, List.set_cons_succ, List.drop_succ_cons, List.drop_zero, List.take_succ_cons, List.take_zero]
  clear hT v0 v1
  have HB8 := Aside0.mk (below_step HB7.out hb8)
  have HCI_8 := Aside0.mk (CI.below HCI_7.out hb8)
  clear hb8
  refine ecall rfl rfl Try.func19 (by kernel_rfl) rfl (args := #[.pointer (some ⟨gC, 0, none⟩), .agg #[.int .i64 0, .int .i64 0, .int .i64 1]]) (by first | (simp only [List.map_toArray, List.map_cons, List.map_nil, Act.eval]; done) | (simp only [List.map_toArray, List.map_cons, List.map_nil, Act.eval]; rfl)) (get_some_i ⟨0, 0, 1⟩ (by refine ⟨?_, ?_, ?_⟩ <;> (unfold wf64; decide)) [] [(⟨0, 0, 1⟩, []), (⟨0, 0, 2⟩, [])] _ HCI_8.out (by decide) (by rfl) (by rfl)) ?_
  rintro e W9 ⟨vg, rfl, hr9, hci9, hkb9⟩
  refine ⟨_, rfl, ?_⟩
  have HB9 := Aside0.mk (below_kb HB8.out (Nat.le_refl _) hkb9 HGC.out HGM.out)
  have HCI_9 := Aside0.mk hci9
  clear hr9 hci9 hkb9
  simp only [Act.put, List.setIfInBounds_toArray, List.set_cons_zero, List.set_cons_succ]
  refine Flow.seqL (E := fun u v => Below u.heap.size u v) 3 5 [(some 13, []), (some 14, []), (some 15, [0, 1]), (some 12, [2]), (some 16, [3]), (some 17, [3]), (some 2, [4, 2, 0, 1, 2, 3, 4]), (some 3, [5, 6, 0, 1, 2, 3, 4, 5, 6])] (fun iQ vQ wQ => match iQ with | 3 => vQ = (.tuple #[vg, .bool true]) | 4 => vQ = vg | 5 => vQ = (.bool true) | 6 => vQ = vg | 7 => vQ = (.bool true) | _ => True) rfl (by decide) (by kernel_rfl) (Below.refl _ _) (fun _ _ _ h k => h.trans (k.mono h.size)) (fun _ _ _ _ h _ => h) ?_ ?_
  · refine ⟨?_, ?_, ?_, ?_, ?_, trivial⟩
    · intro a w' hx hu hd K hK; have e15 : a.tmps.getD 15 undef = (.tuple #[vg, .bool true]) := hu 15 rfl; exact Flow.run1 rfl (Flow.r_move rfl e15) (hK _ _ (Below.refl _ _) rfl)
    · intro a w' hx hu hd K hK; have e12 := Flow.got (hd 3 rfl) 12 rfl; exact Flow.run1 rfl (extr rfl e12 rfl) (hK _ _ (Below.refl _ _) rfl)
    · intro a w' hx hu hd K hK; have e12 := Flow.got (hd 3 rfl) 12 rfl; exact Flow.run1 rfl (extr rfl e12 rfl) (hK _ _ (Below.refl _ _) rfl)
    · intro a w' hx hu hd K hK; have e16 := Flow.got (hd 4 rfl) 16 rfl; exact Flow.run1 rfl (Flow.r_assign rfl e16) (hK _ _ (Below.refl _ _) rfl)
    · intro a w' hx hu hd K hK; have e17 := Flow.got (hd 5 rfl) 17 rfl; exact Flow.run1 rfl (Flow.r_assign rfl e17) (hK _ _ (Below.refl _ _) rfl)
  intro vs W10 hb10 hT
  have v3 := Flow.eqn (hT 3 (by decide) (by decide))
  have v4 := Flow.eqn (hT 4 (by decide) (by decide))
  have v5 := Flow.eqn (hT 5 (by decide) (by decide))
  have v6 := Flow.eqn (hT 6 (by decide) (by decide))
  have v7 := Flow.eqn (hT 7 (by decide) (by decide))
  simp only [Flow.putsT, v3, v4, v5, v6, v7, Act.put, List.setIfInBounds_toArray, List.set_cons_zero, List.set_cons_succ, List.drop_succ_cons, List.drop_zero, List.take_succ_cons, List.take_zero]
  clear hT v3 v4 v5 v6 v7
  have HB10 := Aside0.mk (below_step HB9.out hb10)
  have HCI_10 := Aside0.mk (CI.below HCI_9.out hb10)
  clear hb10
  go_upto_region 5 with fail
  refine Flow.seqT_head (E := fun u v => Below u.heap.size u v) 2 [(some 18, []), (some 19, []), (some 20, [0, 1])] (fun iQ vQ wQ => match iQ with | 0 => vQ = (.pointer (some ⟨gC, 0, none⟩)) | 1 => vQ = (.agg #[.int .i64 0, .int .i64 0, .int .i64 3]) | _ => True) rfl (by decide) (by kernel_rfl) (Below.refl _ _) (fun _ _ _ h k => h.trans (k.mono h.size)) (fun _ _ _ _ h _ => h) ?_ ?_
  · refine ⟨?_, ?_, trivial⟩
    · intro a w' hx hu hd K hK; have e1 : a.tmps.getD 1 undef = (.pointer (some ⟨gC, 0, none⟩)) := hu 1 rfl; exact Flow.run1 rfl (Flow.r_move rfl e1) (hK _ _ (Below.refl _ _) rfl)
    · intro a w' hx hu hd K hK; exact Flow.run1 rfl (bld36_2 rfl rfl) (hK _ _ (Below.refl _ _) rfl)
  intro vs W11 hb11 hT
  have v0 := Flow.eqn (hT 0 (by decide))
  have v1 := Flow.eqn (hT 1 (by decide))
  simp only [Flow.putsT, v0, v1, Act.put, List.setIfInBounds_toArray, List.set_cons_zero, List.set_cons_succ, List.drop_succ_cons, List.drop_zero, List.take_succ_cons, List.take_zero]
  clear hT v0 v1
  have HB11 := Aside0.mk (below_step HB10.out hb11)
  have HCI_11 := Aside0.mk (CI.below HCI_10.out hb11)
  clear hb11
  refine ecall rfl rfl Try.func18 (by kernel_rfl) rfl (args := #[.pointer (some ⟨gC, 0, none⟩), .agg #[.int .i64 0, .int .i64 0, .int .i64 3], .slice none 0 0]) (by first | (simp only [List.map_toArray, List.map_cons, List.map_nil, Act.eval]; done) | (simp only [List.map_toArray, List.map_cons, List.map_nil, Act.eval]; rfl)) (put_i ⟨0, 0, 3⟩ (by refine ⟨?_, ?_, ?_⟩ <;> (unfold wf64; decide)) none 0 0 [] [(⟨0, 0, 3⟩, []), (⟨0, 0, 1⟩, [])] _ (fun _ _ => Kd.C_nil _ _) rfl (Nat.le_refl _) (by decide) HCI_11.out (by decide) (by rfl)) ?_
  rintro e W12 ⟨rfl, hci12, hkb12⟩
  refine ⟨_, rfl, ?_⟩
  have HB12 := Aside0.mk (below_kb HB11.out (Nat.le_refl _) hkb12 HGC.out HGM.out)
  have HCI_12 := Aside0.mk hci12
  clear hci12 hkb12
  simp only [Act.put, List.setIfInBounds_toArray, List.set_cons_zero, List.set_cons_succ]
  go_upto_region 6 with fail
  refine Flow.seqT_head (E := fun u v => Below u.heap.size u v) 1 [(some 21, []), (some 22, [0]), (some 4, [1, 1, 0, 1])] (fun iQ vQ wQ => match iQ with | 0 => vQ = (.pointer (some ⟨gC, 0, none⟩)) | _ => True) rfl (by decide) (by kernel_rfl) (Below.refl _ _) (fun _ _ _ h k => h.trans (k.mono h.size)) (fun _ _ _ _ h _ => h) ?_ ?_
  · refine ⟨?_, trivial⟩
    · intro a w' hx hu hd K hK; have e1 : a.tmps.getD 1 undef = (.pointer (some ⟨gC, 0, none⟩)) := hu 1 rfl; exact Flow.run1 rfl (Flow.r_move rfl e1) (hK _ _ (Below.refl _ _) rfl)
  intro vs W13 hb13 hT
  have v0 := Flow.eqn (hT 0 (by decide))
  simp only [Flow.putsT, v0, Act.put, List.setIfInBounds_toArray, List.set_cons_zero, List.set_cons_succ, List.drop_succ_cons, List.drop_zero, List.take_succ_cons, List.take_zero]
  clear hT v0
  have HB13 := Aside0.mk (below_step HB12.out hb13)
  have HCI_13 := Aside0.mk (CI.below HCI_12.out hb13)
  clear hb13
  refine ecall rfl rfl Try.func27 (by kernel_rfl) rfl (args := #[.pointer (some ⟨gC, 0, none⟩)]) (by first | (simp only [List.map_toArray, List.map_cons, List.map_nil, Act.eval]; done) | (simp only [List.map_toArray, List.map_cons, List.map_nil, Act.eval]; rfl)) (keys_i _ HCI_13.out (by decide)) ?_
  rintro e W14 ⟨vk, rfl, hkr, hb14⟩
  refine ⟨_, rfl, ?_⟩
  obtain ⟨Ak, ck, rfl⟩ := hkr.slice
  obtain ⟨gk, cur, hAk, hkk, hkp⟩ := hkr.open_ (by decide)
  subst hAk
  obtain ⟨ad, had⟩ : ∃ q, (⟨gk, 0, none⟩ : Addr) = q := ⟨_, rfl⟩
  have HL0 := hkp.lies hkk (j := 0) (k := ⟨0, 0, 3⟩) rfl
  have HL1 := hkp.lies hkk (j := 1) (k := ⟨0, 0, 1⟩) rfl
  rw [had] at HL0 HL1 ⊢
  have HL0 := Aside0.mk HL0
  have HL1 := Aside0.mk HL1
  clear hkr hkk hkp had
  have HCI_14 := Aside0.mk (CI.below HCI_13.out hb14)
  have HB14 := Aside0.mk (below_step HB13.out hb14)
  clear hb14
  simp only [Act.put, List.setIfInBounds_toArray, List.set_cons_zero, List.set_cons_succ]
  refine Flow.seqL (E := fun u v => Below u.heap.size u v) 2 1 [(some 21, []), (some 22, [0]), (some 4, [1, 1, 0, 1])] (fun iQ vQ wQ => match iQ with | 2 => vQ = (.slice (some ad) 2 ck) | _ => True) rfl (by decide) (by kernel_rfl) (Below.refl _ _) (fun _ _ _ h k => h.trans (k.mono h.size)) (fun _ _ _ _ h _ => h) ?_ ?_
  · refine ⟨?_, trivial⟩
    · intro a w' hx hu hd K hK; have e22 : a.tmps.getD 22 undef = (.slice (some ad) 2 ck) := hu 22 rfl; exact Flow.run1 rfl (Flow.r_assign rfl e22) (hK _ _ (Below.refl _ _) rfl)
  intro vs W15 hb15 hT
  have v2 := Flow.eqn (hT 2 (by decide) (by decide))
  simp only [Flow.putsT, v2, Act.put, List.setIfInBounds_toArray, List.set_cons_zero, List.set_cons_succ, List.drop_succ_cons, List.drop_zero, List.take_succ_cons, List.take_zero]
  clear hT v2
  have HB15 := Aside0.mk (below_step HB14.out hb15)
  have HCI_15 := Aside0.mk (CI.below HCI_14.out hb15)
  have HL0_15 := Aside0.mk (lies_below HL0.out hb15)
  have HL1_15 := Aside0.mk (lies_below HL1.out hb15)
  clear hb15
  go_upto_region 7 with fail
  refine Flow.seqT (E := fun u v => Below u.heap.size u v) [(some 23, []), (some 24, [0]), (some 25, [1]), (some 26, [2, 1]), (some 27, [3, 1]), (some 28, [1, 4]), (some 29, [5, 1]), (some 30, [6]), (some 31, [7, 6]), (some 32, [8, 6]), (some 33, [9, 6]), (some 34, [10, 6]), (some 35, [6, 11]), (some 36, [12, 6]), (some 37, [13]), (some 38, [14, 13]), (some 39, [15, 13]), (some 40, [16, 13]), (some 41, [17, 13]), (some 42, [13, 18]), (some 0, [19, 13, 0, 1, 2, 3, 4, 5, 6, 7, 8, 9, 10, 11, 12, 13, 14, 15, 16, 17, 18, 19])] (fun iQ vQ wQ => match iQ with | 0 => vQ = (.bool true) | 1 => vQ = (.bool true) | 2 => vQ = (.slice (some ad) 2 ck) | 3 => vQ = (.int .i64 2) | 4 => vQ = (.bool true) | 5 => vQ = (.bool true) | 6 => vQ = (.bool true) | 7 => vQ = (.slice (some ad) 2 ck) | 8 => vQ = (.pointer (some (ad.add (0 * 3)))) | 9 => vQ = (.pointer (some ((ad.add (0 * 3)).add 2))) | 10 => vQ = (.int .i64 3) | 11 => vQ = (.bool true) | 12 => vQ = (.bool true) | 13 => vQ = (.bool true) | 14 => vQ = (.slice (some ad) 2 ck) | 15 => vQ = (.pointer (some (ad.add (1 * 3)))) | 16 => vQ = (.pointer (some ((ad.add (1 * 3)).add 2))) | 17 => vQ = (.int .i64 1) | 18 => vQ = (.bool true) | 19 => vQ = (.bool true) | 20 => vQ = (.bool true) | _ => True) rfl (by kernel_rfl) (Below.refl _ _) (fun _ _ _ h k => h.trans (k.mono h.size)) (fun _ _ _ _ h _ => h) ?_ ?_
  · refine ⟨?_, ?_, ?_, ?_, ?_, ?_, ?_, ?_, ?_, ?_, ?_, ?_, ?_, ?_, ?_, ?_, ?_, ?_, ?_, ?_, ?_, trivial⟩
    · intro a w' hx hu hd K hK; have e3 : a.tmps.getD 3 undef = (.bool true) := hu 3 rfl; exact Flow.run1 rfl (Flow.r_move rfl e3) (hK _ _ (Below.refl _ _) rfl)
    · intro a w' hx hu hd K hK; have e23 := Flow.got (hd 0 rfl) 23 rfl; exact Flow.run1 rfl (Flow.r_move rfl e23) (hK _ _ (Below.refl _ _) rfl)
    · intro a w' hx hu hd K hK; have e4 : a.tmps.getD 4 undef = (.slice (some ad) 2 ck) := hu 4 rfl; have e24 := Flow.got (hd 1 rfl) 24 rfl; exact Flow.run1 (Flow.want_of (k := 24) rfl e24) (Flow.r_move rfl e4) (hK _ _ (Below.refl _ _) rfl)
    · intro a w' hx hu hd K hK; have e25 := Flow.got (hd 2 rfl) 25 rfl; have e24 := Flow.got (hd 1 rfl) 24 rfl; exact Flow.run1 (Flow.want_of (k := 24) rfl e24) (lenL Try.underlying53 rfl e25) (hK _ _ (Below.refl _ _) rfl)
    · intro a w' hx hu hd K hK; have e26 := Flow.got (hd 3 rfl) 26 rfl; have e24 := Flow.got (hd 1 rfl) 24 rfl; exact Flow.run1 (Flow.want_of (k := 24) rfl e24) (yes (eql rfl e26 rfl) (beq_iff_eq.2 rfl)) (hK _ _ (Below.refl _ _) rfl)
    · intro a w' hx hu hd K hK; have e24 := Flow.got (hd 1 rfl) 24 rfl; have e27 := Flow.got (hd 4 rfl) 27 rfl; exact Flow.run1 rfl (Flow.r_pick rfl e24 e27) (hK _ _ (Below.refl _ _) rfl)
    · intro a w' hx hu hd K hK; have e28 := Flow.got (hd 5 rfl) 28 rfl; exact Flow.run1 rfl (Flow.r_move rfl e28) (hK _ _ (Below.refl _ _) rfl)
    · intro a w' hx hu hd K hK; have e4 : a.tmps.getD 4 undef = (.slice (some ad) 2 ck) := hu 4 rfl; have e29 := Flow.got (hd 6 rfl) 29 rfl; exact Flow.run1 (Flow.want_of (k := 29) rfl e29) (Flow.r_move rfl e4) (hK _ _ (Below.refl _ _) rfl)
    · intro a w' hx hu hd K hK; have e30 := Flow.got (hd 7 rfl) 30 rfl; have e29 := Flow.got (hd 6 rfl) 29 rfl; exact Flow.run1 (Flow.want_of (k := 29) rfl e29) (ix (i := 0) Try.underlying53 size36 rfl e30 rfl (by decide : 0 < 2)) (hK _ _ (Below.refl _ _) rfl)
    · intro a w' hx hu hd K hK; have e31 := Flow.got (hd 8 rfl) 31 rfl; have e29 := Flow.got (hd 6 rfl) 29 rfl; exact Flow.run1 (Flow.want_of (k := 29) rfl e29) (fa rfl e31 (fad36_2 _ _)) (hK _ _ (Below.refl _ _) rfl)
    · intro a w' hx hu hd K hK; have e32 := Flow.got (hd 9 rfl) 32 rfl; have e29 := Flow.got (hd 6 rfl) 29 rfl; exact Flow.run1 (Flow.want_of (k := 29) rfl e29) (ld rfl e32 (lies_below HL0_15.out hx 2 _ rfl) Try.underlying3 rfl) (hK _ _ (Below.refl _ _) rfl)
    · intro a w' hx hu hd K hK; have e33 := Flow.got (hd 10 rfl) 33 rfl; have e29 := Flow.got (hd 6 rfl) 29 rfl; exact Flow.run1 (Flow.want_of (k := 29) rfl e29) (yes (eql rfl e33 rfl) (beq_iff_eq.2 rfl)) (hK _ _ (Below.refl _ _) rfl)
    · intro a w' hx hu hd K hK; have e29 := Flow.got (hd 6 rfl) 29 rfl; have e34 := Flow.got (hd 11 rfl) 34 rfl; exact Flow.run1 rfl (Flow.r_pick rfl e29 e34) (hK _ _ (Below.refl _ _) rfl)
    · intro a w' hx hu hd K hK; have e35 := Flow.got (hd 12 rfl) 35 rfl; exact Flow.run1 rfl (Flow.r_move rfl e35) (hK _ _ (Below.refl _ _) rfl)
    · intro a w' hx hu hd K hK; have e4 : a.tmps.getD 4 undef = (.slice (some ad) 2 ck) := hu 4 rfl; have e36 := Flow.got (hd 13 rfl) 36 rfl; exact Flow.run1 (Flow.want_of (k := 36) rfl e36) (Flow.r_move rfl e4) (hK _ _ (Below.refl _ _) rfl)
    · intro a w' hx hu hd K hK; have e37 := Flow.got (hd 14 rfl) 37 rfl; have e36 := Flow.got (hd 13 rfl) 36 rfl; exact Flow.run1 (Flow.want_of (k := 36) rfl e36) (ix (i := 1) Try.underlying53 size36 rfl e37 rfl (by decide : 1 < 2)) (hK _ _ (Below.refl _ _) rfl)
    · intro a w' hx hu hd K hK; have e38 := Flow.got (hd 15 rfl) 38 rfl; have e36 := Flow.got (hd 13 rfl) 36 rfl; exact Flow.run1 (Flow.want_of (k := 36) rfl e36) (fa rfl e38 (fad36_2 _ _)) (hK _ _ (Below.refl _ _) rfl)
    · intro a w' hx hu hd K hK; have e39 := Flow.got (hd 16 rfl) 39 rfl; have e36 := Flow.got (hd 13 rfl) 36 rfl; exact Flow.run1 (Flow.want_of (k := 36) rfl e36) (ld rfl e39 (lies_below HL1_15.out hx 2 _ rfl) Try.underlying3 rfl) (hK _ _ (Below.refl _ _) rfl)
    · intro a w' hx hu hd K hK; have e40 := Flow.got (hd 17 rfl) 40 rfl; have e36 := Flow.got (hd 13 rfl) 36 rfl; exact Flow.run1 (Flow.want_of (k := 36) rfl e36) (yes (eql rfl e40 rfl) (beq_iff_eq.2 rfl)) (hK _ _ (Below.refl _ _) rfl)
    · intro a w' hx hu hd K hK; have e36 := Flow.got (hd 13 rfl) 36 rfl; have e41 := Flow.got (hd 18 rfl) 41 rfl; exact Flow.run1 rfl (Flow.r_pick rfl e36 e41) (hK _ _ (Below.refl _ _) rfl)
    · intro a w' hx hu hd K hK; have e42 := Flow.got (hd 19 rfl) 42 rfl; exact Flow.run1 rfl (Flow.r_assign rfl e42) (hK _ _ (Below.refl _ _) rfl)
  intro vs W16 hb16 hT
  have v0 := Flow.eqn (hT 0 (by decide))
  have v1 := Flow.eqn (hT 1 (by decide))
  have v2 := Flow.eqn (hT 2 (by decide))
  have v3 := Flow.eqn (hT 3 (by decide))
  have v4 := Flow.eqn (hT 4 (by decide))
  have v5 := Flow.eqn (hT 5 (by decide))
  have v6 := Flow.eqn (hT 6 (by decide))
  have v7 := Flow.eqn (hT 7 (by decide))
  have v8 := Flow.eqn (hT 8 (by decide))
  have v9 := Flow.eqn (hT 9 (by decide))
  have v10 := Flow.eqn (hT 10 (by decide))
  have v11 := Flow.eqn (hT 11 (by decide))
  have v12 := Flow.eqn (hT 12 (by decide))
  have v13 := Flow.eqn (hT 13 (by decide))
  have v14 := Flow.eqn (hT 14 (by decide))
  have v15 := Flow.eqn (hT 15 (by decide))
  have v16 := Flow.eqn (hT 16 (by decide))
  have v17 := Flow.eqn (hT 17 (by decide))
  have v18 := Flow.eqn (hT 18 (by decide))
  have v19 := Flow.eqn (hT 19 (by decide))
  have v20 := Flow.eqn (hT 20 (by decide))
  simp only [Flow.putsT, v0, v1, v2, v3, v4, v5, v6, v7, v8, v9, v10, v11, v12, v13, v14, v15, v16, v17, v18, v19, v20, Act.put, List.setIfInBounds_toArray, List.set_cons_zero, List.set_cons_succ]
  clear hT v0 v1 v2 v3 v4 v5 v6 v7 v8 v9 v10 v11 v12 v13 v14 v15 v16 v17 v18 v19 v20
  have HB16 := Aside0.mk (below_step HB15.out hb16)
  have HCI_16 := Aside0.mk (CI.below HCI_15.out hb16)
  have HL0_16 := Aside0.mk (lies_below HL0_15.out hb16)
  have HL1_16 := Aside0.mk (lies_below HL1_15.out hb16)
  clear hb16
  go_wp2_with fail
  exact bodyPost_ret (results_tmp Try.results16 _ _ _) rfl ⟨rfl, HB16.out⟩
end Go.Proofs.Ytlhmpmmblnbmbaa.Cac
