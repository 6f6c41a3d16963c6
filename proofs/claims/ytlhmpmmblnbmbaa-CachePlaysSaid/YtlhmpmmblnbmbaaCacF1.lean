/- The cache: its clock, a clone of bytes, how many, its counts, all gone. -/
import Derived.Test.YtlhmpmmblnbmbaaCacW
set_option linter.unusedVariables false
set_option linter.unusedSimpArgs false
namespace Go.Proofs.Ytlhmpmmblnbmbaa.Cac
open Go Go.RowKit Go.Proofs.Ytlhmpmmblnbmbaa.PCachePlays Go.Proofs.YtlhmpmmblnbmbaaW.PrintWords Go.Proofs.YtlhmpmmblnbmbaaW.PrintLast Go.Proofs.YtlhmpmmblnbmbaaW.PrintMore Go.Proofs.Ytlhmpmmblnbmbaa.FlowU Go.Proofs.Ytlhmpmmblnbmbaa.Ev Go.Proofs.Ytlhmpmmblnbmbaa.Ke Go.Proofs.Ytlhmpmmblnbmbaa.Cells
theorem fa83_0 (g o : Nat) (w : World) : (Instr.fieldAt 83 (.pointer (some ⟨g, o, none⟩)) 0).run Try.prog w = .ok (.pointer (some ⟨g, o, none⟩)) w := by
  have hu := Try.underlying83
  go_simp
theorem fad83_0 (ad : Addr) (w : World) : (Instr.fieldAt 83 (.pointer (some ad)) 0).run Try.prog w = .ok (.pointer (some (ad.add 0))) w := by
  have hu := Try.underlying83
  go_simp
theorem fa83_2 (g o : Nat) (w : World) : (Instr.fieldAt 83 (.pointer (some ⟨g, o, none⟩)) 2).run Try.prog w = .ok (.pointer (some ⟨g, o + 2, none⟩)) w := by
  have hu := Try.underlying83
  go_simp
theorem fad83_2 (ad : Addr) (w : World) : (Instr.fieldAt 83 (.pointer (some ad)) 2).run Try.prog w = .ok (.pointer (some (ad.add 2))) w := by
  have hu := Try.underlying83
  go_simp
theorem fa83_3 (g o : Nat) (w : World) : (Instr.fieldAt 83 (.pointer (some ⟨g, o, none⟩)) 3).run Try.prog w = .ok (.pointer (some ⟨g, o + 3, none⟩)) w := by
  have hu := Try.underlying83
  go_simp
theorem fad83_3 (ad : Addr) (w : World) : (Instr.fieldAt 83 (.pointer (some ad)) 3).run Try.prog w = .ok (.pointer (some (ad.add 3))) w := by
  have hu := Try.underlying83
  go_simp
theorem fa83_4 (g o : Nat) (w : World) : (Instr.fieldAt 83 (.pointer (some ⟨g, o, none⟩)) 4).run Try.prog w = .ok (.pointer (some ⟨g, o + 4, none⟩)) w := by
  have hu := Try.underlying83
  go_simp
theorem fad83_4 (ad : Addr) (w : World) : (Instr.fieldAt 83 (.pointer (some ad)) 4).run Try.prog w = .ok (.pointer (some (ad.add 4))) w := by
  have hu := Try.underlying83
  go_simp
theorem row0_27 {o : Oper} {a : Act} {w : World}   (ho : o.op = .buildSlice 27 0 #[])  : (execOp a.eval o).run Try.prog w = .ok (.value (.slice (some ⟨w.heap.size, 0, none⟩) 0 0)) (w.alloc (.cells #[] 5 (0, 0))) := by
  have hu27 := Try.underlying27
  have hu5 := Try.underlying5
  unfold execOp
  simp only [ho, List.map_toArray, List.map_cons, List.map_nil]
  clear ho
  first
  | (go_simp; done)
  | (go_simp; rfl)
theorem size3 : (Try.prog.info? 3).map (·.size) = some 1 := by kernel_rfl
theorem slnil {o : Oper} {a : Act} {w : World} {x y : Operand} {n c : Nat} (ho : o.op = .binOp .eql 27 x y 27) (hx : a.eval x = .slice none n c) (hy : a.eval y = .slice none 0 0) : (execOp a.eval o).run Try.prog w = .ok (.value (.bool true)) w := by
  have hr := Lib.run_eql_slice_nil w 27 5 none n c 0 0 Try.underlying27
  unfold execOp
  simp only [ho, hx, hy]
  clear ho hx hy
  generalize hq : binOp .eql 27 _ _ = q at hr
  go_simp
theorem slsome {o : Oper} {a : Act} {w : World} {x y : Operand} {ad : Addr} {n c : Nat} (ho : o.op = .binOp .eql 27 x y 27) (hx : a.eval x = .slice (some ad) n c) (hy : a.eval y = .slice none 0 0) : (execOp a.eval o).run Try.prog w = .ok (.value (.bool false)) w := by
  have hr := Lib.run_eql_slice_nil w 27 5 (some ad) n c 0 0 Try.underlying27
  unfold execOp
  simp only [ho, hx, hy]
  clear ho hx hy
  generalize hq : binOp .eql 27 _ _ = q at hr
  go_simp
theorem info5 : (Try.prog.info? 5).map (fun i => (i.zero, i.size, i.bytes)) = some (some (.int .u8 0), 1, 1) := by kernel_rfl
set_option maxHeartbeats 4000000 in
set_option maxRecDepth 100000 in
theorem tick_c {gC : Nat} (x0 : Value) (room clock hits misses : Int) (w : World) (hC : w.heap[gC]? = some (.cells #[x0, .int .i64 room, .int .i64 clock, .int .i64 hits, .int .i64 misses] 83 (0, 0))) (h0 : 0 ≤ clock) (h1 : clock ≤ 4611686018427387904) : Calls Try.prog 39 #[.pointer (some ⟨gC, 0, none⟩)] w fun e w' => e = .returned (.int .i64 (clock + 1)) ∧ w'.heap[gC]? = some (.cells #[x0, .int .i64 room, .int .i64 (clock + 1), .int .i64 hits, .int .i64 misses] 83 (0, 0)) ∧ KB (fun k => k = gC) w w' := by
  have KC := Aside0.mk hC
  clear hC
  obtain ⟨c1, HC1⟩ : ∃ q, Aside0 (clock + 1 = q) := ⟨_, ⟨rfl⟩⟩
  have hc1 := HC1.out
  rw [hc1]
  clear hc1
  have HCB : Aside0 (-9223372036854775808 ≤ c1 ∧ c1 ≤ 9223372036854775807) := ⟨by have := HC1.out; omega⟩
  go_enter Try.func39, Try.ntmps39
  go_upto_region 0 with fail
  refine Flow.seqT (E := fun u v => Below u.heap.size u v) [(some 2, [])] (fun iQ vQ wQ => match iQ with | 0 => vQ = (.int .i64 0) | _ => True) rfl (by kernel_rfl) (Below.refl _ _) (fun _ _ _ h k => h.trans (k.mono h.size)) (fun _ _ _ _ h _ => h) ?_ ?_
  · refine ⟨?_, trivial⟩
    · intro a w' hx hu hd K hK; exact Flow.run1 rfl (Flow.r_assign rfl rfl) (hK _ _ (Below.refl _ _) rfl)
  intro vs W1 hb1 hT
  have v0 := Flow.eqn (hT 0 (by decide))
  simp only [Flow.putsT, v0, Act.put, List.setIfInBounds_toArray, List.set_cons_zero, List.set_cons_succ]
  clear hT v0
  have HB1 := Aside0.mk (KB.of_below (S := fun k => k = gC) hb1)
  have KC_1 := Aside0.mk (blk_below KC.out hb1)
  clear hb1
  go_upto_region 1 with fail
  refine Flow.seqT_head (E := fun u v => Below u.heap.size u v) 7 [(some 3, []), (some 4, [0]), (some 5, [1]), (some 6, [2]), (some 7, [3]), (some 8, [0, 0, 1, 2, 3, 4]), (some 9, [5, 0, 1, 2, 3, 4]), (none, [6, 4, 0, 1, 2, 3, 4])] (fun iQ vQ wQ => match iQ with | 0 => vQ = (.pointer (some ⟨gC, 0, none⟩)) | 1 => vQ = (.pointer (some ⟨gC, 0, none⟩)) | 2 => vQ = (.pointer (some ⟨gC, 2, none⟩)) | 3 => vQ = (.int .i64 clock) | 4 => vQ = (.int .i64 c1) | 5 => vQ = (.pointer (some ⟨gC, 0, none⟩)) | 6 => vQ = (.pointer (some ⟨gC, 2, none⟩)) | _ => True) rfl (by decide) (by kernel_rfl) (Below.refl _ _) (fun _ _ _ h k => h.trans (k.mono h.size)) (fun _ _ _ _ h _ => h) ?_ ?_
  · refine ⟨?_, ?_, ?_, ?_, ?_, ?_, ?_, trivial⟩
    · intro a w' hx hu hd K hK; have e0 : a.tmps.getD 0 undef = (.pointer (some ⟨gC, 0, none⟩)) := hu 0 rfl; exact Flow.run1 rfl (Flow.r_move rfl e0) (hK _ _ (Below.refl _ _) rfl)
    · intro a w' hx hu hd K hK; have e3 := Flow.got (hd 0 rfl) 3 rfl; exact Flow.run1 rfl (nilck rfl e3) (hK _ _ (Below.refl _ _) rfl)
    · intro a w' hx hu hd K hK; have e4 := Flow.got (hd 1 rfl) 4 rfl; exact Flow.run1 rfl (fa rfl e4 (fa83_2 _ _ _)) (hK _ _ (Below.refl _ _) rfl)
    · intro a w' hx hu hd K hK; have e5 := Flow.got (hd 2 rfl) 5 rfl; exact Flow.run1 rfl (ld rfl e5 ((blk_cell (blk_below KC_1.out hx) 2).trans rfl) Try.underlying3 rfl) (hK _ _ (Below.refl _ _) rfl)
    · intro a w' hx hu hd K hK; have e6 := Flow.got (hd 3 rfl) 6 rfl; exact Flow.run1 rfl (addk rfl e6 rfl HC1.out HCB.out.1 HCB.out.2) (hK _ _ (Below.refl _ _) rfl)
    · intro a w' hx hu hd K hK; have e3 := Flow.got (hd 0 rfl) 3 rfl; exact Flow.run1 rfl (nilck rfl e3) (hK _ _ (Below.refl _ _) rfl)
    · intro a w' hx hu hd K hK; have e8 := Flow.got (hd 5 rfl) 8 rfl; exact Flow.run1 rfl (fa rfl e8 (fa83_2 _ _ _)) (hK _ _ (Below.refl _ _) rfl)
  intro vs W2 hb2 hT
  have v0 := Flow.eqn (hT 0 (by decide))
  have v1 := Flow.eqn (hT 1 (by decide))
  have v2 := Flow.eqn (hT 2 (by decide))
  have v3 := Flow.eqn (hT 3 (by decide))
  have v4 := Flow.eqn (hT 4 (by decide))
  have v5 := Flow.eqn (hT 5 (by decide))
  have v6 := Flow.eqn (hT 6 (by decide))
  simp only [Flow.putsT, v0, v1, v2, v3, v4, v5, v6, Act.put, List.setIfInBounds_toArray, List.set_cons_zero, List.set_cons_succ, List.drop_succ_cons, List.drop_zero, List.take_succ_cons, List.take_zero]
  clear hT v0 v1 v2 v3 v4 v5 v6
  have HB2 := Aside0.mk (KB.step HB1.out hb2)
  have KC_1_2 := Aside0.mk (blk_below KC_1.out hb2)
  clear hb2
  refine put_event rfl rfl 3 _ _ rfl gC (2) (.int .i64 c1) #[x0, .int .i64 room, .int .i64 clock, .int .i64 hits, .int .i64 misses] #[x0, .int .i64 room, .int .i64 c1, .int .i64 hits, .int .i64 misses] rfl rfl rfl size3 KC_1_2.out (show 2 < 5 by decide) rfl ?_
  intro W3 hk3 hf3 hb3
  have HB3 := Aside0.mk (KB.store HB2.out hf3 (hb3 0 (Nat.zero_le _)) (.inl rfl))
  have KgC_3 := Aside0.mk hk3
  clear hk3 hf3 hb3
  go_upto_region 2 with fail
  refine Flow.seqT (E := fun u v => Below u.heap.size u v) [(some 10, []), (some 11, [0]), (some 12, [1]), (some 13, [2]), (some 2, [3, 0, 1, 2, 3])] (fun iQ vQ wQ => match iQ with | 0 => vQ = (.pointer (some ⟨gC, 0, none⟩)) | 1 => vQ = (.pointer (some ⟨gC, 0, none⟩)) | 2 => vQ = (.pointer (some ⟨gC, 2, none⟩)) | 3 => vQ = (.int .i64 c1) | 4 => vQ = (.int .i64 c1) | _ => True) rfl (by kernel_rfl) (Below.refl _ _) (fun _ _ _ h k => h.trans (k.mono h.size)) (fun _ _ _ _ h _ => h) ?_ ?_
  · refine ⟨?_, ?_, ?_, ?_, ?_, trivial⟩
    · intro a w' hx hu hd K hK; have e0 : a.tmps.getD 0 undef = (.pointer (some ⟨gC, 0, none⟩)) := hu 0 rfl; exact Flow.run1 rfl (Flow.r_move rfl e0) (hK _ _ (Below.refl _ _) rfl)
    · intro a w' hx hu hd K hK; have e10 := Flow.got (hd 0 rfl) 10 rfl; exact Flow.run1 rfl (nilck rfl e10) (hK _ _ (Below.refl _ _) rfl)
    · intro a w' hx hu hd K hK; have e11 := Flow.got (hd 1 rfl) 11 rfl; exact Flow.run1 rfl (fa rfl e11 (fa83_2 _ _ _)) (hK _ _ (Below.refl _ _) rfl)
    · intro a w' hx hu hd K hK; have e12 := Flow.got (hd 2 rfl) 12 rfl; exact Flow.run1 rfl (ld rfl e12 ((blk_cell (blk_below KgC_3.out hx) 2).trans rfl) Try.underlying3 rfl) (hK _ _ (Below.refl _ _) rfl)
    · intro a w' hx hu hd K hK; have e13 := Flow.got (hd 3 rfl) 13 rfl; exact Flow.run1 rfl (Flow.r_assign rfl e13) (hK _ _ (Below.refl _ _) rfl)
  intro vs W4 hb4 hT
  have v0 := Flow.eqn (hT 0 (by decide))
  have v1 := Flow.eqn (hT 1 (by decide))
  have v2 := Flow.eqn (hT 2 (by decide))
  have v3 := Flow.eqn (hT 3 (by decide))
  have v4 := Flow.eqn (hT 4 (by decide))
  simp only [Flow.putsT, v0, v1, v2, v3, v4, Act.put, List.setIfInBounds_toArray, List.set_cons_zero, List.set_cons_succ]
  clear hT v0 v1 v2 v3 v4
  have HB4 := Aside0.mk (KB.step HB3.out hb4)
  have KgC_3_4 := Aside0.mk (blk_below KgC_3.out hb4)
  clear hb4
  go_wp2_with fail
  exact bodyPost_ret (results_tmp Try.results39 _ _ _) rfl ⟨rfl, KgC_3_4.out, HB4.out⟩
set_option maxHeartbeats 4000000 in
set_option maxRecDepth 100000 in
theorem clone_c (A : Option Addr) (n c : Nat) (d : List Int) (w : World) (hC : (Kd.int .u8).C w A n d) (hl : d.length = n) (hn : n ≤ c) (h47 : n ≤ 140737488355328) : Calls Try.prog 38 #[.slice A n c] w fun e w' => ∃ v, e = .returned v ∧ (Kd.int .u8).R 5 w' w.heap.size (fun _ => True) v d ∧ Below w.heap.size w w' := by
  have HC := Aside0.mk hC
  have HL := Aside0.mk hl
  clear hC
  cases A with
  | none =>
    have hd0 : d = [] := by rcases d with _ | ⟨x, r⟩; rfl; exact absurd HC.out (fun h => by obtain ⟨ad, hq, _⟩ := h.2.2 (by rw [← HL.out]; simp); cases hq)
    subst hd0
    obtain rfl : n = 0 := HL.out.symm
    go_enter Try.func38, Try.ntmps38
    go_upto_region 0 with fail
    refine Flow.seqT (E := fun u v => Below u.heap.size u v) [(some 2, [])] (fun iQ vQ wQ => match iQ with | 0 => vQ = (.slice none 0 0) | _ => True) rfl (by kernel_rfl) (Below.refl _ _) (fun _ _ _ h k => h.trans (k.mono h.size)) (fun _ _ _ _ h _ => h) ?_ ?_
    · refine ⟨?_, trivial⟩
      · intro a w' hx hu hd K hK; exact Flow.run1 rfl (Flow.r_assign rfl rfl) (hK _ _ (Below.refl _ _) rfl)
    intro vs W1 hb1 hT
    have v0 := Flow.eqn (hT 0 (by decide))
    simp only [Flow.putsT, v0, Act.put, List.setIfInBounds_toArray, List.set_cons_zero, List.set_cons_succ]
    clear hT v0
    have HB1 := Aside0.mk (hb1)
    clear hb1
    go_upto_region 1 with fail
    refine Flow.seqT (E := fun u v => Below u.heap.size u v) [(some 3, []), (some 4, [0])] (fun iQ vQ wQ => match iQ with | 0 => vQ = (.slice none 0 c) | 1 => vQ = (.bool true) | _ => True) rfl (by kernel_rfl) (Below.refl _ _) (fun _ _ _ h k => h.trans (k.mono h.size)) (fun _ _ _ _ h _ => h) ?_ ?_
    · refine ⟨?_, ?_, trivial⟩
      · intro a w' hx hu hd K hK; have e0 : a.tmps.getD 0 undef = (.slice none 0 c) := hu 0 rfl; exact Flow.run1 rfl (Flow.r_move rfl e0) (hK _ _ (Below.refl _ _) rfl)
      · intro a w' hx hu hd K hK; have e3 := Flow.got (hd 0 rfl) 3 rfl; exact Flow.run1 rfl (slnil rfl e3 rfl) (hK _ _ (Below.refl _ _) rfl)
    intro vs W2 hb2 hT
    have v0 := Flow.eqn (hT 0 (by decide))
    have v1 := Flow.eqn (hT 1 (by decide))
    simp only [Flow.putsT, v0, v1, Act.put, List.setIfInBounds_toArray, List.set_cons_zero, List.set_cons_succ]
    clear hT v0 v1
    have HB2 := Aside0.mk (below_step HB1.out hb2)
    clear hb2
    go_upto_region 2 with fail
    refine Flow.seqT (E := fun u v => Below u.heap.size u v) [(some 2, [])] (fun iQ vQ wQ => match iQ with | 0 => vQ = (.slice none 0 0) | _ => True) rfl (by kernel_rfl) (Below.refl _ _) (fun _ _ _ h k => h.trans (k.mono h.size)) (fun _ _ _ _ h _ => h) ?_ ?_
    · refine ⟨?_, trivial⟩
      · intro a w' hx hu hd K hK; exact Flow.run1 rfl (Flow.r_assign rfl rfl) (hK _ _ (Below.refl _ _) rfl)
    intro vs W3 hb3 hT
    have v0 := Flow.eqn (hT 0 (by decide))
    simp only [Flow.putsT, v0, Act.put, List.setIfInBounds_toArray, List.set_cons_zero, List.set_cons_succ]
    clear hT v0
    have HB3 := Aside0.mk (below_step HB2.out hb3)
    clear hb3
    go_wp2_with fail
    exact bodyPost_ret (results_tmp Try.results38 _ _ _) rfl ⟨_, rfl, Kd.R_nil _ _ _ _ _, HB3.out⟩
  | some ad =>
    go_enter Try.func38, Try.ntmps38
    go_upto_region 0 with fail
    refine Flow.seqT (E := fun u v => Below u.heap.size u v) [(some 2, [])] (fun iQ vQ wQ => match iQ with | 0 => vQ = (.slice none 0 0) | _ => True) rfl (by kernel_rfl) (Below.refl _ _) (fun _ _ _ h k => h.trans (k.mono h.size)) (fun _ _ _ _ h _ => h) ?_ ?_
    · refine ⟨?_, trivial⟩
      · intro a w' hx hu hd K hK; exact Flow.run1 rfl (Flow.r_assign rfl rfl) (hK _ _ (Below.refl _ _) rfl)
    intro vs W1 hb1 hT
    have v0 := Flow.eqn (hT 0 (by decide))
    simp only [Flow.putsT, v0, Act.put, List.setIfInBounds_toArray, List.set_cons_zero, List.set_cons_succ]
    clear hT v0
    have HB1 := Aside0.mk (hb1)
    clear hb1
    go_upto_region 1 with fail
    refine Flow.seqT (E := fun u v => Below u.heap.size u v) [(some 3, []), (some 4, [0])] (fun iQ vQ wQ => match iQ with | 0 => vQ = (.slice (some ad) n c) | 1 => vQ = (.bool false) | _ => True) rfl (by kernel_rfl) (Below.refl _ _) (fun _ _ _ h k => h.trans (k.mono h.size)) (fun _ _ _ _ h _ => h) ?_ ?_
    · refine ⟨?_, ?_, trivial⟩
      · intro a w' hx hu hd K hK; have e0 : a.tmps.getD 0 undef = (.slice (some ad) n c) := hu 0 rfl; exact Flow.run1 rfl (Flow.r_move rfl e0) (hK _ _ (Below.refl _ _) rfl)
      · intro a w' hx hu hd K hK; have e3 := Flow.got (hd 0 rfl) 3 rfl; exact Flow.run1 rfl (slsome rfl e3 rfl) (hK _ _ (Below.refl _ _) rfl)
    intro vs W2 hb2 hT
    have v0 := Flow.eqn (hT 0 (by decide))
    have v1 := Flow.eqn (hT 1 (by decide))
    simp only [Flow.putsT, v0, v1, Act.put, List.setIfInBounds_toArray, List.set_cons_zero, List.set_cons_succ]
    clear hT v0 v1
    have HB2 := Aside0.mk (below_step HB1.out hb2)
    clear hb2
    go_upto_region 3 with fail
    refine Flow.seqT_head (E := fun u v => Below u.heap.size u v) 1 [(some 5, []), (some 6, []), (some 7, [0, 1]), (some 2, [2, 2, 0, 1, 2])] (fun iQ vQ wQ => match iQ with | 0 => SliceAt #[] 5 0 w.heap.size vQ wQ | _ => True) rfl (by decide) (by kernel_rfl) (Below.refl _ _) (fun _ _ _ h k => h.trans (k.mono h.size)) (fun iQ vQ w1Q w2Q hQ hEQ => match iQ, hQ with | 0, hQ => slice_below hQ hEQ | _ + 1, _ => trivial) ?_ ?_
    · refine ⟨?_, trivial⟩
      · intro a w' hx hu hd K hK; exact Flow.run1 rfl (row0_27 rfl ) (hK _ _ (below_alloc (Below.refl _ _) _) (slice_new (Nat.le_trans (HB2.out).size (hx : Below _ _ _).size)))
    intro vs W3 hb3 hT
    obtain ⟨g3_0, v0, hge0, hk0⟩ : SliceAt _ _ _ _ _ _ := hT 0 (by decide)
    have Kg3_0 := Aside0.mk hk0
    have Gg3_0 := Aside0.mk hge0
    clear hk0 hge0
    simp only [Flow.putsT, v0, Act.put, List.setIfInBounds_toArray, List.set_cons_zero, List.set_cons_succ, List.drop_succ_cons, List.drop_zero, List.take_succ_cons, List.take_zero]
    clear hT v0
    have HB3 := Aside0.mk (below_step HB2.out hb3)
    clear hb3
    refine Flow.seqL (E := fun u v => Below u.heap.size u v) 1 1 [(some 5, []), (some 6, []), (some 7, [0, 1]), (some 2, [2, 2, 0, 1, 2])] (fun iQ vQ wQ => match iQ with | 1 => vQ = (.slice (some ad) n c) | _ => True) rfl (by decide) (by kernel_rfl) (Below.refl _ _) (fun _ _ _ h k => h.trans (k.mono h.size)) (fun _ _ _ _ h _ => h) ?_ ?_
    · refine ⟨?_, trivial⟩
      · intro a w' hx hu hd K hK; have e0 : a.tmps.getD 0 undef = (.slice (some ad) n c) := hu 0 rfl; exact Flow.run1 rfl (Flow.r_move rfl e0) (hK _ _ (Below.refl _ _) rfl)
    intro vs W4 hb4 hT
    have v1 := Flow.eqn (hT 1 (by decide) (by decide))
    simp only [Flow.putsT, v1, Act.put, List.setIfInBounds_toArray, List.set_cons_zero, List.set_cons_succ, List.drop_succ_cons, List.drop_zero, List.take_succ_cons, List.take_zero]
    clear hT v1
    have HB4 := Aside0.mk (below_step HB3.out hb4)
    have Kg3_0_4 := Aside0.mk (blk_below Kg3_0.out hb4)
    clear hb4
    have HRR := Aside0.mk (R_row (Value.int .u8) (fun _ => rfl) (l := ([] : List Int)) (base := w.heap.size) Kg3_0_4.out Gg3_0.out (by decide))
    refine Kd.R_append_row (Value.int .u8) 0 (h1 := fun _ => rfl) w.heap.size rfl _ _ 27 5 (.int .u8 0) 1 rfl Try.underlying27 info5 rfl (by decide) (.slice (some ⟨g3_0, 0, none⟩) 0 0) [] d _ n c (fun _ => True) rfl rfl (fun _ _ => trivial) HRR.out (Kd.C_below HC.out HB4.out) HB4.out HB4.out.size (by simp; omega) ?_
    intro v5 W5 hr5 hb5 _ _
    simp only [Act.put, List.setIfInBounds_toArray, List.set_cons_zero, List.set_cons_succ]
    have HR1 := Aside0.mk hr5
    have HB1 := Aside0.mk hb5
    clear hr5 hb5
    refine Flow.seqL (E := fun u v => Below u.heap.size u v) 3 1 [(some 5, []), (some 6, []), (some 7, [0, 1]), (some 2, [2, 2, 0, 1, 2])] (fun iQ vQ wQ => match iQ with | 3 => vQ = v5 | _ => True) rfl (by decide) (by kernel_rfl) (Below.refl _ _) (fun _ _ _ h k => h.trans (k.mono h.size)) (fun _ _ _ _ h _ => h) ?_ ?_
    · refine ⟨?_, trivial⟩
      · intro a w' hx hu hd K hK; have e7 : a.tmps.getD 7 undef = v5 := hu 7 rfl; exact Flow.run1 rfl (Flow.r_assign rfl e7) (hK _ _ (Below.refl _ _) rfl)
    intro vs W6 hb6 hT
    have v3 := Flow.eqn (hT 3 (by decide) (by decide))
    simp only [Flow.putsT, v3, Act.put, List.setIfInBounds_toArray, List.set_cons_zero, List.set_cons_succ, List.drop_succ_cons, List.drop_zero, List.take_succ_cons, List.take_zero]
    clear hT v3
    have HB6 := Aside0.mk (below_step HB1.out hb6)
    have HR1_6 := Aside0.mk (Kd.R_below HR1.out hb6)
    clear hb6
    go_wp2_with fail
    exact bodyPost_ret (results_tmp Try.results38 _ _ _) rfl ⟨_, rfl, HR1_6.out, HB6.out⟩
set_option maxHeartbeats 4000000 in
set_option maxRecDepth 100000 in
theorem len_c {gC gM : Nat} {room clock hits misses : Int} {m : List Ent} (w : World) (h : CA w gC gM room clock hits misses m) {n : Nat} (hn : m.length = n) : Calls Try.prog 20 #[.pointer (some ⟨gC, 0, none⟩)] w fun e w' => e = .returned (.int .i64 n) ∧ Below w.heap.size w w' := by
  have KC := Aside0.mk h.cell
  have HM := Aside0.mk h.map
  clear h
  go_enter Try.func20, Try.ntmps20
  go_upto_region 0 with fail
  refine Flow.seqT (E := fun u v => Below u.heap.size u v) [(some 2, [])] (fun iQ vQ wQ => match iQ with | 0 => vQ = (.int .i64 0) | _ => True) rfl (by kernel_rfl) (Below.refl _ _) (fun _ _ _ h k => h.trans (k.mono h.size)) (fun _ _ _ _ h _ => h) ?_ ?_
  · refine ⟨?_, trivial⟩
    · intro a w' hx hu hd K hK; exact Flow.run1 rfl (Flow.r_assign rfl rfl) (hK _ _ (Below.refl _ _) rfl)
  intro vs W1 hb1 hT
  have v0 := Flow.eqn (hT 0 (by decide))
  simp only [Flow.putsT, v0, Act.put, List.setIfInBounds_toArray, List.set_cons_zero, List.set_cons_succ]
  clear hT v0
  have HB1 := Aside0.mk (hb1)
  clear hb1
  go_upto_region 1 with fail
  refine Flow.seqT (E := fun u v => Below u.heap.size u v) [(some 3, []), (some 4, [0])] (fun iQ vQ wQ => match iQ with | 0 => vQ = (.pointer (some ⟨gC, 0, none⟩)) | 1 => vQ = (.bool false) | _ => True) rfl (by kernel_rfl) (Below.refl _ _) (fun _ _ _ h k => h.trans (k.mono h.size)) (fun _ _ _ _ h _ => h) ?_ ?_
  · refine ⟨?_, ?_, trivial⟩
    · intro a w' hx hu hd K hK; have e0 : a.tmps.getD 0 undef = (.pointer (some ⟨gC, 0, none⟩)) := hu 0 rfl; exact Flow.run1 rfl (Flow.r_move rfl e0) (hK _ _ (Below.refl _ _) rfl)
    · intro a w' hx hu hd K hK; have e3 := Flow.got (hd 0 rfl) 3 rfl; exact Flow.run1 rfl (ptre rfl e3 rfl) (hK _ _ (Below.refl _ _) rfl)
  intro vs W2 hb2 hT
  have v0 := Flow.eqn (hT 0 (by decide))
  have v1 := Flow.eqn (hT 1 (by decide))
  simp only [Flow.putsT, v0, v1, Act.put, List.setIfInBounds_toArray, List.set_cons_zero, List.set_cons_succ]
  clear hT v0 v1
  have HB2 := Aside0.mk (below_step HB1.out hb2)
  clear hb2
  go_upto_region 3 with fail
  refine Flow.seqT (E := fun u v => Below u.heap.size u v) [(some 5, []), (some 6, [0]), (some 7, [1]), (some 8, [2]), (some 9, [3]), (some 2, [4, 4, 0, 1, 2, 3, 4])] (fun iQ vQ wQ => match iQ with | 0 => vQ = (.pointer (some ⟨gC, 0, none⟩)) | 1 => vQ = (.pointer (some ⟨gC, 0, none⟩)) | 2 => vQ = (.pointer (some ⟨gC, 0, none⟩)) | 3 => vQ = (.map (some gM)) | 4 => vQ = (.int .i64 n) | 5 => vQ = (.int .i64 n) | _ => True) rfl (by kernel_rfl) (Below.refl _ _) (fun _ _ _ h k => h.trans (k.mono h.size)) (fun _ _ _ _ h _ => h) ?_ ?_
  · refine ⟨?_, ?_, ?_, ?_, ?_, ?_, trivial⟩
    · intro a w' hx hu hd K hK; have e0 : a.tmps.getD 0 undef = (.pointer (some ⟨gC, 0, none⟩)) := hu 0 rfl; exact Flow.run1 rfl (Flow.r_move rfl e0) (hK _ _ (Below.refl _ _) rfl)
    · intro a w' hx hu hd K hK; have e5 := Flow.got (hd 0 rfl) 5 rfl; exact Flow.run1 rfl (nilck rfl e5) (hK _ _ (Below.refl _ _) rfl)
    · intro a w' hx hu hd K hK; have e6 := Flow.got (hd 1 rfl) 6 rfl; exact Flow.run1 rfl (fa rfl e6 (fa83_0 _ _ _)) (hK _ _ (Below.refl _ _) rfl)
    · intro a w' hx hu hd K hK; have e7 := Flow.got (hd 2 rfl) 7 rfl; exact Flow.run1 rfl (ld rfl e7 ((blk_cell (blk_below KC.out (below_step HB2.out hx)) 0).trans rfl) Try.underlying81 rfl) (hK _ _ (Below.refl _ _) rfl)
    · intro a w' hx hu hd K hK; have e8 := Flow.got (hd 3 rfl) 8 rfl; exact Flow.run1 rfl (lenM rfl e8 (HM.out.below (below_step HB2.out hx)) hn) (hK _ _ (Below.refl _ _) rfl)
    · intro a w' hx hu hd K hK; have e9 := Flow.got (hd 4 rfl) 9 rfl; exact Flow.run1 rfl (Flow.r_assign rfl e9) (hK _ _ (Below.refl _ _) rfl)
  intro vs W3 hb3 hT
  have v0 := Flow.eqn (hT 0 (by decide))
  have v1 := Flow.eqn (hT 1 (by decide))
  have v2 := Flow.eqn (hT 2 (by decide))
  have v3 := Flow.eqn (hT 3 (by decide))
  have v4 := Flow.eqn (hT 4 (by decide))
  have v5 := Flow.eqn (hT 5 (by decide))
  simp only [Flow.putsT, v0, v1, v2, v3, v4, v5, Act.put, List.setIfInBounds_toArray, List.set_cons_zero, List.set_cons_succ]
  clear hT v0 v1 v2 v3 v4 v5
  have HB3 := Aside0.mk (below_step HB2.out hb3)
  clear hb3
  go_wp2_with fail
  exact bodyPost_ret (results_tmp Try.results20 _ _ _) rfl ⟨rfl, HB3.out⟩
set_option maxHeartbeats 4000000 in
set_option maxRecDepth 100000 in
theorem counts_c {gC gM : Nat} {room clock hits misses : Int} {m : List Ent} (w : World) (h : CA w gC gM room clock hits misses m) : Calls Try.prog 28 #[.pointer (some ⟨gC, 0, none⟩)] w fun e w' => e = .returned (.tuple #[.int .i64 hits, .int .i64 misses]) ∧ Below w.heap.size w w' := by
  have KC := Aside0.mk h.cell
  clear h
  go_enter Try.func28, Try.ntmps28
  go_upto_region 0 with fail
  refine Flow.seqT (E := fun u v => Below u.heap.size u v) [(some 2, []), (some 3, [0])] (fun iQ vQ wQ => match iQ with | 0 => vQ = (.int .i64 0) | 1 => vQ = (.int .i64 0) | _ => True) rfl (by kernel_rfl) (Below.refl _ _) (fun _ _ _ h k => h.trans (k.mono h.size)) (fun _ _ _ _ h _ => h) ?_ ?_
  · refine ⟨?_, ?_, trivial⟩
    · intro a w' hx hu hd K hK; exact Flow.run1 rfl (Flow.r_assign rfl rfl) (hK _ _ (Below.refl _ _) rfl)
    · intro a w' hx hu hd K hK; exact Flow.run1 rfl (Flow.r_assign rfl rfl) (hK _ _ (Below.refl _ _) rfl)
  intro vs W1 hb1 hT
  have v0 := Flow.eqn (hT 0 (by decide))
  have v1 := Flow.eqn (hT 1 (by decide))
  simp only [Flow.putsT, v0, v1, Act.put, List.setIfInBounds_toArray, List.set_cons_zero, List.set_cons_succ]
  clear hT v0 v1
  have HB1 := Aside0.mk (hb1)
  clear hb1
  go_upto_region 1 with fail
  refine Flow.seqT (E := fun u v => Below u.heap.size u v) [(some 4, []), (some 5, [0])] (fun iQ vQ wQ => match iQ with | 0 => vQ = (.pointer (some ⟨gC, 0, none⟩)) | 1 => vQ = (.bool false) | _ => True) rfl (by kernel_rfl) (Below.refl _ _) (fun _ _ _ h k => h.trans (k.mono h.size)) (fun _ _ _ _ h _ => h) ?_ ?_
  · refine ⟨?_, ?_, trivial⟩
    · intro a w' hx hu hd K hK; have e0 : a.tmps.getD 0 undef = (.pointer (some ⟨gC, 0, none⟩)) := hu 0 rfl; exact Flow.run1 rfl (Flow.r_move rfl e0) (hK _ _ (Below.refl _ _) rfl)
    · intro a w' hx hu hd K hK; have e4 := Flow.got (hd 0 rfl) 4 rfl; exact Flow.run1 rfl (ptre rfl e4 rfl) (hK _ _ (Below.refl _ _) rfl)
  intro vs W2 hb2 hT
  have v0 := Flow.eqn (hT 0 (by decide))
  have v1 := Flow.eqn (hT 1 (by decide))
  simp only [Flow.putsT, v0, v1, Act.put, List.setIfInBounds_toArray, List.set_cons_zero, List.set_cons_succ]
  clear hT v0 v1
  have HB2 := Aside0.mk (below_step HB1.out hb2)
  clear hb2
  go_upto_region 3 with fail
  refine Flow.flowT (E := fun u v => Below u.heap.size u v) [(some 6, []), (some 7, [0]), (some 8, [1]), (some 9, [2]), (some 10, []), (some 11, [4]), (some 12, [5]), (some 13, [6]), (some 2, [3, 0, 1, 2, 3]), (some 3, [7, 8, 0, 1, 2, 3, 4, 5, 6, 7, 8])] (fun iQ vQ wQ => match iQ with | 0 => vQ = (.pointer (some ⟨gC, 0, none⟩)) | 1 => vQ = (.pointer (some ⟨gC, 0, none⟩)) | 2 => vQ = (.pointer (some ⟨gC, 3, none⟩)) | 3 => vQ = (.int .i64 hits) | 4 => vQ = (.pointer (some ⟨gC, 0, none⟩)) | 5 => vQ = (.pointer (some ⟨gC, 0, none⟩)) | 6 => vQ = (.pointer (some ⟨gC, 4, none⟩)) | 7 => vQ = (.int .i64 misses) | 8 => vQ = (.int .i64 hits) | 9 => vQ = (.int .i64 misses) | _ => True) rfl (by kernel_rfl) (by kernel_rfl) (by kernel_rfl) ((Below.refl _ _).drew) (fun _ _ _ h k => h.trans (k.mono h.size)) (fun _ _ _ _ h _ => h) ?_ ?_
  · refine ⟨?_, ?_, ?_, ?_, ?_, ?_, ?_, ?_, ?_, ?_, trivial⟩
    · intro a w' hx hu hd K hK; have e0 : a.tmps.getD 0 undef = (.pointer (some ⟨gC, 0, none⟩)) := hu 0 rfl; exact Flow.run1 rfl (Flow.r_move rfl e0) (hK _ _ (Below.refl _ _) rfl)
    · intro a w' hx hu hd K hK; have e6 := Flow.got (hd 0 (by decide)) 6 rfl; exact Flow.run1 rfl (nilck rfl e6) (hK _ _ (Below.refl _ _) rfl)
    · intro a w' hx hu hd K hK; have e7 := Flow.got (hd 1 (by decide)) 7 rfl; exact Flow.run1 rfl (fa rfl e7 (fa83_3 _ _ _)) (hK _ _ (Below.refl _ _) rfl)
    · intro a w' hx hu hd K hK; have e8 := Flow.got (hd 2 (by decide)) 8 rfl; exact Flow.run1 rfl (ld rfl e8 ((blk_cell (blk_below KC.out (below_step HB2.out hx)) 3).trans rfl) Try.underlying3 rfl) (hK _ _ (Below.refl _ _) rfl)
    · intro a w' hx hu hd K hK; have e0 : a.tmps.getD 0 undef = (.pointer (some ⟨gC, 0, none⟩)) := hu 0 rfl; exact Flow.run1 rfl (Flow.r_move rfl e0) (hK _ _ (Below.refl _ _) rfl)
    · intro a w' hx hu hd K hK; have e10 := Flow.got (hd 4 (by decide)) 10 rfl; exact Flow.run1 rfl (nilck rfl e10) (hK _ _ (Below.refl _ _) rfl)
    · intro a w' hx hu hd K hK; have e11 := Flow.got (hd 5 (by decide)) 11 rfl; exact Flow.run1 rfl (fa rfl e11 (fa83_4 _ _ _)) (hK _ _ (Below.refl _ _) rfl)
    · intro a w' hx hu hd K hK; have e12 := Flow.got (hd 6 (by decide)) 12 rfl; exact Flow.run1 rfl (ld rfl e12 ((blk_cell (blk_below KC.out (below_step HB2.out hx)) 4).trans rfl) Try.underlying3 rfl) (hK _ _ (Below.refl _ _) rfl)
    · intro a w' hx hu hd K hK; have e9 := Flow.got (hd 3 (by decide)) 9 rfl; exact Flow.run1 rfl (Flow.r_assign rfl e9) (hK _ _ (Below.refl _ _) rfl)
    · intro a w' hx hu hd K hK; have e13 := Flow.got (hd 7 (by decide)) 13 rfl; exact Flow.run1 rfl (Flow.r_assign rfl e13) (hK _ _ (Below.refl _ _) rfl)
  intro vs W3 hb3 hT
  have v0 := Flow.eqn (hT 0 (by decide))
  have v1 := Flow.eqn (hT 1 (by decide))
  have v2 := Flow.eqn (hT 2 (by decide))
  have v3 := Flow.eqn (hT 3 (by decide))
  have v4 := Flow.eqn (hT 4 (by decide))
  have v5 := Flow.eqn (hT 5 (by decide))
  have v6 := Flow.eqn (hT 6 (by decide))
  have v7 := Flow.eqn (hT 7 (by decide))
  have v8 := Flow.eqn (hT 8 (by decide))
  have v9 := Flow.eqn (hT 9 (by decide))
  simp only [Flow.putsT, v0, v1, v2, v3, v4, v5, v6, v7, v8, v9, Act.put, List.setIfInBounds_toArray, List.set_cons_zero, List.set_cons_succ]
  clear hT v0 v1 v2 v3 v4 v5 v6 v7 v8 v9
  have HB3 := Aside0.mk (below_step HB2.out hb3)
  clear hb3
  go_wp2_with fail
  exact bodyPost_ret (results_tmp2 Try.results28 _ _ _) rfl ⟨rfl, HB3.out⟩
set_option maxHeartbeats 4000000 in
set_option maxRecDepth 100000 in
theorem clear_c {gC gM : Nat} {room clock hits misses : Int} {m : List Ent} (w : World) (h : CA w gC gM room clock hits misses m) : Calls Try.prog 26 #[.pointer (some ⟨gC, 0, none⟩)] w fun e w' => e = .returned (.tuple #[]) ∧ CA w' gC gM room clock hits misses [] ∧ KB (S2 gC gM) w w' := by
  have KC := Aside0.mk h.cell
  have HM := Aside0.mk h.map
  have HNE := Aside0.mk h.ne
  clear h
  go_enter Try.func26, Try.ntmps26
  go_upto_region 0 with fail
  refine Flow.seqT (E := fun u v => Below u.heap.size u v) [(some 2, []), (some 3, [0])] (fun iQ vQ wQ => match iQ with | 0 => vQ = (.pointer (some ⟨gC, 0, none⟩)) | 1 => vQ = (.bool true) | _ => True) rfl (by kernel_rfl) (Below.refl _ _) (fun _ _ _ h k => h.trans (k.mono h.size)) (fun _ _ _ _ h _ => h) ?_ ?_
  · refine ⟨?_, ?_, trivial⟩
    · intro a w' hx hu hd K hK; have e0 : a.tmps.getD 0 undef = (.pointer (some ⟨gC, 0, none⟩)) := hu 0 rfl; exact Flow.run1 rfl (Flow.r_move rfl e0) (hK _ _ (Below.refl _ _) rfl)
    · intro a w' hx hu hd K hK; have e2 := Flow.got (hd 0 rfl) 2 rfl; exact Flow.run1 rfl (ptrne rfl e2 rfl) (hK _ _ (Below.refl _ _) rfl)
  intro vs W1 hb1 hT
  have v0 := Flow.eqn (hT 0 (by decide))
  have v1 := Flow.eqn (hT 1 (by decide))
  simp only [Flow.putsT, v0, v1, Act.put, List.setIfInBounds_toArray, List.set_cons_zero, List.set_cons_succ]
  clear hT v0 v1
  have HB1 := Aside0.mk (KB.of_below (S := S2 gC gM) hb1)
  have HM_1 := Aside0.mk (MapIs.below HM.out hb1)
  have KC_1 := Aside0.mk (blk_below KC.out hb1)
  clear hb1
  go_upto_region 1 with fail
  refine Flow.seqT_head (E := fun u v => Below u.heap.size u v) 4 [(some 4, []), (some 5, [0]), (some 6, [1]), (some 7, [2]), (none, [3])] (fun iQ vQ wQ => match iQ with | 0 => vQ = (.pointer (some ⟨gC, 0, none⟩)) | 1 => vQ = (.pointer (some ⟨gC, 0, none⟩)) | 2 => vQ = (.pointer (some ⟨gC, 0, none⟩)) | 3 => vQ = (.map (some gM)) | _ => True) rfl (by decide) (by kernel_rfl) (Below.refl _ _) (fun _ _ _ h k => h.trans (k.mono h.size)) (fun _ _ _ _ h _ => h) ?_ ?_
  · refine ⟨?_, ?_, ?_, ?_, trivial⟩
    · intro a w' hx hu hd K hK; have e0 : a.tmps.getD 0 undef = (.pointer (some ⟨gC, 0, none⟩)) := hu 0 rfl; exact Flow.run1 rfl (Flow.r_move rfl e0) (hK _ _ (Below.refl _ _) rfl)
    · intro a w' hx hu hd K hK; have e4 := Flow.got (hd 0 rfl) 4 rfl; exact Flow.run1 rfl (nilck rfl e4) (hK _ _ (Below.refl _ _) rfl)
    · intro a w' hx hu hd K hK; have e5 := Flow.got (hd 1 rfl) 5 rfl; exact Flow.run1 rfl (fa rfl e5 (fa83_0 _ _ _)) (hK _ _ (Below.refl _ _) rfl)
    · intro a w' hx hu hd K hK; have e6 := Flow.got (hd 2 rfl) 6 rfl; exact Flow.run1 rfl (ld rfl e6 ((blk_cell (blk_below KC_1.out hx) 0).trans rfl) Try.underlying81 rfl) (hK _ _ (Below.refl _ _) rfl)
  intro vs W2 hb2 hT
  have v0 := Flow.eqn (hT 0 (by decide))
  have v1 := Flow.eqn (hT 1 (by decide))
  have v2 := Flow.eqn (hT 2 (by decide))
  have v3 := Flow.eqn (hT 3 (by decide))
  simp only [Flow.putsT, v0, v1, v2, v3, Act.put, List.setIfInBounds_toArray, List.set_cons_zero, List.set_cons_succ, List.drop_succ_cons, List.drop_zero, List.take_succ_cons, List.take_zero]
  clear hT v0 v1 v2 v3
  have HB2 := Aside0.mk (KB.step HB1.out hb2)
  have HM_2 := Aside0.mk (MapIs.below HM_1.out hb2)
  have KC_1_2 := Aside0.mk (blk_below KC_1.out hb2)
  clear hb2
  refine clear_map rfl rfl rfl HM_2.out ?_
  intro W3 hm3 hg3
  have KC_3 := Aside0.mk ((hg3.block gC (blk_lt KC_1_2.out) (fun e => HNE.out (Option.some.inj e).symm)).trans KC_1_2.out)
  have HM_3 := Aside0.mk hm3
  have HB3 := Aside0.mk (KB.grown HB2.out hg3 (.inl (.inr rfl)))
  clear hm3 hg3
  simp only [Act.put, List.setIfInBounds_toArray, List.set_cons_zero, List.set_cons_succ]
  go_wp2_with fail
  exact bodyPost_end (results_none Try.results26 _ _ _) rfl ⟨rfl, ⟨KC_3.out, HM_3.out, fun e he => by cases he⟩, HB3.out⟩
theorem new_c (room : Int) (w : World) : Calls Try.prog 17 #[.int .i64 room] w fun e w' => ∃ gC gM, e = .returned (.pointer (some ⟨gC, 0, none⟩)) ∧ CA w' gC gM (min (max room 0) 65536) 0 0 0 [] ∧ w.heap.size ≤ gC ∧ w.heap.size ≤ gM ∧ Below w.heap.size w w' := by
  have hmm := @run_makeMap Try.prog
  have hu81 := Try.underlying81
  have hu83 := Try.underlying83
  have hM := MapIs.made w
  obtain ⟨w1, hw1⟩ : ∃ w1, w.alloc (.map #[] 0) = w1 := ⟨_, rfl⟩
  have hs : w1.heap.size = w.heap.size + 1 := by rw [← hw1]; simp
  have hB : Below w.heap.size w w1 := hw1 ▸ below_alloc (Below.refl _ _) _
  go_enter Try.func17, Try.ntmps17
  go_wp2
  go_ret
  rw [hw1] at hM
  have hB2 := below_alloc (Below.refl w1.heap.size w1) (.cells #[.map (some w.heap.size), .int .i64 (min (max room 0) 65536), .int .i64 0, .int .i64 0, .int .i64 0] 83)
  refine ⟨w.heap.size + 1, w.heap.size, rfl, ⟨?_, hM.below hB2, fun e he => by cases he⟩, Nat.le_succ _, Nat.le_refl _, below_step hB hB2⟩
  have := blk_new w1 (.cells #[.map (some w.heap.size), .int .i64 (min (max room 0) 65536), .int .i64 0, .int .i64 0, .int .i64 0] 83 (0, 0))
  rw [hs] at this
  exact this
end Go.Proofs.Ytlhmpmmblnbmbaa.Cac
