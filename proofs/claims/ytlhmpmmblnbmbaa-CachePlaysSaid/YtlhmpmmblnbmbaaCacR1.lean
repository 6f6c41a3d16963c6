/- The document's New. -/
import Derived.Test.YtlhmpmmblnbmbaaCacMu
set_option linter.unusedVariables false
set_option linter.unusedSimpArgs false
namespace Go.Proofs.Ytlhmpmmblnbmbaa.Cac
open Go Go.RowKit Go.Proofs.Ytlhmpmmblnbmbaa.PCachePlays Go.Proofs.YtlhmpmmblnbmbaaW.PrintWords Go.Proofs.YtlhmpmmblnbmbaaW.PrintLast Go.Proofs.YtlhmpmmblnbmbaaW.PrintMore Go.Proofs.Ytlhmpmmblnbmbaa.FlowU Go.Proofs.Ytlhmpmmblnbmbaa.Ev Go.Proofs.Ytlhmpmmblnbmbaa.Ke Go.Proofs.Ytlhmpmmblnbmbaa.Cells
theorem fa45_0 (g o : Nat) (w : World) : (Instr.fieldAt 45 (.pointer (some ⟨g, o, none⟩)) 0).run Try.prog w = .ok (.pointer (some ⟨g, o, none⟩)) w := by
  have hu := Try.underlying45
  go_simp
theorem fad45_0 (ad : Addr) (w : World) : (Instr.fieldAt 45 (.pointer (some ad)) 0).run Try.prog w = .ok (.pointer (some (ad.add 0))) w := by
  have hu := Try.underlying45
  go_simp
theorem fa45_1 (g o : Nat) (w : World) : (Instr.fieldAt 45 (.pointer (some ⟨g, o, none⟩)) 1).run Try.prog w = .ok (.pointer (some ⟨g, o + 1, none⟩)) w := by
  have hu := Try.underlying45
  go_simp
theorem fad45_1 (ad : Addr) (w : World) : (Instr.fieldAt 45 (.pointer (some ad)) 1).run Try.prog w = .ok (.pointer (some (ad.add 1))) w := by
  have hu := Try.underlying45
  go_simp
theorem bld45_1 {o : Oper} {a : Act} {w : World} {x1 : Operand} {c1 : Int} (ho : o.op = .build 45 #[(1, x1)]) (h1 : a.eval x1 = .int .i64 c1) : (execOp a.eval o).run Try.prog w = .ok (.value (.agg #[.slice none 0 0, .int .i64 c1, .int .i64 0, .int .i64 0])) w := by
  have hu45 := Try.underlying45
  have hu43 := Try.underlying43
  have hu3 := Try.underlying3
  unfold execOp
  simp only [ho, List.map_toArray, List.map_cons, List.map_nil, h1]
  clear ho h1
  first
  | (go_simp; done)
  | (go_simp; rfl)
theorem bld58_0_1 {o : Oper} {a : Act} {w : World} {x0 x1 : Operand} {c0_0 : Int} {c0_1 : Int} {c0_2 : Int} {c1 : ByteArray} (ho : o.op = .build 58 #[(0, x0), (1, x1)]) (h0 : a.eval x0 = .agg #[.int .i64 c0_0, .int .i64 c0_1, .int .i64 c0_2]) (h1 : a.eval x1 = .string c1) : (execOp a.eval o).run Try.prog w = .ok (.value (.agg #[.int .i64 c0_0, .int .i64 c0_1, .int .i64 c0_2, .string c1])) w := by
  have hu58 := Try.underlying58
  have hu36 := Try.underlying36
  have hu3 := Try.underlying3
  have hu9 := Try.underlying9
  unfold execOp
  simp only [ho, List.map_toArray, List.map_cons, List.map_nil, h0, h1]
  clear ho h0 h1
  first
  | (go_simp; done)
  | (go_simp; rfl)
theorem row1_43 {o : Oper} {a : Act} {w : World} {x0 : Operand} {c0_0_0 : Int} {c0_0_1 : Int} {c0_0_2 : Int} {c0_1 : ByteArray} (ho : o.op = .buildSlice 43 1 #[(0, x0)]) (h0 : a.eval x0 = .agg #[.int .i64 c0_0_0, .int .i64 c0_0_1, .int .i64 c0_0_2, .string c0_1]) : (execOp a.eval o).run Try.prog w = .ok (.value (.slice (some ⟨w.heap.size, 0, none⟩) 1 1)) (w.alloc (.cells #[.int .i64 c0_0_0, .int .i64 c0_0_1, .int .i64 c0_0_2, .string c0_1] 58 (0, 0))) := by
  have hu43 := Try.underlying43
  have hu58 := Try.underlying58
  have hu36 := Try.underlying36
  have hu3 := Try.underlying3
  have hu9 := Try.underlying9
  unfold execOp
  simp only [ho, List.map_toArray, List.map_cons, List.map_nil, h0]
  clear ho h0
  first
  | (go_simp; done)
  | (go_simp; rfl)
theorem size43 : (Try.prog.info? 43).map (·.size) = some 1 := by kernel_rfl
theorem size45 : (Try.prog.info? 45).map (·.size) = some 4 := by kernel_rfl
theorem size58 : (Try.prog.info? 58).map (·.size) = some 4 := by kernel_rfl
theorem zero45_is : (Try.prog.info? 45).map (·.zero) = some (some (.agg #[.slice none 0 0, .int .i64 0, .int .i64 0, .int .i64 0])) := by kernel_rfl
/-- What the document's Put makes of a list, without k. -/
def rputL (room : Nat) (k : S36) (b : ByteArray) (t : List S58) : List S58 := if t.length + 1 > room then ([(⟨k, b⟩ : S58)] ++ t).take room else [(⟨k, b⟩ : S58)] ++ t
def RPut (w' : World) (base : Nat) (v v0 : Value) (room : Nat) (k : S36) (b : ByteArray) (t : List S58) : Prop := (room = 0 ∧ v = v0) ∨ (¬ room = 0 ∧ Kd.R k58 58 w' base (fun _ => True) v (rputL room k b t))
theorem info58' : (Try.prog.info? 58).map (fun i => (i.zero, i.size, i.bytes)) = some (some (.agg #[.int .i64 0, .int .i64 0, .int .i64 0, .string ⟨#[]⟩]), 4, 40) := by kernel_rfl
theorem R58_lit {g base : Nat} {w : World} (x : S58) (h : w.heap[g]? = some (.cells #[.int .i64 x.f0.f0, .int .i64 x.f0.f1, .int .i64 x.f0.f2, .string x.f1] 58 (0, 0))) (hg : base ≤ g) : Kd.R k58 58 w base (fun _ => True) (.slice (some ⟨g, 0, none⟩) 1 1) [x] :=
  ⟨fun _ _ => trivial, [.int .i64 x.f0.f0, .int .i64 x.f0.f1, .int .i64 x.f0.f2, .string x.f1], ⟨rfl, .inr ⟨g, 1, _, rfl, hg, h, Nat.le_refl _, by decide, rfl, rfl⟩⟩, ⟨rfl, fun j p hj => by
    match j, hj with
    | 0, hj => obtain rfl : x = p := Option.some.inj hj; exact k58_mkM w base _ x
    | j + 1, hj => simp at hj⟩⟩
theorem head_run (W : World) (A : Option Addr) (n c m : Nat) (hm : m ≤ c) : (Instr.slice 43 (.slice A n c) none (some (.int .i64 (m : Int))) none).run Try.prog W = .ok (.slice A m c) W := by
  have hel : Try.prog.elem 43 = 58 := by simp [Program.elem, Try.underlying43]
  have hu : Try.prog.underlying 43 = some (.slice (Try.prog.elem 43)) := by rw [hel]; exact Try.underlying43
  obtain ⟨i, hi, hiz⟩ := Option.map_eq_some_iff.1 size58
  rw [run_slice_h W 43 A n c hu .i64 (m : Int) (by omega) (by omega), hel]
  have hA : A.map (·.add 0) = A := by cases A <;> simp [Addr.add]
  simp [sizeOf, typeInfo, hi, hiz, sliced, Result.andThen, hA]
theorem without_n {A : Option Addr} {c n kf : Nat} {l t : List S58} {k : S36} (hn : l.length = n) (w : World) (hC : Kd.C k58 w A n l) (hc : n ≤ c) (ht : revetmentref35_without.f kf l k.f0 k.f1 k.f2 = some t) : Calls Try.prog 40 #[.slice A n c, .agg #[.int .i64 k.f0, .int .i64 k.f1, .int .i64 k.f2]] w fun e w' => ∃ v0_ : Value, e = .returned (v0_) ∧ Kd.R k58 58 w' w.heap.size (fun _ => True) v0_ t ∧ Below w.heap.size w w' := by
  subst hn
  exact revetmentref35_without.calls kf A c l k.f0 k.f1 k.f2 t w hC hc ht
set_option maxHeartbeats 4000000 in
set_option maxRecDepth 100000 in
theorem rnew_c (room r : Int) (hr : min (max room 0) 65536 = r) (w : World) : Calls Try.prog 21 #[.int .i64 room] w fun e w' => e = .returned (.agg #[.slice none 0 0, .int .i64 r, .int .i64 0, .int .i64 0]) ∧ Below w.heap.size w w' := by
  have HRR := Aside0.mk hr
  clear hr
  by_cases h0 : room < 0
  · have H0 := Aside0.mk h0
    obtain rfl : r = 0 := by have := HRR.out; omega
    clear h0
    go_enter Try.func21, Try.ntmps21
    go_upto_region 0 with fail
    refine wp_region_lit ?_
    refine ealloc rfl rfl zero45_is ?_
    intro g1 hg1 W1 hk1 hb1
    have Kg1 := Aside0.mk hk1
    have HB1 := Aside0.mk (hb1)
    clear hb1
    have Gg1 := Aside0.mk (show w.heap.size ≤ g1 by rw [hg1]; exact Nat.le_refl _)
    clear hg1 hk1
    simp only [Act.put, List.setIfInBounds_toArray, List.set_cons_zero, List.set_cons_succ]
    go_upto_region 1 with fail
    refine Flow.seqT (E := fun u v => Below u.heap.size u v) [(some 3, []), (some 4, [0])] (fun iQ vQ wQ => match iQ with | 0 => vQ = (.int .i64 room) | 1 => vQ = (.bool true) | _ => True) rfl (by kernel_rfl) (Below.refl _ _) (fun _ _ _ h k => h.trans (k.mono h.size)) (fun _ _ _ _ h _ => h) ?_ ?_
    · refine ⟨?_, ?_, trivial⟩
      · intro a w' hx hu hd K hK; have e0 : a.tmps.getD 0 undef = (.int .i64 room) := hu 0 rfl; exact Flow.run1 rfl (Flow.r_move rfl e0) (hK _ _ (Below.refl _ _) rfl)
      · intro a w' hx hu hd K hK; have e3 := Flow.got (hd 0 rfl) 3 rfl; exact Flow.run1 rfl (yes (lss rfl e3 rfl) (decide_eq_true H0.out)) (hK _ _ (Below.refl _ _) rfl)
    intro vs W2 hb2 hT
    have v0 := Flow.eqn (hT 0 (by decide))
    have v1 := Flow.eqn (hT 1 (by decide))
    simp only [Flow.putsT, v0, v1, Act.put, List.setIfInBounds_toArray, List.set_cons_zero, List.set_cons_succ]
    clear hT v0 v1
    have HB2 := Aside0.mk (below_step HB1.out hb2)
    have Kg1_2 := Aside0.mk (blk_below Kg1.out hb2)
    clear hb2
    go_upto_region 2 with fail
    refine Flow.seqT (E := fun u v => Below u.heap.size u v) [(some 0, [])] (fun iQ vQ wQ => match iQ with | 0 => vQ = (.int .i64 0) | _ => True) rfl (by kernel_rfl) (Below.refl _ _) (fun _ _ _ h k => h.trans (k.mono h.size)) (fun _ _ _ _ h _ => h) ?_ ?_
    · refine ⟨?_, trivial⟩
      · intro a w' hx hu hd K hK; exact Flow.run1 rfl (Flow.r_assign rfl rfl) (hK _ _ (Below.refl _ _) rfl)
    intro vs W3 hb3 hT
    have v0 := Flow.eqn (hT 0 (by decide))
    simp only [Flow.putsT, v0, Act.put, List.setIfInBounds_toArray, List.set_cons_zero, List.set_cons_succ]
    clear hT v0
    have HB3 := Aside0.mk (below_step HB2.out hb3)
    have Kg1_2_3 := Aside0.mk (blk_below Kg1_2.out hb3)
    clear hb3
    go_upto_region 3 with fail
    refine Flow.seqT (E := fun u v => Below u.heap.size u v) [(some 5, []), (some 6, [0])] (fun iQ vQ wQ => match iQ with | 0 => vQ = (.int .i64 0) | 1 => vQ = (.bool false) | _ => True) rfl (by kernel_rfl) (Below.refl _ _) (fun _ _ _ h k => h.trans (k.mono h.size)) (fun _ _ _ _ h _ => h) ?_ ?_
    · refine ⟨?_, ?_, trivial⟩
      · intro a w' hx hu hd K hK; have e0 : a.tmps.getD 0 undef = (.int .i64 0) := hu 0 rfl; exact Flow.run1 rfl (Flow.r_move rfl e0) (hK _ _ (Below.refl _ _) rfl)
      · intro a w' hx hu hd K hK; have e5 := Flow.got (hd 0 rfl) 5 rfl; exact Flow.run1 rfl (no (gtr rfl e5 rfl) (decide_eq_false (by decide))) (hK _ _ (Below.refl _ _) rfl)
    intro vs W4 hb4 hT
    have v0 := Flow.eqn (hT 0 (by decide))
    have v1 := Flow.eqn (hT 1 (by decide))
    simp only [Flow.putsT, v0, v1, Act.put, List.setIfInBounds_toArray, List.set_cons_zero, List.set_cons_succ]
    clear hT v0 v1
    have HB4 := Aside0.mk (below_step HB3.out hb4)
    have Kg1_2_3_4 := Aside0.mk (blk_below Kg1_2_3.out hb4)
    clear hb4
    go_upto_region 5 with fail
    refine Flow.seqT_head (E := fun u v => Below u.heap.size u v) 2 [(some 7, []), (some 8, [0]), (none, [1, 0, 1])] (fun iQ vQ wQ => match iQ with | 0 => vQ = (.int .i64 0) | 1 => vQ = (.agg #[.slice none 0 0, .int .i64 0, .int .i64 0, .int .i64 0]) | _ => True) rfl (by decide) (by kernel_rfl) (Below.refl _ _) (fun _ _ _ h k => h.trans (k.mono h.size)) (fun _ _ _ _ h _ => h) ?_ ?_
    · refine ⟨?_, ?_, trivial⟩
      · intro a w' hx hu hd K hK; have e0 : a.tmps.getD 0 undef = (.int .i64 0) := hu 0 rfl; exact Flow.run1 rfl (Flow.r_move rfl e0) (hK _ _ (Below.refl _ _) rfl)
      · intro a w' hx hu hd K hK; have e7 := Flow.got (hd 0 rfl) 7 rfl; exact Flow.run1 rfl (bld45_1 rfl e7) (hK _ _ (Below.refl _ _) rfl)
    intro vs W5 hb5 hT
    have v0 := Flow.eqn (hT 0 (by decide))
    have v1 := Flow.eqn (hT 1 (by decide))
    simp only [Flow.putsT, v0, v1, Act.put, List.setIfInBounds_toArray, List.set_cons_zero, List.set_cons_succ, List.drop_succ_cons, List.drop_zero, List.take_succ_cons, List.take_zero]
    clear hT v0 v1
    have HB5 := Aside0.mk (below_step HB4.out hb5)
    have Kg1_2_3_4_5 := Aside0.mk (blk_below Kg1_2_3_4.out hb5)
    clear hb5
    refine Cells.store_whole rfl rfl 45 _ _ rfl g1 [.slice none 0 0, .int .i64 0, .int .i64 0, .int .i64 0] #[.slice none 0 0, .int .i64 0, .int .i64 0, .int .i64 0] rfl rfl Kg1_2_3_4_5.out rfl size45 rfl ?_
    intro W6 hk6 hf6 hb6
    have HB6 := Aside0.mk (HB5.out.trans (hb6 _ Gg1.out))
    have Kg1_6 := Aside0.mk hk6
    clear hk6 hf6 hb6
    go_wp2_with fail
    exact bodyPost_ret (results_cell_row Try.results21 _ _ g1 45 _ _ _ rfl Kg1_6.out Try.underlying45 rfl size45) rfl ⟨rfl, HB6.out⟩
  · have H0 := Aside0.mk h0
    by_cases h6 : room > 65536
    · have H6 := Aside0.mk h6
      obtain rfl : r = 65536 := by have := HRR.out; omega
      clear h0 h6
      go_enter Try.func21, Try.ntmps21
      go_upto_region 0 with fail
      refine wp_region_lit ?_
      refine ealloc rfl rfl zero45_is ?_
      intro g7 hg7 W7 hk7 hb7
      have Kg7 := Aside0.mk hk7
      have HB7 := Aside0.mk (hb7)
      clear hb7
      have Gg7 := Aside0.mk (show w.heap.size ≤ g7 by rw [hg7]; exact Nat.le_refl _)
      clear hg7 hk7
      simp only [Act.put, List.setIfInBounds_toArray, List.set_cons_zero, List.set_cons_succ]
      go_upto_region 1 with fail
      refine Flow.seqT (E := fun u v => Below u.heap.size u v) [(some 3, []), (some 4, [0])] (fun iQ vQ wQ => match iQ with | 0 => vQ = (.int .i64 room) | 1 => vQ = (.bool false) | _ => True) rfl (by kernel_rfl) (Below.refl _ _) (fun _ _ _ h k => h.trans (k.mono h.size)) (fun _ _ _ _ h _ => h) ?_ ?_
      · refine ⟨?_, ?_, trivial⟩
        · intro a w' hx hu hd K hK; have e0 : a.tmps.getD 0 undef = (.int .i64 room) := hu 0 rfl; exact Flow.run1 rfl (Flow.r_move rfl e0) (hK _ _ (Below.refl _ _) rfl)
        · intro a w' hx hu hd K hK; have e3 := Flow.got (hd 0 rfl) 3 rfl; exact Flow.run1 rfl (no (lss rfl e3 rfl) (decide_eq_false H0.out)) (hK _ _ (Below.refl _ _) rfl)
      intro vs W8 hb8 hT
      have v0 := Flow.eqn (hT 0 (by decide))
      have v1 := Flow.eqn (hT 1 (by decide))
      simp only [Flow.putsT, v0, v1, Act.put, List.setIfInBounds_toArray, List.set_cons_zero, List.set_cons_succ]
      clear hT v0 v1
      have HB8 := Aside0.mk (below_step HB7.out hb8)
      have Kg7_8 := Aside0.mk (blk_below Kg7.out hb8)
      clear hb8
      go_upto_region 3 with fail
      refine Flow.seqT (E := fun u v => Below u.heap.size u v) [(some 5, []), (some 6, [0])] (fun iQ vQ wQ => match iQ with | 0 => vQ = (.int .i64 room) | 1 => vQ = (.bool true) | _ => True) rfl (by kernel_rfl) (Below.refl _ _) (fun _ _ _ h k => h.trans (k.mono h.size)) (fun _ _ _ _ h _ => h) ?_ ?_
      · refine ⟨?_, ?_, trivial⟩
        · intro a w' hx hu hd K hK; have e0 : a.tmps.getD 0 undef = (.int .i64 room) := hu 0 rfl; exact Flow.run1 rfl (Flow.r_move rfl e0) (hK _ _ (Below.refl _ _) rfl)
        · intro a w' hx hu hd K hK; have e5 := Flow.got (hd 0 rfl) 5 rfl; exact Flow.run1 rfl (yes (gtr rfl e5 rfl) (decide_eq_true H6.out)) (hK _ _ (Below.refl _ _) rfl)
      intro vs W9 hb9 hT
      have v0 := Flow.eqn (hT 0 (by decide))
      have v1 := Flow.eqn (hT 1 (by decide))
      simp only [Flow.putsT, v0, v1, Act.put, List.setIfInBounds_toArray, List.set_cons_zero, List.set_cons_succ]
      clear hT v0 v1
      have HB9 := Aside0.mk (below_step HB8.out hb9)
      have Kg7_8_9 := Aside0.mk (blk_below Kg7_8.out hb9)
      clear hb9
      go_upto_region 4 with fail
      refine Flow.seqT (E := fun u v => Below u.heap.size u v) [(some 0, [])] (fun iQ vQ wQ => match iQ with | 0 => vQ = (.int .i64 65536) | _ => True) rfl (by kernel_rfl) (Below.refl _ _) (fun _ _ _ h k => h.trans (k.mono h.size)) (fun _ _ _ _ h _ => h) ?_ ?_
      · refine ⟨?_, trivial⟩
        · intro a w' hx hu hd K hK; exact Flow.run1 rfl (Flow.r_assign rfl rfl) (hK _ _ (Below.refl _ _) rfl)
      intro vs W10 hb10 hT
      have v0 := Flow.eqn (hT 0 (by decide))
      simp only [Flow.putsT, v0, Act.put, List.setIfInBounds_toArray, List.set_cons_zero, List.set_cons_succ]
      clear hT v0
      have HB10 := Aside0.mk (below_step HB9.out hb10)
      have Kg7_8_9_10 := Aside0.mk (blk_below Kg7_8_9.out hb10)
      clear hb10
      go_upto_region 5 with fail
      refine Flow.seqT_head (E := fun u v => Below u.heap.size u v) 2 [(some 7, []), (some 8, [0]), (none, [1, 0, 1])] (fun iQ vQ wQ => match iQ with | 0 => vQ = (.int .i64 65536) | 1 => vQ = (.agg #[.slice none 0 0, .int .i64 65536, .int .i64 0, .int .i64 0]) | _ => True) rfl (by decide) (by kernel_rfl) (Below.refl _ _) (fun _ _ _ h k => h.trans (k.mono h.size)) (fun _ _ _ _ h _ => h) ?_ ?_
      · refine ⟨?_, ?_, trivial⟩
        · intro a w' hx hu hd K hK; have e0 : a.tmps.getD 0 undef = (.int .i64 65536) := hu 0 rfl; exact Flow.run1 rfl (Flow.r_move rfl e0) (hK _ _ (Below.refl _ _) rfl)
        · intro a w' hx hu hd K hK; have e7 := Flow.got (hd 0 rfl) 7 rfl; exact Flow.run1 rfl (bld45_1 rfl e7) (hK _ _ (Below.refl _ _) rfl)
      intro vs W11 hb11 hT
      have v0 := Flow.eqn (hT 0 (by decide))
      have v1 := Flow.eqn (hT 1 (by decide))
      simp only [Flow.putsT, v0, v1, Act.put, List.setIfInBounds_toArray, List.set_cons_zero, List.set_cons_succ, List.drop_succ_cons, List.drop_zero, List.take_succ_cons, List.take_zero]
      clear hT v0 v1
      have HB11 := Aside0.mk (below_step HB10.out hb11)
      have Kg7_8_9_10_11 := Aside0.mk (blk_below Kg7_8_9_10.out hb11)
      clear hb11
      refine Cells.store_whole rfl rfl 45 _ _ rfl g7 [.slice none 0 0, .int .i64 65536, .int .i64 0, .int .i64 0] #[.slice none 0 0, .int .i64 0, .int .i64 0, .int .i64 0] rfl rfl Kg7_8_9_10_11.out rfl size45 rfl ?_
      intro W12 hk12 hf12 hb12
      have HB12 := Aside0.mk (HB11.out.trans (hb12 _ Gg7.out))
      have Kg7_12 := Aside0.mk hk12
      clear hk12 hf12 hb12
      go_wp2_with fail
      exact bodyPost_ret (results_cell_row Try.results21 _ _ g7 45 _ _ _ rfl Kg7_12.out Try.underlying45 rfl size45) rfl ⟨rfl, HB12.out⟩
    · have H6 := Aside0.mk h6
      obtain rfl : r = room := by have := HRR.out; omega
      clear h0 h6
      go_enter Try.func21, Try.ntmps21
      go_upto_region 0 with fail
      refine wp_region_lit ?_
      refine ealloc rfl rfl zero45_is ?_
      intro g13 hg13 W13 hk13 hb13
      have Kg13 := Aside0.mk hk13
      have HB13 := Aside0.mk (hb13)
      clear hb13
      have Gg13 := Aside0.mk (show w.heap.size ≤ g13 by rw [hg13]; exact Nat.le_refl _)
      clear hg13 hk13
      simp only [Act.put, List.setIfInBounds_toArray, List.set_cons_zero, List.set_cons_succ]
      go_upto_region 1 with fail
      refine Flow.seqT (E := fun u v => Below u.heap.size u v) [(some 3, []), (some 4, [0])] (fun iQ vQ wQ => match iQ with | 0 => vQ = (.int .i64 r) | 1 => vQ = (.bool false) | _ => True) rfl (by kernel_rfl) (Below.refl _ _) (fun _ _ _ h k => h.trans (k.mono h.size)) (fun _ _ _ _ h _ => h) ?_ ?_
      · refine ⟨?_, ?_, trivial⟩
        · intro a w' hx hu hd K hK; have e0 : a.tmps.getD 0 undef = (.int .i64 r) := hu 0 rfl; exact Flow.run1 rfl (Flow.r_move rfl e0) (hK _ _ (Below.refl _ _) rfl)
        · intro a w' hx hu hd K hK; have e3 := Flow.got (hd 0 rfl) 3 rfl; exact Flow.run1 rfl (no (lss rfl e3 rfl) (decide_eq_false H0.out)) (hK _ _ (Below.refl _ _) rfl)
      intro vs W14 hb14 hT
      have v0 := Flow.eqn (hT 0 (by decide))
      have v1 := Flow.eqn (hT 1 (by decide))
      simp only [Flow.putsT, v0, v1, Act.put, List.setIfInBounds_toArray, List.set_cons_zero, List.set_cons_succ]
      clear hT v0 v1
      have HB14 := Aside0.mk (below_step HB13.out hb14)
      have Kg13_14 := Aside0.mk (blk_below Kg13.out hb14)
      clear hb14
      go_upto_region 3 with fail
      refine Flow.seqT (E := fun u v => Below u.heap.size u v) [(some 5, []), (some 6, [0])] (fun iQ vQ wQ => match iQ with | 0 => vQ = (.int .i64 r) | 1 => vQ = (.bool false) | _ => True) rfl (by kernel_rfl) (Below.refl _ _) (fun _ _ _ h k => h.trans (k.mono h.size)) (fun _ _ _ _ h _ => h) ?_ ?_
      · refine ⟨?_, ?_, trivial⟩
        · intro a w' hx hu hd K hK; have e0 : a.tmps.getD 0 undef = (.int .i64 r) := hu 0 rfl; exact Flow.run1 rfl (Flow.r_move rfl e0) (hK _ _ (Below.refl _ _) rfl)
        · intro a w' hx hu hd K hK; have e5 := Flow.got (hd 0 rfl) 5 rfl; exact Flow.run1 rfl (no (gtr rfl e5 rfl) (decide_eq_false H6.out)) (hK _ _ (Below.refl _ _) rfl)
      intro vs W15 hb15 hT
      have v0 := Flow.eqn (hT 0 (by decide))
      have v1 := Flow.eqn (hT 1 (by decide))
      simp only [Flow.putsT, v0, v1, Act.put, List.setIfInBounds_toArray, List.set_cons_zero, List.set_cons_succ]
      clear hT v0 v1
      have HB15 := Aside0.mk (below_step HB14.out hb15)
      have Kg13_14_15 := Aside0.mk (blk_below Kg13_14.out hb15)
      clear hb15
      go_upto_region 5 with fail
      refine Flow.seqT_head (E := fun u v => Below u.heap.size u v) 2 [(some 7, []), (some 8, [0]), (none, [1, 0, 1])] (fun iQ vQ wQ => match iQ with | 0 => vQ = (.int .i64 r) | 1 => vQ = (.agg #[.slice none 0 0, .int .i64 r, .int .i64 0, .int .i64 0]) | _ => True) rfl (by decide) (by kernel_rfl) (Below.refl _ _) (fun _ _ _ h k => h.trans (k.mono h.size)) (fun _ _ _ _ h _ => h) ?_ ?_
      · refine ⟨?_, ?_, trivial⟩
        · intro a w' hx hu hd K hK; have e0 : a.tmps.getD 0 undef = (.int .i64 r) := hu 0 rfl; exact Flow.run1 rfl (Flow.r_move rfl e0) (hK _ _ (Below.refl _ _) rfl)
        · intro a w' hx hu hd K hK; have e7 := Flow.got (hd 0 rfl) 7 rfl; exact Flow.run1 rfl (bld45_1 rfl e7) (hK _ _ (Below.refl _ _) rfl)
      intro vs W16 hb16 hT
      have v0 := Flow.eqn (hT 0 (by decide))
      have v1 := Flow.eqn (hT 1 (by decide))
      simp only [Flow.putsT, v0, v1, Act.put, List.setIfInBounds_toArray, List.set_cons_zero, List.set_cons_succ, List.drop_succ_cons, List.drop_zero, List.take_succ_cons, List.take_zero]
      clear hT v0 v1
      have HB16 := Aside0.mk (below_step HB15.out hb16)
      have Kg13_14_15_16 := Aside0.mk (blk_below Kg13_14_15.out hb16)
      clear hb16
      refine Cells.store_whole rfl rfl 45 _ _ rfl g13 [.slice none 0 0, .int .i64 r, .int .i64 0, .int .i64 0] #[.slice none 0 0, .int .i64 0, .int .i64 0, .int .i64 0] rfl rfl Kg13_14_15_16.out rfl size45 rfl ?_
      intro W17 hk17 hf17 hb17
      have HB17 := Aside0.mk (HB16.out.trans (hb17 _ Gg13.out))
      have Kg13_17 := Aside0.mk hk17
      clear hk17 hf17 hb17
      go_wp2_with fail
      exact bodyPost_ret (results_cell_row Try.results21 _ _ g13 45 _ _ _ rfl Kg13_17.out Try.underlying45 rfl size45) rfl ⟨rfl, HB17.out⟩
set_option maxHeartbeats 4000000 in
set_option maxRecDepth 100000 in
theorem rput_c (A : Option Addr) (c : Nat) (l t : List S58) (room : Nat) (hits misses : Int) (k : S36) (b : ByteArray) (kf : Nat) (ht : revetmentref35_without.f kf l k.f0 k.f1 k.f2 = some t) (w : World) (hC : Kd.C k58 w A l.length l) (hc : l.length ≤ c) (h0 : room ≤ 65536) (htl : t.length ≤ 1000000) : Calls Try.prog 23 #[.agg #[.slice A l.length c, .int .i64 room, .int .i64 hits, .int .i64 misses], kv k, .string b] w fun e w' => ∃ v, e = .returned (.agg #[v, .int .i64 room, .int .i64 hits, .int .i64 misses]) ∧ RPut w' w.heap.size v (.slice A l.length c) room k b t ∧ Below w.heap.size w w' := by
  unfold kv
  have HC := Aside0.mk hC
  have HCC := Aside0.mk hc
  have HTT := Aside0.mk ht
  have HTL := Aside0.mk htl
  clear hC hc ht htl
  obtain ⟨n, HN⟩ : ∃ q, Aside0 (l.length = q) := ⟨_, ⟨rfl⟩⟩
  rw [HN.out] at HC HCC
  rw [HN.out]
  by_cases hr0 : (room : Int) = 0
  · have HR0 := Aside0.mk hr0
    clear hr0
    go_enter Try.func23, Try.ntmps23
    go_upto_region 0 with fail
    refine wp_region_lit ?_
    refine ebox (v := (.agg #[.slice A n c, .int .i64 room, .int .i64 hits, .int .i64 misses])) rfl rfl rfl ?_
    intro g1 hg1 W1 hk1 hb1
    have Kg1 := Aside0.mk hk1
    have HB1 := Aside0.mk (hb1)
    clear hb1
    have Gg1 := Aside0.mk (show w.heap.size ≤ g1 by rw [hg1]; exact Nat.le_refl _)
    clear hg1 hk1
    simp only [Act.put, List.setIfInBounds_toArray, List.set_cons_zero, List.set_cons_succ]
    refine ebox (v := (.agg #[.int .i64 k.f0, .int .i64 k.f1, .int .i64 k.f2])) rfl rfl rfl ?_
    intro g2 hg2 W2 hk2 hb2
    have Kg2 := Aside0.mk hk2
    have Ng2_g1 := Aside0.mk (show g1 ≠ g2 by have := (Array.getElem?_eq_some_iff.1 Kg1.out).1; omega)
    have Ng1_g2 := Aside0.mk (Ne.symm Ng2_g1.out)
    have HB2 := Aside0.mk (below_step HB1.out hb2)
    have Kg1_2 := Aside0.mk (blk_below Kg1.out hb2)
    clear hb2
    have Gg2 := Aside0.mk (show w.heap.size ≤ g2 by rw [hg2]; exact HB1.out.size)
    clear hg2 hk2
    simp only [Act.put, List.setIfInBounds_toArray, List.set_cons_zero, List.set_cons_succ]
    refine ealloc rfl rfl zero45_is ?_
    intro g3 hg3 W3 hk3 hb3
    have Kg3 := Aside0.mk hk3
    have Ng3_g1 := Aside0.mk (show g1 ≠ g3 by have := (Array.getElem?_eq_some_iff.1 Kg1_2.out).1; omega)
    have Ng1_g3 := Aside0.mk (Ne.symm Ng3_g1.out)
    have Ng3_g2 := Aside0.mk (show g2 ≠ g3 by have := (Array.getElem?_eq_some_iff.1 Kg2.out).1; omega)
    have Ng2_g3 := Aside0.mk (Ne.symm Ng3_g2.out)
    have HB3 := Aside0.mk (below_step HB2.out hb3)
    have Kg1_2_3 := Aside0.mk (blk_below Kg1_2.out hb3)
    have Kg2_3 := Aside0.mk (blk_below Kg2.out hb3)
    clear hb3
    have Gg3 := Aside0.mk (show w.heap.size ≤ g3 by rw [hg3]; exact HB2.out.size)
    clear hg3 hk3
    simp only [Act.put, List.setIfInBounds_toArray, List.set_cons_zero, List.set_cons_succ]
    go_upto_region 1 with fail
    refine Flow.seqT (E := fun u v => Below u.heap.size u v) [(some 7, []), (some 8, [0]), (some 9, [1])] (fun iQ vQ wQ => match iQ with | 0 => vQ = (.pointer (some ⟨g1, 1, none⟩)) | 1 => vQ = (.int .i64 room) | 2 => vQ = (.bool true) | _ => True) rfl (by kernel_rfl) (Below.refl _ _) (fun _ _ _ h k => h.trans (k.mono h.size)) (fun _ _ _ _ h _ => h) ?_ ?_
    · refine ⟨?_, ?_, ?_, trivial⟩
      · intro a w' hx hu hd K hK; have e3 : a.tmps.getD 3 undef = (.pointer (some ⟨g1, 0, none⟩)) := hu 3 rfl; exact Flow.run1 rfl (fa rfl e3 (fa45_1 _ _ _)) (hK _ _ (Below.refl _ _) rfl)
      · intro a w' hx hu hd K hK; have e7 := Flow.got (hd 0 rfl) 7 rfl; exact Flow.run1 rfl (ld rfl e7 ((blk_cell (blk_below Kg1_2_3.out hx) 1).trans rfl) Try.underlying3 rfl) (hK _ _ (Below.refl _ _) rfl)
      · intro a w' hx hu hd K hK; have e8 := Flow.got (hd 1 rfl) 8 rfl; exact Flow.run1 rfl (yes (eql rfl e8 rfl) (beq_iff_eq.2 HR0.out)) (hK _ _ (Below.refl _ _) rfl)
    intro vs W4 hb4 hT
    have v0 := Flow.eqn (hT 0 (by decide))
    have v1 := Flow.eqn (hT 1 (by decide))
    have v2 := Flow.eqn (hT 2 (by decide))
    simp only [Flow.putsT, v0, v1, v2, Act.put, List.setIfInBounds_toArray, List.set_cons_zero, List.set_cons_succ]
    clear hT v0 v1 v2
    have HB4 := Aside0.mk (below_step HB3.out hb4)
    have Kg1_2_3_4 := Aside0.mk (blk_below Kg1_2_3.out hb4)
    have Kg2_3_4 := Aside0.mk (blk_below Kg2_3.out hb4)
    have Kg3_4 := Aside0.mk (blk_below Kg3.out hb4)
    clear hb4
    go_upto_region 2 with fail
    refine Flow.seqT_head (E := fun u v => Below u.heap.size u v) 1 [(some 10, []), (none, [0, 0])] (fun iQ vQ wQ => match iQ with | 0 => vQ = (.agg #[.slice A n c, .int .i64 room, .int .i64 hits, .int .i64 misses]) | _ => True) rfl (by decide) (by kernel_rfl) (Below.refl _ _) (fun _ _ _ h k => h.trans (k.mono h.size)) (fun _ _ _ _ h _ => h) ?_ ?_
    · refine ⟨?_, trivial⟩
      · intro a w' hx hu hd K hK; have e3 : a.tmps.getD 3 undef = (.pointer (some ⟨g1, 0, none⟩)) := hu 3 rfl; exact Flow.run1 rfl (ldrow rfl e3 (lies_block (blk_below Kg1_2_3_4.out hx)) Try.underlying45 rfl size45) (hK _ _ (Below.refl _ _) rfl)
    intro vs W5 hb5 hT
    have v0 := Flow.eqn (hT 0 (by decide))
    simp only [Flow.putsT, v0, Act.put, List.setIfInBounds_toArray, List.set_cons_zero, List.set_cons_succ, List.drop_succ_cons, List.drop_zero, List.take_succ_cons, List.take_zero]
    clear hT v0
    have HB5 := Aside0.mk (below_step HB4.out hb5)
    have Kg1_2_3_4_5 := Aside0.mk (blk_below Kg1_2_3_4.out hb5)
    have Kg2_3_4_5 := Aside0.mk (blk_below Kg2_3_4.out hb5)
    have Kg3_4_5 := Aside0.mk (blk_below Kg3_4.out hb5)
    clear hb5
    refine Cells.store_whole rfl rfl 45 _ _ rfl g3 [.slice A n c, .int .i64 room, .int .i64 hits, .int .i64 misses] #[.slice none 0 0, .int .i64 0, .int .i64 0, .int .i64 0] rfl rfl Kg3_4_5.out rfl size45 rfl ?_
    intro W6 hk6 hf6 hb6
    have HB6 := Aside0.mk (HB5.out.trans (hb6 _ Gg3.out))
    have Kg1_2_3_4_5_6 := Aside0.mk ((hf6 _ Ng3_g1.out).trans Kg1_2_3_4_5.out)
    have Kg2_3_4_5_6 := Aside0.mk ((hf6 _ Ng3_g2.out).trans Kg2_3_4_5.out)
    have Kg3_6 := Aside0.mk hk6
    clear hk6 hf6 hb6
    go_wp2_with fail
    exact bodyPost_ret (results_cell_row Try.results23 _ _ g3 45 _ _ _ rfl Kg3_6.out Try.underlying45 rfl size45) rfl ⟨_, rfl, .inl ⟨by have := HR0.out; omega, rfl⟩, HB6.out⟩
  · have HR0 := Aside0.mk hr0
    clear hr0
    go_enter Try.func23, Try.ntmps23
    go_upto_region 0 with fail
    refine wp_region_lit ?_
    refine ebox (v := (.agg #[.slice A n c, .int .i64 room, .int .i64 hits, .int .i64 misses])) rfl rfl rfl ?_
    intro g7 hg7 W7 hk7 hb7
    have Kg7 := Aside0.mk hk7
    have HB7 := Aside0.mk (hb7)
    clear hb7
    have Gg7 := Aside0.mk (show w.heap.size ≤ g7 by rw [hg7]; exact Nat.le_refl _)
    clear hg7 hk7
    simp only [Act.put, List.setIfInBounds_toArray, List.set_cons_zero, List.set_cons_succ]
    refine ebox (v := (.agg #[.int .i64 k.f0, .int .i64 k.f1, .int .i64 k.f2])) rfl rfl rfl ?_
    intro g8 hg8 W8 hk8 hb8
    have Kg8 := Aside0.mk hk8
    have Ng8_g7 := Aside0.mk (show g7 ≠ g8 by have := (Array.getElem?_eq_some_iff.1 Kg7.out).1; omega)
    have Ng7_g8 := Aside0.mk (Ne.symm Ng8_g7.out)
    have HB8 := Aside0.mk (below_step HB7.out hb8)
    have Kg7_8 := Aside0.mk (blk_below Kg7.out hb8)
    clear hb8
    have Gg8 := Aside0.mk (show w.heap.size ≤ g8 by rw [hg8]; exact HB7.out.size)
    clear hg8 hk8
    simp only [Act.put, List.setIfInBounds_toArray, List.set_cons_zero, List.set_cons_succ]
    refine ealloc rfl rfl zero45_is ?_
    intro g9 hg9 W9 hk9 hb9
    have Kg9 := Aside0.mk hk9
    have Ng9_g7 := Aside0.mk (show g7 ≠ g9 by have := (Array.getElem?_eq_some_iff.1 Kg7_8.out).1; omega)
    have Ng7_g9 := Aside0.mk (Ne.symm Ng9_g7.out)
    have Ng9_g8 := Aside0.mk (show g8 ≠ g9 by have := (Array.getElem?_eq_some_iff.1 Kg8.out).1; omega)
    have Ng8_g9 := Aside0.mk (Ne.symm Ng9_g8.out)
    have HB9 := Aside0.mk (below_step HB8.out hb9)
    have Kg7_8_9 := Aside0.mk (blk_below Kg7_8.out hb9)
    have Kg8_9 := Aside0.mk (blk_below Kg8.out hb9)
    clear hb9
    have Gg9 := Aside0.mk (show w.heap.size ≤ g9 by rw [hg9]; exact HB8.out.size)
    clear hg9 hk9
    simp only [Act.put, List.setIfInBounds_toArray, List.set_cons_zero, List.set_cons_succ]
    go_upto_region 1 with fail
    refine Flow.seqT (E := fun u v => Below u.heap.size u v) [(some 7, []), (some 8, [0]), (some 9, [1])] (fun iQ vQ wQ => match iQ with | 0 => vQ = (.pointer (some ⟨g7, 1, none⟩)) | 1 => vQ = (.int .i64 room) | 2 => vQ = (.bool false) | _ => True) rfl (by kernel_rfl) (Below.refl _ _) (fun _ _ _ h k => h.trans (k.mono h.size)) (fun _ _ _ _ h _ => h) ?_ ?_
    · refine ⟨?_, ?_, ?_, trivial⟩
      · intro a w' hx hu hd K hK; have e3 : a.tmps.getD 3 undef = (.pointer (some ⟨g7, 0, none⟩)) := hu 3 rfl; exact Flow.run1 rfl (fa rfl e3 (fa45_1 _ _ _)) (hK _ _ (Below.refl _ _) rfl)
      · intro a w' hx hu hd K hK; have e7 := Flow.got (hd 0 rfl) 7 rfl; exact Flow.run1 rfl (ld rfl e7 ((blk_cell (blk_below Kg7_8_9.out hx) 1).trans rfl) Try.underlying3 rfl) (hK _ _ (Below.refl _ _) rfl)
      · intro a w' hx hu hd K hK; have e8 := Flow.got (hd 1 rfl) 8 rfl; exact Flow.run1 rfl (no (eql rfl e8 rfl) (beq_eq_false_iff_ne.2 HR0.out)) (hK _ _ (Below.refl _ _) rfl)
    intro vs W10 hb10 hT
    have v0 := Flow.eqn (hT 0 (by decide))
    have v1 := Flow.eqn (hT 1 (by decide))
    have v2 := Flow.eqn (hT 2 (by decide))
    simp only [Flow.putsT, v0, v1, v2, Act.put, List.setIfInBounds_toArray, List.set_cons_zero, List.set_cons_succ]
    clear hT v0 v1 v2
    have HB10 := Aside0.mk (below_step HB9.out hb10)
    have Kg7_8_9_10 := Aside0.mk (blk_below Kg7_8_9.out hb10)
    have Kg8_9_10 := Aside0.mk (blk_below Kg8_9.out hb10)
    have Kg9_10 := Aside0.mk (blk_below Kg9.out hb10)
    clear hb10
    go_upto_region 3 with fail
    refine Flow.flowT_head (E := fun u v => Below u.heap.size u v) 8 [(some 11, []), (some 12, []), (some 13, [0, 1]), (some 14, [2]), (some 15, []), (some 16, [4]), (some 17, []), (some 18, [5, 6]), (some 19, [3, 7, 7]), (some 20, [0, 1, 2, 3, 4, 5, 6, 7, 8]), (none, [9, 8, 8, 0, 1, 2, 3, 4, 5, 6, 7, 8])] (fun iQ vQ wQ => match iQ with | 0 => vQ = (.agg #[.int .i64 k.f0, .int .i64 k.f1, .int .i64 k.f2]) | 1 => vQ = (.string b) | 2 => vQ = (.agg #[.int .i64 k.f0, .int .i64 k.f1, .int .i64 k.f2, .string b]) | 3 => SliceAt #[.int .i64 k.f0, .int .i64 k.f1, .int .i64 k.f2, .string b] 58 1 w.heap.size vQ wQ | 4 => vQ = (.pointer (some ⟨g7, 0, none⟩)) | 5 => vQ = (.slice A n c) | 6 => vQ = (.agg #[.int .i64 k.f0, .int .i64 k.f1, .int .i64 k.f2]) | 7 => Kd.R k58 58 wQ w.heap.size (fun _ => True) vQ t | _ => True) rfl (by kernel_rfl) (by kernel_rfl) (by kernel_rfl) ((Below.refl _ _).drew) (fun _ _ _ h k => h.trans (k.mono h.size)) (fun iQ vQ w1Q w2Q hQ hEQ => match iQ, hQ with | 0, hQ => hQ | 1, hQ => hQ | 2, hQ => hQ | 3, hQ => slice_below hQ hEQ | 4, hQ => hQ | 5, hQ => hQ | 6, hQ => hQ | 7, hQ => Kd.R_below hQ hEQ | _ + 8, _ => trivial) ?_ ?_
    · refine ⟨?_, ?_, ?_, ?_, ?_, ?_, ?_, ?_, trivial⟩
      · intro a w' hx hu hd K hK; have e4 : a.tmps.getD 4 undef = (.pointer (some ⟨g8, 0, none⟩)) := hu 4 rfl; exact Flow.run1 rfl (ldrow rfl e4 (lies_block (blk_below Kg8_9_10.out hx)) Try.underlying36 rfl size36) (hK _ _ (Below.refl _ _) rfl)
      · intro a w' hx hu hd K hK; have e2 : a.tmps.getD 2 undef = (.string b) := hu 2 rfl; exact Flow.run1 rfl (Flow.r_move rfl e2) (hK _ _ (Below.refl _ _) rfl)
      · intro a w' hx hu hd K hK; have e11 := Flow.got (hd 0 (by decide)) 11 rfl; have e12 := Flow.got (hd 1 (by decide)) 12 rfl; exact Flow.run1 rfl (bld58_0_1 rfl e11 e12) (hK _ _ (Below.refl _ _) rfl)
      · intro a w' hx hu hd K hK; have e13 := Flow.got (hd 2 (by decide)) 13 rfl; exact Flow.run1 rfl (row1_43 rfl e13) (hK _ _ (below_alloc (Below.refl _ _) _) (slice_new (Nat.le_trans (HB10.out).size (hx : Below _ _ _).size)))
      · intro a w' hx hu hd K hK; have e3 : a.tmps.getD 3 undef = (.pointer (some ⟨g7, 0, none⟩)) := hu 3 rfl; exact Flow.run1 rfl (fa rfl e3 (fa45_0 _ _ _)) (hK _ _ (Below.refl _ _) rfl)
      · intro a w' hx hu hd K hK; have e15 := Flow.got (hd 4 (by decide)) 15 rfl; exact Flow.run1 rfl (ld rfl e15 ((blk_cell (blk_below Kg7_8_9_10.out hx) 0).trans rfl) Try.underlying43 rfl) (hK _ _ (Below.refl _ _) rfl)
      · intro a w' hx hu hd K hK; have e4 : a.tmps.getD 4 undef = (.pointer (some ⟨g8, 0, none⟩)) := hu 4 rfl; exact Flow.run1 rfl (ldrow rfl e4 (lies_block (blk_below Kg8_9_10.out hx)) Try.underlying36 rfl size36) (hK _ _ (Below.refl _ _) rfl)
      · intro a w' hx hu hd K hK; have e16 := Flow.got (hd 5 (by decide)) 16 rfl; have e17 := Flow.got (hd 6 (by decide)) 17 rfl; refine Flow.want rfl ?_; refine Flow.val_call rfl Try.func40 (by kernel_rfl) rfl (by first | (simp only [List.map_toArray, List.map_cons, List.map_nil, Act.eval, e16, e17]; done) | (simp only [List.map_toArray, List.map_cons, List.map_nil, Act.eval, e16, e17]; rfl)) (without_n HN.out w' (Kd.C_below HC.out (below_step HB10.out hx)) HCC.out HTT.out) ?_; rintro e w2 ⟨v, rfl, hR, hb2⟩; exact ⟨_, rfl, hK _ _ hb2 (Kd.R_lower hR (Nat.le_trans HB10.out.size hx.size))⟩
    intro vs W11 hb11 hT
    have v0 := Flow.eqn (hT 0 (by decide))
    have v1 := Flow.eqn (hT 1 (by decide))
    have v2 := Flow.eqn (hT 2 (by decide))
    have v4 := Flow.eqn (hT 4 (by decide))
    have v5 := Flow.eqn (hT 5 (by decide))
    have v6 := Flow.eqn (hT 6 (by decide))
    obtain ⟨g11_3, v3, hge3, hk3⟩ : SliceAt _ _ _ _ _ _ := hT 3 (by decide)
    have Kg11_3 := Aside0.mk hk3
    have Gg11_3 := Aside0.mk hge3
    clear hk3 hge3
    obtain ⟨v7x, v7, HT⟩ : ∃ v : Value, _ = v ∧ Aside0 (Kd.R k58 58 _ w.heap.size (fun _ => True) v t) := ⟨_, rfl, ⟨hT 7 (by decide)⟩⟩
    simp only [Flow.putsT, v0, v1, v2, v3, v4, v5, v6, v7, Act.put, List.setIfInBounds_toArray, List.set_cons_zero, List.set_cons_succ, List.drop_succ_cons, List.drop_zero, List.take_succ_cons, List.take_zero]
    clear hT v0 v1 v2 v3 v4 v5 v6 v7
    have HB11 := Aside0.mk (below_step HB10.out hb11)
    have Kg7_8_9_10_11 := Aside0.mk (blk_below Kg7_8_9_10.out hb11)
    have Kg8_9_10_11 := Aside0.mk (blk_below Kg8_9_10.out hb11)
    have Kg9_10_11 := Aside0.mk (blk_below Kg9_10.out hb11)
    clear hb11
    obtain ⟨At, ct, hvt⟩ := Kd.R_slice HT.out
    subst hvt
    refine Kd.R_append_rows k58 (w0 := w) (Rr := k58.K W11) w.heap.size rfl (.tmp 14) (.tmp 18) 43 58 _ 40 rfl Try.underlying43 info58' rfl (by decide) (by decide) (.slice (some ⟨g11_3, 0, none⟩) 1 1) [(⟨k, b⟩ : S58)] t At t.length ct (fun _ => True) (fun _ => False) rfl rfl (R58_lit ⟨k, b⟩ Kg11_3.out Gg11_3.out) (Kd.R_reads' HT.out).2.2 (fun _ _ h => h) (fun _ h => h.elim) (fun _ _ => trivial) HB11.out HB11.out.size (by have := HTL.out; simp only [List.length_cons, List.length_nil]; omega) ?_
    intro v12 W12 hr12 hb12 hgr12 _
    obtain ⟨A1, c1, hv1⟩ := Kd.R_slice hr12
    subst hv1
    obtain ⟨n2, HN2⟩ : ∃ q, Aside0 (([(⟨k, b⟩ : S58)] ++ t).length = q) := ⟨_, ⟨rfl⟩⟩
    rw [HN2.out] at hr12
    have Kg7_8_9_10_11_12 := Aside0.mk (grown_blk hgr12 Kg7_8_9_10_11.out (ne_ty Kg11_3.out Kg7_8_9_10_11.out (by decide)))
    have Kg8_9_10_11_12 := Aside0.mk (grown_blk hgr12 Kg8_9_10_11.out (ne_ty Kg11_3.out Kg8_9_10_11.out (by decide)))
    have Kg9_10_11_12 := Aside0.mk (grown_blk hgr12 Kg9_10_11.out (ne_ty Kg11_3.out Kg9_10_11.out (by decide)))
    simp only [Act.put, List.setIfInBounds_toArray, List.set_cons_zero, List.set_cons_succ]
    rw [HN2.out]
    have HR1 := Aside0.mk hr12
    have HB12 := Aside0.mk hb12
    clear hr12 hb12 hgr12
    refine Flow.seqL (E := fun u v => Below u.heap.size u v) 9 1 [(some 11, []), (some 12, []), (some 13, [0, 1]), (some 14, [2]), (some 15, []), (some 16, [4]), (some 17, []), (some 18, [5, 6]), (some 19, [3, 7, 7]), (some 20, [0, 1, 2, 3, 4, 5, 6, 7, 8]), (none, [9, 8, 8, 0, 1, 2, 3, 4, 5, 6, 7, 8])] (fun iQ vQ wQ => match iQ with | 9 => vQ = (.pointer (some ⟨g7, 0, none⟩)) | _ => True) rfl (by decide) (by kernel_rfl) (Below.refl _ _) (fun _ _ _ h k => h.trans (k.mono h.size)) (fun _ _ _ _ h _ => h) ?_ ?_
    · refine ⟨?_, trivial⟩
      · intro a w' hx hu hd K hK; have e3 : a.tmps.getD 3 undef = (.pointer (some ⟨g7, 0, none⟩)) := hu 3 rfl; exact Flow.run1 rfl (fa rfl e3 (fa45_0 _ _ _)) (hK _ _ (Below.refl _ _) rfl)
    intro vs W13 hb13 hT
    have v9 := Flow.eqn (hT 9 (by decide) (by decide))
    simp only [Flow.putsT, v9, Act.put, List.setIfInBounds_toArray, List.set_cons_zero, List.set_cons_succ, List.drop_succ_cons, List.drop_zero, List.take_succ_cons, List.take_zero]
    clear hT v9
    have HB13 := Aside0.mk (below_step HB12.out hb13)
    have HR1_13 := Aside0.mk (Kd.R_below HR1.out hb13)
    have Kg7_8_9_10_11_12_13 := Aside0.mk (blk_below Kg7_8_9_10_11_12.out hb13)
    have Kg8_9_10_11_12_13 := Aside0.mk (blk_below Kg8_9_10_11_12.out hb13)
    have Kg9_10_11_12_13 := Aside0.mk (blk_below Kg9_10_11_12.out hb13)
    clear hb13
    refine put_event rfl rfl 43 _ _ rfl g7 (0) (.slice A1 n2 c1) #[.slice A n c, .int .i64 room, .int .i64 hits, .int .i64 misses] #[.slice A1 n2 c1, .int .i64 room, .int .i64 hits, .int .i64 misses] rfl rfl rfl size43 Kg7_8_9_10_11_12_13.out (show 0 < 4 by decide) rfl ?_
    intro W14 hk14 hf14 hb14
    have HR1_14 := Aside0.mk (R_far HR1_13.out Kg7_8_9_10_11_12_13.out (by decide) hf14)
    have HB14 := Aside0.mk (HB13.out.trans (hb14 _ Gg7.out))
    have Kg7_14 := Aside0.mk hk14
    have Kg8_9_10_11_12_13_14 := Aside0.mk ((hf14 _ Ng7_g8.out).trans Kg8_9_10_11_12_13.out)
    have Kg9_10_11_12_13_14 := Aside0.mk ((hf14 _ Ng7_g9.out).trans Kg9_10_11_12_13.out)
    clear hk14 hf14 hb14
    by_cases hov : (n2 : Int) > room
    · have HOV := Aside0.mk hov
      clear hov
      obtain ⟨hA, hncc, hcap⟩ := Kd.R_reads' HR1_14.out
      have hmc : room ≤ c1 := by have := HOV.out; omega
      have HTK := Aside0.mk (Kd.R_take HR1_14.out (m := room) (by have := HOV.out; have := HN2.out; omega))
      go_upto_region 4 with fail
      refine Flow.seqT (E := fun u v => Below u.heap.size u v) [(some 21, []), (some 22, [0]), (some 23, [1]), (some 24, []), (some 25, [3]), (some 26, [2, 4])] (fun iQ vQ wQ => match iQ with | 0 => vQ = (.pointer (some ⟨g7, 0, none⟩)) | 1 => vQ = (.slice A1 n2 c1) | 2 => vQ = (.int .i64 n2) | 3 => vQ = (.pointer (some ⟨g7, 1, none⟩)) | 4 => vQ = (.int .i64 room) | 5 => vQ = (.bool true) | _ => True) rfl (by kernel_rfl) (Below.refl _ _) (fun _ _ _ h k => h.trans (k.mono h.size)) (fun _ _ _ _ h _ => h) ?_ ?_
      · refine ⟨?_, ?_, ?_, ?_, ?_, ?_, trivial⟩
        · intro a w' hx hu hd K hK; have e3 : a.tmps.getD 3 undef = (.pointer (some ⟨g7, 0, none⟩)) := hu 3 rfl; exact Flow.run1 rfl (fa rfl e3 (fa45_0 _ _ _)) (hK _ _ (Below.refl _ _) rfl)
        · intro a w' hx hu hd K hK; have e21 := Flow.got (hd 0 rfl) 21 rfl; exact Flow.run1 rfl (ld rfl e21 ((blk_cell (blk_below Kg7_14.out hx) 0).trans rfl) Try.underlying43 rfl) (hK _ _ (Below.refl _ _) rfl)
        · intro a w' hx hu hd K hK; have e22 := Flow.got (hd 1 rfl) 22 rfl; exact Flow.run1 rfl (lenL Try.underlying43 rfl e22) (hK _ _ (Below.refl _ _) rfl)
        · intro a w' hx hu hd K hK; have e3 : a.tmps.getD 3 undef = (.pointer (some ⟨g7, 0, none⟩)) := hu 3 rfl; exact Flow.run1 rfl (fa rfl e3 (fa45_1 _ _ _)) (hK _ _ (Below.refl _ _) rfl)
        · intro a w' hx hu hd K hK; have e24 := Flow.got (hd 3 rfl) 24 rfl; exact Flow.run1 rfl (ld rfl e24 ((blk_cell (blk_below Kg7_14.out hx) 1).trans rfl) Try.underlying3 rfl) (hK _ _ (Below.refl _ _) rfl)
        · intro a w' hx hu hd K hK; have e23 := Flow.got (hd 2 rfl) 23 rfl; have e25 := Flow.got (hd 4 rfl) 25 rfl; exact Flow.run1 rfl (yes (gtr rfl e23 e25) (decide_eq_true HOV.out)) (hK _ _ (Below.refl _ _) rfl)
      intro vs W15 hb15 hT
      have v0 := Flow.eqn (hT 0 (by decide))
      have v1 := Flow.eqn (hT 1 (by decide))
      have v2 := Flow.eqn (hT 2 (by decide))
      have v3 := Flow.eqn (hT 3 (by decide))
      have v4 := Flow.eqn (hT 4 (by decide))
      have v5 := Flow.eqn (hT 5 (by decide))
      simp only [Flow.putsT, v0, v1, v2, v3, v4, v5, Act.put, List.setIfInBounds_toArray, List.set_cons_zero, List.set_cons_succ]
      clear hT v0 v1 v2 v3 v4 v5
      have HB15 := Aside0.mk (below_step HB14.out hb15)
      have HTK_15 := Aside0.mk (Kd.R_below HTK.out hb15)
      have Kg7_14_15 := Aside0.mk (blk_below Kg7_14.out hb15)
      have Kg8_9_10_11_12_13_14_15 := Aside0.mk (blk_below Kg8_9_10_11_12_13_14.out hb15)
      have Kg9_10_11_12_13_14_15 := Aside0.mk (blk_below Kg9_10_11_12_13_14.out hb15)
      clear hb15
      go_upto_region 5 with fail
      refine Flow.seqT_head (E := fun u v => Below u.heap.size u v) 6 [(some 27, []), (some 28, [0]), (some 29, []), (some 30, [2]), (some 31, [1, 3]), (some 32, [0, 1, 2, 3, 4]), (none, [5, 4, 0, 1, 2, 3, 4])] (fun iQ vQ wQ => match iQ with | 0 => vQ = (.pointer (some ⟨g7, 0, none⟩)) | 1 => vQ = (.slice A1 n2 c1) | 2 => vQ = (.pointer (some ⟨g7, 1, none⟩)) | 3 => vQ = (.int .i64 room) | 4 => vQ = (.slice A1 room c1) | 5 => vQ = (.pointer (some ⟨g7, 0, none⟩)) | _ => True) rfl (by decide) (by kernel_rfl) (Below.refl _ _) (fun _ _ _ h k => h.trans (k.mono h.size)) (fun _ _ _ _ h _ => h) ?_ ?_
      · refine ⟨?_, ?_, ?_, ?_, ?_, ?_, trivial⟩
        · intro a w' hx hu hd K hK; have e3 : a.tmps.getD 3 undef = (.pointer (some ⟨g7, 0, none⟩)) := hu 3 rfl; exact Flow.run1 rfl (fa rfl e3 (fa45_0 _ _ _)) (hK _ _ (Below.refl _ _) rfl)
        · intro a w' hx hu hd K hK; have e27 := Flow.got (hd 0 rfl) 27 rfl; exact Flow.run1 rfl (ld rfl e27 ((blk_cell (blk_below Kg7_14_15.out hx) 0).trans rfl) Try.underlying43 rfl) (hK _ _ (Below.refl _ _) rfl)
        · intro a w' hx hu hd K hK; have e3 : a.tmps.getD 3 undef = (.pointer (some ⟨g7, 0, none⟩)) := hu 3 rfl; exact Flow.run1 rfl (fa rfl e3 (fa45_1 _ _ _)) (hK _ _ (Below.refl _ _) rfl)
        · intro a w' hx hu hd K hK; have e29 := Flow.got (hd 2 rfl) 29 rfl; exact Flow.run1 rfl (ld rfl e29 ((blk_cell (blk_below Kg7_14_15.out hx) 1).trans rfl) Try.underlying3 rfl) (hK _ _ (Below.refl _ _) rfl)
        · intro a w' hx hu hd K hK; have e28 := Flow.got (hd 1 rfl) 28 rfl; have e30 := Flow.got (hd 3 rfl) 30 rfl; exact Flow.run1 rfl (headk Try.underlying43 (head_run w' A1 n2 c1 room hmc) rfl e28 e30) (hK _ _ (Below.refl _ _) rfl)
        · intro a w' hx hu hd K hK; have e3 : a.tmps.getD 3 undef = (.pointer (some ⟨g7, 0, none⟩)) := hu 3 rfl; exact Flow.run1 rfl (fa rfl e3 (fa45_0 _ _ _)) (hK _ _ (Below.refl _ _) rfl)
      intro vs W16 hb16 hT
      have v0 := Flow.eqn (hT 0 (by decide))
      have v1 := Flow.eqn (hT 1 (by decide))
      have v2 := Flow.eqn (hT 2 (by decide))
      have v3 := Flow.eqn (hT 3 (by decide))
      have v4 := Flow.eqn (hT 4 (by decide))
      have v5 := Flow.eqn (hT 5 (by decide))
      simp only [Flow.putsT, v0, v1, v2, v3, v4, v5, Act.put, List.setIfInBounds_toArray, List.set_cons_zero, List.set_cons_succ, List.drop_succ_cons, List.drop_zero, List.take_succ_cons, List.take_zero]
      clear hT v0 v1 v2 v3 v4 v5
      have HB16 := Aside0.mk (below_step HB15.out hb16)
      have HTK_16 := Aside0.mk (Kd.R_below HTK_15.out hb16)
      have Kg7_14_15_16 := Aside0.mk (blk_below Kg7_14_15.out hb16)
      have Kg8_9_10_11_12_13_14_15_16 := Aside0.mk (blk_below Kg8_9_10_11_12_13_14_15.out hb16)
      have Kg9_10_11_12_13_14_15_16 := Aside0.mk (blk_below Kg9_10_11_12_13_14_15.out hb16)
      clear hb16
      refine put_event rfl rfl 43 _ _ rfl g7 (0) (.slice A1 room c1) #[.slice A1 n2 c1, .int .i64 room, .int .i64 hits, .int .i64 misses] #[.slice A1 room c1, .int .i64 room, .int .i64 hits, .int .i64 misses] rfl rfl rfl size43 Kg7_14_15_16.out (show 0 < 4 by decide) rfl ?_
      intro W17 hk17 hf17 hb17
      have HTK_17 := Aside0.mk (R_far HTK_16.out Kg7_14_15_16.out (by decide) hf17)
      have HB17 := Aside0.mk (HB16.out.trans (hb17 _ Gg7.out))
      have Kg7_17 := Aside0.mk hk17
      have Kg8_9_10_11_12_13_14_15_16_17 := Aside0.mk ((hf17 _ Ng7_g8.out).trans Kg8_9_10_11_12_13_14_15_16.out)
      have Kg9_10_11_12_13_14_15_16_17 := Aside0.mk ((hf17 _ Ng7_g9.out).trans Kg9_10_11_12_13_14_15_16.out)
      clear hk17 hf17 hb17
      go_upto_region 6 with fail
      refine Flow.seqT_head (E := fun u v => Below u.heap.size u v) 1 [(some 33, []), (none, [0, 0])] (fun iQ vQ wQ => match iQ with | 0 => vQ = (.agg #[.slice A1 room c1, .int .i64 room, .int .i64 hits, .int .i64 misses]) | _ => True) rfl (by decide) (by kernel_rfl) (Below.refl _ _) (fun _ _ _ h k => h.trans (k.mono h.size)) (fun _ _ _ _ h _ => h) ?_ ?_
      · refine ⟨?_, trivial⟩
        · intro a w' hx hu hd K hK; have e3 : a.tmps.getD 3 undef = (.pointer (some ⟨g7, 0, none⟩)) := hu 3 rfl; exact Flow.run1 rfl (ldrow rfl e3 (lies_block (blk_below Kg7_17.out hx)) Try.underlying45 rfl size45) (hK _ _ (Below.refl _ _) rfl)
      intro vs W18 hb18 hT
      have v0 := Flow.eqn (hT 0 (by decide))
      simp only [Flow.putsT, v0, Act.put, List.setIfInBounds_toArray, List.set_cons_zero, List.set_cons_succ, List.drop_succ_cons, List.drop_zero, List.take_succ_cons, List.take_zero]
      clear hT v0
      have HB18 := Aside0.mk (below_step HB17.out hb18)
      have HTK_18 := Aside0.mk (Kd.R_below HTK_17.out hb18)
      have Kg7_17_18 := Aside0.mk (blk_below Kg7_17.out hb18)
      have Kg8_9_10_11_12_13_14_15_16_17_18 := Aside0.mk (blk_below Kg8_9_10_11_12_13_14_15_16_17.out hb18)
      have Kg9_10_11_12_13_14_15_16_17_18 := Aside0.mk (blk_below Kg9_10_11_12_13_14_15_16_17.out hb18)
      clear hb18
      refine Cells.store_whole rfl rfl 45 _ _ rfl g9 [.slice A1 room c1, .int .i64 room, .int .i64 hits, .int .i64 misses] #[.slice none 0 0, .int .i64 0, .int .i64 0, .int .i64 0] rfl rfl Kg9_10_11_12_13_14_15_16_17_18.out rfl size45 rfl ?_
      intro W19 hk19 hf19 hb19
      have HTK_19 := Aside0.mk (R_far HTK_18.out Kg9_10_11_12_13_14_15_16_17_18.out (by decide) hf19)
      have HB19 := Aside0.mk (HB18.out.trans (hb19 _ Gg9.out))
      have Kg7_17_18_19 := Aside0.mk ((hf19 _ Ng9_g7.out).trans Kg7_17_18.out)
      have Kg8_9_10_11_12_13_14_15_16_17_18_19 := Aside0.mk ((hf19 _ Ng9_g8.out).trans Kg8_9_10_11_12_13_14_15_16_17_18.out)
      have Kg9_19 := Aside0.mk hk19
      clear hk19 hf19 hb19
      go_wp2_with fail
      exact bodyPost_ret (results_cell_row Try.results23 _ _ g9 45 _ _ _ rfl Kg9_19.out Try.underlying45 rfl size45) rfl ⟨_, rfl, .inr ⟨by have := HR0.out; omega, by unfold rputL; rw [if_pos (by have := HOV.out; have := HN2.out; simp only [List.length_append, List.length_cons, List.length_nil] at this; omega)]; exact HTK_19.out⟩, HB19.out⟩
    · have HOV := Aside0.mk hov
      clear hov
      go_upto_region 4 with fail
      refine Flow.seqT (E := fun u v => Below u.heap.size u v) [(some 21, []), (some 22, [0]), (some 23, [1]), (some 24, []), (some 25, [3]), (some 26, [2, 4])] (fun iQ vQ wQ => match iQ with | 0 => vQ = (.pointer (some ⟨g7, 0, none⟩)) | 1 => vQ = (.slice A1 n2 c1) | 2 => vQ = (.int .i64 n2) | 3 => vQ = (.pointer (some ⟨g7, 1, none⟩)) | 4 => vQ = (.int .i64 room) | 5 => vQ = (.bool false) | _ => True) rfl (by kernel_rfl) (Below.refl _ _) (fun _ _ _ h k => h.trans (k.mono h.size)) (fun _ _ _ _ h _ => h) ?_ ?_
      · refine ⟨?_, ?_, ?_, ?_, ?_, ?_, trivial⟩
        · intro a w' hx hu hd K hK; have e3 : a.tmps.getD 3 undef = (.pointer (some ⟨g7, 0, none⟩)) := hu 3 rfl; exact Flow.run1 rfl (fa rfl e3 (fa45_0 _ _ _)) (hK _ _ (Below.refl _ _) rfl)
        · intro a w' hx hu hd K hK; have e21 := Flow.got (hd 0 rfl) 21 rfl; exact Flow.run1 rfl (ld rfl e21 ((blk_cell (blk_below Kg7_14.out hx) 0).trans rfl) Try.underlying43 rfl) (hK _ _ (Below.refl _ _) rfl)
        · intro a w' hx hu hd K hK; have e22 := Flow.got (hd 1 rfl) 22 rfl; exact Flow.run1 rfl (lenL Try.underlying43 rfl e22) (hK _ _ (Below.refl _ _) rfl)
        · intro a w' hx hu hd K hK; have e3 : a.tmps.getD 3 undef = (.pointer (some ⟨g7, 0, none⟩)) := hu 3 rfl; exact Flow.run1 rfl (fa rfl e3 (fa45_1 _ _ _)) (hK _ _ (Below.refl _ _) rfl)
        · intro a w' hx hu hd K hK; have e24 := Flow.got (hd 3 rfl) 24 rfl; exact Flow.run1 rfl (ld rfl e24 ((blk_cell (blk_below Kg7_14.out hx) 1).trans rfl) Try.underlying3 rfl) (hK _ _ (Below.refl _ _) rfl)
        · intro a w' hx hu hd K hK; have e23 := Flow.got (hd 2 rfl) 23 rfl; have e25 := Flow.got (hd 4 rfl) 25 rfl; exact Flow.run1 rfl (no (gtr rfl e23 e25) (decide_eq_false HOV.out)) (hK _ _ (Below.refl _ _) rfl)
      intro vs W20 hb20 hT
      have v0 := Flow.eqn (hT 0 (by decide))
      have v1 := Flow.eqn (hT 1 (by decide))
      have v2 := Flow.eqn (hT 2 (by decide))
      have v3 := Flow.eqn (hT 3 (by decide))
      have v4 := Flow.eqn (hT 4 (by decide))
      have v5 := Flow.eqn (hT 5 (by decide))
      simp only [Flow.putsT, v0, v1, v2, v3, v4, v5, Act.put, List.setIfInBounds_toArray, List.set_cons_zero, List.set_cons_succ]
      clear hT v0 v1 v2 v3 v4 v5
      have HB20 := Aside0.mk (below_step HB14.out hb20)
      have HR1_20 := Aside0.mk (Kd.R_below HR1_14.out hb20)
      have Kg7_14_20 := Aside0.mk (blk_below Kg7_14.out hb20)
      have Kg8_9_10_11_12_13_14_20 := Aside0.mk (blk_below Kg8_9_10_11_12_13_14.out hb20)
      have Kg9_10_11_12_13_14_20 := Aside0.mk (blk_below Kg9_10_11_12_13_14.out hb20)
      clear hb20
      go_upto_region 6 with fail
      refine Flow.seqT_head (E := fun u v => Below u.heap.size u v) 1 [(some 33, []), (none, [0, 0])] (fun iQ vQ wQ => match iQ with | 0 => vQ = (.agg #[.slice A1 n2 c1, .int .i64 room, .int .i64 hits, .int .i64 misses]) | _ => True) rfl (by decide) (by kernel_rfl) (Below.refl _ _) (fun _ _ _ h k => h.trans (k.mono h.size)) (fun _ _ _ _ h _ => h) ?_ ?_
      · refine ⟨?_, trivial⟩
        · intro a w' hx hu hd K hK; have e3 : a.tmps.getD 3 undef = (.pointer (some ⟨g7, 0, none⟩)) := hu 3 rfl; exact Flow.run1 rfl (ldrow rfl e3 (lies_block (blk_below Kg7_14_20.out hx)) Try.underlying45 rfl size45) (hK _ _ (Below.refl _ _) rfl)
      intro vs W21 hb21 hT
      have v0 := Flow.eqn (hT 0 (by decide))
      simp only [Flow.putsT, v0, Act.put, List.setIfInBounds_toArray, List.set_cons_zero, List.set_cons_succ, List.drop_succ_cons, List.drop_zero, List.take_succ_cons, List.take_zero]
      clear hT v0
      have HB21 := Aside0.mk (below_step HB20.out hb21)
      have HR1_21 := Aside0.mk (Kd.R_below HR1_20.out hb21)
      have Kg7_14_20_21 := Aside0.mk (blk_below Kg7_14_20.out hb21)
      have Kg8_9_10_11_12_13_14_20_21 := Aside0.mk (blk_below Kg8_9_10_11_12_13_14_20.out hb21)
      have Kg9_10_11_12_13_14_20_21 := Aside0.mk (blk_below Kg9_10_11_12_13_14_20.out hb21)
      clear hb21
      refine Cells.store_whole rfl rfl 45 _ _ rfl g9 [.slice A1 n2 c1, .int .i64 room, .int .i64 hits, .int .i64 misses] #[.slice none 0 0, .int .i64 0, .int .i64 0, .int .i64 0] rfl rfl Kg9_10_11_12_13_14_20_21.out rfl size45 rfl ?_
      intro W22 hk22 hf22 hb22
      have HR1_22 := Aside0.mk (R_far HR1_21.out Kg9_10_11_12_13_14_20_21.out (by decide) hf22)
      have HB22 := Aside0.mk (HB21.out.trans (hb22 _ Gg9.out))
      have Kg7_14_20_21_22 := Aside0.mk ((hf22 _ Ng9_g7.out).trans Kg7_14_20_21.out)
      have Kg8_9_10_11_12_13_14_20_21_22 := Aside0.mk ((hf22 _ Ng9_g8.out).trans Kg8_9_10_11_12_13_14_20_21.out)
      have Kg9_22 := Aside0.mk hk22
      clear hk22 hf22 hb22
      go_wp2_with fail
      exact bodyPost_ret (results_cell_row Try.results23 _ _ g9 45 _ _ _ rfl Kg9_22.out Try.underlying45 rfl size45) rfl ⟨_, rfl, .inr ⟨by have := HR0.out; omega, by unfold rputL; rw [if_neg (by have := HOV.out; have := HN2.out; simp only [List.length_append, List.length_cons, List.length_nil] at this; omega)]; exact HR1_22.out⟩, HB22.out⟩
end Go.Proofs.Ytlhmpmmblnbmbaa.Cac
