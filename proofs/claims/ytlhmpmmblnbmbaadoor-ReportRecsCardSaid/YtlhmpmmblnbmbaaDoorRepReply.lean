/- A reply as a text: the program's and the document's way. -/
import Derived.Test.YtlhmpmmblnbmbaaDoorRepRecP
import Derived.Test.YtlhmpmmblnbmbaaDoorRepZones
set_option linter.unusedVariables false
set_option linter.unusedSimpArgs false
namespace Go.Proofs.YtlhmpmmblnbmbaaDoor.Rep
open Go.Lib Go.RowKit Go.Proofs.YtlhmpmmblnbmbaaDoor.Ev Go.Proofs.YtlhmpmmblnbmbaaDoor.Cells Go.Proofs.YtlhmpmmblnbmbaaDoorW.PrintWords Go.Proofs.YtlhmpmmblnbmbaaDoorW.PrintLast Go.Proofs.YtlhmpmmblnbmbaaDoorW.PrintMore
section
variable {o : Oper} {a : Act}
theorem bld24 {w : World} (ho : o.op = .build 24 #[]) : (execOp a.eval o).run Tryd.prog w = .ok (.value (.agg #[.int .i64 0, .int .i64 0, .int .i64 0])) w := by
  have hu := Tryd.underlying24
  have hr : (Instr.build 24 #[]).run Tryd.prog w = .ok (.agg #[.int .i64 0, .int .i64 0, .int .i64 0]) w := by kernel_rfl
  unfold execOp
  simp only [ho, List.map_toArray, List.map_nil, Sem.run_bind, hr, Result.andThen_ok, Sem.run_pure]
theorem nes_one {w : World} {x y : Operand} {p0 p1 p2 q0 q1 q2 : Int} (ho : o.op = .binOp .neq 24 x y 24) (hx : a.eval x = .agg #[.int .i64 p0, .int .i64 p1, .int .i64 p2]) (hy : a.eval y = .agg #[.int .i64 q0, .int .i64 q1, .int .i64 q2]) : (execOp a.eval o).run Tryd.prog w = .ok (.value (.bool (!((p0 == q0) && (p1 == q1) && (p2 == q2))))) w := by
  have hu := Tryd.underlying24
  have hu3 := Tryd.underlying3
  unfold execOp
  simp only [ho, hx, hy]
  go_simp
  by_cases h1 : p0 = q0 <;> by_cases h2 : p1 = q1 <;> by_cases h3 : p2 = q2 <;> simp [h1, h2, h3]
end
theorem words_is (t : ByteArray) (l : List ByteArray) (v : Value) (w : World) (ht : t = wordsB l) (h : Strs w v l) (hn : l.length ≤ 140737488355328) (hlen : t.size ≤ 140737488355328) : Calls Tryd.prog 42 #[v] w fun e w' => e = .returned (.string t) ∧ Below w.heap.size w w' := by
  subst ht; exact words_c l v w h hn hlen
def repT (d : Nat) (s w g : Int) : List ByteArray := (if d > 0 then [itoaB d] else []) ++ (if s ≠ 0 ∨ w ≠ 0 ∨ g ≠ 0 then [stateB s, itoaB w] else [])
def replyB (e : Int) (d : Nat) (s w g : Int) : ByteArray := if e ≠ 0 then wordsB [⟨#[101, 114, 114, 111, 114]⟩, itoaB e] else wordsB ([(⟨#[111, 107]⟩ : ByteArray)] ++ (if d > 0 then [itoaB d] else []) ++ (if s ≠ 0 ∨ w ≠ 0 ∨ g ≠ 0 then [stateB s, itoaB w] else []))
theorem reply_eq (e : Int) (d : Nat) (s w g : Int) (h : ¬ e ≠ 0) : replyB e d s w g = (⟨#[111, 107]⟩ : ByteArray) ++ pc (decide (d > 0)) (itoaB d) ++ pc (decide (s ≠ 0 ∨ w ≠ 0 ∨ g ≠ 0)) (stateB s ++ ⟨#[32]⟩ ++ itoaB w) := by
  unfold replyB
  rw [if_neg h]
  by_cases h1 : d > 0 <;> by_cases h2 : (s ≠ 0 ∨ w ≠ 0 ∨ g ≠ 0)
  · rw [if_pos h1, if_pos h2, decide_eq_true h1, decide_eq_true h2, pc_t, pc_t]; simp only [List.cons_append, List.nil_append, wordsB_cons, wordsB_one, ByteArray.append_assoc]
  · rw [if_pos h1, if_neg h2, decide_eq_true h1, decide_eq_false h2, pc_t, pc_f]; simp only [List.cons_append, List.nil_append, List.append_nil, wordsB_cons, wordsB_one, ByteArray.append_assoc]
  · rw [if_neg h1, if_pos h2, decide_eq_false h1, decide_eq_true h2, pc_t, pc_f]; simp only [List.cons_append, List.nil_append, wordsB_cons, wordsB_one, ByteArray.append_assoc]
  · rw [if_neg h1, if_neg h2, decide_eq_false h1, decide_eq_false h2, pc_f, pc_f]; simp only [List.cons_append, List.nil_append, List.append_nil, wordsB_cons, wordsB_one, ByteArray.append_assoc]
theorem reply_size (e : Int) (d : Nat) (s w g : Int) (he : I64 e) (hd : I64 d) (hw : I64 w) : (replyB e d s w g).size ≤ 200 := by
  have a1 := itoa_size e he
  have a2 := itoa_size d hd
  have a3 := itoa_size w hw
  have a4 := state_size s
  have l1 : (⟨#[101, 114, 114, 111, 114]⟩ : ByteArray).size = 5 := rfl
  have l2 : ((⟨#[111, 107]⟩ : ByteArray)).size = 2 := rfl
  have l3 : (⟨#[32]⟩ : ByteArray).size = 1 := rfl
  have l4 : (⟨#[]⟩ : ByteArray).size = 0 := rfl
  by_cases h : e ≠ 0
  · unfold replyB; rw [if_pos h, wordsB_cons, wordsB_one, ByteArray.size_append, ByteArray.size_append]; omega
  · rw [reply_eq e d s w g h]
    unfold pc
    split <;> split <;> (simp only [ByteArray.size_append]; omega)
set_option maxHeartbeats 4000000 in
set_option maxRecDepth 100000 in
theorem rreply_c (er s wp g : Int) (l : List Int) (A : Option Addr) (c : Nat) (her : I64 er) (hwp : I64 wp) (hn : l.length ≤ 100000) (w : World) : Calls Tryd.prog 24 #[.agg #[.int .i64 er, .slice A l.length c, .int .i64 s, .int .i64 wp, .int .i64 g]] w fun e w' => e = .returned (.string (replyB er l.length s wp g)) ∧ Below w.heap.size w w' := by
  have hln : I64 (l.length : Int) := by unfold I64; omega
  by_cases h0 : er ≠ 0
  · rw [show replyB er l.length s wp g = (⟨#[101, 114, 114, 111, 114, 32]⟩ : ByteArray) ++ itoaB er by unfold replyB; rw [if_pos h0, wordsB_cons, wordsB_one]; apply ByteArray.ext; apply Array.toList_inj.1; simp]
    go_enter Tryd.func24, Tryd.ntmps24
    go_upto_region 0 with fail
    refine wp_region_lit ?_
    refine ebox (v := (.agg #[.int .i64 er, .slice A l.length c, .int .i64 s, .int .i64 wp, .int .i64 g])) rfl rfl rfl ?_
    intro g1 hg1 W1 hk1 hb1
    have Kg1 := Aside0.mk hk1
    have HB1 := Aside0.mk hb1
    clear hb1
    have Gg1 := Aside0.mk (show w.heap.size ≤ g1 by rw [hg1]; exact Nat.le_refl _)
    clear hg1 hk1
    simp only [Act.put, List.setIfInBounds_toArray, List.set_cons_zero, List.set_cons_succ]
    refine Flow.seqL (E := fun u v => Below u.heap.size u v) 1 1 [(some 1, []), (some 2, [])] (fun iQ vQ wQ => match iQ with | 1 => vQ = (.string ⟨#[]⟩) | _ => True) rfl (by decide) (by kernel_rfl) (Below.refl _ _) (fun _ _ _ h k => h.trans (k.mono h.size)) (fun _ _ _ _ h _ => h) ?_ ?_
    · refine ⟨?_, trivial⟩
      · intro a w' hx hu hd K hK; exact Flow.run1 rfl (Flow.r_assign rfl rfl) (hK _ _ (Below.refl _ _) rfl)
    · intro vs W2 hb2 hT
      have v1 := Flow.eqn (hT 1 (by decide) (by decide))
      simp only [Flow.putsT, v1, Act.put, List.setIfInBounds_toArray, List.set_cons_zero, List.set_cons_succ, List.drop_succ_cons, List.drop_zero, List.take_succ_cons, List.take_zero]
      clear hT v1
      have HB2 := Aside0.mk (below_step HB1.out hb2)
      have Kg1_2 := Aside0.mk (blk_below Kg1.out hb2)
      clear hb2
      go_upto_region 1 with fail
      refine Flow.seqT (E := fun u v => Below u.heap.size u v) [(some 4, []), (some 5, [0]), (some 6, [1])] (fun iQ vQ wQ => match iQ with | 0 => vQ = (.pointer (some ⟨g1, 0, none⟩)) | 1 => vQ = (.int .i64 er) | 2 => vQ = (.bool true) | _ => True) rfl (by kernel_rfl) (Below.refl _ _) (fun _ _ _ h k => h.trans (k.mono h.size)) (fun _ _ _ _ h _ => h) ?_ ?_
      · refine ⟨?_, ?_, ?_, trivial⟩
        · intro a w' hx hu hd K hK; have e1 : a.tmps.getD 1 undef = (.pointer (some ⟨g1, 0, none⟩)) := hu 1 rfl; exact Flow.run1 rfl (fa rfl e1 (fa48_0 _ _ _)) (hK _ _ (Below.refl _ _) rfl)
        · intro a w' hx hu hd K hK; have e4 := Flow.got (hd 0 rfl) 4 rfl; exact Flow.run1 rfl (ld rfl e4 ((blk_cell (blk_below Kg1_2.out hx) 0).trans rfl) Tryd.underlying46 rfl) (hK _ _ (Below.refl _ _) rfl)
        · intro a w' hx hu hd K hK; have e5 := Flow.got (hd 1 rfl) 5 rfl; exact Flow.run1 rfl (yes (neq rfl e5 rfl) (bne_iff_ne.2 h0)) (hK _ _ (Below.refl _ _) rfl)
      · intro vs W3 hb3 hT
        have v0 := Flow.eqn (hT 0 (by decide))
        have v1 := Flow.eqn (hT 1 (by decide))
        have v2 := Flow.eqn (hT 2 (by decide))
        simp only [Flow.putsT, v0, v1, v2, Act.put, List.setIfInBounds_toArray, List.set_cons_zero, List.set_cons_succ]
        clear hT v0 v1 v2
        have HB3 := Aside0.mk (below_step HB2.out hb3)
        have Kg1_2_3 := Aside0.mk (blk_below Kg1_2.out hb3)
        clear hb3
        go_upto_region 2 with fail
        obtain ⟨t4_3, Ht4_3⟩ : ∃ tQ, Aside0 ((⟨#[101, 114, 114, 111, 114, 32]⟩ : ByteArray) ++ itoaB er = tQ) := ⟨_, ⟨rfl⟩⟩
        have zt4_3 : t4_3.size ≤ 27 := Ht4_3.out ▸ szapp (Nat.le_refl 6) (itoa_size er her) (by decide)
        refine Flow.seqT (E := fun u v => Below u.heap.size u v) [(some 7, []), (some 8, [0]), (some 9, [1]), (some 10, [2]), (some 2, [3, 2, 0, 1, 2, 3])] (fun iQ vQ wQ => match iQ with | 0 => vQ = (.pointer (some ⟨g1, 0, none⟩)) | 1 => vQ = (.int .i64 er) | 2 => vQ = (.string (itoaB er)) | 3 => vQ = (.string t4_3) | 4 => vQ = (.string t4_3) | _ => True) rfl (by kernel_rfl) (Below.refl _ _) (fun _ _ _ h k => h.trans (k.mono h.size)) (fun _ _ _ _ h _ => h) ?_ ?_
        · refine ⟨?_, ?_, ?_, ?_, ?_, trivial⟩
          · intro a w' hx hu hd K hK; have e1 : a.tmps.getD 1 undef = (.pointer (some ⟨g1, 0, none⟩)) := hu 1 rfl; exact Flow.run1 rfl (fa rfl e1 (fa48_0 _ _ _)) (hK _ _ (Below.refl _ _) rfl)
          · intro a w' hx hu hd K hK; have e7 := Flow.got (hd 0 rfl) 7 rfl; exact Flow.run1 rfl (ld rfl e7 ((blk_cell (blk_below Kg1_2_3.out hx) 0).trans rfl) Tryd.underlying46 rfl) (hK _ _ (Below.refl _ _) rfl)
          · intro a w' hx hu hd K hK; have e8 := Flow.got (hd 1 rfl) 8 rfl; refine Flow.want rfl ?_; refine Flow.val_call rfl Tryd.func38 (by kernel_rfl) rfl (by first | (simp only [List.map_toArray, List.map_cons, List.map_nil, Act.eval, e8]; done) | (simp only [List.map_toArray, List.map_cons, List.map_nil, Act.eval, e8]; rfl)) (rnum_c er her w') ?_; rintro e w2 ⟨rfl, hb2⟩; exact ⟨_, rfl, hK _ _ hb2 (by rfl)⟩
          · intro a w' hx hu hd K hK; have e9 := Flow.got (hd 2 rfl) 9 rfl; exact Flow.run1 rfl (Ht4_3.out ▸ cat rfl rfl e9 (Nat.le_refl 6) (itoa_size er her) (by decide)) (hK _ _ (Below.refl _ _) rfl)
          · intro a w' hx hu hd K hK; have e10 := Flow.got (hd 3 rfl) 10 rfl; exact Flow.run1 rfl (Flow.r_assign rfl e10) (hK _ _ (Below.refl _ _) rfl)
        · intro vs W4 hb4 hT
          have v0 := Flow.eqn (hT 0 (by decide))
          have v1 := Flow.eqn (hT 1 (by decide))
          have v2 := Flow.eqn (hT 2 (by decide))
          have v3 := Flow.eqn (hT 3 (by decide))
          have v4 := Flow.eqn (hT 4 (by decide))
          simp only [Flow.putsT, v0, v1, v2, v3, v4, Act.put, List.setIfInBounds_toArray, List.set_cons_zero, List.set_cons_succ]
          clear hT v0 v1 v2 v3 v4
          have HB4 := Aside0.mk (below_step HB3.out hb4)
          have Kg1_2_3_4 := Aside0.mk (blk_below Kg1_2_3.out hb4)
          clear hb4
          go_wp2
          go_ret
          exact ⟨by simp only [← Ht4_3.out]; rfl, HB4.out⟩
  · rw [reply_eq _ _ _ _ _ h0]
    go_enter Tryd.func24, Tryd.ntmps24
    go_upto_region 0 with fail
    refine wp_region_lit ?_
    refine ebox (v := (.agg #[.int .i64 er, .slice A l.length c, .int .i64 s, .int .i64 wp, .int .i64 g])) rfl rfl rfl ?_
    intro g5 hg5 W5 hk5 hb5
    have Kg5 := Aside0.mk hk5
    have HB5 := Aside0.mk hb5
    clear hb5
    have Gg5 := Aside0.mk (show w.heap.size ≤ g5 by rw [hg5]; exact Nat.le_refl _)
    clear hg5 hk5
    simp only [Act.put, List.setIfInBounds_toArray, List.set_cons_zero, List.set_cons_succ]
    refine Flow.seqL (E := fun u v => Below u.heap.size u v) 1 1 [(some 1, []), (some 2, [])] (fun iQ vQ wQ => match iQ with | 1 => vQ = (.string ⟨#[]⟩) | _ => True) rfl (by decide) (by kernel_rfl) (Below.refl _ _) (fun _ _ _ h k => h.trans (k.mono h.size)) (fun _ _ _ _ h _ => h) ?_ ?_
    · refine ⟨?_, trivial⟩
      · intro a w' hx hu hd K hK; exact Flow.run1 rfl (Flow.r_assign rfl rfl) (hK _ _ (Below.refl _ _) rfl)
    · intro vs W6 hb6 hT
      have v1 := Flow.eqn (hT 1 (by decide) (by decide))
      simp only [Flow.putsT, v1, Act.put, List.setIfInBounds_toArray, List.set_cons_zero, List.set_cons_succ, List.drop_succ_cons, List.drop_zero, List.take_succ_cons, List.take_zero]
      clear hT v1
      have HB6 := Aside0.mk (below_step HB5.out hb6)
      have Kg5_6 := Aside0.mk (blk_below Kg5.out hb6)
      clear hb6
      go_upto_region 1 with fail
      refine Flow.seqT (E := fun u v => Below u.heap.size u v) [(some 4, []), (some 5, [0]), (some 6, [1])] (fun iQ vQ wQ => match iQ with | 0 => vQ = (.pointer (some ⟨g5, 0, none⟩)) | 1 => vQ = (.int .i64 er) | 2 => vQ = (.bool false) | _ => True) rfl (by kernel_rfl) (Below.refl _ _) (fun _ _ _ h k => h.trans (k.mono h.size)) (fun _ _ _ _ h _ => h) ?_ ?_
      · refine ⟨?_, ?_, ?_, trivial⟩
        · intro a w' hx hu hd K hK; have e1 : a.tmps.getD 1 undef = (.pointer (some ⟨g5, 0, none⟩)) := hu 1 rfl; exact Flow.run1 rfl (fa rfl e1 (fa48_0 _ _ _)) (hK _ _ (Below.refl _ _) rfl)
        · intro a w' hx hu hd K hK; have e4 := Flow.got (hd 0 rfl) 4 rfl; exact Flow.run1 rfl (ld rfl e4 ((blk_cell (blk_below Kg5_6.out hx) 0).trans rfl) Tryd.underlying46 rfl) (hK _ _ (Below.refl _ _) rfl)
        · intro a w' hx hu hd K hK; have e5 := Flow.got (hd 1 rfl) 5 rfl; exact Flow.run1 rfl (no (neq rfl e5 rfl) (bne_eq_false_iff_eq.2 (Decidable.not_not.1 h0))) (hK _ _ (Below.refl _ _) rfl)
      · intro vs W7 hb7 hT
        have v0 := Flow.eqn (hT 0 (by decide))
        have v1 := Flow.eqn (hT 1 (by decide))
        have v2 := Flow.eqn (hT 2 (by decide))
        simp only [Flow.putsT, v0, v1, v2, Act.put, List.setIfInBounds_toArray, List.set_cons_zero, List.set_cons_succ]
        clear hT v0 v1 v2
        have HB7 := Aside0.mk (below_step HB6.out hb7)
        have Kg5_6_7 := Aside0.mk (blk_below Kg5_6.out hb7)
        clear hb7
        go_upto_region 3 with fail
        refine Flow.seqT (E := fun u v => Below u.heap.size u v) [(some 3, [])] (fun iQ vQ wQ => match iQ with | 0 => vQ = (.string ⟨#[111, 107]⟩) | _ => True) rfl (by kernel_rfl) (Below.refl _ _) (fun _ _ _ h k => h.trans (k.mono h.size)) (fun _ _ _ _ h _ => h) ?_ ?_
        · refine ⟨?_, trivial⟩
          · intro a w' hx hu hd K hK; exact Flow.run1 rfl (Flow.r_assign rfl rfl) (hK _ _ (Below.refl _ _) rfl)
        · intro vs W9 hb9 hT
          have v0 := Flow.eqn (hT 0 (by decide))
          simp only [Flow.putsT, v0, Act.put, List.setIfInBounds_toArray, List.set_cons_zero, List.set_cons_succ]
          clear hT v0
          have HB9 := Aside0.mk hb9
          clear hb9
          obtain ⟨c1, Hc1⟩ : ∃ b, Aside0 (decide (l.length > 0) = b) := ⟨_, ⟨rfl⟩⟩
          go_upto_region 4 with fail
          refine Flow.seqT (E := fun u v => Below u.heap.size u v) [(some 11, []), (some 12, [0]), (some 13, [1]), (some 14, [2])] (fun iQ vQ wQ => match iQ with | 0 => vQ = (.pointer (some ⟨g5, 1, none⟩)) | 1 => vQ = (.slice A l.length c) | 2 => vQ = (.int .i64 l.length) | 3 => vQ = (.bool c1) | _ => True) rfl (by kernel_rfl) (Below.refl _ _) (fun _ _ _ h k => h.trans (k.mono h.size)) (fun _ _ _ _ h _ => h) ?_ ?_
          · refine ⟨?_, ?_, ?_, ?_, trivial⟩
            · intro a w' hx hu hd K hK; have e1 : a.tmps.getD 1 undef = (.pointer (some ⟨g5, 0, none⟩)) := hu 1 rfl; exact Flow.run1 rfl (fa rfl e1 (fa48_1 _ _ _)) (hK _ _ (Below.refl _ _) rfl)
            · intro a w' hx hu hd K hK; have e11 := Flow.got (hd 0 rfl) 11 rfl; exact Flow.run1 rfl (ld rfl e11 ((blk_cell (blk_below Kg5_6_7.out (below_step HB9.out hx)) 1).trans rfl) Tryd.underlying43 rfl) (hK _ _ (Below.refl _ _) rfl)
            · intro a w' hx hu hd K hK; have e12 := Flow.got (hd 1 rfl) 12 rfl; exact Flow.run1 rfl (lenL Tryd.underlying43 rfl e12) (hK _ _ (Below.refl _ _) rfl)
            · intro a w' hx hu hd K hK; have e13 := Flow.got (hd 2 rfl) 13 rfl; exact Flow.run1 rfl (is (gtr rfl e13 rfl) ((show decide (((l.length : Nat) : Int) > 0) = decide (l.length > 0) from by rw [Bool.eq_iff_iff]; simp only [decide_eq_true_eq]; omega).trans Hc1.out)) (hK _ _ (Below.refl _ _) rfl)
          · intro vs W10 hb10 hT
            have v0 := Flow.eqn (hT 0 (by decide))
            have v1 := Flow.eqn (hT 1 (by decide))
            have v2 := Flow.eqn (hT 2 (by decide))
            have v3 := Flow.eqn (hT 3 (by decide))
            simp only [Flow.putsT, v0, v1, v2, v3, Act.put, List.setIfInBounds_toArray, List.set_cons_zero, List.set_cons_succ]
            clear hT v0 v1 v2 v3
            have HB10 := Aside0.mk (below_step HB9.out hb10)
            clear hb10
            go_upto_if 14 with fail
            go_cut [3] (fun v wx => ∃ t2 : ByteArray, v = .string t2 ∧ Aside0 (t2.size ≤ 24) ∧ Aside0 (t2 = (⟨#[111, 107]⟩ : ByteArray) ++ pc c1 (itoaB l.length)) ∧ Aside0 (Below W7.heap.size W7 wx))
            case first =>
              cases c1 with
              | true =>
                go_upto_region 5 with fail
                obtain ⟨t11_1, Ht11_1⟩ : ∃ tQ, Aside0 ((⟨#[111, 107]⟩ : ByteArray) ++ ⟨#[32]⟩ = tQ) := ⟨_, ⟨rfl⟩⟩
                have zt11_1 : t11_1.size ≤ 3 := Ht11_1.out ▸ szapp (Nat.le_refl 2) (Nat.le_refl 1) (by decide)
                obtain ⟨t11_6, Ht11_6⟩ : ∃ tQ, Aside0 (t11_1 ++ itoaB l.length = tQ) := ⟨_, ⟨rfl⟩⟩
                have zt11_6 : t11_6.size ≤ 24 := Ht11_6.out ▸ szapp zt11_1 (itoa_size l.length hln) (by decide)
                refine Flow.seqT (E := fun u v => Below u.heap.size u v) [(some 15, []), (some 16, [0]), (some 17, []), (some 18, [2]), (some 19, [3]), (some 20, [4]), (some 21, [1, 5]), (some 3, [6, 5, 0, 1, 2, 3, 4, 5, 6])] (fun iQ vQ wQ => match iQ with | 0 => vQ = (.string ⟨#[111, 107]⟩) | 1 => vQ = (.string t11_1) | 2 => vQ = (.pointer (some ⟨g5, 1, none⟩)) | 3 => vQ = (.slice A l.length c) | 4 => vQ = (.int .i64 l.length) | 5 => vQ = (.string (itoaB l.length)) | 6 => vQ = (.string t11_6) | 7 => vQ = (.string t11_6) | _ => True) rfl (by kernel_rfl) (Below.refl _ _) (fun _ _ _ h k => h.trans (k.mono h.size)) (fun _ _ _ _ h _ => h) ?_ ?_
                · refine ⟨?_, ?_, ?_, ?_, ?_, ?_, ?_, ?_, trivial⟩
                  · intro a w' hx hu hd K hK; have e3 : a.tmps.getD 3 undef = (.string ⟨#[111, 107]⟩) := hu 3 rfl; exact Flow.run1 rfl (Flow.r_move rfl e3) (hK _ _ (Below.refl _ _) rfl)
                  · intro a w' hx hu hd K hK; have e15 := Flow.got (hd 0 rfl) 15 rfl; exact Flow.run1 rfl (Ht11_1.out ▸ cat rfl e15 rfl (Nat.le_refl 2) (Nat.le_refl 1) (by decide)) (hK _ _ (Below.refl _ _) rfl)
                  · intro a w' hx hu hd K hK; have e1 : a.tmps.getD 1 undef = (.pointer (some ⟨g5, 0, none⟩)) := hu 1 rfl; exact Flow.run1 rfl (fa rfl e1 (fa48_1 _ _ _)) (hK _ _ (Below.refl _ _) rfl)
                  · intro a w' hx hu hd K hK; have e17 := Flow.got (hd 2 rfl) 17 rfl; exact Flow.run1 rfl (ld rfl e17 ((blk_cell (blk_below Kg5_6_7.out (below_step HB10.out hx)) 1).trans rfl) Tryd.underlying43 rfl) (hK _ _ (Below.refl _ _) rfl)
                  · intro a w' hx hu hd K hK; have e18 := Flow.got (hd 3 rfl) 18 rfl; exact Flow.run1 rfl (lenL Tryd.underlying43 rfl e18) (hK _ _ (Below.refl _ _) rfl)
                  · intro a w' hx hu hd K hK; have e19 := Flow.got (hd 4 rfl) 19 rfl; refine Flow.want rfl ?_; refine Flow.val_call rfl Tryd.func38 (by kernel_rfl) rfl (by first | (simp only [List.map_toArray, List.map_cons, List.map_nil, Act.eval, e19]; done) | (simp only [List.map_toArray, List.map_cons, List.map_nil, Act.eval, e19]; rfl)) (rnum_c l.length hln w') ?_; rintro e w2 ⟨rfl, hb2⟩; exact ⟨_, rfl, hK _ _ hb2 (by rfl)⟩
                  · intro a w' hx hu hd K hK; have e16 := Flow.got (hd 1 rfl) 16 rfl; have e20 := Flow.got (hd 5 rfl) 20 rfl; exact Flow.run1 rfl (Ht11_6.out ▸ cat rfl e16 e20 zt11_1 (itoa_size l.length hln) (by decide)) (hK _ _ (Below.refl _ _) rfl)
                  · intro a w' hx hu hd K hK; have e21 := Flow.got (hd 6 rfl) 21 rfl; exact Flow.run1 rfl (Flow.r_assign rfl e21) (hK _ _ (Below.refl _ _) rfl)
                · intro vs W11 hb11 hT
                  have v0 := Flow.eqn (hT 0 (by decide))
                  have v1 := Flow.eqn (hT 1 (by decide))
                  have v2 := Flow.eqn (hT 2 (by decide))
                  have v3 := Flow.eqn (hT 3 (by decide))
                  have v4 := Flow.eqn (hT 4 (by decide))
                  have v5 := Flow.eqn (hT 5 (by decide))
                  have v6 := Flow.eqn (hT 6 (by decide))
                  have v7 := Flow.eqn (hT 7 (by decide))
                  simp only [Flow.putsT, v0, v1, v2, v3, v4, v5, v6, v7, Act.put, List.setIfInBounds_toArray, List.set_cons_zero, List.set_cons_succ]
                  clear hT v0 v1 v2 v3 v4 v5 v6 v7
                  have HB11 := Aside0.mk (below_step HB10.out hb11)
                  clear hb11
                  go_wp2_with fail
                  go_meet
                  exact ⟨_, rfl, ⟨Nat.le_trans zt11_6 (by decide)⟩, ⟨by rw [← Ht11_6.out, ← Ht11_1.out, pc_t]; (try simp only [ByteArray.append_assoc])⟩, HB11⟩
              | false =>
                go_wp2_with fail
                go_meet
                exact ⟨_, rfl, ⟨Nat.le_trans (Nat.le_refl 2) (by decide)⟩, ⟨by rw [pc_f]⟩, HB10⟩
            case rest =>
              clear HB10
              obtain ⟨t12, rfl, Zt12, HE12, HBc12⟩ := hcut
              have zt12 := Zt12.out
              clear Zt12
              obtain ⟨c2, Hc2⟩ : ∃ b, Aside0 (decide (s ≠ 0 ∨ wp ≠ 0 ∨ g ≠ 0) = b) := ⟨_, ⟨rfl⟩⟩
              go_upto_region 6 with fail
              go_cut [37] (fun v wx => v = .bool c2 ∧ Aside0 (Below W7.heap.size W7 wx))
              case first =>
                by_cases h1 : s ≠ 0
                · skip
                  refine Flow.seqT (E := fun u v => Below u.heap.size u v) [(some 22, []), (some 23, [0]), (some 24, [1]), (some 25, [2]), (some 26, [3]), (some 27, [4]), (some 28, [5, 4]), (some 29, [6, 4]), (some 30, [7, 4]), (some 31, [4, 8]), (some 32, [9, 4]), (some 33, [10]), (some 34, [11, 10]), (some 35, [12, 10]), (some 36, [13, 10]), (some 37, [10, 14])] (fun iQ vQ wQ => match iQ with | 0 => vQ = (.pointer (some ⟨g5, 2, none⟩)) | 1 => vQ = (.pointer (some ⟨g5, 2, none⟩)) | 2 => vQ = (.int .i64 s) | 3 => vQ = (.bool true) | 4 => vQ = (.bool true) | 5 => vQ = undef | 6 => vQ = undef | 7 => vQ = undef | 8 => vQ = undef | 9 => vQ = (.bool true) | 10 => vQ = (.bool true) | 11 => vQ = undef | 12 => vQ = undef | 13 => vQ = undef | 14 => vQ = undef | 15 => vQ = (.bool true) | _ => True) rfl (by kernel_rfl) (Below.refl _ _) (fun _ _ _ h k => h.trans (k.mono h.size)) (fun _ _ _ _ h _ => h) ?_ ?_
                  · refine ⟨?_, ?_, ?_, ?_, ?_, ?_, ?_, ?_, ?_, ?_, ?_, ?_, ?_, ?_, ?_, ?_, trivial⟩
                    · intro a w' hx hu hd K hK; have e1 : a.tmps.getD 1 undef = (.pointer (some ⟨g5, 0, none⟩)) := hu 1 rfl; exact Flow.run1 rfl (fa rfl e1 (fa48_2 _ _ _)) (hK _ _ (Below.refl _ _) rfl)
                    · intro a w' hx hu hd K hK; have e22 := Flow.got (hd 0 rfl) 22 rfl; exact Flow.run1 rfl (fa rfl e22 (fa24_0 _ _ _)) (hK _ _ (Below.refl _ _) rfl)
                    · intro a w' hx hu hd K hK; have e23 := Flow.got (hd 1 rfl) 23 rfl; exact Flow.run1 rfl (ld rfl e23 ((blk_cell (blk_below Kg5_6_7.out (below_step HBc12.out hx)) 2).trans rfl) Tryd.underlying3 rfl) (hK _ _ (Below.refl _ _) rfl)
                    · intro a w' hx hu hd K hK; have e24 := Flow.got (hd 2 rfl) 24 rfl; exact Flow.run1 rfl (yes (neq rfl e24 rfl) (bne_iff_ne.2 h1)) (hK _ _ (Below.refl _ _) rfl)
                    · intro a w' hx hu hd K hK; have e25 := Flow.got (hd 3 rfl) 25 rfl; exact Flow.run1 rfl (Flow.r_move rfl e25) (hK _ _ (Below.refl _ _) rfl)
                    · intro a w' hx hu hd K hK; have e26 := Flow.got (hd 4 rfl) 26 rfl; exact Flow.spare (Flow.spare_of (k := 26) rfl e26 rfl) (hK _ _ (Below.refl _ _) rfl)
                    · intro a w' hx hu hd K hK; have e26 := Flow.got (hd 4 rfl) 26 rfl; exact Flow.spare (Flow.spare_of (k := 26) rfl e26 rfl) (hK _ _ (Below.refl _ _) rfl)
                    · intro a w' hx hu hd K hK; have e26 := Flow.got (hd 4 rfl) 26 rfl; exact Flow.spare (Flow.spare_of (k := 26) rfl e26 rfl) (hK _ _ (Below.refl _ _) rfl)
                    · intro a w' hx hu hd K hK; have e26 := Flow.got (hd 4 rfl) 26 rfl; exact Flow.spare (Flow.spare_of (k := 26) rfl e26 rfl) (hK _ _ (Below.refl _ _) rfl)
                    · intro a w' hx hu hd K hK; have e26 := Flow.got (hd 4 rfl) 26 rfl; have e30 := Flow.got (hd 8 rfl) 30 rfl; exact Flow.run1 rfl (Flow.r_pick rfl e26 rfl) (hK _ _ (Below.refl _ _) rfl)
                    · intro a w' hx hu hd K hK; have e31 := Flow.got (hd 9 rfl) 31 rfl; exact Flow.run1 rfl (Flow.r_move rfl e31) (hK _ _ (Below.refl _ _) rfl)
                    · intro a w' hx hu hd K hK; have e32 := Flow.got (hd 10 rfl) 32 rfl; exact Flow.spare (Flow.spare_of (k := 32) rfl e32 rfl) (hK _ _ (Below.refl _ _) rfl)
                    · intro a w' hx hu hd K hK; have e32 := Flow.got (hd 10 rfl) 32 rfl; exact Flow.spare (Flow.spare_of (k := 32) rfl e32 rfl) (hK _ _ (Below.refl _ _) rfl)
                    · intro a w' hx hu hd K hK; have e32 := Flow.got (hd 10 rfl) 32 rfl; exact Flow.spare (Flow.spare_of (k := 32) rfl e32 rfl) (hK _ _ (Below.refl _ _) rfl)
                    · intro a w' hx hu hd K hK; have e32 := Flow.got (hd 10 rfl) 32 rfl; exact Flow.spare (Flow.spare_of (k := 32) rfl e32 rfl) (hK _ _ (Below.refl _ _) rfl)
                    · intro a w' hx hu hd K hK; have e32 := Flow.got (hd 10 rfl) 32 rfl; have e36 := Flow.got (hd 14 rfl) 36 rfl; exact Flow.run1 rfl (Flow.r_pick rfl e32 rfl) (hK _ _ (Below.refl _ _) rfl)
                  · intro vs W13 hb13 hT
                    have v0 := Flow.eqn (hT 0 (by decide))
                    have v1 := Flow.eqn (hT 1 (by decide))
                    have v2 := Flow.eqn (hT 2 (by decide))
                    have v3 := Flow.eqn (hT 3 (by decide))
                    have v4 := Flow.eqn (hT 4 (by decide))
                    have v5 := Flow.eqn (hT 5 (by decide))
                    have v6 := Flow.eqn (hT 6 (by decide))
                    have v7 := Flow.eqn (hT 7 (by decide))
                    have v8 := Flow.eqn (hT 8 (by decide))
                    have v9 := Flow.eqn (hT 9 (by decide))
                    have v10 := Flow.eqn (hT 10 (by decide))
                    have v11 := Flow.eqn (hT 11 (by decide))
                    have v12 := Flow.eqn (hT 12 (by decide))
                    have v13 := Flow.eqn (hT 13 (by decide))
                    have v14 := Flow.eqn (hT 14 (by decide))
                    have v15 := Flow.eqn (hT 15 (by decide))
                    simp only [Flow.putsT, v0, v1, v2, v3, v4, v5, v6, v7, v8, v9, v10, v11, v12, v13, v14, v15, Act.put, List.setIfInBounds_toArray, List.set_cons_zero, List.set_cons_succ]
                    clear hT v0 v1 v2 v3 v4 v5 v6 v7 v8 v9 v10 v11 v12 v13 v14 v15
                    have HB13 := Aside0.mk (below_step HBc12.out hb13)
                    clear hb13
                    go_wp2_with fail
                    go_meet
                    exact ⟨congrArg Value.bool ((decide_eq_true (p := s ≠ 0 ∨ wp ≠ 0 ∨ g ≠ 0) (by omega)).symm.trans Hc2.out), HB13⟩
                · skip
                  by_cases h2 : wp ≠ 0
                  · skip
                    refine Flow.seqT (E := fun u v => Below u.heap.size u v) [(some 22, []), (some 23, [0]), (some 24, [1]), (some 25, [2]), (some 26, [3]), (some 27, [4]), (some 28, [5, 4]), (some 29, [6, 4]), (some 30, [7, 4]), (some 31, [4, 8]), (some 32, [9, 4]), (some 33, [10]), (some 34, [11, 10]), (some 35, [12, 10]), (some 36, [13, 10]), (some 37, [10, 14])] (fun iQ vQ wQ => match iQ with | 0 => vQ = (.pointer (some ⟨g5, 2, none⟩)) | 1 => vQ = (.pointer (some ⟨g5, 2, none⟩)) | 2 => vQ = (.int .i64 s) | 3 => vQ = (.bool false) | 4 => vQ = (.bool false) | 5 => vQ = (.pointer (some ⟨g5, 2, none⟩)) | 6 => vQ = (.pointer (some ⟨g5, 3, none⟩)) | 7 => vQ = (.int .i64 wp) | 8 => vQ = (.bool true) | 9 => vQ = (.bool true) | 10 => vQ = (.bool true) | 11 => vQ = undef | 12 => vQ = undef | 13 => vQ = undef | 14 => vQ = undef | 15 => vQ = (.bool true) | _ => True) rfl (by kernel_rfl) (Below.refl _ _) (fun _ _ _ h k => h.trans (k.mono h.size)) (fun _ _ _ _ h _ => h) ?_ ?_
                    · refine ⟨?_, ?_, ?_, ?_, ?_, ?_, ?_, ?_, ?_, ?_, ?_, ?_, ?_, ?_, ?_, ?_, trivial⟩
                      · intro a w' hx hu hd K hK; have e1 : a.tmps.getD 1 undef = (.pointer (some ⟨g5, 0, none⟩)) := hu 1 rfl; exact Flow.run1 rfl (fa rfl e1 (fa48_2 _ _ _)) (hK _ _ (Below.refl _ _) rfl)
                      · intro a w' hx hu hd K hK; have e22 := Flow.got (hd 0 rfl) 22 rfl; exact Flow.run1 rfl (fa rfl e22 (fa24_0 _ _ _)) (hK _ _ (Below.refl _ _) rfl)
                      · intro a w' hx hu hd K hK; have e23 := Flow.got (hd 1 rfl) 23 rfl; exact Flow.run1 rfl (ld rfl e23 ((blk_cell (blk_below Kg5_6_7.out (below_step HBc12.out hx)) 2).trans rfl) Tryd.underlying3 rfl) (hK _ _ (Below.refl _ _) rfl)
                      · intro a w' hx hu hd K hK; have e24 := Flow.got (hd 2 rfl) 24 rfl; exact Flow.run1 rfl (no (neq rfl e24 rfl) (bne_eq_false_iff_eq.2 (Decidable.not_not.1 h1))) (hK _ _ (Below.refl _ _) rfl)
                      · intro a w' hx hu hd K hK; have e25 := Flow.got (hd 3 rfl) 25 rfl; exact Flow.run1 rfl (Flow.r_move rfl e25) (hK _ _ (Below.refl _ _) rfl)
                      · intro a w' hx hu hd K hK; have e1 : a.tmps.getD 1 undef = (.pointer (some ⟨g5, 0, none⟩)) := hu 1 rfl; have e26 := Flow.got (hd 4 rfl) 26 rfl; exact Flow.run1 (Flow.want_of (k := 26) rfl e26) (fa rfl e1 (fa48_2 _ _ _)) (hK _ _ (Below.refl _ _) rfl)
                      · intro a w' hx hu hd K hK; have e27 := Flow.got (hd 5 rfl) 27 rfl; have e26 := Flow.got (hd 4 rfl) 26 rfl; exact Flow.run1 (Flow.want_of (k := 26) rfl e26) (fa rfl e27 (fa24_1 _ _ _)) (hK _ _ (Below.refl _ _) rfl)
                      · intro a w' hx hu hd K hK; have e28 := Flow.got (hd 6 rfl) 28 rfl; have e26 := Flow.got (hd 4 rfl) 26 rfl; exact Flow.run1 (Flow.want_of (k := 26) rfl e26) (ld rfl e28 ((blk_cell (blk_below Kg5_6_7.out (below_step HBc12.out hx)) 3).trans rfl) Tryd.underlying3 rfl) (hK _ _ (Below.refl _ _) rfl)
                      · intro a w' hx hu hd K hK; have e29 := Flow.got (hd 7 rfl) 29 rfl; have e26 := Flow.got (hd 4 rfl) 26 rfl; exact Flow.run1 (Flow.want_of (k := 26) rfl e26) (yes (neq rfl e29 rfl) (bne_iff_ne.2 h2)) (hK _ _ (Below.refl _ _) rfl)
                      · intro a w' hx hu hd K hK; have e26 := Flow.got (hd 4 rfl) 26 rfl; have e30 := Flow.got (hd 8 rfl) 30 rfl; exact Flow.run1 rfl (Flow.r_pick rfl e26 e30) (hK _ _ (Below.refl _ _) rfl)
                      · intro a w' hx hu hd K hK; have e31 := Flow.got (hd 9 rfl) 31 rfl; exact Flow.run1 rfl (Flow.r_move rfl e31) (hK _ _ (Below.refl _ _) rfl)
                      · intro a w' hx hu hd K hK; have e32 := Flow.got (hd 10 rfl) 32 rfl; exact Flow.spare (Flow.spare_of (k := 32) rfl e32 rfl) (hK _ _ (Below.refl _ _) rfl)
                      · intro a w' hx hu hd K hK; have e32 := Flow.got (hd 10 rfl) 32 rfl; exact Flow.spare (Flow.spare_of (k := 32) rfl e32 rfl) (hK _ _ (Below.refl _ _) rfl)
                      · intro a w' hx hu hd K hK; have e32 := Flow.got (hd 10 rfl) 32 rfl; exact Flow.spare (Flow.spare_of (k := 32) rfl e32 rfl) (hK _ _ (Below.refl _ _) rfl)
                      · intro a w' hx hu hd K hK; have e32 := Flow.got (hd 10 rfl) 32 rfl; exact Flow.spare (Flow.spare_of (k := 32) rfl e32 rfl) (hK _ _ (Below.refl _ _) rfl)
                      · intro a w' hx hu hd K hK; have e32 := Flow.got (hd 10 rfl) 32 rfl; have e36 := Flow.got (hd 14 rfl) 36 rfl; exact Flow.run1 rfl (Flow.r_pick rfl e32 rfl) (hK _ _ (Below.refl _ _) rfl)
                    · intro vs W14 hb14 hT
                      have v0 := Flow.eqn (hT 0 (by decide))
                      have v1 := Flow.eqn (hT 1 (by decide))
                      have v2 := Flow.eqn (hT 2 (by decide))
                      have v3 := Flow.eqn (hT 3 (by decide))
                      have v4 := Flow.eqn (hT 4 (by decide))
                      have v5 := Flow.eqn (hT 5 (by decide))
                      have v6 := Flow.eqn (hT 6 (by decide))
                      have v7 := Flow.eqn (hT 7 (by decide))
                      have v8 := Flow.eqn (hT 8 (by decide))
                      have v9 := Flow.eqn (hT 9 (by decide))
                      have v10 := Flow.eqn (hT 10 (by decide))
                      have v11 := Flow.eqn (hT 11 (by decide))
                      have v12 := Flow.eqn (hT 12 (by decide))
                      have v13 := Flow.eqn (hT 13 (by decide))
                      have v14 := Flow.eqn (hT 14 (by decide))
                      have v15 := Flow.eqn (hT 15 (by decide))
                      simp only [Flow.putsT, v0, v1, v2, v3, v4, v5, v6, v7, v8, v9, v10, v11, v12, v13, v14, v15, Act.put, List.setIfInBounds_toArray, List.set_cons_zero, List.set_cons_succ]
                      clear hT v0 v1 v2 v3 v4 v5 v6 v7 v8 v9 v10 v11 v12 v13 v14 v15
                      have HB14 := Aside0.mk (below_step HBc12.out hb14)
                      clear hb14
                      go_wp2_with fail
                      go_meet
                      exact ⟨congrArg Value.bool ((decide_eq_true (p := s ≠ 0 ∨ wp ≠ 0 ∨ g ≠ 0) (by omega)).symm.trans Hc2.out), HB14⟩
                  · skip
                    by_cases h3 : g ≠ 0
                    · skip
                      refine Flow.seqT (E := fun u v => Below u.heap.size u v) [(some 22, []), (some 23, [0]), (some 24, [1]), (some 25, [2]), (some 26, [3]), (some 27, [4]), (some 28, [5, 4]), (some 29, [6, 4]), (some 30, [7, 4]), (some 31, [4, 8]), (some 32, [9, 4]), (some 33, [10]), (some 34, [11, 10]), (some 35, [12, 10]), (some 36, [13, 10]), (some 37, [10, 14])] (fun iQ vQ wQ => match iQ with | 0 => vQ = (.pointer (some ⟨g5, 2, none⟩)) | 1 => vQ = (.pointer (some ⟨g5, 2, none⟩)) | 2 => vQ = (.int .i64 s) | 3 => vQ = (.bool false) | 4 => vQ = (.bool false) | 5 => vQ = (.pointer (some ⟨g5, 2, none⟩)) | 6 => vQ = (.pointer (some ⟨g5, 3, none⟩)) | 7 => vQ = (.int .i64 wp) | 8 => vQ = (.bool false) | 9 => vQ = (.bool false) | 10 => vQ = (.bool false) | 11 => vQ = (.pointer (some ⟨g5, 2, none⟩)) | 12 => vQ = (.pointer (some ⟨g5, 4, none⟩)) | 13 => vQ = (.int .i64 g) | 14 => vQ = (.bool true) | 15 => vQ = (.bool true) | _ => True) rfl (by kernel_rfl) (Below.refl _ _) (fun _ _ _ h k => h.trans (k.mono h.size)) (fun _ _ _ _ h _ => h) ?_ ?_
                      · refine ⟨?_, ?_, ?_, ?_, ?_, ?_, ?_, ?_, ?_, ?_, ?_, ?_, ?_, ?_, ?_, ?_, trivial⟩
                        · intro a w' hx hu hd K hK; have e1 : a.tmps.getD 1 undef = (.pointer (some ⟨g5, 0, none⟩)) := hu 1 rfl; exact Flow.run1 rfl (fa rfl e1 (fa48_2 _ _ _)) (hK _ _ (Below.refl _ _) rfl)
                        · intro a w' hx hu hd K hK; have e22 := Flow.got (hd 0 rfl) 22 rfl; exact Flow.run1 rfl (fa rfl e22 (fa24_0 _ _ _)) (hK _ _ (Below.refl _ _) rfl)
                        · intro a w' hx hu hd K hK; have e23 := Flow.got (hd 1 rfl) 23 rfl; exact Flow.run1 rfl (ld rfl e23 ((blk_cell (blk_below Kg5_6_7.out (below_step HBc12.out hx)) 2).trans rfl) Tryd.underlying3 rfl) (hK _ _ (Below.refl _ _) rfl)
                        · intro a w' hx hu hd K hK; have e24 := Flow.got (hd 2 rfl) 24 rfl; exact Flow.run1 rfl (no (neq rfl e24 rfl) (bne_eq_false_iff_eq.2 (Decidable.not_not.1 h1))) (hK _ _ (Below.refl _ _) rfl)
                        · intro a w' hx hu hd K hK; have e25 := Flow.got (hd 3 rfl) 25 rfl; exact Flow.run1 rfl (Flow.r_move rfl e25) (hK _ _ (Below.refl _ _) rfl)
                        · intro a w' hx hu hd K hK; have e1 : a.tmps.getD 1 undef = (.pointer (some ⟨g5, 0, none⟩)) := hu 1 rfl; have e26 := Flow.got (hd 4 rfl) 26 rfl; exact Flow.run1 (Flow.want_of (k := 26) rfl e26) (fa rfl e1 (fa48_2 _ _ _)) (hK _ _ (Below.refl _ _) rfl)
                        · intro a w' hx hu hd K hK; have e27 := Flow.got (hd 5 rfl) 27 rfl; have e26 := Flow.got (hd 4 rfl) 26 rfl; exact Flow.run1 (Flow.want_of (k := 26) rfl e26) (fa rfl e27 (fa24_1 _ _ _)) (hK _ _ (Below.refl _ _) rfl)
                        · intro a w' hx hu hd K hK; have e28 := Flow.got (hd 6 rfl) 28 rfl; have e26 := Flow.got (hd 4 rfl) 26 rfl; exact Flow.run1 (Flow.want_of (k := 26) rfl e26) (ld rfl e28 ((blk_cell (blk_below Kg5_6_7.out (below_step HBc12.out hx)) 3).trans rfl) Tryd.underlying3 rfl) (hK _ _ (Below.refl _ _) rfl)
                        · intro a w' hx hu hd K hK; have e29 := Flow.got (hd 7 rfl) 29 rfl; have e26 := Flow.got (hd 4 rfl) 26 rfl; exact Flow.run1 (Flow.want_of (k := 26) rfl e26) (no (neq rfl e29 rfl) (bne_eq_false_iff_eq.2 (Decidable.not_not.1 h2))) (hK _ _ (Below.refl _ _) rfl)
                        · intro a w' hx hu hd K hK; have e26 := Flow.got (hd 4 rfl) 26 rfl; have e30 := Flow.got (hd 8 rfl) 30 rfl; exact Flow.run1 rfl (Flow.r_pick rfl e26 e30) (hK _ _ (Below.refl _ _) rfl)
                        · intro a w' hx hu hd K hK; have e31 := Flow.got (hd 9 rfl) 31 rfl; exact Flow.run1 rfl (Flow.r_move rfl e31) (hK _ _ (Below.refl _ _) rfl)
                        · intro a w' hx hu hd K hK; have e1 : a.tmps.getD 1 undef = (.pointer (some ⟨g5, 0, none⟩)) := hu 1 rfl; have e32 := Flow.got (hd 10 rfl) 32 rfl; exact Flow.run1 (Flow.want_of (k := 32) rfl e32) (fa rfl e1 (fa48_2 _ _ _)) (hK _ _ (Below.refl _ _) rfl)
                        · intro a w' hx hu hd K hK; have e33 := Flow.got (hd 11 rfl) 33 rfl; have e32 := Flow.got (hd 10 rfl) 32 rfl; exact Flow.run1 (Flow.want_of (k := 32) rfl e32) (fa rfl e33 (fa24_2 _ _ _)) (hK _ _ (Below.refl _ _) rfl)
                        · intro a w' hx hu hd K hK; have e34 := Flow.got (hd 12 rfl) 34 rfl; have e32 := Flow.got (hd 10 rfl) 32 rfl; exact Flow.run1 (Flow.want_of (k := 32) rfl e32) (ld rfl e34 ((blk_cell (blk_below Kg5_6_7.out (below_step HBc12.out hx)) 4).trans rfl) Tryd.underlying3 rfl) (hK _ _ (Below.refl _ _) rfl)
                        · intro a w' hx hu hd K hK; have e35 := Flow.got (hd 13 rfl) 35 rfl; have e32 := Flow.got (hd 10 rfl) 32 rfl; exact Flow.run1 (Flow.want_of (k := 32) rfl e32) (yes (neq rfl e35 rfl) (bne_iff_ne.2 h3)) (hK _ _ (Below.refl _ _) rfl)
                        · intro a w' hx hu hd K hK; have e32 := Flow.got (hd 10 rfl) 32 rfl; have e36 := Flow.got (hd 14 rfl) 36 rfl; exact Flow.run1 rfl (Flow.r_pick rfl e32 e36) (hK _ _ (Below.refl _ _) rfl)
                      · intro vs W15 hb15 hT
                        have v0 := Flow.eqn (hT 0 (by decide))
                        have v1 := Flow.eqn (hT 1 (by decide))
                        have v2 := Flow.eqn (hT 2 (by decide))
                        have v3 := Flow.eqn (hT 3 (by decide))
                        have v4 := Flow.eqn (hT 4 (by decide))
                        have v5 := Flow.eqn (hT 5 (by decide))
                        have v6 := Flow.eqn (hT 6 (by decide))
                        have v7 := Flow.eqn (hT 7 (by decide))
                        have v8 := Flow.eqn (hT 8 (by decide))
                        have v9 := Flow.eqn (hT 9 (by decide))
                        have v10 := Flow.eqn (hT 10 (by decide))
                        have v11 := Flow.eqn (hT 11 (by decide))
                        have v12 := Flow.eqn (hT 12 (by decide))
                        have v13 := Flow.eqn (hT 13 (by decide))
                        have v14 := Flow.eqn (hT 14 (by decide))
                        have v15 := Flow.eqn (hT 15 (by decide))
                        simp only [Flow.putsT, v0, v1, v2, v3, v4, v5, v6, v7, v8, v9, v10, v11, v12, v13, v14, v15, Act.put, List.setIfInBounds_toArray, List.set_cons_zero, List.set_cons_succ]
                        clear hT v0 v1 v2 v3 v4 v5 v6 v7 v8 v9 v10 v11 v12 v13 v14 v15
                        have HB15 := Aside0.mk (below_step HBc12.out hb15)
                        clear hb15
                        go_wp2_with fail
                        go_meet
                        exact ⟨congrArg Value.bool ((decide_eq_true (p := s ≠ 0 ∨ wp ≠ 0 ∨ g ≠ 0) (by omega)).symm.trans Hc2.out), HB15⟩
                    · skip
                      refine Flow.seqT (E := fun u v => Below u.heap.size u v) [(some 22, []), (some 23, [0]), (some 24, [1]), (some 25, [2]), (some 26, [3]), (some 27, [4]), (some 28, [5, 4]), (some 29, [6, 4]), (some 30, [7, 4]), (some 31, [4, 8]), (some 32, [9, 4]), (some 33, [10]), (some 34, [11, 10]), (some 35, [12, 10]), (some 36, [13, 10]), (some 37, [10, 14])] (fun iQ vQ wQ => match iQ with | 0 => vQ = (.pointer (some ⟨g5, 2, none⟩)) | 1 => vQ = (.pointer (some ⟨g5, 2, none⟩)) | 2 => vQ = (.int .i64 s) | 3 => vQ = (.bool false) | 4 => vQ = (.bool false) | 5 => vQ = (.pointer (some ⟨g5, 2, none⟩)) | 6 => vQ = (.pointer (some ⟨g5, 3, none⟩)) | 7 => vQ = (.int .i64 wp) | 8 => vQ = (.bool false) | 9 => vQ = (.bool false) | 10 => vQ = (.bool false) | 11 => vQ = (.pointer (some ⟨g5, 2, none⟩)) | 12 => vQ = (.pointer (some ⟨g5, 4, none⟩)) | 13 => vQ = (.int .i64 g) | 14 => vQ = (.bool false) | 15 => vQ = (.bool false) | _ => True) rfl (by kernel_rfl) (Below.refl _ _) (fun _ _ _ h k => h.trans (k.mono h.size)) (fun _ _ _ _ h _ => h) ?_ ?_
                      · refine ⟨?_, ?_, ?_, ?_, ?_, ?_, ?_, ?_, ?_, ?_, ?_, ?_, ?_, ?_, ?_, ?_, trivial⟩
                        · intro a w' hx hu hd K hK; have e1 : a.tmps.getD 1 undef = (.pointer (some ⟨g5, 0, none⟩)) := hu 1 rfl; exact Flow.run1 rfl (fa rfl e1 (fa48_2 _ _ _)) (hK _ _ (Below.refl _ _) rfl)
                        · intro a w' hx hu hd K hK; have e22 := Flow.got (hd 0 rfl) 22 rfl; exact Flow.run1 rfl (fa rfl e22 (fa24_0 _ _ _)) (hK _ _ (Below.refl _ _) rfl)
                        · intro a w' hx hu hd K hK; have e23 := Flow.got (hd 1 rfl) 23 rfl; exact Flow.run1 rfl (ld rfl e23 ((blk_cell (blk_below Kg5_6_7.out (below_step HBc12.out hx)) 2).trans rfl) Tryd.underlying3 rfl) (hK _ _ (Below.refl _ _) rfl)
                        · intro a w' hx hu hd K hK; have e24 := Flow.got (hd 2 rfl) 24 rfl; exact Flow.run1 rfl (no (neq rfl e24 rfl) (bne_eq_false_iff_eq.2 (Decidable.not_not.1 h1))) (hK _ _ (Below.refl _ _) rfl)
                        · intro a w' hx hu hd K hK; have e25 := Flow.got (hd 3 rfl) 25 rfl; exact Flow.run1 rfl (Flow.r_move rfl e25) (hK _ _ (Below.refl _ _) rfl)
                        · intro a w' hx hu hd K hK; have e1 : a.tmps.getD 1 undef = (.pointer (some ⟨g5, 0, none⟩)) := hu 1 rfl; have e26 := Flow.got (hd 4 rfl) 26 rfl; exact Flow.run1 (Flow.want_of (k := 26) rfl e26) (fa rfl e1 (fa48_2 _ _ _)) (hK _ _ (Below.refl _ _) rfl)
                        · intro a w' hx hu hd K hK; have e27 := Flow.got (hd 5 rfl) 27 rfl; have e26 := Flow.got (hd 4 rfl) 26 rfl; exact Flow.run1 (Flow.want_of (k := 26) rfl e26) (fa rfl e27 (fa24_1 _ _ _)) (hK _ _ (Below.refl _ _) rfl)
                        · intro a w' hx hu hd K hK; have e28 := Flow.got (hd 6 rfl) 28 rfl; have e26 := Flow.got (hd 4 rfl) 26 rfl; exact Flow.run1 (Flow.want_of (k := 26) rfl e26) (ld rfl e28 ((blk_cell (blk_below Kg5_6_7.out (below_step HBc12.out hx)) 3).trans rfl) Tryd.underlying3 rfl) (hK _ _ (Below.refl _ _) rfl)
                        · intro a w' hx hu hd K hK; have e29 := Flow.got (hd 7 rfl) 29 rfl; have e26 := Flow.got (hd 4 rfl) 26 rfl; exact Flow.run1 (Flow.want_of (k := 26) rfl e26) (no (neq rfl e29 rfl) (bne_eq_false_iff_eq.2 (Decidable.not_not.1 h2))) (hK _ _ (Below.refl _ _) rfl)
                        · intro a w' hx hu hd K hK; have e26 := Flow.got (hd 4 rfl) 26 rfl; have e30 := Flow.got (hd 8 rfl) 30 rfl; exact Flow.run1 rfl (Flow.r_pick rfl e26 e30) (hK _ _ (Below.refl _ _) rfl)
                        · intro a w' hx hu hd K hK; have e31 := Flow.got (hd 9 rfl) 31 rfl; exact Flow.run1 rfl (Flow.r_move rfl e31) (hK _ _ (Below.refl _ _) rfl)
                        · intro a w' hx hu hd K hK; have e1 : a.tmps.getD 1 undef = (.pointer (some ⟨g5, 0, none⟩)) := hu 1 rfl; have e32 := Flow.got (hd 10 rfl) 32 rfl; exact Flow.run1 (Flow.want_of (k := 32) rfl e32) (fa rfl e1 (fa48_2 _ _ _)) (hK _ _ (Below.refl _ _) rfl)
                        · intro a w' hx hu hd K hK; have e33 := Flow.got (hd 11 rfl) 33 rfl; have e32 := Flow.got (hd 10 rfl) 32 rfl; exact Flow.run1 (Flow.want_of (k := 32) rfl e32) (fa rfl e33 (fa24_2 _ _ _)) (hK _ _ (Below.refl _ _) rfl)
                        · intro a w' hx hu hd K hK; have e34 := Flow.got (hd 12 rfl) 34 rfl; have e32 := Flow.got (hd 10 rfl) 32 rfl; exact Flow.run1 (Flow.want_of (k := 32) rfl e32) (ld rfl e34 ((blk_cell (blk_below Kg5_6_7.out (below_step HBc12.out hx)) 4).trans rfl) Tryd.underlying3 rfl) (hK _ _ (Below.refl _ _) rfl)
                        · intro a w' hx hu hd K hK; have e35 := Flow.got (hd 13 rfl) 35 rfl; have e32 := Flow.got (hd 10 rfl) 32 rfl; exact Flow.run1 (Flow.want_of (k := 32) rfl e32) (no (neq rfl e35 rfl) (bne_eq_false_iff_eq.2 (Decidable.not_not.1 h3))) (hK _ _ (Below.refl _ _) rfl)
                        · intro a w' hx hu hd K hK; have e32 := Flow.got (hd 10 rfl) 32 rfl; have e36 := Flow.got (hd 14 rfl) 36 rfl; exact Flow.run1 rfl (Flow.r_pick rfl e32 e36) (hK _ _ (Below.refl _ _) rfl)
                      · intro vs W16 hb16 hT
                        have v0 := Flow.eqn (hT 0 (by decide))
                        have v1 := Flow.eqn (hT 1 (by decide))
                        have v2 := Flow.eqn (hT 2 (by decide))
                        have v3 := Flow.eqn (hT 3 (by decide))
                        have v4 := Flow.eqn (hT 4 (by decide))
                        have v5 := Flow.eqn (hT 5 (by decide))
                        have v6 := Flow.eqn (hT 6 (by decide))
                        have v7 := Flow.eqn (hT 7 (by decide))
                        have v8 := Flow.eqn (hT 8 (by decide))
                        have v9 := Flow.eqn (hT 9 (by decide))
                        have v10 := Flow.eqn (hT 10 (by decide))
                        have v11 := Flow.eqn (hT 11 (by decide))
                        have v12 := Flow.eqn (hT 12 (by decide))
                        have v13 := Flow.eqn (hT 13 (by decide))
                        have v14 := Flow.eqn (hT 14 (by decide))
                        have v15 := Flow.eqn (hT 15 (by decide))
                        simp only [Flow.putsT, v0, v1, v2, v3, v4, v5, v6, v7, v8, v9, v10, v11, v12, v13, v14, v15, Act.put, List.setIfInBounds_toArray, List.set_cons_zero, List.set_cons_succ]
                        clear hT v0 v1 v2 v3 v4 v5 v6 v7 v8 v9 v10 v11 v12 v13 v14 v15
                        have HB16 := Aside0.mk (below_step HBc12.out hb16)
                        clear hb16
                        go_wp2_with fail
                        go_meet
                        exact ⟨congrArg Value.bool ((decide_eq_false (p := s ≠ 0 ∨ wp ≠ 0 ∨ g ≠ 0) (by omega)).symm.trans Hc2.out), HB16⟩
              case rest =>
                clear HBc12
                obtain ⟨rfl, HBq17⟩ := hcut
                go_upto_if 37 with fail
                go_cut [3] (fun v wx => ∃ t2 : ByteArray, v = .string t2 ∧ Aside0 (t2.size ≤ 54) ∧ Aside0 (t2 = (⟨#[111, 107]⟩ : ByteArray) ++ pc c1 (itoaB l.length) ++ pc c2 (stateB s ++ ⟨#[32]⟩ ++ itoaB wp)) ∧ Aside0 (Below W7.heap.size W7 wx))
                case first =>
                  cases c2 with
                  | true =>
                    go_upto_region 7 with fail
                    obtain ⟨t18_1, Ht18_1⟩ : ∃ tQ, Aside0 (t12 ++ ⟨#[32]⟩ = tQ) := ⟨_, ⟨rfl⟩⟩
                    have zt18_1 : t18_1.size ≤ 25 := Ht18_1.out ▸ szapp zt12 (Nat.le_refl 1) (by decide)
                    obtain ⟨t18_6, Ht18_6⟩ : ∃ tQ, Aside0 (t18_1 ++ stateB s = tQ) := ⟨_, ⟨rfl⟩⟩
                    have zt18_6 : t18_6.size ≤ 31 := Ht18_6.out ▸ szapp zt18_1 (state_size s) (by decide)
                    obtain ⟨t18_7, Ht18_7⟩ : ∃ tQ, Aside0 (t18_6 ++ ⟨#[32]⟩ = tQ) := ⟨_, ⟨rfl⟩⟩
                    have zt18_7 : t18_7.size ≤ 32 := Ht18_7.out ▸ szapp zt18_6 (Nat.le_refl 1) (by decide)
                    obtain ⟨t18_12, Ht18_12⟩ : ∃ tQ, Aside0 (t18_7 ++ itoaB wp = tQ) := ⟨_, ⟨rfl⟩⟩
                    have zt18_12 : t18_12.size ≤ 53 := Ht18_12.out ▸ szapp zt18_7 (itoa_size wp hwp) (by decide)
                    refine Flow.flowT (E := fun u v => Below u.heap.size u v) [(some 38, []), (some 39, [0]), (some 40, []), (some 41, [2]), (some 42, [3]), (some 43, [4]), (some 44, [1, 5]), (some 45, [6]), (some 46, []), (some 47, [8]), (some 48, [9]), (some 49, [10, 5]), (some 50, [7, 11]), (some 3, [12, 11, 0, 1, 2, 3, 4, 5, 6, 7, 8, 9, 10, 11, 12])] (fun iQ vQ wQ => match iQ with | 0 => vQ = (.string t12) | 1 => vQ = (.string t18_1) | 2 => vQ = (.pointer (some ⟨g5, 2, none⟩)) | 3 => vQ = (.pointer (some ⟨g5, 2, none⟩)) | 4 => vQ = (.int .i64 s) | 5 => vQ = (.string (stateB s)) | 6 => vQ = (.string t18_6) | 7 => vQ = (.string t18_7) | 8 => vQ = (.pointer (some ⟨g5, 2, none⟩)) | 9 => vQ = (.pointer (some ⟨g5, 3, none⟩)) | 10 => vQ = (.int .i64 wp) | 11 => vQ = (.string (itoaB wp)) | 12 => vQ = (.string t18_12) | 13 => vQ = (.string t18_12) | _ => True) rfl (by kernel_rfl) (by kernel_rfl) (by kernel_rfl) ((Below.refl _ _).drew) (fun _ _ _ h k => h.trans (k.mono h.size)) (fun _ _ _ _ h _ => h) ?_ ?_
                    · refine ⟨?_, ?_, ?_, ?_, ?_, ?_, ?_, ?_, ?_, ?_, ?_, ?_, ?_, ?_, trivial⟩
                      · intro a w' hx hu hd K hK; have e3 : a.tmps.getD 3 undef = (.string t12) := hu 3 rfl; exact Flow.run1 rfl (Flow.r_move rfl e3) (hK _ _ (Below.refl _ _) rfl)
                      · intro a w' hx hu hd K hK; have e38 := Flow.got (hd 0 (by decide)) 38 rfl; exact Flow.run1 rfl (Ht18_1.out ▸ cat rfl e38 rfl zt12 (Nat.le_refl 1) (by decide)) (hK _ _ (Below.refl _ _) rfl)
                      · intro a w' hx hu hd K hK; have e1 : a.tmps.getD 1 undef = (.pointer (some ⟨g5, 0, none⟩)) := hu 1 rfl; exact Flow.run1 rfl (fa rfl e1 (fa48_2 _ _ _)) (hK _ _ (Below.refl _ _) rfl)
                      · intro a w' hx hu hd K hK; have e40 := Flow.got (hd 2 (by decide)) 40 rfl; exact Flow.run1 rfl (fa rfl e40 (fa24_0 _ _ _)) (hK _ _ (Below.refl _ _) rfl)
                      · intro a w' hx hu hd K hK; have e41 := Flow.got (hd 3 (by decide)) 41 rfl; exact Flow.run1 rfl (ld rfl e41 ((blk_cell (blk_below Kg5_6_7.out (below_step HBq17.out hx)) 2).trans rfl) Tryd.underlying3 rfl) (hK _ _ (Below.refl _ _) rfl)
                      · intro a w' hx hu hd K hK; have e42 := Flow.got (hd 4 (by decide)) 42 rfl; refine Flow.want rfl ?_; refine Flow.val_call rfl Tryd.func15 (by kernel_rfl) rfl (by first | (simp only [List.map_toArray, List.map_cons, List.map_nil, Act.eval, e42]; done) | (simp only [List.map_toArray, List.map_cons, List.map_nil, Act.eval, e42]; rfl)) (rstate_c s w') ?_; rintro e w2 ⟨rfl, hb2⟩; exact ⟨_, rfl, hK _ _ hb2 (by rfl)⟩
                      · intro a w' hx hu hd K hK; have e39 := Flow.got (hd 1 (by decide)) 39 rfl; have e43 := Flow.got (hd 5 (by decide)) 43 rfl; exact Flow.run1 rfl (Ht18_6.out ▸ cat rfl e39 e43 zt18_1 (state_size s) (by decide)) (hK _ _ (Below.refl _ _) rfl)
                      · intro a w' hx hu hd K hK; have e44 := Flow.got (hd 6 (by decide)) 44 rfl; exact Flow.run1 rfl (Ht18_7.out ▸ cat rfl e44 rfl zt18_6 (Nat.le_refl 1) (by decide)) (hK _ _ (Below.refl _ _) rfl)
                      · intro a w' hx hu hd K hK; have e1 : a.tmps.getD 1 undef = (.pointer (some ⟨g5, 0, none⟩)) := hu 1 rfl; exact Flow.run1 rfl (fa rfl e1 (fa48_2 _ _ _)) (hK _ _ (Below.refl _ _) rfl)
                      · intro a w' hx hu hd K hK; have e46 := Flow.got (hd 8 (by decide)) 46 rfl; exact Flow.run1 rfl (fa rfl e46 (fa24_1 _ _ _)) (hK _ _ (Below.refl _ _) rfl)
                      · intro a w' hx hu hd K hK; have e47 := Flow.got (hd 9 (by decide)) 47 rfl; exact Flow.run1 rfl (ld rfl e47 ((blk_cell (blk_below Kg5_6_7.out (below_step HBq17.out hx)) 3).trans rfl) Tryd.underlying3 rfl) (hK _ _ (Below.refl _ _) rfl)
                      · intro a w' hx hu hd K hK; have e48 := Flow.got (hd 10 (by decide)) 48 rfl; refine Flow.want rfl ?_; refine Flow.val_call rfl Tryd.func38 (by kernel_rfl) rfl (by first | (simp only [List.map_toArray, List.map_cons, List.map_nil, Act.eval, e48]; done) | (simp only [List.map_toArray, List.map_cons, List.map_nil, Act.eval, e48]; rfl)) (rnum_c wp hwp w') ?_; rintro e w2 ⟨rfl, hb2⟩; exact ⟨_, rfl, hK _ _ hb2 (by rfl)⟩
                      · intro a w' hx hu hd K hK; have e45 := Flow.got (hd 7 (by decide)) 45 rfl; have e49 := Flow.got (hd 11 (by decide)) 49 rfl; exact Flow.run1 rfl (Ht18_12.out ▸ cat rfl e45 e49 zt18_7 (itoa_size wp hwp) (by decide)) (hK _ _ (Below.refl _ _) rfl)
                      · intro a w' hx hu hd K hK; have e50 := Flow.got (hd 12 (by decide)) 50 rfl; exact Flow.run1 rfl (Flow.r_assign rfl e50) (hK _ _ (Below.refl _ _) rfl)
                    · intro vs W18 hb18 hT
                      have v0 := Flow.eqn (hT 0 (by decide))
                      have v1 := Flow.eqn (hT 1 (by decide))
                      have v2 := Flow.eqn (hT 2 (by decide))
                      have v3 := Flow.eqn (hT 3 (by decide))
                      have v4 := Flow.eqn (hT 4 (by decide))
                      have v5 := Flow.eqn (hT 5 (by decide))
                      have v6 := Flow.eqn (hT 6 (by decide))
                      have v7 := Flow.eqn (hT 7 (by decide))
                      have v8 := Flow.eqn (hT 8 (by decide))
                      have v9 := Flow.eqn (hT 9 (by decide))
                      have v10 := Flow.eqn (hT 10 (by decide))
                      have v11 := Flow.eqn (hT 11 (by decide))
                      have v12 := Flow.eqn (hT 12 (by decide))
                      have v13 := Flow.eqn (hT 13 (by decide))
                      simp only [Flow.putsT, v0, v1, v2, v3, v4, v5, v6, v7, v8, v9, v10, v11, v12, v13, Act.put, List.setIfInBounds_toArray, List.set_cons_zero, List.set_cons_succ]
                      clear hT v0 v1 v2 v3 v4 v5 v6 v7 v8 v9 v10 v11 v12 v13
                      have HB18 := Aside0.mk (below_step HBq17.out hb18)
                      clear hb18
                      go_wp2_with fail
                      go_meet
                      exact ⟨_, rfl, ⟨Nat.le_trans zt18_12 (by decide)⟩, ⟨by rw [← Ht18_12.out, ← Ht18_7.out, ← Ht18_6.out, ← Ht18_1.out, HE12.out, pc_t]; (try simp only [ByteArray.append_assoc])⟩, HB18⟩
                  | false =>
                    go_wp2_with fail
                    go_meet
                    exact ⟨_, rfl, ⟨Nat.le_trans zt12 (by decide)⟩, ⟨by rw [HE12.out, pc_f]⟩, HBq17⟩
                case rest =>
                  clear HBq17 HE12
                  obtain ⟨t19, rfl, Zt19, HE19, HBc19⟩ := hcut
                  have zt19 := Zt19.out
                  clear Zt19
                  go_upto_region 8 with fail
                  refine Flow.seqT (E := fun u v => Below u.heap.size u v) [(some 51, []), (some 2, [0, 0])] (fun iQ vQ wQ => match iQ with | 0 => vQ = (.string t19) | 1 => vQ = (.string t19) | _ => True) rfl (by kernel_rfl) (Below.refl _ _) (fun _ _ _ h k => h.trans (k.mono h.size)) (fun _ _ _ _ h _ => h) ?_ ?_
                  · refine ⟨?_, ?_, trivial⟩
                    · intro a w' hx hu hd K hK; have e3 : a.tmps.getD 3 undef = (.string t19) := hu 3 rfl; exact Flow.run1 rfl (Flow.r_move rfl e3) (hK _ _ (Below.refl _ _) rfl)
                    · intro a w' hx hu hd K hK; have e51 := Flow.got (hd 0 rfl) 51 rfl; exact Flow.run1 rfl (Flow.r_assign rfl e51) (hK _ _ (Below.refl _ _) rfl)
                  · intro vs W20 hb20 hT
                    have v0 := Flow.eqn (hT 0 (by decide))
                    have v1 := Flow.eqn (hT 1 (by decide))
                    simp only [Flow.putsT, v0, v1, Act.put, List.setIfInBounds_toArray, List.set_cons_zero, List.set_cons_succ]
                    clear hT v0 v1
                    have HB20 := Aside0.mk (below_step HBc19.out hb20)
                    clear hb20
                    go_wp2
                    go_ret
                    exact ⟨by rw [Hc1.out, Hc2.out, ← HE19.out]; rfl, below_step HB7.out HB20.out⟩
set_option maxHeartbeats 4000000 in
set_option maxRecDepth 100000 in
theorem reply_c (er s wp g : Int) (l : List Int) (A : Option Addr) (c : Nat) (her : I64 er) (hwp : I64 wp) (hn : l.length ≤ 100000) (w : World) (hpow : POW w) : Calls Tryd.prog 23 #[.agg #[.int .i64 er, .slice A l.length c, .int .i64 s, .int .i64 wp, .int .i64 g]] w fun e w' => e = .returned (.string (replyB er l.length s wp g)) ∧ Below w.heap.size w w' := by
  have hln : I64 (l.length : Int) := by unfold I64; omega
  have HZ := Aside0.mk (reply_size er l.length s wp g her hln hwp)
  have HPW := Aside0.mk hpow
  clear hpow
  by_cases h0 : er ≠ 0
  · have HE := Aside0.mk (show replyB er l.length s wp g = wordsB [⟨#[101, 114, 114, 111, 114]⟩, itoaB er] by unfold replyB; rw [if_pos h0])
    rw [HE.out]
    have HZ2 := Aside0.mk (HE.out ▸ HZ.out)
    go_enter Tryd.func23, Tryd.ntmps23
    go_upto_region 0 with fail
    refine wp_region_lit ?_
    refine ebox (v := (.agg #[.int .i64 er, .slice A l.length c, .int .i64 s, .int .i64 wp, .int .i64 g])) rfl rfl rfl ?_
    intro g1 hg1 W1 hk1 hb1
    have Kg1 := Aside0.mk hk1
    have HB1 := Aside0.mk hb1
    clear hb1
    have Gg1 := Aside0.mk (show w.heap.size ≤ g1 by rw [hg1]; exact Nat.le_refl _)
    clear hg1 hk1
    simp only [Act.put, List.setIfInBounds_toArray, List.set_cons_zero, List.set_cons_succ]
    refine Flow.seqL (E := fun u v => Below u.heap.size u v) 1 1 [(some 1, []), (some 2, [])] (fun iQ vQ wQ => match iQ with | 1 => vQ = (.string ⟨#[]⟩) | _ => True) rfl (by decide) (by kernel_rfl) (Below.refl _ _) (fun _ _ _ h k => h.trans (k.mono h.size)) (fun _ _ _ _ h _ => h) ?_ ?_
    · refine ⟨?_, trivial⟩
      · intro a w' hx hu hd K hK; exact Flow.run1 rfl (Flow.r_assign rfl rfl) (hK _ _ (Below.refl _ _) rfl)
    · intro vs W2 hb2 hT
      have v1 := Flow.eqn (hT 1 (by decide) (by decide))
      simp only [Flow.putsT, v1, Act.put, List.setIfInBounds_toArray, List.set_cons_zero, List.set_cons_succ, List.drop_succ_cons, List.drop_zero, List.take_succ_cons, List.take_zero]
      clear hT v1
      have HB2 := Aside0.mk (below_step HB1.out hb2)
      have Kg1_2 := Aside0.mk (blk_below Kg1.out hb2)
      clear hb2
      go_upto_region 1 with fail
      refine Flow.seqT (E := fun u v => Below u.heap.size u v) [(some 4, []), (some 5, [0]), (some 6, [1])] (fun iQ vQ wQ => match iQ with | 0 => vQ = (.pointer (some ⟨g1, 0, none⟩)) | 1 => vQ = (.int .i64 er) | 2 => vQ = (.bool true) | _ => True) rfl (by kernel_rfl) (Below.refl _ _) (fun _ _ _ h k => h.trans (k.mono h.size)) (fun _ _ _ _ h _ => h) ?_ ?_
      · refine ⟨?_, ?_, ?_, trivial⟩
        · intro a w' hx hu hd K hK; have e1 : a.tmps.getD 1 undef = (.pointer (some ⟨g1, 0, none⟩)) := hu 1 rfl; exact Flow.run1 rfl (fa rfl e1 (fa48_0 _ _ _)) (hK _ _ (Below.refl _ _) rfl)
        · intro a w' hx hu hd K hK; have e4 := Flow.got (hd 0 rfl) 4 rfl; exact Flow.run1 rfl (ld rfl e4 ((blk_cell (blk_below Kg1_2.out hx) 0).trans rfl) Tryd.underlying46 rfl) (hK _ _ (Below.refl _ _) rfl)
        · intro a w' hx hu hd K hK; have e5 := Flow.got (hd 1 rfl) 5 rfl; exact Flow.run1 rfl (yes (neq rfl e5 rfl) (bne_iff_ne.2 h0)) (hK _ _ (Below.refl _ _) rfl)
      · intro vs W3 hb3 hT
        have v0 := Flow.eqn (hT 0 (by decide))
        have v1 := Flow.eqn (hT 1 (by decide))
        have v2 := Flow.eqn (hT 2 (by decide))
        simp only [Flow.putsT, v0, v1, v2, Act.put, List.setIfInBounds_toArray, List.set_cons_zero, List.set_cons_succ]
        clear hT v0 v1 v2
        have HB3 := Aside0.mk (below_step HB2.out hb3)
        have Kg1_2_3 := Aside0.mk (blk_below Kg1_2.out hb3)
        clear hb3
        go_upto_region 2 with fail
        refine Flow.seqT_head (E := fun u v => Below u.heap.size u v) 4 [(some 7, []), (some 8, [0]), (some 9, [1]), (some 10, [2]), (some 11, [3, 2]), (some 2, [4, 4, 0, 1, 2, 3, 4])] (fun iQ vQ wQ => match iQ with | 0 => vQ = (.pointer (some ⟨g1, 0, none⟩)) | 1 => vQ = (.int .i64 er) | 2 => vQ = (.string (itoaB er)) | 3 => SliceAt #[.string ⟨#[101, 114, 114, 111, 114]⟩, .string (itoaB er)] 9 2 w.heap.size vQ wQ | _ => True) rfl (by decide) (by kernel_rfl) (Below.refl _ _) (fun _ _ _ h k => h.trans (k.mono h.size)) (fun iQ vQ w1Q w2Q hQ hEQ => match iQ, hQ with | 0, hQ => hQ | 1, hQ => hQ | 2, hQ => hQ | 3, hQ => slice_below hQ hEQ | _ + 4, _ => trivial) ?_ ?_
        · refine ⟨?_, ?_, ?_, ?_, trivial⟩
          · intro a w' hx hu hd K hK; have e1 : a.tmps.getD 1 undef = (.pointer (some ⟨g1, 0, none⟩)) := hu 1 rfl; exact Flow.run1 rfl (fa rfl e1 (fa48_0 _ _ _)) (hK _ _ (Below.refl _ _) rfl)
          · intro a w' hx hu hd K hK; have e7 := Flow.got (hd 0 rfl) 7 rfl; exact Flow.run1 rfl (ld rfl e7 ((blk_cell (blk_below Kg1_2_3.out hx) 0).trans rfl) Tryd.underlying46 rfl) (hK _ _ (Below.refl _ _) rfl)
          · intro a w' hx hu hd K hK; have e8 := Flow.got (hd 1 rfl) 8 rfl; refine Flow.want rfl ?_; refine Flow.val_call rfl Tryd.func41 (by kernel_rfl) rfl (by first | (simp only [List.map_toArray, List.map_cons, List.map_nil, Act.eval, e8]; done) | (simp only [List.map_toArray, List.map_cons, List.map_nil, Act.eval, e8]; rfl)) (num_c er her w' (HPW.out.below (below_step HB3.out hx))) ?_; rintro e w2 ⟨rfl, hb2⟩; exact ⟨_, rfl, hK _ _ hb2 (by rfl)⟩
          · intro a w' hx hu hd K hK; have e9 := Flow.got (hd 2 rfl) 9 rfl; exact Flow.run1 rfl (row2_79 rfl rfl e9) (hK _ _ (below_alloc (Below.refl _ _) _) (slice_new (Nat.le_trans (HB3.out).size (hx : Below _ _ _).size)))
        · intro vs W4 hb4 hT
          have v0 := Flow.eqn (hT 0 (by decide))
          have v1 := Flow.eqn (hT 1 (by decide))
          have v2 := Flow.eqn (hT 2 (by decide))
          obtain ⟨g4_3, v3, hge3, hk3⟩ : SliceAt _ _ _ _ _ _ := hT 3 (by decide)
          have Kg4_3 := Aside0.mk hk3
          have Gg4_3 := Aside0.mk hge3
          clear hk3 hge3
          simp only [Flow.putsT, v0, v1, v2, v3, Act.put, List.setIfInBounds_toArray, List.set_cons_zero, List.set_cons_succ, List.drop_succ_cons, List.drop_zero, List.take_succ_cons, List.take_zero]
          clear hT v0 v1 v2 v3
          have HB4 := Aside0.mk (below_step HB3.out hb4)
          have Kg1_2_3_4 := Aside0.mk (blk_below Kg1_2_3.out hb4)
          clear hb4
          refine Flow.seqL (E := fun u v => Below u.heap.size u v) 4 2 [(some 7, []), (some 8, [0]), (some 9, [1]), (some 10, [2]), (some 11, [3, 2]), (some 2, [4, 4, 0, 1, 2, 3, 4])] (fun iQ vQ wQ => match iQ with | 4 => vQ = (.string (wordsB [⟨#[101, 114, 114, 111, 114]⟩, itoaB er])) | 5 => vQ = (.string (wordsB [⟨#[101, 114, 114, 111, 114]⟩, itoaB er])) | _ => True) rfl (by decide) (by kernel_rfl) (Below.refl _ _) (fun _ _ _ h k => h.trans (k.mono h.size)) (fun _ _ _ _ h _ => h) ?_ ?_
          · refine ⟨?_, ?_, trivial⟩
            · intro a w' hx hu hd K hK; have e10 : a.tmps.getD 10 undef = (.slice (some ⟨g4_3, 0, none⟩) 2 2) := hu 10 rfl; refine Flow.want rfl ?_; refine Flow.val_call rfl Tryd.func42 (by kernel_rfl) rfl (by first | (simp only [List.map_toArray, List.map_cons, List.map_nil, Act.eval, e10]; done) | (simp only [List.map_toArray, List.map_cons, List.map_nil, Act.eval, e10]; rfl)) (words_c [⟨#[101, 114, 114, 111, 114]⟩, itoaB er] _ w' (strs_new (l := [⟨#[101, 114, 114, 111, 114]⟩, itoaB er]) (blk_below Kg4_3.out hx)) (by simp only [List.length_cons, List.length_nil]; decide) (Nat.le_trans HZ2.out (by decide))) ?_; rintro e w2 ⟨rfl, hb2⟩; exact ⟨_, rfl, hK _ _ hb2 (by rfl)⟩
            · intro a w' hx hu hd K hK; have e11 := Flow.got (hd 4 rfl) 11 rfl; exact Flow.run1 rfl (Flow.r_assign rfl e11) (hK _ _ (Below.refl _ _) rfl)
          · intro vs W5 hb5 hT
            have v4 := Flow.eqn (hT 4 (by decide) (by decide))
            have v5 := Flow.eqn (hT 5 (by decide) (by decide))
            simp only [Flow.putsT, v4, v5, Act.put, List.setIfInBounds_toArray, List.set_cons_zero, List.set_cons_succ, List.drop_succ_cons, List.drop_zero, List.take_succ_cons, List.take_zero]
            clear hT v4 v5
            have HB5 := Aside0.mk (below_step HB4.out hb5)
            have Kg1_2_3_4_5 := Aside0.mk (blk_below Kg1_2_3_4.out hb5)
            have Kg4_3_5 := Aside0.mk (blk_below Kg4_3.out hb5)
            clear hb5
            go_wp2
            go_ret
            exact ⟨rfl, HB5.out⟩
  · skip
    have HE := Aside0.mk (show replyB er l.length s wp g = wordsB ([(⟨#[111, 107]⟩ : ByteArray)] ++ (if l.length > 0 then [itoaB l.length] else []) ++ (if s ≠ 0 ∨ wp ≠ 0 ∨ g ≠ 0 then [stateB s, itoaB wp] else [])) by unfold replyB; rw [if_neg h0])
    skip
    go_enter Tryd.func23, Tryd.ntmps23
    go_upto_region 0 with fail
    refine wp_region_lit ?_
    refine ebox (v := (.agg #[.int .i64 er, .slice A l.length c, .int .i64 s, .int .i64 wp, .int .i64 g])) rfl rfl rfl ?_
    intro g6 hg6 W6 hk6 hb6
    have Kg6 := Aside0.mk hk6
    have HB6 := Aside0.mk hb6
    clear hb6
    have Gg6 := Aside0.mk (show w.heap.size ≤ g6 by rw [hg6]; exact Nat.le_refl _)
    clear hg6 hk6
    simp only [Act.put, List.setIfInBounds_toArray, List.set_cons_zero, List.set_cons_succ]
    refine Flow.seqL (E := fun u v => Below u.heap.size u v) 1 1 [(some 1, []), (some 2, [])] (fun iQ vQ wQ => match iQ with | 1 => vQ = (.string ⟨#[]⟩) | _ => True) rfl (by decide) (by kernel_rfl) (Below.refl _ _) (fun _ _ _ h k => h.trans (k.mono h.size)) (fun _ _ _ _ h _ => h) ?_ ?_
    · refine ⟨?_, trivial⟩
      · intro a w' hx hu hd K hK; exact Flow.run1 rfl (Flow.r_assign rfl rfl) (hK _ _ (Below.refl _ _) rfl)
    · intro vs W7 hb7 hT
      have v1 := Flow.eqn (hT 1 (by decide) (by decide))
      simp only [Flow.putsT, v1, Act.put, List.setIfInBounds_toArray, List.set_cons_zero, List.set_cons_succ, List.drop_succ_cons, List.drop_zero, List.take_succ_cons, List.take_zero]
      clear hT v1
      have HB7 := Aside0.mk (below_step HB6.out hb7)
      have Kg6_7 := Aside0.mk (blk_below Kg6.out hb7)
      clear hb7
      go_upto_region 1 with fail
      refine Flow.seqT (E := fun u v => Below u.heap.size u v) [(some 4, []), (some 5, [0]), (some 6, [1])] (fun iQ vQ wQ => match iQ with | 0 => vQ = (.pointer (some ⟨g6, 0, none⟩)) | 1 => vQ = (.int .i64 er) | 2 => vQ = (.bool false) | _ => True) rfl (by kernel_rfl) (Below.refl _ _) (fun _ _ _ h k => h.trans (k.mono h.size)) (fun _ _ _ _ h _ => h) ?_ ?_
      · refine ⟨?_, ?_, ?_, trivial⟩
        · intro a w' hx hu hd K hK; have e1 : a.tmps.getD 1 undef = (.pointer (some ⟨g6, 0, none⟩)) := hu 1 rfl; exact Flow.run1 rfl (fa rfl e1 (fa48_0 _ _ _)) (hK _ _ (Below.refl _ _) rfl)
        · intro a w' hx hu hd K hK; have e4 := Flow.got (hd 0 rfl) 4 rfl; exact Flow.run1 rfl (ld rfl e4 ((blk_cell (blk_below Kg6_7.out hx) 0).trans rfl) Tryd.underlying46 rfl) (hK _ _ (Below.refl _ _) rfl)
        · intro a w' hx hu hd K hK; have e5 := Flow.got (hd 1 rfl) 5 rfl; exact Flow.run1 rfl (no (neq rfl e5 rfl) (bne_eq_false_iff_eq.2 (Decidable.not_not.1 h0))) (hK _ _ (Below.refl _ _) rfl)
      · intro vs W8 hb8 hT
        have v0 := Flow.eqn (hT 0 (by decide))
        have v1 := Flow.eqn (hT 1 (by decide))
        have v2 := Flow.eqn (hT 2 (by decide))
        simp only [Flow.putsT, v0, v1, v2, Act.put, List.setIfInBounds_toArray, List.set_cons_zero, List.set_cons_succ]
        clear hT v0 v1 v2
        have HB8 := Aside0.mk (below_step HB7.out hb8)
        have Kg6_7_8 := Aside0.mk (blk_below Kg6_7.out hb8)
        clear hb8
        have HPA := Aside0.mk (HPW.out.below HB8.out)
        go_upto_region 3 with fail
        refine Flow.seqT_head (E := fun u v => Below u.heap.size u v) 1 [(some 12, []), (some 3, [0, 0])] (fun iQ vQ wQ => match iQ with | 0 => SliceAt #[.string ⟨#[111, 107]⟩] 9 1 W8.heap.size vQ wQ | _ => True) rfl (by decide) (by kernel_rfl) (Below.refl _ _) (fun _ _ _ h k => h.trans (k.mono h.size)) (fun iQ vQ w1Q w2Q hQ hEQ => match iQ, hQ with | 0, hQ => slice_below hQ hEQ | _ + 1, _ => trivial) ?_ ?_
        · refine ⟨?_, trivial⟩
          · intro a w' hx hu hd K hK; exact Flow.run1 rfl (row1_79 rfl rfl) (hK _ _ (below_alloc (Below.refl _ _) _) (slice_new (hx : Below _ _ _).size))
        · intro vs W10 hb10 hT
          obtain ⟨g10_0, v0, hge0, hk0⟩ : SliceAt _ _ _ _ _ _ := hT 0 (by decide)
          have Kg10_0 := Aside0.mk hk0
          have Gg10_0 := Aside0.mk hge0
          clear hk0 hge0
          simp only [Flow.putsT, v0, Act.put, List.setIfInBounds_toArray, List.set_cons_zero, List.set_cons_succ, List.drop_succ_cons, List.drop_zero, List.take_succ_cons, List.take_zero]
          clear hT v0
          have HB10 := Aside0.mk hb10
          clear hb10
          refine Flow.seqL (E := fun u v => Below u.heap.size u v) 1 1 [(some 12, []), (some 3, [0, 0])] (fun iQ vQ wQ => match iQ with | 1 => vQ = (.slice (some ⟨g10_0, 0, none⟩) 1 1) | _ => True) rfl (by decide) (by kernel_rfl) (Below.refl _ _) (fun _ _ _ h k => h.trans (k.mono h.size)) (fun _ _ _ _ h _ => h) ?_ ?_
          · refine ⟨?_, trivial⟩
            · intro a w' hx hu hd K hK; have e12 : a.tmps.getD 12 undef = (.slice (some ⟨g10_0, 0, none⟩) 1 1) := hu 12 rfl; exact Flow.run1 rfl (Flow.r_assign rfl e12) (hK _ _ (Below.refl _ _) rfl)
          · intro vs W11 hb11 hT
            have v1 := Flow.eqn (hT 1 (by decide) (by decide))
            simp only [Flow.putsT, v1, Act.put, List.setIfInBounds_toArray, List.set_cons_zero, List.set_cons_succ, List.drop_succ_cons, List.drop_zero, List.take_succ_cons, List.take_zero]
            clear hT v1
            have HB11 := Aside0.mk (below_step HB10.out hb11)
            have Kg10_0_11 := Aside0.mk (blk_below Kg10_0.out hb11)
            clear hb11
            have HR := Aside0.mk (R_row Value.string (fun _ => rfl) (l := [(⟨#[111, 107]⟩ : ByteArray)]) (base := W8.heap.size) Kg10_0_11.out Gg10_0.out (show 1 ≤ maxLen by decide))
            obtain ⟨c1, Hc1⟩ : ∃ b, Aside0 (decide (l.length > 0) = b) := ⟨_, ⟨rfl⟩⟩
            go_upto_region 4 with fail
            refine Flow.seqT (E := fun u v => Below u.heap.size u v) [(some 13, []), (some 14, [0]), (some 15, [1]), (some 16, [2])] (fun iQ vQ wQ => match iQ with | 0 => vQ = (.pointer (some ⟨g6, 1, none⟩)) | 1 => vQ = (.slice A l.length c) | 2 => vQ = (.int .i64 l.length) | 3 => vQ = (.bool c1) | _ => True) rfl (by kernel_rfl) (Below.refl _ _) (fun _ _ _ h k => h.trans (k.mono h.size)) (fun _ _ _ _ h _ => h) ?_ ?_
            · refine ⟨?_, ?_, ?_, ?_, trivial⟩
              · intro a w' hx hu hd K hK; have e1 : a.tmps.getD 1 undef = (.pointer (some ⟨g6, 0, none⟩)) := hu 1 rfl; exact Flow.run1 rfl (fa rfl e1 (fa48_1 _ _ _)) (hK _ _ (Below.refl _ _) rfl)
              · intro a w' hx hu hd K hK; have e13 := Flow.got (hd 0 rfl) 13 rfl; exact Flow.run1 rfl (ld rfl e13 ((blk_cell (blk_below Kg6_7_8.out (below_step HB11.out hx)) 1).trans rfl) Tryd.underlying43 rfl) (hK _ _ (Below.refl _ _) rfl)
              · intro a w' hx hu hd K hK; have e14 := Flow.got (hd 1 rfl) 14 rfl; exact Flow.run1 rfl (lenL Tryd.underlying43 rfl e14) (hK _ _ (Below.refl _ _) rfl)
              · intro a w' hx hu hd K hK; have e15 := Flow.got (hd 2 rfl) 15 rfl; exact Flow.run1 rfl (is (gtr rfl e15 rfl) ((show decide (((l.length : Nat) : Int) > 0) = decide (l.length > 0) from by rw [Bool.eq_iff_iff]; simp only [decide_eq_true_eq]; omega).trans Hc1.out)) (hK _ _ (Below.refl _ _) rfl)
            · intro vs W12 hb12 hT
              have v0 := Flow.eqn (hT 0 (by decide))
              have v1 := Flow.eqn (hT 1 (by decide))
              have v2 := Flow.eqn (hT 2 (by decide))
              have v3 := Flow.eqn (hT 3 (by decide))
              simp only [Flow.putsT, v0, v1, v2, v3, Act.put, List.setIfInBounds_toArray, List.set_cons_zero, List.set_cons_succ]
              clear hT v0 v1 v2 v3
              have HB12 := Aside0.mk (below_step HB11.out hb12)
              have HR_12 := Aside0.mk (Kd.R_below HR.out hb12)
              clear hb12
              go_upto_if 16 with fail
              go_cut [3] (fun v wx => Aside0 (Below W8.heap.size W8 wx) ∧ Aside0 (Kd.R Kd.string 9 wx W8.heap.size (fun _ => True) v ([(⟨#[111, 107]⟩ : ByteArray)] ++ (if l.length > 0 then [itoaB l.length] else []))))
              case first =>
                cases c1 with
                | true =>
                  go_upto_region 5 with fail
                  refine Flow.seqT_head (E := fun u v => Below u.heap.size u v) 6 [(some 17, []), (some 18, []), (some 19, [1]), (some 20, [2]), (some 21, [3]), (some 22, [4]), (some 23, [0, 5, 4]), (some 3, [6, 6, 0, 1, 2, 3, 4, 5, 6])] (fun iQ vQ wQ => match iQ with | 0 => vQ = (.slice (some ⟨g10_0, 0, none⟩) 1 1) | 1 => vQ = (.pointer (some ⟨g6, 1, none⟩)) | 2 => vQ = (.slice A l.length c) | 3 => vQ = (.int .i64 l.length) | 4 => vQ = (.string (itoaB l.length)) | 5 => SliceAt #[.string (itoaB l.length)] 9 1 W8.heap.size vQ wQ | _ => True) rfl (by decide) (by kernel_rfl) (Below.refl _ _) (fun _ _ _ h k => h.trans (k.mono h.size)) (fun iQ vQ w1Q w2Q hQ hEQ => match iQ, hQ with | 0, hQ => hQ | 1, hQ => hQ | 2, hQ => hQ | 3, hQ => hQ | 4, hQ => hQ | 5, hQ => slice_below hQ hEQ | _ + 6, _ => trivial) ?_ ?_
                  · refine ⟨?_, ?_, ?_, ?_, ?_, ?_, trivial⟩
                    · intro a w' hx hu hd K hK; have e3 : a.tmps.getD 3 undef = (.slice (some ⟨g10_0, 0, none⟩) 1 1) := hu 3 rfl; exact Flow.run1 rfl (Flow.r_move rfl e3) (hK _ _ (Below.refl _ _) rfl)
                    · intro a w' hx hu hd K hK; have e1 : a.tmps.getD 1 undef = (.pointer (some ⟨g6, 0, none⟩)) := hu 1 rfl; exact Flow.run1 rfl (fa rfl e1 (fa48_1 _ _ _)) (hK _ _ (Below.refl _ _) rfl)
                    · intro a w' hx hu hd K hK; have e18 := Flow.got (hd 1 rfl) 18 rfl; exact Flow.run1 rfl (ld rfl e18 ((blk_cell (blk_below Kg6_7_8.out (below_step HB12.out hx)) 1).trans rfl) Tryd.underlying43 rfl) (hK _ _ (Below.refl _ _) rfl)
                    · intro a w' hx hu hd K hK; have e19 := Flow.got (hd 2 rfl) 19 rfl; exact Flow.run1 rfl (lenL Tryd.underlying43 rfl e19) (hK _ _ (Below.refl _ _) rfl)
                    · intro a w' hx hu hd K hK; have e20 := Flow.got (hd 3 rfl) 20 rfl; refine Flow.want rfl ?_; refine Flow.val_call rfl Tryd.func41 (by kernel_rfl) rfl (by first | (simp only [List.map_toArray, List.map_cons, List.map_nil, Act.eval, e20]; done) | (simp only [List.map_toArray, List.map_cons, List.map_nil, Act.eval, e20]; rfl)) (num_c l.length hln w' (HPA.out.below (below_step HB12.out hx))) ?_; rintro e w2 ⟨rfl, hb2⟩; exact ⟨_, rfl, hK _ _ hb2 (by rfl)⟩
                    · intro a w' hx hu hd K hK; have e21 := Flow.got (hd 4 rfl) 21 rfl; exact Flow.run1 rfl (row1_79 rfl e21) (hK _ _ (below_alloc (Below.refl _ _) _) (slice_new (Nat.le_trans (HB12.out).size (hx : Below _ _ _).size)))
                  · intro vs W13 hb13 hT
                    have v0 := Flow.eqn (hT 0 (by decide))
                    have v1 := Flow.eqn (hT 1 (by decide))
                    have v2 := Flow.eqn (hT 2 (by decide))
                    have v3 := Flow.eqn (hT 3 (by decide))
                    have v4 := Flow.eqn (hT 4 (by decide))
                    obtain ⟨g13_5, v5, hge5, hk5⟩ : SliceAt _ _ _ _ _ _ := hT 5 (by decide)
                    have Kg13_5 := Aside0.mk hk5
                    have Gg13_5 := Aside0.mk hge5
                    clear hk5 hge5
                    simp only [Flow.putsT, v0, v1, v2, v3, v4, v5, Act.put, List.setIfInBounds_toArray, List.set_cons_zero, List.set_cons_succ, List.drop_succ_cons, List.drop_zero, List.take_succ_cons, List.take_zero]
                    clear hT v0 v1 v2 v3 v4 v5
                    have HB13 := Aside0.mk (below_step HB12.out hb13)
                    have HR_13 := Aside0.mk (Kd.R_below HR_12.out hb13)
                    clear hb13
                    have hl14 : ([(⟨#[111, 107]⟩ : ByteArray)]).length ≤ 1 := (Nat.le_refl 1)
                    refine eapp Value.string ByteArray.empty (w0 := W8) (base := W8.heap.size) (ys := [itoaB l.length]) rfl rfl Tryd.underlying79 info9 rfl (by decide) rfl rfl HR_13.out Kg13_5.out HB13.out HB13.out.size ?_ ?_
                    · show (([(⟨#[111, 107]⟩ : ByteArray)]).length + 1) * 16 ≤ _; omega
                    intro v14 W14 hr14 hb14 _
                    have HR_14 := Aside0.mk hr14
                    have HB14 := Aside0.mk hb14
                    clear hr14 hb14
                    simp only [Act.put, List.setIfInBounds_toArray, List.set_cons_zero, List.set_cons_succ]
                    refine Flow.seqL (E := fun u v => Below u.heap.size u v) 7 1 [(some 17, []), (some 18, []), (some 19, [1]), (some 20, [2]), (some 21, [3]), (some 22, [4]), (some 23, [0, 5, 4]), (some 3, [6, 6, 0, 1, 2, 3, 4, 5, 6])] (fun iQ vQ wQ => match iQ with | 7 => vQ = v14 | _ => True) rfl (by decide) (by kernel_rfl) (Below.refl _ _) (fun _ _ _ h k => h.trans (k.mono h.size)) (fun _ _ _ _ h _ => h) ?_ ?_
                    · refine ⟨?_, trivial⟩
                      · intro a w' hx hu hd K hK; have e23 : a.tmps.getD 23 undef = v14 := hu 23 rfl; exact Flow.run1 rfl (Flow.r_assign rfl e23) (hK _ _ (Below.refl _ _) rfl)
                    · intro vs W15 hb15 hT
                      have v7 := Flow.eqn (hT 7 (by decide) (by decide))
                      simp only [Flow.putsT, v7, Act.put, List.setIfInBounds_toArray, List.set_cons_zero, List.set_cons_succ, List.drop_succ_cons, List.drop_zero, List.take_succ_cons, List.take_zero]
                      clear hT v7
                      have HB15 := Aside0.mk (below_step HB14.out hb15)
                      have HR_15 := Aside0.mk (Kd.R_below HR_14.out hb15)
                      clear hb15
                      go_wp2_with fail
                      go_meet
                      exact ⟨HB15, ⟨by rw [if_pos (of_decide_eq_true Hc1.out)]; exact HR_15.out⟩⟩
                | false =>
                  go_wp2_with fail
                  go_meet
                  exact ⟨HB12, ⟨by rw [if_neg (of_decide_eq_false Hc1.out), List.append_nil]; exact HR_12.out⟩⟩
              case rest =>
                clear HR_12 HB12
                obtain ⟨HB16, HR_16⟩ := hcut
                obtain ⟨c2, Hc2⟩ : ∃ b, Aside0 (decide (s ≠ 0 ∨ wp ≠ 0 ∨ g ≠ 0) = b) := ⟨_, ⟨rfl⟩⟩
                go_upto_region 6 with fail
                refine Flow.seqT (E := fun u v => Below u.heap.size u v) [(some 24, []), (some 25, [0]), (some 26, []), (some 27, [1, 2])] (fun iQ vQ wQ => match iQ with | 0 => vQ = (.pointer (some ⟨g6, 2, none⟩)) | 1 => vQ = (.agg #[.int .i64 s, .int .i64 wp, .int .i64 g]) | 2 => vQ = (.agg #[.int .i64 0, .int .i64 0, .int .i64 0]) | 3 => vQ = (.bool c2) | _ => True) rfl (by kernel_rfl) (Below.refl _ _) (fun _ _ _ h k => h.trans (k.mono h.size)) (fun _ _ _ _ h _ => h) ?_ ?_
                · refine ⟨?_, ?_, ?_, ?_, trivial⟩
                  · intro a w' hx hu hd K hK; have e1 : a.tmps.getD 1 undef = (.pointer (some ⟨g6, 0, none⟩)) := hu 1 rfl; exact Flow.run1 rfl (fa rfl e1 (fa48_2 _ _ _)) (hK _ _ (Below.refl _ _) rfl)
                  · intro a w' hx hu hd K hK; have e24 := Flow.got (hd 0 rfl) 24 rfl; exact Flow.run1 rfl (ldrow (c := [.int .i64 s, .int .i64 wp, .int .i64 g]) rfl e24 (lies_part (blk_below Kg6_7_8.out (below_step HB16.out hx)) rfl) Tryd.underlying24 rfl size24) (hK _ _ (Below.refl _ _) rfl)
                  · intro a w' hx hu hd K hK; exact Flow.run1 rfl (bld24 rfl) (hK _ _ (Below.refl _ _) rfl)
                  · intro a w' hx hu hd K hK; have e25 := Flow.got (hd 1 rfl) 25 rfl; have e26 := Flow.got (hd 2 rfl) 26 rfl; exact Flow.run1 rfl (is (nes_one rfl e25 e26) ((show (!((s == 0) && (wp == 0) && (g == 0))) = decide (s ≠ 0 ∨ wp ≠ 0 ∨ g ≠ 0) from by rw [Bool.eq_iff_iff]; simp [-not_and]; omega).trans Hc2.out)) (hK _ _ (Below.refl _ _) rfl)
                · intro vs W17 hb17 hT
                  have v0 := Flow.eqn (hT 0 (by decide))
                  have v1 := Flow.eqn (hT 1 (by decide))
                  have v2 := Flow.eqn (hT 2 (by decide))
                  have v3 := Flow.eqn (hT 3 (by decide))
                  simp only [Flow.putsT, v0, v1, v2, v3, Act.put, List.setIfInBounds_toArray, List.set_cons_zero, List.set_cons_succ]
                  clear hT v0 v1 v2 v3
                  have HB17 := Aside0.mk (below_step HB16.out hb17)
                  have HR_17 := Aside0.mk (Kd.R_below HR_16.out hb17)
                  clear hb17
                  go_upto_if 27 with fail
                  go_cut [3] (fun v wx => Aside0 (Below W8.heap.size W8 wx) ∧ Aside0 (Kd.R Kd.string 9 wx W8.heap.size (fun _ => True) v ([(⟨#[111, 107]⟩ : ByteArray)] ++ (if l.length > 0 then [itoaB l.length] else []) ++ (if s ≠ 0 ∨ wp ≠ 0 ∨ g ≠ 0 then [stateB s, itoaB wp] else []))))
                  case first =>
                    cases c2 with
                    | true =>
                      go_upto_region 7 with fail
                      refine Flow.flowT_head (E := fun u v => Below u.heap.size u v) 10 [(some 28, []), (some 29, []), (some 30, [1]), (some 31, [2]), (some 32, [3]), (some 33, []), (some 34, [5]), (some 35, [6]), (some 36, [7, 4]), (some 37, [4, 8]), (some 38, [0, 9, 8]), (some 3, [10, 10, 0, 1, 2, 3, 4, 5, 6, 7, 8, 9, 10])] (fun iQ vQ wQ => match iQ with | 0 => vQ = u3 | 1 => vQ = (.pointer (some ⟨g6, 2, none⟩)) | 2 => vQ = (.pointer (some ⟨g6, 2, none⟩)) | 3 => vQ = (.int .i64 s) | 4 => vQ = (.string (stateB s)) | 5 => vQ = (.pointer (some ⟨g6, 2, none⟩)) | 6 => vQ = (.pointer (some ⟨g6, 3, none⟩)) | 7 => vQ = (.int .i64 wp) | 8 => vQ = (.string (itoaB wp)) | 9 => SliceAt #[.string (stateB s), .string (itoaB wp)] 9 2 W8.heap.size vQ wQ | _ => True) rfl (by kernel_rfl) (by kernel_rfl) (by kernel_rfl) ((Below.refl _ _).drew) (fun _ _ _ h k => h.trans (k.mono h.size)) (fun iQ vQ w1Q w2Q hQ hEQ => match iQ, hQ with | 0, hQ => hQ | 1, hQ => hQ | 2, hQ => hQ | 3, hQ => hQ | 4, hQ => hQ | 5, hQ => hQ | 6, hQ => hQ | 7, hQ => hQ | 8, hQ => hQ | 9, hQ => slice_below hQ hEQ | _ + 10, _ => trivial) ?_ ?_
                      · refine ⟨?_, ?_, ?_, ?_, ?_, ?_, ?_, ?_, ?_, ?_, trivial⟩
                        · intro a w' hx hu hd K hK; have e3 : a.tmps.getD 3 undef = u3 := hu 3 rfl; exact Flow.run1 rfl (Flow.r_move rfl e3) (hK _ _ (Below.refl _ _) rfl)
                        · intro a w' hx hu hd K hK; have e1 : a.tmps.getD 1 undef = (.pointer (some ⟨g6, 0, none⟩)) := hu 1 rfl; exact Flow.run1 rfl (fa rfl e1 (fa48_2 _ _ _)) (hK _ _ (Below.refl _ _) rfl)
                        · intro a w' hx hu hd K hK; have e29 := Flow.got (hd 1 (by decide)) 29 rfl; exact Flow.run1 rfl (fa rfl e29 (fa24_0 _ _ _)) (hK _ _ (Below.refl _ _) rfl)
                        · intro a w' hx hu hd K hK; have e30 := Flow.got (hd 2 (by decide)) 30 rfl; exact Flow.run1 rfl (ld rfl e30 ((blk_cell (blk_below Kg6_7_8.out (below_step HB17.out hx)) 2).trans rfl) Tryd.underlying3 rfl) (hK _ _ (Below.refl _ _) rfl)
                        · intro a w' hx hu hd K hK; have e31 := Flow.got (hd 3 (by decide)) 31 rfl; refine Flow.want rfl ?_; refine Flow.val_call rfl Tryd.func14 (by kernel_rfl) rfl (by first | (simp only [List.map_toArray, List.map_cons, List.map_nil, Act.eval, e31]; done) | (simp only [List.map_toArray, List.map_cons, List.map_nil, Act.eval, e31]; rfl)) (state_c s w') ?_; rintro e w2 ⟨rfl, hb2⟩; exact ⟨_, rfl, hK _ _ hb2 (by rfl)⟩
                        · intro a w' hx hu hd K hK; have e1 : a.tmps.getD 1 undef = (.pointer (some ⟨g6, 0, none⟩)) := hu 1 rfl; exact Flow.run1 rfl (fa rfl e1 (fa48_2 _ _ _)) (hK _ _ (Below.refl _ _) rfl)
                        · intro a w' hx hu hd K hK; have e33 := Flow.got (hd 5 (by decide)) 33 rfl; exact Flow.run1 rfl (fa rfl e33 (fa24_1 _ _ _)) (hK _ _ (Below.refl _ _) rfl)
                        · intro a w' hx hu hd K hK; have e34 := Flow.got (hd 6 (by decide)) 34 rfl; exact Flow.run1 rfl (ld rfl e34 ((blk_cell (blk_below Kg6_7_8.out (below_step HB17.out hx)) 3).trans rfl) Tryd.underlying3 rfl) (hK _ _ (Below.refl _ _) rfl)
                        · intro a w' hx hu hd K hK; have e35 := Flow.got (hd 7 (by decide)) 35 rfl; refine Flow.want rfl ?_; refine Flow.val_call rfl Tryd.func41 (by kernel_rfl) rfl (by first | (simp only [List.map_toArray, List.map_cons, List.map_nil, Act.eval, e35]; done) | (simp only [List.map_toArray, List.map_cons, List.map_nil, Act.eval, e35]; rfl)) (num_c wp hwp w' (HPA.out.below (below_step HB17.out hx))) ?_; rintro e w2 ⟨rfl, hb2⟩; exact ⟨_, rfl, hK _ _ hb2 (by rfl)⟩
                        · intro a w' hx hu hd K hK; have e32 := Flow.got (hd 4 (by decide)) 32 rfl; have e36 := Flow.got (hd 8 (by decide)) 36 rfl; exact Flow.run1 rfl (row2_79 rfl e32 e36) (hK _ _ (below_alloc (Below.refl _ _) _) (slice_new (Nat.le_trans (HB17.out).size (hx : Below _ _ _).size)))
                      · intro vs W18 hb18 hT
                        have v0 := Flow.eqn (hT 0 (by decide))
                        have v1 := Flow.eqn (hT 1 (by decide))
                        have v2 := Flow.eqn (hT 2 (by decide))
                        have v3 := Flow.eqn (hT 3 (by decide))
                        have v4 := Flow.eqn (hT 4 (by decide))
                        have v5 := Flow.eqn (hT 5 (by decide))
                        have v6 := Flow.eqn (hT 6 (by decide))
                        have v7 := Flow.eqn (hT 7 (by decide))
                        have v8 := Flow.eqn (hT 8 (by decide))
                        obtain ⟨g18_9, v9, hge9, hk9⟩ : SliceAt _ _ _ _ _ _ := hT 9 (by decide)
                        have Kg18_9 := Aside0.mk hk9
                        have Gg18_9 := Aside0.mk hge9
                        clear hk9 hge9
                        simp only [Flow.putsT, v0, v1, v2, v3, v4, v5, v6, v7, v8, v9, Act.put, List.setIfInBounds_toArray, List.set_cons_zero, List.set_cons_succ, List.drop_succ_cons, List.drop_zero, List.take_succ_cons, List.take_zero]
                        clear hT v0 v1 v2 v3 v4 v5 v6 v7 v8 v9
                        have HB18 := Aside0.mk (below_step HB17.out hb18)
                        have HR_18 := Aside0.mk (Kd.R_below HR_17.out hb18)
                        clear hb18
                        have hl19 : ([(⟨#[111, 107]⟩ : ByteArray)] ++ (if l.length > 0 then [itoaB l.length] else [])).length ≤ 2 := (by rw [List.length_append]; split <;> simp)
                        refine eapp Value.string ByteArray.empty (w0 := W8) (base := W8.heap.size) (ys := [stateB s, itoaB wp]) rfl rfl Tryd.underlying79 info9 rfl (by decide) rfl rfl HR_18.out Kg18_9.out HB18.out HB18.out.size ?_ ?_
                        · show (([(⟨#[111, 107]⟩ : ByteArray)] ++ (if l.length > 0 then [itoaB l.length] else [])).length + 2) * 16 ≤ _; omega
                        intro v19 W19 hr19 hb19 _
                        have HR_19 := Aside0.mk hr19
                        have HB19 := Aside0.mk hb19
                        clear hr19 hb19
                        simp only [Act.put, List.setIfInBounds_toArray, List.set_cons_zero, List.set_cons_succ]
                        refine Flow.seqL (E := fun u v => Below u.heap.size u v) 11 1 [(some 28, []), (some 29, []), (some 30, [1]), (some 31, [2]), (some 32, [3]), (some 33, []), (some 34, [5]), (some 35, [6]), (some 36, [7, 4]), (some 37, [4, 8]), (some 38, [0, 9, 8]), (some 3, [10, 10, 0, 1, 2, 3, 4, 5, 6, 7, 8, 9, 10])] (fun iQ vQ wQ => match iQ with | 11 => vQ = v19 | _ => True) rfl (by decide) (by kernel_rfl) (Below.refl _ _) (fun _ _ _ h k => h.trans (k.mono h.size)) (fun _ _ _ _ h _ => h) ?_ ?_
                        · refine ⟨?_, trivial⟩
                          · intro a w' hx hu hd K hK; have e38 : a.tmps.getD 38 undef = v19 := hu 38 rfl; exact Flow.run1 rfl (Flow.r_assign rfl e38) (hK _ _ (Below.refl _ _) rfl)
                        · intro vs W20 hb20 hT
                          have v11 := Flow.eqn (hT 11 (by decide) (by decide))
                          simp only [Flow.putsT, v11, Act.put, List.setIfInBounds_toArray, List.set_cons_zero, List.set_cons_succ, List.drop_succ_cons, List.drop_zero, List.take_succ_cons, List.take_zero]
                          clear hT v11
                          have HB20 := Aside0.mk (below_step HB19.out hb20)
                          have HR_20 := Aside0.mk (Kd.R_below HR_19.out hb20)
                          clear hb20
                          go_wp2_with fail
                          go_meet
                          exact ⟨HB20, ⟨by rw [if_pos (of_decide_eq_true Hc2.out)]; exact HR_20.out⟩⟩
                    | false =>
                      go_wp2_with fail
                      go_meet
                      exact ⟨HB17, ⟨by rw [if_neg (of_decide_eq_false Hc2.out), List.append_nil]; exact HR_17.out⟩⟩
                  case rest =>
                    clear HR_17 HB17
                    obtain ⟨HB21, HR_21⟩ := hcut
                    have HL := Aside0.mk (show ([(⟨#[111, 107]⟩ : ByteArray)] ++ (if l.length > 0 then [itoaB l.length] else []) ++ (if s ≠ 0 ∨ wp ≠ 0 ∨ g ≠ 0 then [stateB s, itoaB wp] else [])).length ≤ 4 by rw [List.length_append, List.length_append]; split <;> split <;> simp)
                    have HS := Aside0.mk (strs_R (l := [(⟨#[111, 107]⟩ : ByteArray)] ++ (if l.length > 0 then [itoaB l.length] else []) ++ (if s ≠ 0 ∨ wp ≠ 0 ∨ g ≠ 0 then [stateB s, itoaB wp] else [])) HR_21.out (by simp))
                    go_upto_region 8 with fail
                    refine Flow.seqT (E := fun u v => Below u.heap.size u v) [(some 39, []), (some 40, [0]), (some 2, [1, 1, 0, 1])] (fun iQ vQ wQ => match iQ with | 0 => vQ = u3 | 1 => vQ = (.string (replyB er l.length s wp g)) | 2 => vQ = (.string (replyB er l.length s wp g)) | _ => True) rfl (by kernel_rfl) (Below.refl _ _) (fun _ _ _ h k => h.trans (k.mono h.size)) (fun _ _ _ _ h _ => h) ?_ ?_
                    · refine ⟨?_, ?_, ?_, trivial⟩
                      · intro a w' hx hu hd K hK; have e3 : a.tmps.getD 3 undef = u3 := hu 3 rfl; exact Flow.run1 rfl (Flow.r_move rfl e3) (hK _ _ (Below.refl _ _) rfl)
                      · intro a w' hx hu hd K hK; have e39 := Flow.got (hd 0 rfl) 39 rfl; refine Flow.want rfl ?_; refine Flow.val_call rfl Tryd.func42 (by kernel_rfl) rfl (by first | (simp only [List.map_toArray, List.map_cons, List.map_nil, Act.eval, e39]; done) | (simp only [List.map_toArray, List.map_cons, List.map_nil, Act.eval, e39]; rfl)) (words_is _ _ _ w' HE.out (HS.out.below hx) (Nat.le_trans HL.out (by decide)) (Nat.le_trans HZ.out (by decide))) ?_; rintro e w2 ⟨rfl, hb2⟩; exact ⟨_, rfl, hK _ _ hb2 (by rfl)⟩
                      · intro a w' hx hu hd K hK; have e40 := Flow.got (hd 1 rfl) 40 rfl; exact Flow.run1 rfl (Flow.r_assign rfl e40) (hK _ _ (Below.refl _ _) rfl)
                    · intro vs W22 hb22 hT
                      have v0 := Flow.eqn (hT 0 (by decide))
                      have v1 := Flow.eqn (hT 1 (by decide))
                      have v2 := Flow.eqn (hT 2 (by decide))
                      simp only [Flow.putsT, v0, v1, v2, Act.put, List.setIfInBounds_toArray, List.set_cons_zero, List.set_cons_succ]
                      clear hT v0 v1 v2
                      have HB22 := Aside0.mk (below_step HB21.out hb22)
                      have HS_22 := Aside0.mk (Strs.below HS.out hb22)
                      clear hb22
                      go_wp2
                      go_ret
                      exact ⟨rfl, below_step HB8.out HB22.out⟩
end Go.Proofs.YtlhmpmmblnbmbaaDoor.Rep
