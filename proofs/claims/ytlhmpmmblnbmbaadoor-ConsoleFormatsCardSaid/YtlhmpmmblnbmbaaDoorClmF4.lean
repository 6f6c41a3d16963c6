/- Own work and lines of the print, as much as consoleFormats_holds needs: part 4. -/
import Derived.Test.YtlhmpmmblnbmbaaDoorClmF3
set_option linter.unusedVariables false
set_option linter.unusedSimpArgs false
namespace Go.Proofs.YtlhmpmmblnbmbaaDoor.Con
open Go.Lib Go.RowKit Go.Proofs.YtlhmpmmblnbmbaaDoor.Ev Go.Proofs.YtlhmpmmblnbmbaaDoor.Ke Go.Proofs.YtlhmpmmblnbmbaaDoor.Cells Go.Proofs.YtlhmpmmblnbmbaaDoor.PConsoleParses Go.Proofs.YtlhmpmmblnbmbaaDoorW.PrintWords Go.Proofs.YtlhmpmmblnbmbaaDoorW.PrintLast Go.Proofs.YtlhmpmmblnbmbaaDoorW.PrintMore WordsPlain NumberPlain
theorem bld104_0_1_2 {o : Oper} {a : Act} {w : World} {x0 x1 x2 : Operand} {c0 : Int} {c1 : Int} {c2 : Int} (ho : o.op = .build 104 #[(0, x0), (1, x1), (2, x2)]) (h0 : a.eval x0 = .int .i64 c0) (h1 : a.eval x1 = .int .i64 c1) (h2 : a.eval x2 = .int .i64 c2) : (execOp a.eval o).run Tryd.prog w = .ok (.value (.agg #[.int .i64 c0, .int .i64 c1, .int .i64 c2])) w := by
 have hu104 := Tryd.underlying104
 have hu3 := Tryd.underlying3
 unfold execOp
 simp only [ho, List.map_toArray, List.map_cons, List.map_nil, h0, h1, h2]
 clear ho h0 h1 h2
 first
 | (go_simp; done)
 | (go_simp; rfl)
theorem row8_79 {o : Oper} {a : Act} {w : World} {x0 x1 x2 x3 x4 x5 x6 x7 : Operand} {c0 : ByteArray} {c1 : ByteArray} {c2 : ByteArray} {c3 : ByteArray} {c4 : ByteArray} {c5 : ByteArray} {c6 : ByteArray} {c7 : ByteArray} (ho : o.op = .buildSlice 79 8 #[(0, x0), (1, x1), (2, x2), (3, x3), (4, x4), (5, x5), (6, x6), (7, x7)]) (h0 : a.eval x0 = .string c0) (h1 : a.eval x1 = .string c1) (h2 : a.eval x2 = .string c2) (h3 : a.eval x3 = .string c3) (h4 : a.eval x4 = .string c4) (h5 : a.eval x5 = .string c5) (h6 : a.eval x6 = .string c6) (h7 : a.eval x7 = .string c7) : (execOp a.eval o).run Tryd.prog w = .ok (.value (.slice (some ⟨w.heap.size, 0, none⟩) 8 8)) (w.alloc (.cells #[.string c0, .string c1, .string c2, .string c3, .string c4, .string c5, .string c6, .string c7] 9 (0, 0))) := by
 have hu79 := Tryd.underlying79
 have hu9 := Tryd.underlying9
 unfold execOp
 simp only [ho, List.map_toArray, List.map_cons, List.map_nil, h0, h1, h2, h3, h4, h5, h6, h7]
 clear ho h0 h1 h2 h3 h4 h5 h6 h7
 first
 | (go_simp; done)
 | (go_simp; rfl)
/-- Which step's word a step has: its place among the fifteen; -1: none. -/
def idxI (x : A10) : Int := if x.kind = 0 ∧ 0 ≤ x.cmd ∧ x.cmd < 8 then x.cmd else if 0 < x.kind ∧ x.kind < 8 then x.kind + 7 else -1
theorem idx_c {x : A10} (h0 : x.kind = 0) (h1 : x.cmd ≥ 0) (h2 : x.cmd < 8) : idxI x = x.cmd := if_pos ⟨h0, h1, h2⟩
theorem idx_n1 {x : A10} (h0 : x.kind = 0) (h : ¬ (x.cmd ≥ 0 ∧ x.cmd < 8)) : idxI x = -1 := by
 unfold idxI
 rw [if_neg (fun e => h e.2), if_neg (by omega)]
theorem idx_k {x : A10} (h0 : x.kind > 0) (h1 : x.kind < 8) : idxI x = x.kind + 7 := by
 unfold idxI
 rw [if_neg (by omega), if_pos ⟨h0, h1⟩]
theorem idx_n2 {x : A10} (h0 : ¬ x.kind = 0) (h1 : ¬ (x.kind > 0 ∧ x.kind < 8)) : idxI x = -1 := by
 unfold idxI
 rw [if_neg (fun e => h0 e.1), if_neg h1]
/-- The word: of no step the empty text. -/
def wdI (i : Int) : ByteArray := if 0 ≤ i then wd i.toNat else ⟨#[]⟩
def num3 (x : A10) : Int × Int × Int := if x.kind = 0 then (x.zone, x.at_, x.n) else if x.kind = 1 then (x.k, 0, 0) else (x.m, x.k, 0)
def farI (n : Int) : Bool := decide (n > 999999999999) || decide (n < -999999999999)
def cmdsL : List ByteArray := [wd 0, wd 1, wd 2, wd 3, wd 4, wd 5, wd 6, wd 7]
def kindsL : List ByteArray := [⟨#[]⟩, wd 8, wd 9, wd 10, wd 11, wd 12, wd 13, wd 14]
theorem cmds_at {i : Nat} (h : i < 8) : cmdsL.getD i ByteArray.empty = wdI i := by
 match i, h with
 | 0, _ => rfl
 | 1, _ => rfl
 | 2, _ => rfl
 | 3, _ => rfl
 | 4, _ => rfl
 | 5, _ => rfl
 | 6, _ => rfl
 | 7, _ => rfl
theorem kinds_at {i : Nat} (h : i < 8) (h0 : 0 < i) : kindsL.getD i ByteArray.empty = wdI ((i : Int) + 7) := by
 match i, h, h0 with
 | 1, _, _ => rfl
 | 2, _, _ => rfl
 | 3, _, _ => rfl
 | 4, _, _ => rfl
 | 5, _, _ => rfl
 | 6, _, _ => rfl
 | 7, _, _ => rfl
set_option maxHeartbeats 4000000 in
set_option maxRecDepth 100000 in
theorem far_c (n : Int) (w : World) : Calls Tryd.prog 37 #[.int .i64 n] w fun e w' => e = .returned (.bool (farI n)) ∧ Below w.heap.size w w' := by
 by_cases h1 : n > 999999999999
 ·have H1 := Aside0.mk h1
  clear h1
  have hf : farI n = true := by unfold farI; simp [H1.out]
  rw [hf]
  clear hf
  go_enter Tryd.func37, Tryd.ntmps37
  go_upto_region 0 with fail
  refine Flow.seqT (E := fun u v => Below u.heap.size u v) [(some 2, [])] (fun iQ vQ wQ => match iQ with | 0 => vQ = (.bool false) | _ => True) rfl (by kernel_rfl) (Below.refl _ _) (fun _ _ _ h k => h.trans (k.mono h.size)) (fun _ _ _ _ h _ => h) ?_ ?_
  ·refine ⟨?_, trivial⟩
   ·intro a w' hx hu hd K hK; exact Flow.run1 rfl (Flow.r_assign rfl rfl) (hK _ _ (Below.refl _ _) rfl)
  intro vs W1 hb1 hT
  have v0 := Flow.eqn (hT 0 (by decide))
  simp only [Flow.putsT, v0, Act.put, List.setIfInBounds_toArray, List.set_cons_zero, List.set_cons_succ]
  clear hT v0
  have HB1 := Aside0.mk (hb1)
  clear hb1
  go_upto_region 1 with fail
  refine Flow.seqT (E := fun u v => Below u.heap.size u v) [(some 3, []), (some 4, [0]), (some 5, [1]), (some 6, [2]), (some 7, [3, 2]), (some 8, [2, 4]), (some 2, [5, 2, 0, 1, 2, 3, 4, 5])] (fun iQ vQ wQ => match iQ with | 0 => vQ = (.int .i64 n) | 1 => vQ = (.bool true) | 2 => vQ = (.bool true) | 3 => vQ = undef | 4 => vQ = undef | 5 => vQ = (.bool true) | 6 => vQ = (.bool true) | _ => True) rfl (by kernel_rfl) (Below.refl _ _) (fun _ _ _ h k => h.trans (k.mono h.size)) (fun _ _ _ _ h _ => h) ?_ ?_
  ·refine ⟨?_, ?_, ?_, ?_, ?_, ?_, ?_, trivial⟩
   ·intro a w' hx hu hd K hK; have e0 : a.tmps.getD 0 undef = (.int .i64 n) := hu 0 rfl; exact Flow.run1 rfl (Flow.r_move rfl e0) (hK _ _ (Below.refl _ _) rfl)
   ·intro a w' hx hu hd K hK; have e3 := Flow.got (hd 0 rfl) 3 rfl; exact Flow.run1 rfl (yes (gtr rfl e3 rfl) (decide_eq_true H1.out)) (hK _ _ (Below.refl _ _) rfl)
   ·intro a w' hx hu hd K hK; have e4 := Flow.got (hd 1 rfl) 4 rfl; exact Flow.run1 rfl (Flow.r_move rfl e4) (hK _ _ (Below.refl _ _) rfl)
   ·intro a w' hx hu hd K hK; have e5 := Flow.got (hd 2 rfl) 5 rfl; exact Flow.spare (Flow.spare_of (k := 5) rfl e5 rfl) (hK _ _ (Below.refl _ _) rfl)
   ·intro a w' hx hu hd K hK; have e5 := Flow.got (hd 2 rfl) 5 rfl; exact Flow.spare (Flow.spare_of (k := 5) rfl e5 rfl) (hK _ _ (Below.refl _ _) rfl)
   ·intro a w' hx hu hd K hK; have e5 := Flow.got (hd 2 rfl) 5 rfl; have e7 := Flow.got (hd 4 rfl) 7 rfl; exact Flow.run1 rfl (Flow.r_pick rfl e5 rfl) (hK _ _ (Below.refl _ _) rfl)
   ·intro a w' hx hu hd K hK; have e8 := Flow.got (hd 5 rfl) 8 rfl; exact Flow.run1 rfl (Flow.r_assign rfl e8) (hK _ _ (Below.refl _ _) rfl)
  intro vs W2 hb2 hT
  have v0 := Flow.eqn (hT 0 (by decide))
  have v1 := Flow.eqn (hT 1 (by decide))
  have v2 := Flow.eqn (hT 2 (by decide))
  have v3 := Flow.eqn (hT 3 (by decide))
  have v4 := Flow.eqn (hT 4 (by decide))
  have v5 := Flow.eqn (hT 5 (by decide))
  have v6 := Flow.eqn (hT 6 (by decide))
  simp only [Flow.putsT, v0, v1, v2, v3, v4, v5, v6, Act.put, List.setIfInBounds_toArray, List.set_cons_zero, List.set_cons_succ]
  clear hT v0 v1 v2 v3 v4 v5 v6
  have HB2 := Aside0.mk (below_step HB1.out hb2)
  clear hb2
  go_wp2_with fail
  exact bodyPost_ret (results_tmp Tryd.results37 _ _ _) rfl ⟨rfl, HB2.out⟩
 ·have H1 := Aside0.mk h1
  clear h1
  by_cases h2 : n < -999999999999
  ·have H2 := Aside0.mk h2
   clear h2
   have hf : farI n = true := by unfold farI; simp [H1.out, H2.out]
   rw [hf]
   clear hf
   go_enter Tryd.func37, Tryd.ntmps37
   go_upto_region 0 with fail
   refine Flow.seqT (E := fun u v => Below u.heap.size u v) [(some 2, [])] (fun iQ vQ wQ => match iQ with | 0 => vQ = (.bool false) | _ => True) rfl (by kernel_rfl) (Below.refl _ _) (fun _ _ _ h k => h.trans (k.mono h.size)) (fun _ _ _ _ h _ => h) ?_ ?_
   ·refine ⟨?_, trivial⟩
    ·intro a w' hx hu hd K hK; exact Flow.run1 rfl (Flow.r_assign rfl rfl) (hK _ _ (Below.refl _ _) rfl)
   intro vs W3 hb3 hT
   have v0 := Flow.eqn (hT 0 (by decide))
   simp only [Flow.putsT, v0, Act.put, List.setIfInBounds_toArray, List.set_cons_zero, List.set_cons_succ]
   clear hT v0
   have HB3 := Aside0.mk (hb3)
   clear hb3
   go_upto_region 1 with fail
   refine Flow.seqT (E := fun u v => Below u.heap.size u v) [(some 3, []), (some 4, [0]), (some 5, [1]), (some 6, [2]), (some 7, [3, 2]), (some 8, [2, 4]), (some 2, [5, 2, 0, 1, 2, 3, 4, 5])] (fun iQ vQ wQ => match iQ with | 0 => vQ = (.int .i64 n) | 1 => vQ = (.bool false) | 2 => vQ = (.bool false) | 3 => vQ = (.int .i64 n) | 4 => vQ = (.bool true) | 5 => vQ = (.bool true) | 6 => vQ = (.bool true) | _ => True) rfl (by kernel_rfl) (Below.refl _ _) (fun _ _ _ h k => h.trans (k.mono h.size)) (fun _ _ _ _ h _ => h) ?_ ?_
   ·refine ⟨?_, ?_, ?_, ?_, ?_, ?_, ?_, trivial⟩
    ·intro a w' hx hu hd K hK; have e0 : a.tmps.getD 0 undef = (.int .i64 n) := hu 0 rfl; exact Flow.run1 rfl (Flow.r_move rfl e0) (hK _ _ (Below.refl _ _) rfl)
    ·intro a w' hx hu hd K hK; have e3 := Flow.got (hd 0 rfl) 3 rfl; exact Flow.run1 rfl (no (gtr rfl e3 rfl) (decide_eq_false H1.out)) (hK _ _ (Below.refl _ _) rfl)
    ·intro a w' hx hu hd K hK; have e4 := Flow.got (hd 1 rfl) 4 rfl; exact Flow.run1 rfl (Flow.r_move rfl e4) (hK _ _ (Below.refl _ _) rfl)
    ·intro a w' hx hu hd K hK; have e0 : a.tmps.getD 0 undef = (.int .i64 n) := hu 0 rfl; have e5 := Flow.got (hd 2 rfl) 5 rfl; exact Flow.run1 (Flow.want_of (k := 5) rfl e5) (Flow.r_move rfl e0) (hK _ _ (Below.refl _ _) rfl)
    ·intro a w' hx hu hd K hK; have e6 := Flow.got (hd 3 rfl) 6 rfl; have e5 := Flow.got (hd 2 rfl) 5 rfl; exact Flow.run1 (Flow.want_of (k := 5) rfl e5) (yes (lss rfl e6 rfl) (decide_eq_true H2.out)) (hK _ _ (Below.refl _ _) rfl)
    ·intro a w' hx hu hd K hK; have e5 := Flow.got (hd 2 rfl) 5 rfl; have e7 := Flow.got (hd 4 rfl) 7 rfl; exact Flow.run1 rfl (Flow.r_pick rfl e5 e7) (hK _ _ (Below.refl _ _) rfl)
    ·intro a w' hx hu hd K hK; have e8 := Flow.got (hd 5 rfl) 8 rfl; exact Flow.run1 rfl (Flow.r_assign rfl e8) (hK _ _ (Below.refl _ _) rfl)
   intro vs W4 hb4 hT
   have v0 := Flow.eqn (hT 0 (by decide))
   have v1 := Flow.eqn (hT 1 (by decide))
   have v2 := Flow.eqn (hT 2 (by decide))
   have v3 := Flow.eqn (hT 3 (by decide))
   have v4 := Flow.eqn (hT 4 (by decide))
   have v5 := Flow.eqn (hT 5 (by decide))
   have v6 := Flow.eqn (hT 6 (by decide))
   simp only [Flow.putsT, v0, v1, v2, v3, v4, v5, v6, Act.put, List.setIfInBounds_toArray, List.set_cons_zero, List.set_cons_succ]
   clear hT v0 v1 v2 v3 v4 v5 v6
   have HB4 := Aside0.mk (below_step HB3.out hb4)
   clear hb4
   go_wp2_with fail
   exact bodyPost_ret (results_tmp Tryd.results37 _ _ _) rfl ⟨rfl, HB4.out⟩
  ·have H2 := Aside0.mk h2
   clear h2
   have hf : farI n = false := by unfold farI; simp [H1.out, H2.out]
   rw [hf]
   clear hf
   go_enter Tryd.func37, Tryd.ntmps37
   go_upto_region 0 with fail
   refine Flow.seqT (E := fun u v => Below u.heap.size u v) [(some 2, [])] (fun iQ vQ wQ => match iQ with | 0 => vQ = (.bool false) | _ => True) rfl (by kernel_rfl) (Below.refl _ _) (fun _ _ _ h k => h.trans (k.mono h.size)) (fun _ _ _ _ h _ => h) ?_ ?_
   ·refine ⟨?_, trivial⟩
    ·intro a w' hx hu hd K hK; exact Flow.run1 rfl (Flow.r_assign rfl rfl) (hK _ _ (Below.refl _ _) rfl)
   intro vs W5 hb5 hT
   have v0 := Flow.eqn (hT 0 (by decide))
   simp only [Flow.putsT, v0, Act.put, List.setIfInBounds_toArray, List.set_cons_zero, List.set_cons_succ]
   clear hT v0
   have HB5 := Aside0.mk (hb5)
   clear hb5
   go_upto_region 1 with fail
   refine Flow.seqT (E := fun u v => Below u.heap.size u v) [(some 3, []), (some 4, [0]), (some 5, [1]), (some 6, [2]), (some 7, [3, 2]), (some 8, [2, 4]), (some 2, [5, 2, 0, 1, 2, 3, 4, 5])] (fun iQ vQ wQ => match iQ with | 0 => vQ = (.int .i64 n) | 1 => vQ = (.bool false) | 2 => vQ = (.bool false) | 3 => vQ = (.int .i64 n) | 4 => vQ = (.bool false) | 5 => vQ = (.bool false) | 6 => vQ = (.bool false) | _ => True) rfl (by kernel_rfl) (Below.refl _ _) (fun _ _ _ h k => h.trans (k.mono h.size)) (fun _ _ _ _ h _ => h) ?_ ?_
   ·refine ⟨?_, ?_, ?_, ?_, ?_, ?_, ?_, trivial⟩
    ·intro a w' hx hu hd K hK; have e0 : a.tmps.getD 0 undef = (.int .i64 n) := hu 0 rfl; exact Flow.run1 rfl (Flow.r_move rfl e0) (hK _ _ (Below.refl _ _) rfl)
    ·intro a w' hx hu hd K hK; have e3 := Flow.got (hd 0 rfl) 3 rfl; exact Flow.run1 rfl (no (gtr rfl e3 rfl) (decide_eq_false H1.out)) (hK _ _ (Below.refl _ _) rfl)
    ·intro a w' hx hu hd K hK; have e4 := Flow.got (hd 1 rfl) 4 rfl; exact Flow.run1 rfl (Flow.r_move rfl e4) (hK _ _ (Below.refl _ _) rfl)
    ·intro a w' hx hu hd K hK; have e0 : a.tmps.getD 0 undef = (.int .i64 n) := hu 0 rfl; have e5 := Flow.got (hd 2 rfl) 5 rfl; exact Flow.run1 (Flow.want_of (k := 5) rfl e5) (Flow.r_move rfl e0) (hK _ _ (Below.refl _ _) rfl)
    ·intro a w' hx hu hd K hK; have e6 := Flow.got (hd 3 rfl) 6 rfl; have e5 := Flow.got (hd 2 rfl) 5 rfl; exact Flow.run1 (Flow.want_of (k := 5) rfl e5) (no (lss rfl e6 rfl) (decide_eq_false H2.out)) (hK _ _ (Below.refl _ _) rfl)
    ·intro a w' hx hu hd K hK; have e5 := Flow.got (hd 2 rfl) 5 rfl; have e7 := Flow.got (hd 4 rfl) 7 rfl; exact Flow.run1 rfl (Flow.r_pick rfl e5 e7) (hK _ _ (Below.refl _ _) rfl)
    ·intro a w' hx hu hd K hK; have e8 := Flow.got (hd 5 rfl) 8 rfl; exact Flow.run1 rfl (Flow.r_assign rfl e8) (hK _ _ (Below.refl _ _) rfl)
   intro vs W6 hb6 hT
   have v0 := Flow.eqn (hT 0 (by decide))
   have v1 := Flow.eqn (hT 1 (by decide))
   have v2 := Flow.eqn (hT 2 (by decide))
   have v3 := Flow.eqn (hT 3 (by decide))
   have v4 := Flow.eqn (hT 4 (by decide))
   have v5 := Flow.eqn (hT 5 (by decide))
   have v6 := Flow.eqn (hT 6 (by decide))
   simp only [Flow.putsT, v0, v1, v2, v3, v4, v5, v6, Act.put, List.setIfInBounds_toArray, List.set_cons_zero, List.set_cons_succ]
   clear hT v0 v1 v2 v3 v4 v5 v6
   have HB6 := Aside0.mk (below_step HB5.out hb6)
   clear hb6
   go_wp2_with fail
   exact bodyPost_ret (results_tmp Tryd.results37 _ _ _) rfl ⟨rfl, HB6.out⟩
set_option maxHeartbeats 4000000 in
set_option maxRecDepth 100000 in
theorem rindex_c (x : A10) (Ad Ak : Option Addr) (nd cd nk ck : Nat) (w : World) : Calls Tryd.prog 58 #[.agg #[.int .i64 x.kind, .int .i64 x.cmd, .int .i64 x.zone, .int .i64 x.at_, .int .i64 x.n, .slice Ad nd cd, .bool x.fua, .int .i64 x.m, .int .i64 x.k, .slice Ak nk ck]] w fun e w' => e = .returned (.int .i64 (idxI x)) ∧ Below w.heap.size w w' := by
 by_cases h0 : x.kind = 0
 ·have H0 := Aside0.mk h0
  clear h0
  by_cases h1 : x.cmd ≥ 0
  ·have H1 := Aside0.mk h1
   clear h1
   by_cases h2 : x.cmd < 8
   ·have H2 := Aside0.mk h2
    clear h2
    rw [idx_c H0.out H1.out H2.out]
    go_enter Tryd.func58, Tryd.ntmps58
    go_upto_region 0 with fail
    refine wp_region_lit ?_
    refine ebox (v := (.agg #[.int .i64 x.kind, .int .i64 x.cmd, .int .i64 x.zone, .int .i64 x.at_, .int .i64 x.n, .slice Ad nd cd, .bool x.fua, .int .i64 x.m, .int .i64 x.k, .slice Ak nk ck])) rfl rfl rfl ?_
    intro g1 hg1 W1 hk1 hb1
    have Kg1 := Aside0.mk hk1
    have HB1 := Aside0.mk (hb1)
    clear hb1
    have Gg1 := Aside0.mk (show w.heap.size ≤ g1 by rw [hg1]; exact Nat.le_refl _)
    clear hg1 hk1
    simp only [Act.put, List.setIfInBounds_toArray, List.set_cons_zero, List.set_cons_succ]
    refine Flow.seqL (E := fun u v => Below u.heap.size u v) 1 1 [(some 1, []), (some 2, [])] (fun iQ vQ wQ => match iQ with | 1 => vQ = (.int .i64 0) | _ => True) rfl (by decide) (by kernel_rfl) (Below.refl _ _) (fun _ _ _ h k => h.trans (k.mono h.size)) (fun _ _ _ _ h _ => h) ?_ ?_
    ·refine ⟨?_, trivial⟩
     ·intro a w' hx hu hd K hK; exact Flow.run1 rfl (Flow.r_assign rfl rfl) (hK _ _ (Below.refl _ _) rfl)
    intro vs W2 hb2 hT
    have v1 := Flow.eqn (hT 1 (by decide) (by decide))
    simp only [Flow.putsT, v1, Act.put, List.setIfInBounds_toArray, List.set_cons_zero, List.set_cons_succ, List.drop_succ_cons, List.drop_zero, List.take_succ_cons, List.take_zero]
    clear hT v1
    have HB2 := Aside0.mk (below_step HB1.out hb2)
    have Kg1_2 := Aside0.mk (blk_below Kg1.out hb2)
    clear hb2
    go_upto_region 1 with fail
    refine Flow.seqT (E := fun u v => Below u.heap.size u v) [(some 3, []), (some 4, [0]), (some 5, [1]), (some 6, [2]), (some 7, [3]), (some 8, [4, 3]), (some 9, [5, 3]), (some 10, [6, 3]), (some 11, [3, 7]), (some 12, [8, 3]), (some 13, [9]), (some 14, [10, 9]), (some 15, [11, 9]), (some 16, [12, 9]), (some 17, [9, 13])] (fun iQ vQ wQ => match iQ with | 0 => vQ = (.pointer (some ⟨g1, 0, none⟩)) | 1 => vQ = (.int .i64 x.kind) | 2 => vQ = (.bool true) | 3 => vQ = (.bool true) | 4 => vQ = (.pointer (some ⟨g1, 1, none⟩)) | 5 => vQ = (.pointer (some ⟨g1, 1, none⟩)) | 6 => vQ = (.int .i64 x.cmd) | 7 => vQ = (.bool true) | 8 => vQ = (.bool true) | 9 => vQ = (.bool true) | 10 => vQ = (.pointer (some ⟨g1, 1, none⟩)) | 11 => vQ = (.pointer (some ⟨g1, 1, none⟩)) | 12 => vQ = (.int .i64 x.cmd) | 13 => vQ = (.bool true) | 14 => vQ = (.bool true) | _ => True) rfl (by kernel_rfl) (Below.refl _ _) (fun _ _ _ h k => h.trans (k.mono h.size)) (fun _ _ _ _ h _ => h) ?_ ?_
    ·refine ⟨?_, ?_, ?_, ?_, ?_, ?_, ?_, ?_, ?_, ?_, ?_, ?_, ?_, ?_, ?_, trivial⟩
     ·intro a w' hx hu hd K hK; have e1 : a.tmps.getD 1 undef = (.pointer (some ⟨g1, 0, none⟩)) := hu 1 rfl; exact Flow.run1 rfl (fa rfl e1 (fa56_0 _ _ _)) (hK _ _ (Below.refl _ _) rfl)
     ·intro a w' hx hu hd K hK; have e3 := Flow.got (hd 0 rfl) 3 rfl; exact Flow.run1 rfl (ld rfl e3 ((blk_cell (blk_below Kg1_2.out hx) 0).trans rfl) Tryd.underlying3 rfl) (hK _ _ (Below.refl _ _) rfl)
     ·intro a w' hx hu hd K hK; have e4 := Flow.got (hd 1 rfl) 4 rfl; exact Flow.run1 rfl (yes (eql rfl e4 rfl) (beq_iff_eq.2 H0.out)) (hK _ _ (Below.refl _ _) rfl)
     ·intro a w' hx hu hd K hK; have e5 := Flow.got (hd 2 rfl) 5 rfl; exact Flow.run1 rfl (Flow.r_move rfl e5) (hK _ _ (Below.refl _ _) rfl)
     ·intro a w' hx hu hd K hK; have e1 : a.tmps.getD 1 undef = (.pointer (some ⟨g1, 0, none⟩)) := hu 1 rfl; have e6 := Flow.got (hd 3 rfl) 6 rfl; exact Flow.run1 (Flow.want_of (k := 6) rfl e6) (fa rfl e1 (fa56_1 _ _ _)) (hK _ _ (Below.refl _ _) rfl)
     ·intro a w' hx hu hd K hK; have e7 := Flow.got (hd 4 rfl) 7 rfl; have e6 := Flow.got (hd 3 rfl) 6 rfl; exact Flow.run1 (Flow.want_of (k := 6) rfl e6) (fa rfl e7 (fa54_0 _ _ _)) (hK _ _ (Below.refl _ _) rfl)
     ·intro a w' hx hu hd K hK; have e8 := Flow.got (hd 5 rfl) 8 rfl; have e6 := Flow.got (hd 3 rfl) 6 rfl; exact Flow.run1 (Flow.want_of (k := 6) rfl e6) (ld rfl e8 ((blk_cell (blk_below Kg1_2.out hx) 1).trans rfl) Tryd.underlying3 rfl) (hK _ _ (Below.refl _ _) rfl)
     ·intro a w' hx hu hd K hK; have e9 := Flow.got (hd 6 rfl) 9 rfl; have e6 := Flow.got (hd 3 rfl) 6 rfl; exact Flow.run1 (Flow.want_of (k := 6) rfl e6) (yes (geq rfl e9 rfl) (decide_eq_true H1.out)) (hK _ _ (Below.refl _ _) rfl)
     ·intro a w' hx hu hd K hK; have e6 := Flow.got (hd 3 rfl) 6 rfl; have e10 := Flow.got (hd 7 rfl) 10 rfl; exact Flow.run1 rfl (Flow.r_pick rfl e6 e10) (hK _ _ (Below.refl _ _) rfl)
     ·intro a w' hx hu hd K hK; have e11 := Flow.got (hd 8 rfl) 11 rfl; exact Flow.run1 rfl (Flow.r_move rfl e11) (hK _ _ (Below.refl _ _) rfl)
     ·intro a w' hx hu hd K hK; have e1 : a.tmps.getD 1 undef = (.pointer (some ⟨g1, 0, none⟩)) := hu 1 rfl; have e12 := Flow.got (hd 9 rfl) 12 rfl; exact Flow.run1 (Flow.want_of (k := 12) rfl e12) (fa rfl e1 (fa56_1 _ _ _)) (hK _ _ (Below.refl _ _) rfl)
     ·intro a w' hx hu hd K hK; have e13 := Flow.got (hd 10 rfl) 13 rfl; have e12 := Flow.got (hd 9 rfl) 12 rfl; exact Flow.run1 (Flow.want_of (k := 12) rfl e12) (fa rfl e13 (fa54_0 _ _ _)) (hK _ _ (Below.refl _ _) rfl)
     ·intro a w' hx hu hd K hK; have e14 := Flow.got (hd 11 rfl) 14 rfl; have e12 := Flow.got (hd 9 rfl) 12 rfl; exact Flow.run1 (Flow.want_of (k := 12) rfl e12) (ld rfl e14 ((blk_cell (blk_below Kg1_2.out hx) 1).trans rfl) Tryd.underlying3 rfl) (hK _ _ (Below.refl _ _) rfl)
     ·intro a w' hx hu hd K hK; have e15 := Flow.got (hd 12 rfl) 15 rfl; have e12 := Flow.got (hd 9 rfl) 12 rfl; exact Flow.run1 (Flow.want_of (k := 12) rfl e12) (yes (lss rfl e15 rfl) (decide_eq_true H2.out)) (hK _ _ (Below.refl _ _) rfl)
     ·intro a w' hx hu hd K hK; have e12 := Flow.got (hd 9 rfl) 12 rfl; have e16 := Flow.got (hd 13 rfl) 16 rfl; exact Flow.run1 rfl (Flow.r_pick rfl e12 e16) (hK _ _ (Below.refl _ _) rfl)
    intro vs W3 hb3 hT
    have v0 := Flow.eqn (hT 0 (by decide))
    have v1 := Flow.eqn (hT 1 (by decide))
    have v2 := Flow.eqn (hT 2 (by decide))
    have v3 := Flow.eqn (hT 3 (by decide))
    have v4 := Flow.eqn (hT 4 (by decide))
    have v5 := Flow.eqn (hT 5 (by decide))
    have v6 := Flow.eqn (hT 6 (by decide))
    have v7 := Flow.eqn (hT 7 (by decide))
    have v8 := Flow.eqn (hT 8 (by decide))
    have v9 := Flow.eqn (hT 9 (by decide))
    have v10 := Flow.eqn (hT 10 (by decide))
    have v11 := Flow.eqn (hT 11 (by decide))
    have v12 := Flow.eqn (hT 12 (by decide))
    have v13 := Flow.eqn (hT 13 (by decide))
    have v14 := Flow.eqn (hT 14 (by decide))
    simp only [Flow.putsT, v0, v1, v2, v3, v4, v5, v6, v7, v8, v9, v10, v11, v12, v13, v14, Act.put, List.setIfInBounds_toArray, List.set_cons_zero, List.set_cons_succ]
    clear hT v0 v1 v2 v3 v4 v5 v6 v7 v8 v9 v10 v11 v12 v13 v14
    have HB3 := Aside0.mk (below_step HB2.out hb3)
    have Kg1_2_3 := Aside0.mk (blk_below Kg1_2.out hb3)
    clear hb3
    go_upto_region 2 with fail
    refine Flow.seqT (E := fun u v => Below u.heap.size u v) [(some 18, []), (some 19, [0]), (some 20, [1]), (some 2, [2, 0, 1, 2])] (fun iQ vQ wQ => match iQ with | 0 => vQ = (.pointer (some ⟨g1, 1, none⟩)) | 1 => vQ = (.pointer (some ⟨g1, 1, none⟩)) | 2 => vQ = (.int .i64 x.cmd) | 3 => vQ = (.int .i64 x.cmd) | _ => True) rfl (by kernel_rfl) (Below.refl _ _) (fun _ _ _ h k => h.trans (k.mono h.size)) (fun _ _ _ _ h _ => h) ?_ ?_
    ·refine ⟨?_, ?_, ?_, ?_, trivial⟩
     ·intro a w' hx hu hd K hK; have e1 : a.tmps.getD 1 undef = (.pointer (some ⟨g1, 0, none⟩)) := hu 1 rfl; exact Flow.run1 rfl (fa rfl e1 (fa56_1 _ _ _)) (hK _ _ (Below.refl _ _) rfl)
     ·intro a w' hx hu hd K hK; have e18 := Flow.got (hd 0 rfl) 18 rfl; exact Flow.run1 rfl (fa rfl e18 (fa54_0 _ _ _)) (hK _ _ (Below.refl _ _) rfl)
     ·intro a w' hx hu hd K hK; have e19 := Flow.got (hd 1 rfl) 19 rfl; exact Flow.run1 rfl (ld rfl e19 ((blk_cell (blk_below Kg1_2_3.out hx) 1).trans rfl) Tryd.underlying3 rfl) (hK _ _ (Below.refl _ _) rfl)
     ·intro a w' hx hu hd K hK; have e20 := Flow.got (hd 2 rfl) 20 rfl; exact Flow.run1 rfl (Flow.r_assign rfl e20) (hK _ _ (Below.refl _ _) rfl)
    intro vs W4 hb4 hT
    have v0 := Flow.eqn (hT 0 (by decide))
    have v1 := Flow.eqn (hT 1 (by decide))
    have v2 := Flow.eqn (hT 2 (by decide))
    have v3 := Flow.eqn (hT 3 (by decide))
    simp only [Flow.putsT, v0, v1, v2, v3, Act.put, List.setIfInBounds_toArray, List.set_cons_zero, List.set_cons_succ]
    clear hT v0 v1 v2 v3
    have HB4 := Aside0.mk (below_step HB3.out hb4)
    have Kg1_2_3_4 := Aside0.mk (blk_below Kg1_2_3.out hb4)
    clear hb4
    go_wp2_with fail
    exact bodyPost_ret (results_tmp Tryd.results58 _ _ _) rfl ⟨rfl, HB4.out⟩
   ·have H2 := Aside0.mk h2
    clear h2
    rw [idx_n1 H0.out (fun h => H2.out h.2)]
    go_enter Tryd.func58, Tryd.ntmps58
    go_upto_region 0 with fail
    refine wp_region_lit ?_
    refine ebox (v := (.agg #[.int .i64 x.kind, .int .i64 x.cmd, .int .i64 x.zone, .int .i64 x.at_, .int .i64 x.n, .slice Ad nd cd, .bool x.fua, .int .i64 x.m, .int .i64 x.k, .slice Ak nk ck])) rfl rfl rfl ?_
    intro g5 hg5 W5 hk5 hb5
    have Kg5 := Aside0.mk hk5
    have HB5 := Aside0.mk (hb5)
    clear hb5
    have Gg5 := Aside0.mk (show w.heap.size ≤ g5 by rw [hg5]; exact Nat.le_refl _)
    clear hg5 hk5
    simp only [Act.put, List.setIfInBounds_toArray, List.set_cons_zero, List.set_cons_succ]
    refine Flow.seqL (E := fun u v => Below u.heap.size u v) 1 1 [(some 1, []), (some 2, [])] (fun iQ vQ wQ => match iQ with | 1 => vQ = (.int .i64 0) | _ => True) rfl (by decide) (by kernel_rfl) (Below.refl _ _) (fun _ _ _ h k => h.trans (k.mono h.size)) (fun _ _ _ _ h _ => h) ?_ ?_
    ·refine ⟨?_, trivial⟩
     ·intro a w' hx hu hd K hK; exact Flow.run1 rfl (Flow.r_assign rfl rfl) (hK _ _ (Below.refl _ _) rfl)
    intro vs W6 hb6 hT
    have v1 := Flow.eqn (hT 1 (by decide) (by decide))
    simp only [Flow.putsT, v1, Act.put, List.setIfInBounds_toArray, List.set_cons_zero, List.set_cons_succ, List.drop_succ_cons, List.drop_zero, List.take_succ_cons, List.take_zero]
    clear hT v1
    have HB6 := Aside0.mk (below_step HB5.out hb6)
    have Kg5_6 := Aside0.mk (blk_below Kg5.out hb6)
    clear hb6
    go_upto_region 1 with fail
    refine Flow.seqT (E := fun u v => Below u.heap.size u v) [(some 3, []), (some 4, [0]), (some 5, [1]), (some 6, [2]), (some 7, [3]), (some 8, [4, 3]), (some 9, [5, 3]), (some 10, [6, 3]), (some 11, [3, 7]), (some 12, [8, 3]), (some 13, [9]), (some 14, [10, 9]), (some 15, [11, 9]), (some 16, [12, 9]), (some 17, [9, 13])] (fun iQ vQ wQ => match iQ with | 0 => vQ = (.pointer (some ⟨g5, 0, none⟩)) | 1 => vQ = (.int .i64 x.kind) | 2 => vQ = (.bool true) | 3 => vQ = (.bool true) | 4 => vQ = (.pointer (some ⟨g5, 1, none⟩)) | 5 => vQ = (.pointer (some ⟨g5, 1, none⟩)) | 6 => vQ = (.int .i64 x.cmd) | 7 => vQ = (.bool true) | 8 => vQ = (.bool true) | 9 => vQ = (.bool true) | 10 => vQ = (.pointer (some ⟨g5, 1, none⟩)) | 11 => vQ = (.pointer (some ⟨g5, 1, none⟩)) | 12 => vQ = (.int .i64 x.cmd) | 13 => vQ = (.bool false) | 14 => vQ = (.bool false) | _ => True) rfl (by kernel_rfl) (Below.refl _ _) (fun _ _ _ h k => h.trans (k.mono h.size)) (fun _ _ _ _ h _ => h) ?_ ?_
    ·refine ⟨?_, ?_, ?_, ?_, ?_, ?_, ?_, ?_, ?_, ?_, ?_, ?_, ?_, ?_, ?_, trivial⟩
     ·intro a w' hx hu hd K hK; have e1 : a.tmps.getD 1 undef = (.pointer (some ⟨g5, 0, none⟩)) := hu 1 rfl; exact Flow.run1 rfl (fa rfl e1 (fa56_0 _ _ _)) (hK _ _ (Below.refl _ _) rfl)
     ·intro a w' hx hu hd K hK; have e3 := Flow.got (hd 0 rfl) 3 rfl; exact Flow.run1 rfl (ld rfl e3 ((blk_cell (blk_below Kg5_6.out hx) 0).trans rfl) Tryd.underlying3 rfl) (hK _ _ (Below.refl _ _) rfl)
     ·intro a w' hx hu hd K hK; have e4 := Flow.got (hd 1 rfl) 4 rfl; exact Flow.run1 rfl (yes (eql rfl e4 rfl) (beq_iff_eq.2 H0.out)) (hK _ _ (Below.refl _ _) rfl)
     ·intro a w' hx hu hd K hK; have e5 := Flow.got (hd 2 rfl) 5 rfl; exact Flow.run1 rfl (Flow.r_move rfl e5) (hK _ _ (Below.refl _ _) rfl)
     ·intro a w' hx hu hd K hK; have e1 : a.tmps.getD 1 undef = (.pointer (some ⟨g5, 0, none⟩)) := hu 1 rfl; have e6 := Flow.got (hd 3 rfl) 6 rfl; exact Flow.run1 (Flow.want_of (k := 6) rfl e6) (fa rfl e1 (fa56_1 _ _ _)) (hK _ _ (Below.refl _ _) rfl)
     ·intro a w' hx hu hd K hK; have e7 := Flow.got (hd 4 rfl) 7 rfl; have e6 := Flow.got (hd 3 rfl) 6 rfl; exact Flow.run1 (Flow.want_of (k := 6) rfl e6) (fa rfl e7 (fa54_0 _ _ _)) (hK _ _ (Below.refl _ _) rfl)
     ·intro a w' hx hu hd K hK; have e8 := Flow.got (hd 5 rfl) 8 rfl; have e6 := Flow.got (hd 3 rfl) 6 rfl; exact Flow.run1 (Flow.want_of (k := 6) rfl e6) (ld rfl e8 ((blk_cell (blk_below Kg5_6.out hx) 1).trans rfl) Tryd.underlying3 rfl) (hK _ _ (Below.refl _ _) rfl)
     ·intro a w' hx hu hd K hK; have e9 := Flow.got (hd 6 rfl) 9 rfl; have e6 := Flow.got (hd 3 rfl) 6 rfl; exact Flow.run1 (Flow.want_of (k := 6) rfl e6) (yes (geq rfl e9 rfl) (decide_eq_true H1.out)) (hK _ _ (Below.refl _ _) rfl)
     ·intro a w' hx hu hd K hK; have e6 := Flow.got (hd 3 rfl) 6 rfl; have e10 := Flow.got (hd 7 rfl) 10 rfl; exact Flow.run1 rfl (Flow.r_pick rfl e6 e10) (hK _ _ (Below.refl _ _) rfl)
     ·intro a w' hx hu hd K hK; have e11 := Flow.got (hd 8 rfl) 11 rfl; exact Flow.run1 rfl (Flow.r_move rfl e11) (hK _ _ (Below.refl _ _) rfl)
     ·intro a w' hx hu hd K hK; have e1 : a.tmps.getD 1 undef = (.pointer (some ⟨g5, 0, none⟩)) := hu 1 rfl; have e12 := Flow.got (hd 9 rfl) 12 rfl; exact Flow.run1 (Flow.want_of (k := 12) rfl e12) (fa rfl e1 (fa56_1 _ _ _)) (hK _ _ (Below.refl _ _) rfl)
     ·intro a w' hx hu hd K hK; have e13 := Flow.got (hd 10 rfl) 13 rfl; have e12 := Flow.got (hd 9 rfl) 12 rfl; exact Flow.run1 (Flow.want_of (k := 12) rfl e12) (fa rfl e13 (fa54_0 _ _ _)) (hK _ _ (Below.refl _ _) rfl)
     ·intro a w' hx hu hd K hK; have e14 := Flow.got (hd 11 rfl) 14 rfl; have e12 := Flow.got (hd 9 rfl) 12 rfl; exact Flow.run1 (Flow.want_of (k := 12) rfl e12) (ld rfl e14 ((blk_cell (blk_below Kg5_6.out hx) 1).trans rfl) Tryd.underlying3 rfl) (hK _ _ (Below.refl _ _) rfl)
     ·intro a w' hx hu hd K hK; have e15 := Flow.got (hd 12 rfl) 15 rfl; have e12 := Flow.got (hd 9 rfl) 12 rfl; exact Flow.run1 (Flow.want_of (k := 12) rfl e12) (no (lss rfl e15 rfl) (decide_eq_false H2.out)) (hK _ _ (Below.refl _ _) rfl)
     ·intro a w' hx hu hd K hK; have e12 := Flow.got (hd 9 rfl) 12 rfl; have e16 := Flow.got (hd 13 rfl) 16 rfl; exact Flow.run1 rfl (Flow.r_pick rfl e12 e16) (hK _ _ (Below.refl _ _) rfl)
    intro vs W7 hb7 hT
    have v0 := Flow.eqn (hT 0 (by decide))
    have v1 := Flow.eqn (hT 1 (by decide))
    have v2 := Flow.eqn (hT 2 (by decide))
    have v3 := Flow.eqn (hT 3 (by decide))
    have v4 := Flow.eqn (hT 4 (by decide))
    have v5 := Flow.eqn (hT 5 (by decide))
    have v6 := Flow.eqn (hT 6 (by decide))
    have v7 := Flow.eqn (hT 7 (by decide))
    have v8 := Flow.eqn (hT 8 (by decide))
    have v9 := Flow.eqn (hT 9 (by decide))
    have v10 := Flow.eqn (hT 10 (by decide))
    have v11 := Flow.eqn (hT 11 (by decide))
    have v12 := Flow.eqn (hT 12 (by decide))
    have v13 := Flow.eqn (hT 13 (by decide))
    have v14 := Flow.eqn (hT 14 (by decide))
    simp only [Flow.putsT, v0, v1, v2, v3, v4, v5, v6, v7, v8, v9, v10, v11, v12, v13, v14, Act.put, List.setIfInBounds_toArray, List.set_cons_zero, List.set_cons_succ]
    clear hT v0 v1 v2 v3 v4 v5 v6 v7 v8 v9 v10 v11 v12 v13 v14
    have HB7 := Aside0.mk (below_step HB6.out hb7)
    have Kg5_6_7 := Aside0.mk (blk_below Kg5_6.out hb7)
    clear hb7
    go_upto_region 3 with fail
    refine Flow.seqT (E := fun u v => Below u.heap.size u v) [(some 21, []), (some 22, [0]), (some 23, [1]), (some 24, [2]), (some 25, [3]), (some 26, [4, 3]), (some 27, [5, 3]), (some 28, [3, 6])] (fun iQ vQ wQ => match iQ with | 0 => vQ = (.pointer (some ⟨g5, 0, none⟩)) | 1 => vQ = (.int .i64 x.kind) | 2 => vQ = (.bool false) | 3 => vQ = (.bool false) | 4 => vQ = undef | 5 => vQ = undef | 6 => vQ = undef | 7 => vQ = (.bool false) | _ => True) rfl (by kernel_rfl) (Below.refl _ _) (fun _ _ _ h k => h.trans (k.mono h.size)) (fun _ _ _ _ h _ => h) ?_ ?_
    ·refine ⟨?_, ?_, ?_, ?_, ?_, ?_, ?_, ?_, trivial⟩
     ·intro a w' hx hu hd K hK; have e1 : a.tmps.getD 1 undef = (.pointer (some ⟨g5, 0, none⟩)) := hu 1 rfl; exact Flow.run1 rfl (fa rfl e1 (fa56_0 _ _ _)) (hK _ _ (Below.refl _ _) rfl)
     ·intro a w' hx hu hd K hK; have e21 := Flow.got (hd 0 rfl) 21 rfl; exact Flow.run1 rfl (ld rfl e21 ((blk_cell (blk_below Kg5_6_7.out hx) 0).trans rfl) Tryd.underlying3 rfl) (hK _ _ (Below.refl _ _) rfl)
     ·intro a w' hx hu hd K hK; have e22 := Flow.got (hd 1 rfl) 22 rfl; exact Flow.run1 rfl (no (gtr rfl e22 rfl) (decide_eq_false (by have := H0.out; omega))) (hK _ _ (Below.refl _ _) rfl)
     ·intro a w' hx hu hd K hK; have e23 := Flow.got (hd 2 rfl) 23 rfl; exact Flow.run1 rfl (Flow.r_move rfl e23) (hK _ _ (Below.refl _ _) rfl)
     ·intro a w' hx hu hd K hK; have e24 := Flow.got (hd 3 rfl) 24 rfl; exact Flow.spare (Flow.spare_of (k := 24) rfl e24 rfl) (hK _ _ (Below.refl _ _) rfl)
     ·intro a w' hx hu hd K hK; have e24 := Flow.got (hd 3 rfl) 24 rfl; exact Flow.spare (Flow.spare_of (k := 24) rfl e24 rfl) (hK _ _ (Below.refl _ _) rfl)
     ·intro a w' hx hu hd K hK; have e24 := Flow.got (hd 3 rfl) 24 rfl; exact Flow.spare (Flow.spare_of (k := 24) rfl e24 rfl) (hK _ _ (Below.refl _ _) rfl)
     ·intro a w' hx hu hd K hK; have e24 := Flow.got (hd 3 rfl) 24 rfl; have e27 := Flow.got (hd 6 rfl) 27 rfl; exact Flow.run1 rfl (Flow.r_pick rfl e24 rfl) (hK _ _ (Below.refl _ _) rfl)
    intro vs W8 hb8 hT
    have v0 := Flow.eqn (hT 0 (by decide))
    have v1 := Flow.eqn (hT 1 (by decide))
    have v2 := Flow.eqn (hT 2 (by decide))
    have v3 := Flow.eqn (hT 3 (by decide))
    have v4 := Flow.eqn (hT 4 (by decide))
    have v5 := Flow.eqn (hT 5 (by decide))
    have v6 := Flow.eqn (hT 6 (by decide))
    have v7 := Flow.eqn (hT 7 (by decide))
    simp only [Flow.putsT, v0, v1, v2, v3, v4, v5, v6, v7, Act.put, List.setIfInBounds_toArray, List.set_cons_zero, List.set_cons_succ]
    clear hT v0 v1 v2 v3 v4 v5 v6 v7
    have HB8 := Aside0.mk (below_step HB7.out hb8)
    have Kg5_6_7_8 := Aside0.mk (blk_below Kg5_6_7.out hb8)
    clear hb8
    go_upto_region 5 with fail
    refine Flow.seqT (E := fun u v => Below u.heap.size u v) [(some 2, [])] (fun iQ vQ wQ => match iQ with | 0 => vQ = (.int .i64 (-1)) | _ => True) rfl (by kernel_rfl) (Below.refl _ _) (fun _ _ _ h k => h.trans (k.mono h.size)) (fun _ _ _ _ h _ => h) ?_ ?_
    ·refine ⟨?_, trivial⟩
     ·intro a w' hx hu hd K hK; exact Flow.run1 rfl (Flow.r_assign rfl rfl) (hK _ _ (Below.refl _ _) rfl)
    intro vs W9 hb9 hT
    have v0 := Flow.eqn (hT 0 (by decide))
    simp only [Flow.putsT, v0, Act.put, List.setIfInBounds_toArray, List.set_cons_zero, List.set_cons_succ]
    clear hT v0
    have HB9 := Aside0.mk (below_step HB8.out hb9)
    have Kg5_6_7_8_9 := Aside0.mk (blk_below Kg5_6_7_8.out hb9)
    clear hb9
    go_wp2_with fail
    exact bodyPost_ret (results_tmp Tryd.results58 _ _ _) rfl ⟨rfl, HB9.out⟩
  ·have H1 := Aside0.mk h1
   clear h1
   rw [idx_n1 H0.out (fun h => H1.out h.1)]
   go_enter Tryd.func58, Tryd.ntmps58
   go_upto_region 0 with fail
   refine wp_region_lit ?_
   refine ebox (v := (.agg #[.int .i64 x.kind, .int .i64 x.cmd, .int .i64 x.zone, .int .i64 x.at_, .int .i64 x.n, .slice Ad nd cd, .bool x.fua, .int .i64 x.m, .int .i64 x.k, .slice Ak nk ck])) rfl rfl rfl ?_
   intro g10 hg10 W10 hk10 hb10
   have Kg10 := Aside0.mk hk10
   have HB10 := Aside0.mk (hb10)
   clear hb10
   have Gg10 := Aside0.mk (show w.heap.size ≤ g10 by rw [hg10]; exact Nat.le_refl _)
   clear hg10 hk10
   simp only [Act.put, List.setIfInBounds_toArray, List.set_cons_zero, List.set_cons_succ]
   refine Flow.seqL (E := fun u v => Below u.heap.size u v) 1 1 [(some 1, []), (some 2, [])] (fun iQ vQ wQ => match iQ with | 1 => vQ = (.int .i64 0) | _ => True) rfl (by decide) (by kernel_rfl) (Below.refl _ _) (fun _ _ _ h k => h.trans (k.mono h.size)) (fun _ _ _ _ h _ => h) ?_ ?_
   ·refine ⟨?_, trivial⟩
    ·intro a w' hx hu hd K hK; exact Flow.run1 rfl (Flow.r_assign rfl rfl) (hK _ _ (Below.refl _ _) rfl)
   intro vs W11 hb11 hT
   have v1 := Flow.eqn (hT 1 (by decide) (by decide))
   simp only [Flow.putsT, v1, Act.put, List.setIfInBounds_toArray, List.set_cons_zero, List.set_cons_succ, List.drop_succ_cons, List.drop_zero, List.take_succ_cons, List.take_zero]
   clear hT v1
   have HB11 := Aside0.mk (below_step HB10.out hb11)
   have Kg10_11 := Aside0.mk (blk_below Kg10.out hb11)
   clear hb11
   go_upto_region 1 with fail
   refine Flow.seqT (E := fun u v => Below u.heap.size u v) [(some 3, []), (some 4, [0]), (some 5, [1]), (some 6, [2]), (some 7, [3]), (some 8, [4, 3]), (some 9, [5, 3]), (some 10, [6, 3]), (some 11, [3, 7]), (some 12, [8, 3]), (some 13, [9]), (some 14, [10, 9]), (some 15, [11, 9]), (some 16, [12, 9]), (some 17, [9, 13])] (fun iQ vQ wQ => match iQ with | 0 => vQ = (.pointer (some ⟨g10, 0, none⟩)) | 1 => vQ = (.int .i64 x.kind) | 2 => vQ = (.bool true) | 3 => vQ = (.bool true) | 4 => vQ = (.pointer (some ⟨g10, 1, none⟩)) | 5 => vQ = (.pointer (some ⟨g10, 1, none⟩)) | 6 => vQ = (.int .i64 x.cmd) | 7 => vQ = (.bool false) | 8 => vQ = (.bool false) | 9 => vQ = (.bool false) | 10 => vQ = undef | 11 => vQ = undef | 12 => vQ = undef | 13 => vQ = undef | 14 => vQ = (.bool false) | _ => True) rfl (by kernel_rfl) (Below.refl _ _) (fun _ _ _ h k => h.trans (k.mono h.size)) (fun _ _ _ _ h _ => h) ?_ ?_
   ·refine ⟨?_, ?_, ?_, ?_, ?_, ?_, ?_, ?_, ?_, ?_, ?_, ?_, ?_, ?_, ?_, trivial⟩
    ·intro a w' hx hu hd K hK; have e1 : a.tmps.getD 1 undef = (.pointer (some ⟨g10, 0, none⟩)) := hu 1 rfl; exact Flow.run1 rfl (fa rfl e1 (fa56_0 _ _ _)) (hK _ _ (Below.refl _ _) rfl)
    ·intro a w' hx hu hd K hK; have e3 := Flow.got (hd 0 rfl) 3 rfl; exact Flow.run1 rfl (ld rfl e3 ((blk_cell (blk_below Kg10_11.out hx) 0).trans rfl) Tryd.underlying3 rfl) (hK _ _ (Below.refl _ _) rfl)
    ·intro a w' hx hu hd K hK; have e4 := Flow.got (hd 1 rfl) 4 rfl; exact Flow.run1 rfl (yes (eql rfl e4 rfl) (beq_iff_eq.2 H0.out)) (hK _ _ (Below.refl _ _) rfl)
    ·intro a w' hx hu hd K hK; have e5 := Flow.got (hd 2 rfl) 5 rfl; exact Flow.run1 rfl (Flow.r_move rfl e5) (hK _ _ (Below.refl _ _) rfl)
    ·intro a w' hx hu hd K hK; have e1 : a.tmps.getD 1 undef = (.pointer (some ⟨g10, 0, none⟩)) := hu 1 rfl; have e6 := Flow.got (hd 3 rfl) 6 rfl; exact Flow.run1 (Flow.want_of (k := 6) rfl e6) (fa rfl e1 (fa56_1 _ _ _)) (hK _ _ (Below.refl _ _) rfl)
    ·intro a w' hx hu hd K hK; have e7 := Flow.got (hd 4 rfl) 7 rfl; have e6 := Flow.got (hd 3 rfl) 6 rfl; exact Flow.run1 (Flow.want_of (k := 6) rfl e6) (fa rfl e7 (fa54_0 _ _ _)) (hK _ _ (Below.refl _ _) rfl)
    ·intro a w' hx hu hd K hK; have e8 := Flow.got (hd 5 rfl) 8 rfl; have e6 := Flow.got (hd 3 rfl) 6 rfl; exact Flow.run1 (Flow.want_of (k := 6) rfl e6) (ld rfl e8 ((blk_cell (blk_below Kg10_11.out hx) 1).trans rfl) Tryd.underlying3 rfl) (hK _ _ (Below.refl _ _) rfl)
    ·intro a w' hx hu hd K hK; have e9 := Flow.got (hd 6 rfl) 9 rfl; have e6 := Flow.got (hd 3 rfl) 6 rfl; exact Flow.run1 (Flow.want_of (k := 6) rfl e6) (no (geq rfl e9 rfl) (decide_eq_false H1.out)) (hK _ _ (Below.refl _ _) rfl)
    ·intro a w' hx hu hd K hK; have e6 := Flow.got (hd 3 rfl) 6 rfl; have e10 := Flow.got (hd 7 rfl) 10 rfl; exact Flow.run1 rfl (Flow.r_pick rfl e6 e10) (hK _ _ (Below.refl _ _) rfl)
    ·intro a w' hx hu hd K hK; have e11 := Flow.got (hd 8 rfl) 11 rfl; exact Flow.run1 rfl (Flow.r_move rfl e11) (hK _ _ (Below.refl _ _) rfl)
    ·intro a w' hx hu hd K hK; have e12 := Flow.got (hd 9 rfl) 12 rfl; exact Flow.spare (Flow.spare_of (k := 12) rfl e12 rfl) (hK _ _ (Below.refl _ _) rfl)
    ·intro a w' hx hu hd K hK; have e12 := Flow.got (hd 9 rfl) 12 rfl; exact Flow.spare (Flow.spare_of (k := 12) rfl e12 rfl) (hK _ _ (Below.refl _ _) rfl)
    ·intro a w' hx hu hd K hK; have e12 := Flow.got (hd 9 rfl) 12 rfl; exact Flow.spare (Flow.spare_of (k := 12) rfl e12 rfl) (hK _ _ (Below.refl _ _) rfl)
    ·intro a w' hx hu hd K hK; have e12 := Flow.got (hd 9 rfl) 12 rfl; exact Flow.spare (Flow.spare_of (k := 12) rfl e12 rfl) (hK _ _ (Below.refl _ _) rfl)
    ·intro a w' hx hu hd K hK; have e12 := Flow.got (hd 9 rfl) 12 rfl; have e16 := Flow.got (hd 13 rfl) 16 rfl; exact Flow.run1 rfl (Flow.r_pick rfl e12 rfl) (hK _ _ (Below.refl _ _) rfl)
   intro vs W12 hb12 hT
   have v0 := Flow.eqn (hT 0 (by decide))
   have v1 := Flow.eqn (hT 1 (by decide))
   have v2 := Flow.eqn (hT 2 (by decide))
   have v3 := Flow.eqn (hT 3 (by decide))
   have v4 := Flow.eqn (hT 4 (by decide))
   have v5 := Flow.eqn (hT 5 (by decide))
   have v6 := Flow.eqn (hT 6 (by decide))
   have v7 := Flow.eqn (hT 7 (by decide))
   have v8 := Flow.eqn (hT 8 (by decide))
   have v9 := Flow.eqn (hT 9 (by decide))
   have v10 := Flow.eqn (hT 10 (by decide))
   have v11 := Flow.eqn (hT 11 (by decide))
   have v12 := Flow.eqn (hT 12 (by decide))
   have v13 := Flow.eqn (hT 13 (by decide))
   have v14 := Flow.eqn (hT 14 (by decide))
   simp only [Flow.putsT, v0, v1, v2, v3, v4, v5, v6, v7, v8, v9, v10, v11, v12, v13, v14, Act.put, List.setIfInBounds_toArray, List.set_cons_zero, List.set_cons_succ]
   clear hT v0 v1 v2 v3 v4 v5 v6 v7 v8 v9 v10 v11 v12 v13 v14
   have HB12 := Aside0.mk (below_step HB11.out hb12)
   have Kg10_11_12 := Aside0.mk (blk_below Kg10_11.out hb12)
   clear hb12
   go_upto_region 3 with fail
   refine Flow.seqT (E := fun u v => Below u.heap.size u v) [(some 21, []), (some 22, [0]), (some 23, [1]), (some 24, [2]), (some 25, [3]), (some 26, [4, 3]), (some 27, [5, 3]), (some 28, [3, 6])] (fun iQ vQ wQ => match iQ with | 0 => vQ = (.pointer (some ⟨g10, 0, none⟩)) | 1 => vQ = (.int .i64 x.kind) | 2 => vQ = (.bool false) | 3 => vQ = (.bool false) | 4 => vQ = undef | 5 => vQ = undef | 6 => vQ = undef | 7 => vQ = (.bool false) | _ => True) rfl (by kernel_rfl) (Below.refl _ _) (fun _ _ _ h k => h.trans (k.mono h.size)) (fun _ _ _ _ h _ => h) ?_ ?_
   ·refine ⟨?_, ?_, ?_, ?_, ?_, ?_, ?_, ?_, trivial⟩
    ·intro a w' hx hu hd K hK; have e1 : a.tmps.getD 1 undef = (.pointer (some ⟨g10, 0, none⟩)) := hu 1 rfl; exact Flow.run1 rfl (fa rfl e1 (fa56_0 _ _ _)) (hK _ _ (Below.refl _ _) rfl)
    ·intro a w' hx hu hd K hK; have e21 := Flow.got (hd 0 rfl) 21 rfl; exact Flow.run1 rfl (ld rfl e21 ((blk_cell (blk_below Kg10_11_12.out hx) 0).trans rfl) Tryd.underlying3 rfl) (hK _ _ (Below.refl _ _) rfl)
    ·intro a w' hx hu hd K hK; have e22 := Flow.got (hd 1 rfl) 22 rfl; exact Flow.run1 rfl (no (gtr rfl e22 rfl) (decide_eq_false (by have := H0.out; omega))) (hK _ _ (Below.refl _ _) rfl)
    ·intro a w' hx hu hd K hK; have e23 := Flow.got (hd 2 rfl) 23 rfl; exact Flow.run1 rfl (Flow.r_move rfl e23) (hK _ _ (Below.refl _ _) rfl)
    ·intro a w' hx hu hd K hK; have e24 := Flow.got (hd 3 rfl) 24 rfl; exact Flow.spare (Flow.spare_of (k := 24) rfl e24 rfl) (hK _ _ (Below.refl _ _) rfl)
    ·intro a w' hx hu hd K hK; have e24 := Flow.got (hd 3 rfl) 24 rfl; exact Flow.spare (Flow.spare_of (k := 24) rfl e24 rfl) (hK _ _ (Below.refl _ _) rfl)
    ·intro a w' hx hu hd K hK; have e24 := Flow.got (hd 3 rfl) 24 rfl; exact Flow.spare (Flow.spare_of (k := 24) rfl e24 rfl) (hK _ _ (Below.refl _ _) rfl)
    ·intro a w' hx hu hd K hK; have e24 := Flow.got (hd 3 rfl) 24 rfl; have e27 := Flow.got (hd 6 rfl) 27 rfl; exact Flow.run1 rfl (Flow.r_pick rfl e24 rfl) (hK _ _ (Below.refl _ _) rfl)
   intro vs W13 hb13 hT
   have v0 := Flow.eqn (hT 0 (by decide))
   have v1 := Flow.eqn (hT 1 (by decide))
   have v2 := Flow.eqn (hT 2 (by decide))
   have v3 := Flow.eqn (hT 3 (by decide))
   have v4 := Flow.eqn (hT 4 (by decide))
   have v5 := Flow.eqn (hT 5 (by decide))
   have v6 := Flow.eqn (hT 6 (by decide))
   have v7 := Flow.eqn (hT 7 (by decide))
   simp only [Flow.putsT, v0, v1, v2, v3, v4, v5, v6, v7, Act.put, List.setIfInBounds_toArray, List.set_cons_zero, List.set_cons_succ]
   clear hT v0 v1 v2 v3 v4 v5 v6 v7
   have HB13 := Aside0.mk (below_step HB12.out hb13)
   have Kg10_11_12_13 := Aside0.mk (blk_below Kg10_11_12.out hb13)
   clear hb13
   go_upto_region 5 with fail
   refine Flow.seqT (E := fun u v => Below u.heap.size u v) [(some 2, [])] (fun iQ vQ wQ => match iQ with | 0 => vQ = (.int .i64 (-1)) | _ => True) rfl (by kernel_rfl) (Below.refl _ _) (fun _ _ _ h k => h.trans (k.mono h.size)) (fun _ _ _ _ h _ => h) ?_ ?_
   ·refine ⟨?_, trivial⟩
    ·intro a w' hx hu hd K hK; exact Flow.run1 rfl (Flow.r_assign rfl rfl) (hK _ _ (Below.refl _ _) rfl)
   intro vs W14 hb14 hT
   have v0 := Flow.eqn (hT 0 (by decide))
   simp only [Flow.putsT, v0, Act.put, List.setIfInBounds_toArray, List.set_cons_zero, List.set_cons_succ]
   clear hT v0
   have HB14 := Aside0.mk (below_step HB13.out hb14)
   have Kg10_11_12_13_14 := Aside0.mk (blk_below Kg10_11_12_13.out hb14)
   clear hb14
   go_wp2_with fail
   exact bodyPost_ret (results_tmp Tryd.results58 _ _ _) rfl ⟨rfl, HB14.out⟩
 ·have H0 := Aside0.mk h0
  clear h0
  by_cases h1 : x.kind > 0
  ·have H1 := Aside0.mk h1
   clear h1
   by_cases h2 : x.kind < 8
   ·have H2 := Aside0.mk h2
    clear h2
    obtain ⟨k7, K7⟩ : ∃ q, Aside0 (x.kind + 7 = q) := ⟨_, ⟨rfl⟩⟩
    rw [idx_k H1.out H2.out, K7.out]
    have hk7 := K7.out
    have hh1 := H1.out
    have hh2 := H2.out
    go_enter Tryd.func58, Tryd.ntmps58
    go_upto_region 0 with fail
    refine wp_region_lit ?_
    refine ebox (v := (.agg #[.int .i64 x.kind, .int .i64 x.cmd, .int .i64 x.zone, .int .i64 x.at_, .int .i64 x.n, .slice Ad nd cd, .bool x.fua, .int .i64 x.m, .int .i64 x.k, .slice Ak nk ck])) rfl rfl rfl ?_
    intro g15 hg15 W15 hk15 hb15
    have Kg15 := Aside0.mk hk15
    have HB15 := Aside0.mk (hb15)
    clear hb15
    have Gg15 := Aside0.mk (show w.heap.size ≤ g15 by rw [hg15]; exact Nat.le_refl _)
    clear hg15 hk15
    simp only [Act.put, List.setIfInBounds_toArray, List.set_cons_zero, List.set_cons_succ]
    refine Flow.seqL (E := fun u v => Below u.heap.size u v) 1 1 [(some 1, []), (some 2, [])] (fun iQ vQ wQ => match iQ with | 1 => vQ = (.int .i64 0) | _ => True) rfl (by decide) (by kernel_rfl) (Below.refl _ _) (fun _ _ _ h k => h.trans (k.mono h.size)) (fun _ _ _ _ h _ => h) ?_ ?_
    ·refine ⟨?_, trivial⟩
     ·intro a w' hx hu hd K hK; exact Flow.run1 rfl (Flow.r_assign rfl rfl) (hK _ _ (Below.refl _ _) rfl)
    intro vs W16 hb16 hT
    have v1 := Flow.eqn (hT 1 (by decide) (by decide))
    simp only [Flow.putsT, v1, Act.put, List.setIfInBounds_toArray, List.set_cons_zero, List.set_cons_succ, List.drop_succ_cons, List.drop_zero, List.take_succ_cons, List.take_zero]
    clear hT v1
    have HB16 := Aside0.mk (below_step HB15.out hb16)
    have Kg15_16 := Aside0.mk (blk_below Kg15.out hb16)
    clear hb16
    go_upto_region 1 with fail
    refine Flow.seqT (E := fun u v => Below u.heap.size u v) [(some 3, []), (some 4, [0]), (some 5, [1]), (some 6, [2]), (some 7, [3]), (some 8, [4, 3]), (some 9, [5, 3]), (some 10, [6, 3]), (some 11, [3, 7]), (some 12, [8, 3]), (some 13, [9]), (some 14, [10, 9]), (some 15, [11, 9]), (some 16, [12, 9]), (some 17, [9, 13])] (fun iQ vQ wQ => match iQ with | 0 => vQ = (.pointer (some ⟨g15, 0, none⟩)) | 1 => vQ = (.int .i64 x.kind) | 2 => vQ = (.bool false) | 3 => vQ = (.bool false) | 4 => vQ = undef | 5 => vQ = undef | 6 => vQ = undef | 7 => vQ = undef | 8 => vQ = (.bool false) | 9 => vQ = (.bool false) | 10 => vQ = undef | 11 => vQ = undef | 12 => vQ = undef | 13 => vQ = undef | 14 => vQ = (.bool false) | _ => True) rfl (by kernel_rfl) (Below.refl _ _) (fun _ _ _ h k => h.trans (k.mono h.size)) (fun _ _ _ _ h _ => h) ?_ ?_
    ·refine ⟨?_, ?_, ?_, ?_, ?_, ?_, ?_, ?_, ?_, ?_, ?_, ?_, ?_, ?_, ?_, trivial⟩
     ·intro a w' hx hu hd K hK; have e1 : a.tmps.getD 1 undef = (.pointer (some ⟨g15, 0, none⟩)) := hu 1 rfl; exact Flow.run1 rfl (fa rfl e1 (fa56_0 _ _ _)) (hK _ _ (Below.refl _ _) rfl)
     ·intro a w' hx hu hd K hK; have e3 := Flow.got (hd 0 rfl) 3 rfl; exact Flow.run1 rfl (ld rfl e3 ((blk_cell (blk_below Kg15_16.out hx) 0).trans rfl) Tryd.underlying3 rfl) (hK _ _ (Below.refl _ _) rfl)
     ·intro a w' hx hu hd K hK; have e4 := Flow.got (hd 1 rfl) 4 rfl; exact Flow.run1 rfl (no (eql rfl e4 rfl) (beq_eq_false_iff_ne.2 H0.out)) (hK _ _ (Below.refl _ _) rfl)
     ·intro a w' hx hu hd K hK; have e5 := Flow.got (hd 2 rfl) 5 rfl; exact Flow.run1 rfl (Flow.r_move rfl e5) (hK _ _ (Below.refl _ _) rfl)
     ·intro a w' hx hu hd K hK; have e6 := Flow.got (hd 3 rfl) 6 rfl; exact Flow.spare (Flow.spare_of (k := 6) rfl e6 rfl) (hK _ _ (Below.refl _ _) rfl)
     ·intro a w' hx hu hd K hK; have e6 := Flow.got (hd 3 rfl) 6 rfl; exact Flow.spare (Flow.spare_of (k := 6) rfl e6 rfl) (hK _ _ (Below.refl _ _) rfl)
     ·intro a w' hx hu hd K hK; have e6 := Flow.got (hd 3 rfl) 6 rfl; exact Flow.spare (Flow.spare_of (k := 6) rfl e6 rfl) (hK _ _ (Below.refl _ _) rfl)
     ·intro a w' hx hu hd K hK; have e6 := Flow.got (hd 3 rfl) 6 rfl; exact Flow.spare (Flow.spare_of (k := 6) rfl e6 rfl) (hK _ _ (Below.refl _ _) rfl)
     ·intro a w' hx hu hd K hK; have e6 := Flow.got (hd 3 rfl) 6 rfl; have e10 := Flow.got (hd 7 rfl) 10 rfl; exact Flow.run1 rfl (Flow.r_pick rfl e6 rfl) (hK _ _ (Below.refl _ _) rfl)
     ·intro a w' hx hu hd K hK; have e11 := Flow.got (hd 8 rfl) 11 rfl; exact Flow.run1 rfl (Flow.r_move rfl e11) (hK _ _ (Below.refl _ _) rfl)
     ·intro a w' hx hu hd K hK; have e12 := Flow.got (hd 9 rfl) 12 rfl; exact Flow.spare (Flow.spare_of (k := 12) rfl e12 rfl) (hK _ _ (Below.refl _ _) rfl)
     ·intro a w' hx hu hd K hK; have e12 := Flow.got (hd 9 rfl) 12 rfl; exact Flow.spare (Flow.spare_of (k := 12) rfl e12 rfl) (hK _ _ (Below.refl _ _) rfl)
     ·intro a w' hx hu hd K hK; have e12 := Flow.got (hd 9 rfl) 12 rfl; exact Flow.spare (Flow.spare_of (k := 12) rfl e12 rfl) (hK _ _ (Below.refl _ _) rfl)
     ·intro a w' hx hu hd K hK; have e12 := Flow.got (hd 9 rfl) 12 rfl; exact Flow.spare (Flow.spare_of (k := 12) rfl e12 rfl) (hK _ _ (Below.refl _ _) rfl)
     ·intro a w' hx hu hd K hK; have e12 := Flow.got (hd 9 rfl) 12 rfl; have e16 := Flow.got (hd 13 rfl) 16 rfl; exact Flow.run1 rfl (Flow.r_pick rfl e12 rfl) (hK _ _ (Below.refl _ _) rfl)
    intro vs W17 hb17 hT
    have v0 := Flow.eqn (hT 0 (by decide))
    have v1 := Flow.eqn (hT 1 (by decide))
    have v2 := Flow.eqn (hT 2 (by decide))
    have v3 := Flow.eqn (hT 3 (by decide))
    have v4 := Flow.eqn (hT 4 (by decide))
    have v5 := Flow.eqn (hT 5 (by decide))
    have v6 := Flow.eqn (hT 6 (by decide))
    have v7 := Flow.eqn (hT 7 (by decide))
    have v8 := Flow.eqn (hT 8 (by decide))
    have v9 := Flow.eqn (hT 9 (by decide))
    have v10 := Flow.eqn (hT 10 (by decide))
    have v11 := Flow.eqn (hT 11 (by decide))
    have v12 := Flow.eqn (hT 12 (by decide))
    have v13 := Flow.eqn (hT 13 (by decide))
    have v14 := Flow.eqn (hT 14 (by decide))
    simp only [Flow.putsT, v0, v1, v2, v3, v4, v5, v6, v7, v8, v9, v10, v11, v12, v13, v14, Act.put, List.setIfInBounds_toArray, List.set_cons_zero, List.set_cons_succ]
    clear hT v0 v1 v2 v3 v4 v5 v6 v7 v8 v9 v10 v11 v12 v13 v14
    have HB17 := Aside0.mk (below_step HB16.out hb17)
    have Kg15_16_17 := Aside0.mk (blk_below Kg15_16.out hb17)
    clear hb17
    go_upto_region 3 with fail
    refine Flow.seqT (E := fun u v => Below u.heap.size u v) [(some 21, []), (some 22, [0]), (some 23, [1]), (some 24, [2]), (some 25, [3]), (some 26, [4, 3]), (some 27, [5, 3]), (some 28, [3, 6])] (fun iQ vQ wQ => match iQ with | 0 => vQ = (.pointer (some ⟨g15, 0, none⟩)) | 1 => vQ = (.int .i64 x.kind) | 2 => vQ = (.bool true) | 3 => vQ = (.bool true) | 4 => vQ = (.pointer (some ⟨g15, 0, none⟩)) | 5 => vQ = (.int .i64 x.kind) | 6 => vQ = (.bool true) | 7 => vQ = (.bool true) | _ => True) rfl (by kernel_rfl) (Below.refl _ _) (fun _ _ _ h k => h.trans (k.mono h.size)) (fun _ _ _ _ h _ => h) ?_ ?_
    ·refine ⟨?_, ?_, ?_, ?_, ?_, ?_, ?_, ?_, trivial⟩
     ·intro a w' hx hu hd K hK; have e1 : a.tmps.getD 1 undef = (.pointer (some ⟨g15, 0, none⟩)) := hu 1 rfl; exact Flow.run1 rfl (fa rfl e1 (fa56_0 _ _ _)) (hK _ _ (Below.refl _ _) rfl)
     ·intro a w' hx hu hd K hK; have e21 := Flow.got (hd 0 rfl) 21 rfl; exact Flow.run1 rfl (ld rfl e21 ((blk_cell (blk_below Kg15_16_17.out hx) 0).trans rfl) Tryd.underlying3 rfl) (hK _ _ (Below.refl _ _) rfl)
     ·intro a w' hx hu hd K hK; have e22 := Flow.got (hd 1 rfl) 22 rfl; exact Flow.run1 rfl (yes (gtr rfl e22 rfl) (decide_eq_true H1.out)) (hK _ _ (Below.refl _ _) rfl)
     ·intro a w' hx hu hd K hK; have e23 := Flow.got (hd 2 rfl) 23 rfl; exact Flow.run1 rfl (Flow.r_move rfl e23) (hK _ _ (Below.refl _ _) rfl)
     ·intro a w' hx hu hd K hK; have e1 : a.tmps.getD 1 undef = (.pointer (some ⟨g15, 0, none⟩)) := hu 1 rfl; have e24 := Flow.got (hd 3 rfl) 24 rfl; exact Flow.run1 (Flow.want_of (k := 24) rfl e24) (fa rfl e1 (fa56_0 _ _ _)) (hK _ _ (Below.refl _ _) rfl)
     ·intro a w' hx hu hd K hK; have e25 := Flow.got (hd 4 rfl) 25 rfl; have e24 := Flow.got (hd 3 rfl) 24 rfl; exact Flow.run1 (Flow.want_of (k := 24) rfl e24) (ld rfl e25 ((blk_cell (blk_below Kg15_16_17.out hx) 0).trans rfl) Tryd.underlying3 rfl) (hK _ _ (Below.refl _ _) rfl)
     ·intro a w' hx hu hd K hK; have e26 := Flow.got (hd 5 rfl) 26 rfl; have e24 := Flow.got (hd 3 rfl) 24 rfl; exact Flow.run1 (Flow.want_of (k := 24) rfl e24) (yes (lss rfl e26 rfl) (decide_eq_true H2.out)) (hK _ _ (Below.refl _ _) rfl)
     ·intro a w' hx hu hd K hK; have e24 := Flow.got (hd 3 rfl) 24 rfl; have e27 := Flow.got (hd 6 rfl) 27 rfl; exact Flow.run1 rfl (Flow.r_pick rfl e24 e27) (hK _ _ (Below.refl _ _) rfl)
    intro vs W18 hb18 hT
    have v0 := Flow.eqn (hT 0 (by decide))
    have v1 := Flow.eqn (hT 1 (by decide))
    have v2 := Flow.eqn (hT 2 (by decide))
    have v3 := Flow.eqn (hT 3 (by decide))
    have v4 := Flow.eqn (hT 4 (by decide))
    have v5 := Flow.eqn (hT 5 (by decide))
    have v6 := Flow.eqn (hT 6 (by decide))
    have v7 := Flow.eqn (hT 7 (by decide))
    simp only [Flow.putsT, v0, v1, v2, v3, v4, v5, v6, v7, Act.put, List.setIfInBounds_toArray, List.set_cons_zero, List.set_cons_succ]
    clear hT v0 v1 v2 v3 v4 v5 v6 v7
    have HB18 := Aside0.mk (below_step HB17.out hb18)
    have Kg15_16_17_18 := Aside0.mk (blk_below Kg15_16_17.out hb18)
    clear hb18
    go_upto_region 4 with fail
    refine Flow.seqT (E := fun u v => Below u.heap.size u v) [(some 29, []), (some 30, [0]), (some 31, [1]), (some 2, [2, 0, 1, 2])] (fun iQ vQ wQ => match iQ with | 0 => vQ = (.pointer (some ⟨g15, 0, none⟩)) | 1 => vQ = (.int .i64 x.kind) | 2 => vQ = (.int .i64 k7) | 3 => vQ = (.int .i64 k7) | _ => True) rfl (by kernel_rfl) (Below.refl _ _) (fun _ _ _ h k => h.trans (k.mono h.size)) (fun _ _ _ _ h _ => h) ?_ ?_
    ·refine ⟨?_, ?_, ?_, ?_, trivial⟩
     ·intro a w' hx hu hd K hK; have e1 : a.tmps.getD 1 undef = (.pointer (some ⟨g15, 0, none⟩)) := hu 1 rfl; exact Flow.run1 rfl (fa rfl e1 (fa56_0 _ _ _)) (hK _ _ (Below.refl _ _) rfl)
     ·intro a w' hx hu hd K hK; have e29 := Flow.got (hd 0 rfl) 29 rfl; exact Flow.run1 rfl (ld rfl e29 ((blk_cell (blk_below Kg15_16_17_18.out hx) 0).trans rfl) Tryd.underlying3 rfl) (hK _ _ (Below.refl _ _) rfl)
     ·intro a w' hx hu hd K hK; have e30 := Flow.got (hd 1 rfl) 30 rfl; exact Flow.run1 rfl (addk rfl e30 rfl hk7 (by omega) (by omega)) (hK _ _ (Below.refl _ _) rfl)
     ·intro a w' hx hu hd K hK; have e31 := Flow.got (hd 2 rfl) 31 rfl; exact Flow.run1 rfl (Flow.r_assign rfl e31) (hK _ _ (Below.refl _ _) rfl)
    intro vs W19 hb19 hT
    have v0 := Flow.eqn (hT 0 (by decide))
    have v1 := Flow.eqn (hT 1 (by decide))
    have v2 := Flow.eqn (hT 2 (by decide))
    have v3 := Flow.eqn (hT 3 (by decide))
    simp only [Flow.putsT, v0, v1, v2, v3, Act.put, List.setIfInBounds_toArray, List.set_cons_zero, List.set_cons_succ]
    clear hT v0 v1 v2 v3
    have HB19 := Aside0.mk (below_step HB18.out hb19)
    have Kg15_16_17_18_19 := Aside0.mk (blk_below Kg15_16_17_18.out hb19)
    clear hb19
    go_wp2_with fail
    exact bodyPost_ret (results_tmp Tryd.results58 _ _ _) rfl ⟨rfl, HB19.out⟩
   ·have H2 := Aside0.mk h2
    clear h2
    rw [idx_n2 H0.out (fun h => H2.out h.2)]
    go_enter Tryd.func58, Tryd.ntmps58
    go_upto_region 0 with fail
    refine wp_region_lit ?_
    refine ebox (v := (.agg #[.int .i64 x.kind, .int .i64 x.cmd, .int .i64 x.zone, .int .i64 x.at_, .int .i64 x.n, .slice Ad nd cd, .bool x.fua, .int .i64 x.m, .int .i64 x.k, .slice Ak nk ck])) rfl rfl rfl ?_
    intro g20 hg20 W20 hk20 hb20
    have Kg20 := Aside0.mk hk20
    have HB20 := Aside0.mk (hb20)
    clear hb20
    have Gg20 := Aside0.mk (show w.heap.size ≤ g20 by rw [hg20]; exact Nat.le_refl _)
    clear hg20 hk20
    simp only [Act.put, List.setIfInBounds_toArray, List.set_cons_zero, List.set_cons_succ]
    refine Flow.seqL (E := fun u v => Below u.heap.size u v) 1 1 [(some 1, []), (some 2, [])] (fun iQ vQ wQ => match iQ with | 1 => vQ = (.int .i64 0) | _ => True) rfl (by decide) (by kernel_rfl) (Below.refl _ _) (fun _ _ _ h k => h.trans (k.mono h.size)) (fun _ _ _ _ h _ => h) ?_ ?_
    ·refine ⟨?_, trivial⟩
     ·intro a w' hx hu hd K hK; exact Flow.run1 rfl (Flow.r_assign rfl rfl) (hK _ _ (Below.refl _ _) rfl)
    intro vs W21 hb21 hT
    have v1 := Flow.eqn (hT 1 (by decide) (by decide))
    simp only [Flow.putsT, v1, Act.put, List.setIfInBounds_toArray, List.set_cons_zero, List.set_cons_succ, List.drop_succ_cons, List.drop_zero, List.take_succ_cons, List.take_zero]
    clear hT v1
    have HB21 := Aside0.mk (below_step HB20.out hb21)
    have Kg20_21 := Aside0.mk (blk_below Kg20.out hb21)
    clear hb21
    go_upto_region 1 with fail
    refine Flow.seqT (E := fun u v => Below u.heap.size u v) [(some 3, []), (some 4, [0]), (some 5, [1]), (some 6, [2]), (some 7, [3]), (some 8, [4, 3]), (some 9, [5, 3]), (some 10, [6, 3]), (some 11, [3, 7]), (some 12, [8, 3]), (some 13, [9]), (some 14, [10, 9]), (some 15, [11, 9]), (some 16, [12, 9]), (some 17, [9, 13])] (fun iQ vQ wQ => match iQ with | 0 => vQ = (.pointer (some ⟨g20, 0, none⟩)) | 1 => vQ = (.int .i64 x.kind) | 2 => vQ = (.bool false) | 3 => vQ = (.bool false) | 4 => vQ = undef | 5 => vQ = undef | 6 => vQ = undef | 7 => vQ = undef | 8 => vQ = (.bool false) | 9 => vQ = (.bool false) | 10 => vQ = undef | 11 => vQ = undef | 12 => vQ = undef | 13 => vQ = undef | 14 => vQ = (.bool false) | _ => True) rfl (by kernel_rfl) (Below.refl _ _) (fun _ _ _ h k => h.trans (k.mono h.size)) (fun _ _ _ _ h _ => h) ?_ ?_
    ·refine ⟨?_, ?_, ?_, ?_, ?_, ?_, ?_, ?_, ?_, ?_, ?_, ?_, ?_, ?_, ?_, trivial⟩
     ·intro a w' hx hu hd K hK; have e1 : a.tmps.getD 1 undef = (.pointer (some ⟨g20, 0, none⟩)) := hu 1 rfl; exact Flow.run1 rfl (fa rfl e1 (fa56_0 _ _ _)) (hK _ _ (Below.refl _ _) rfl)
     ·intro a w' hx hu hd K hK; have e3 := Flow.got (hd 0 rfl) 3 rfl; exact Flow.run1 rfl (ld rfl e3 ((blk_cell (blk_below Kg20_21.out hx) 0).trans rfl) Tryd.underlying3 rfl) (hK _ _ (Below.refl _ _) rfl)
     ·intro a w' hx hu hd K hK; have e4 := Flow.got (hd 1 rfl) 4 rfl; exact Flow.run1 rfl (no (eql rfl e4 rfl) (beq_eq_false_iff_ne.2 H0.out)) (hK _ _ (Below.refl _ _) rfl)
     ·intro a w' hx hu hd K hK; have e5 := Flow.got (hd 2 rfl) 5 rfl; exact Flow.run1 rfl (Flow.r_move rfl e5) (hK _ _ (Below.refl _ _) rfl)
     ·intro a w' hx hu hd K hK; have e6 := Flow.got (hd 3 rfl) 6 rfl; exact Flow.spare (Flow.spare_of (k := 6) rfl e6 rfl) (hK _ _ (Below.refl _ _) rfl)
     ·intro a w' hx hu hd K hK; have e6 := Flow.got (hd 3 rfl) 6 rfl; exact Flow.spare (Flow.spare_of (k := 6) rfl e6 rfl) (hK _ _ (Below.refl _ _) rfl)
     ·intro a w' hx hu hd K hK; have e6 := Flow.got (hd 3 rfl) 6 rfl; exact Flow.spare (Flow.spare_of (k := 6) rfl e6 rfl) (hK _ _ (Below.refl _ _) rfl)
     ·intro a w' hx hu hd K hK; have e6 := Flow.got (hd 3 rfl) 6 rfl; exact Flow.spare (Flow.spare_of (k := 6) rfl e6 rfl) (hK _ _ (Below.refl _ _) rfl)
     ·intro a w' hx hu hd K hK; have e6 := Flow.got (hd 3 rfl) 6 rfl; have e10 := Flow.got (hd 7 rfl) 10 rfl; exact Flow.run1 rfl (Flow.r_pick rfl e6 rfl) (hK _ _ (Below.refl _ _) rfl)
     ·intro a w' hx hu hd K hK; have e11 := Flow.got (hd 8 rfl) 11 rfl; exact Flow.run1 rfl (Flow.r_move rfl e11) (hK _ _ (Below.refl _ _) rfl)
     ·intro a w' hx hu hd K hK; have e12 := Flow.got (hd 9 rfl) 12 rfl; exact Flow.spare (Flow.spare_of (k := 12) rfl e12 rfl) (hK _ _ (Below.refl _ _) rfl)
     ·intro a w' hx hu hd K hK; have e12 := Flow.got (hd 9 rfl) 12 rfl; exact Flow.spare (Flow.spare_of (k := 12) rfl e12 rfl) (hK _ _ (Below.refl _ _) rfl)
     ·intro a w' hx hu hd K hK; have e12 := Flow.got (hd 9 rfl) 12 rfl; exact Flow.spare (Flow.spare_of (k := 12) rfl e12 rfl) (hK _ _ (Below.refl _ _) rfl)
     ·intro a w' hx hu hd K hK; have e12 := Flow.got (hd 9 rfl) 12 rfl; exact Flow.spare (Flow.spare_of (k := 12) rfl e12 rfl) (hK _ _ (Below.refl _ _) rfl)
     ·intro a w' hx hu hd K hK; have e12 := Flow.got (hd 9 rfl) 12 rfl; have e16 := Flow.got (hd 13 rfl) 16 rfl; exact Flow.run1 rfl (Flow.r_pick rfl e12 rfl) (hK _ _ (Below.refl _ _) rfl)
    intro vs W22 hb22 hT
    have v0 := Flow.eqn (hT 0 (by decide))
    have v1 := Flow.eqn (hT 1 (by decide))
    have v2 := Flow.eqn (hT 2 (by decide))
    have v3 := Flow.eqn (hT 3 (by decide))
    have v4 := Flow.eqn (hT 4 (by decide))
    have v5 := Flow.eqn (hT 5 (by decide))
    have v6 := Flow.eqn (hT 6 (by decide))
    have v7 := Flow.eqn (hT 7 (by decide))
    have v8 := Flow.eqn (hT 8 (by decide))
    have v9 := Flow.eqn (hT 9 (by decide))
    have v10 := Flow.eqn (hT 10 (by decide))
    have v11 := Flow.eqn (hT 11 (by decide))
    have v12 := Flow.eqn (hT 12 (by decide))
    have v13 := Flow.eqn (hT 13 (by decide))
    have v14 := Flow.eqn (hT 14 (by decide))
    simp only [Flow.putsT, v0, v1, v2, v3, v4, v5, v6, v7, v8, v9, v10, v11, v12, v13, v14, Act.put, List.setIfInBounds_toArray, List.set_cons_zero, List.set_cons_succ]
    clear hT v0 v1 v2 v3 v4 v5 v6 v7 v8 v9 v10 v11 v12 v13 v14
    have HB22 := Aside0.mk (below_step HB21.out hb22)
    have Kg20_21_22 := Aside0.mk (blk_below Kg20_21.out hb22)
    clear hb22
    go_upto_region 3 with fail
    refine Flow.seqT (E := fun u v => Below u.heap.size u v) [(some 21, []), (some 22, [0]), (some 23, [1]), (some 24, [2]), (some 25, [3]), (some 26, [4, 3]), (some 27, [5, 3]), (some 28, [3, 6])] (fun iQ vQ wQ => match iQ with | 0 => vQ = (.pointer (some ⟨g20, 0, none⟩)) | 1 => vQ = (.int .i64 x.kind) | 2 => vQ = (.bool true) | 3 => vQ = (.bool true) | 4 => vQ = (.pointer (some ⟨g20, 0, none⟩)) | 5 => vQ = (.int .i64 x.kind) | 6 => vQ = (.bool false) | 7 => vQ = (.bool false) | _ => True) rfl (by kernel_rfl) (Below.refl _ _) (fun _ _ _ h k => h.trans (k.mono h.size)) (fun _ _ _ _ h _ => h) ?_ ?_
    ·refine ⟨?_, ?_, ?_, ?_, ?_, ?_, ?_, ?_, trivial⟩
     ·intro a w' hx hu hd K hK; have e1 : a.tmps.getD 1 undef = (.pointer (some ⟨g20, 0, none⟩)) := hu 1 rfl; exact Flow.run1 rfl (fa rfl e1 (fa56_0 _ _ _)) (hK _ _ (Below.refl _ _) rfl)
     ·intro a w' hx hu hd K hK; have e21 := Flow.got (hd 0 rfl) 21 rfl; exact Flow.run1 rfl (ld rfl e21 ((blk_cell (blk_below Kg20_21_22.out hx) 0).trans rfl) Tryd.underlying3 rfl) (hK _ _ (Below.refl _ _) rfl)
     ·intro a w' hx hu hd K hK; have e22 := Flow.got (hd 1 rfl) 22 rfl; exact Flow.run1 rfl (yes (gtr rfl e22 rfl) (decide_eq_true H1.out)) (hK _ _ (Below.refl _ _) rfl)
     ·intro a w' hx hu hd K hK; have e23 := Flow.got (hd 2 rfl) 23 rfl; exact Flow.run1 rfl (Flow.r_move rfl e23) (hK _ _ (Below.refl _ _) rfl)
     ·intro a w' hx hu hd K hK; have e1 : a.tmps.getD 1 undef = (.pointer (some ⟨g20, 0, none⟩)) := hu 1 rfl; have e24 := Flow.got (hd 3 rfl) 24 rfl; exact Flow.run1 (Flow.want_of (k := 24) rfl e24) (fa rfl e1 (fa56_0 _ _ _)) (hK _ _ (Below.refl _ _) rfl)
     ·intro a w' hx hu hd K hK; have e25 := Flow.got (hd 4 rfl) 25 rfl; have e24 := Flow.got (hd 3 rfl) 24 rfl; exact Flow.run1 (Flow.want_of (k := 24) rfl e24) (ld rfl e25 ((blk_cell (blk_below Kg20_21_22.out hx) 0).trans rfl) Tryd.underlying3 rfl) (hK _ _ (Below.refl _ _) rfl)
     ·intro a w' hx hu hd K hK; have e26 := Flow.got (hd 5 rfl) 26 rfl; have e24 := Flow.got (hd 3 rfl) 24 rfl; exact Flow.run1 (Flow.want_of (k := 24) rfl e24) (no (lss rfl e26 rfl) (decide_eq_false H2.out)) (hK _ _ (Below.refl _ _) rfl)
     ·intro a w' hx hu hd K hK; have e24 := Flow.got (hd 3 rfl) 24 rfl; have e27 := Flow.got (hd 6 rfl) 27 rfl; exact Flow.run1 rfl (Flow.r_pick rfl e24 e27) (hK _ _ (Below.refl _ _) rfl)
    intro vs W23 hb23 hT
    have v0 := Flow.eqn (hT 0 (by decide))
    have v1 := Flow.eqn (hT 1 (by decide))
    have v2 := Flow.eqn (hT 2 (by decide))
    have v3 := Flow.eqn (hT 3 (by decide))
    have v4 := Flow.eqn (hT 4 (by decide))
    have v5 := Flow.eqn (hT 5 (by decide))
    have v6 := Flow.eqn (hT 6 (by decide))
    have v7 := Flow.eqn (hT 7 (by decide))
    simp only [Flow.putsT, v0, v1, v2, v3, v4, v5, v6, v7, Act.put, List.setIfInBounds_toArray, List.set_cons_zero, List.set_cons_succ]
    clear hT v0 v1 v2 v3 v4 v5 v6 v7
    have HB23 := Aside0.mk (below_step HB22.out hb23)
    have Kg20_21_22_23 := Aside0.mk (blk_below Kg20_21_22.out hb23)
    clear hb23
    go_upto_region 5 with fail
    refine Flow.seqT (E := fun u v => Below u.heap.size u v) [(some 2, [])] (fun iQ vQ wQ => match iQ with | 0 => vQ = (.int .i64 (-1)) | _ => True) rfl (by kernel_rfl) (Below.refl _ _) (fun _ _ _ h k => h.trans (k.mono h.size)) (fun _ _ _ _ h _ => h) ?_ ?_
    ·refine ⟨?_, trivial⟩
     ·intro a w' hx hu hd K hK; exact Flow.run1 rfl (Flow.r_assign rfl rfl) (hK _ _ (Below.refl _ _) rfl)
    intro vs W24 hb24 hT
    have v0 := Flow.eqn (hT 0 (by decide))
    simp only [Flow.putsT, v0, Act.put, List.setIfInBounds_toArray, List.set_cons_zero, List.set_cons_succ]
    clear hT v0
    have HB24 := Aside0.mk (below_step HB23.out hb24)
    have Kg20_21_22_23_24 := Aside0.mk (blk_below Kg20_21_22_23.out hb24)
    clear hb24
    go_wp2_with fail
    exact bodyPost_ret (results_tmp Tryd.results58 _ _ _) rfl ⟨rfl, HB24.out⟩
  ·have H1 := Aside0.mk h1
   clear h1
   rw [idx_n2 H0.out (fun h => H1.out h.1)]
   go_enter Tryd.func58, Tryd.ntmps58
   go_upto_region 0 with fail
   refine wp_region_lit ?_
   refine ebox (v := (.agg #[.int .i64 x.kind, .int .i64 x.cmd, .int .i64 x.zone, .int .i64 x.at_, .int .i64 x.n, .slice Ad nd cd, .bool x.fua, .int .i64 x.m, .int .i64 x.k, .slice Ak nk ck])) rfl rfl rfl ?_
   intro g25 hg25 W25 hk25 hb25
   have Kg25 := Aside0.mk hk25
   have HB25 := Aside0.mk (hb25)
   clear hb25
   have Gg25 := Aside0.mk (show w.heap.size ≤ g25 by rw [hg25]; exact Nat.le_refl _)
   clear hg25 hk25
   simp only [Act.put, List.setIfInBounds_toArray, List.set_cons_zero, List.set_cons_succ]
   refine Flow.seqL (E := fun u v => Below u.heap.size u v) 1 1 [(some 1, []), (some 2, [])] (fun iQ vQ wQ => match iQ with | 1 => vQ = (.int .i64 0) | _ => True) rfl (by decide) (by kernel_rfl) (Below.refl _ _) (fun _ _ _ h k => h.trans (k.mono h.size)) (fun _ _ _ _ h _ => h) ?_ ?_
   ·refine ⟨?_, trivial⟩
    ·intro a w' hx hu hd K hK; exact Flow.run1 rfl (Flow.r_assign rfl rfl) (hK _ _ (Below.refl _ _) rfl)
   intro vs W26 hb26 hT
   have v1 := Flow.eqn (hT 1 (by decide) (by decide))
   simp only [Flow.putsT, v1, Act.put, List.setIfInBounds_toArray, List.set_cons_zero, List.set_cons_succ, List.drop_succ_cons, List.drop_zero, List.take_succ_cons, List.take_zero]
   clear hT v1
   have HB26 := Aside0.mk (below_step HB25.out hb26)
   have Kg25_26 := Aside0.mk (blk_below Kg25.out hb26)
   clear hb26
   go_upto_region 1 with fail
   refine Flow.seqT (E := fun u v => Below u.heap.size u v) [(some 3, []), (some 4, [0]), (some 5, [1]), (some 6, [2]), (some 7, [3]), (some 8, [4, 3]), (some 9, [5, 3]), (some 10, [6, 3]), (some 11, [3, 7]), (some 12, [8, 3]), (some 13, [9]), (some 14, [10, 9]), (some 15, [11, 9]), (some 16, [12, 9]), (some 17, [9, 13])] (fun iQ vQ wQ => match iQ with | 0 => vQ = (.pointer (some ⟨g25, 0, none⟩)) | 1 => vQ = (.int .i64 x.kind) | 2 => vQ = (.bool false) | 3 => vQ = (.bool false) | 4 => vQ = undef | 5 => vQ = undef | 6 => vQ = undef | 7 => vQ = undef | 8 => vQ = (.bool false) | 9 => vQ = (.bool false) | 10 => vQ = undef | 11 => vQ = undef | 12 => vQ = undef | 13 => vQ = undef | 14 => vQ = (.bool false) | _ => True) rfl (by kernel_rfl) (Below.refl _ _) (fun _ _ _ h k => h.trans (k.mono h.size)) (fun _ _ _ _ h _ => h) ?_ ?_
   ·refine ⟨?_, ?_, ?_, ?_, ?_, ?_, ?_, ?_, ?_, ?_, ?_, ?_, ?_, ?_, ?_, trivial⟩
    ·intro a w' hx hu hd K hK; have e1 : a.tmps.getD 1 undef = (.pointer (some ⟨g25, 0, none⟩)) := hu 1 rfl; exact Flow.run1 rfl (fa rfl e1 (fa56_0 _ _ _)) (hK _ _ (Below.refl _ _) rfl)
    ·intro a w' hx hu hd K hK; have e3 := Flow.got (hd 0 rfl) 3 rfl; exact Flow.run1 rfl (ld rfl e3 ((blk_cell (blk_below Kg25_26.out hx) 0).trans rfl) Tryd.underlying3 rfl) (hK _ _ (Below.refl _ _) rfl)
    ·intro a w' hx hu hd K hK; have e4 := Flow.got (hd 1 rfl) 4 rfl; exact Flow.run1 rfl (no (eql rfl e4 rfl) (beq_eq_false_iff_ne.2 H0.out)) (hK _ _ (Below.refl _ _) rfl)
    ·intro a w' hx hu hd K hK; have e5 := Flow.got (hd 2 rfl) 5 rfl; exact Flow.run1 rfl (Flow.r_move rfl e5) (hK _ _ (Below.refl _ _) rfl)
    ·intro a w' hx hu hd K hK; have e6 := Flow.got (hd 3 rfl) 6 rfl; exact Flow.spare (Flow.spare_of (k := 6) rfl e6 rfl) (hK _ _ (Below.refl _ _) rfl)
    ·intro a w' hx hu hd K hK; have e6 := Flow.got (hd 3 rfl) 6 rfl; exact Flow.spare (Flow.spare_of (k := 6) rfl e6 rfl) (hK _ _ (Below.refl _ _) rfl)
    ·intro a w' hx hu hd K hK; have e6 := Flow.got (hd 3 rfl) 6 rfl; exact Flow.spare (Flow.spare_of (k := 6) rfl e6 rfl) (hK _ _ (Below.refl _ _) rfl)
    ·intro a w' hx hu hd K hK; have e6 := Flow.got (hd 3 rfl) 6 rfl; exact Flow.spare (Flow.spare_of (k := 6) rfl e6 rfl) (hK _ _ (Below.refl _ _) rfl)
    ·intro a w' hx hu hd K hK; have e6 := Flow.got (hd 3 rfl) 6 rfl; have e10 := Flow.got (hd 7 rfl) 10 rfl; exact Flow.run1 rfl (Flow.r_pick rfl e6 rfl) (hK _ _ (Below.refl _ _) rfl)
    ·intro a w' hx hu hd K hK; have e11 := Flow.got (hd 8 rfl) 11 rfl; exact Flow.run1 rfl (Flow.r_move rfl e11) (hK _ _ (Below.refl _ _) rfl)
    ·intro a w' hx hu hd K hK; have e12 := Flow.got (hd 9 rfl) 12 rfl; exact Flow.spare (Flow.spare_of (k := 12) rfl e12 rfl) (hK _ _ (Below.refl _ _) rfl)
    ·intro a w' hx hu hd K hK; have e12 := Flow.got (hd 9 rfl) 12 rfl; exact Flow.spare (Flow.spare_of (k := 12) rfl e12 rfl) (hK _ _ (Below.refl _ _) rfl)
    ·intro a w' hx hu hd K hK; have e12 := Flow.got (hd 9 rfl) 12 rfl; exact Flow.spare (Flow.spare_of (k := 12) rfl e12 rfl) (hK _ _ (Below.refl _ _) rfl)
    ·intro a w' hx hu hd K hK; have e12 := Flow.got (hd 9 rfl) 12 rfl; exact Flow.spare (Flow.spare_of (k := 12) rfl e12 rfl) (hK _ _ (Below.refl _ _) rfl)
    ·intro a w' hx hu hd K hK; have e12 := Flow.got (hd 9 rfl) 12 rfl; have e16 := Flow.got (hd 13 rfl) 16 rfl; exact Flow.run1 rfl (Flow.r_pick rfl e12 rfl) (hK _ _ (Below.refl _ _) rfl)
   intro vs W27 hb27 hT
   have v0 := Flow.eqn (hT 0 (by decide))
   have v1 := Flow.eqn (hT 1 (by decide))
   have v2 := Flow.eqn (hT 2 (by decide))
   have v3 := Flow.eqn (hT 3 (by decide))
   have v4 := Flow.eqn (hT 4 (by decide))
   have v5 := Flow.eqn (hT 5 (by decide))
   have v6 := Flow.eqn (hT 6 (by decide))
   have v7 := Flow.eqn (hT 7 (by decide))
   have v8 := Flow.eqn (hT 8 (by decide))
   have v9 := Flow.eqn (hT 9 (by decide))
   have v10 := Flow.eqn (hT 10 (by decide))
   have v11 := Flow.eqn (hT 11 (by decide))
   have v12 := Flow.eqn (hT 12 (by decide))
   have v13 := Flow.eqn (hT 13 (by decide))
   have v14 := Flow.eqn (hT 14 (by decide))
   simp only [Flow.putsT, v0, v1, v2, v3, v4, v5, v6, v7, v8, v9, v10, v11, v12, v13, v14, Act.put, List.setIfInBounds_toArray, List.set_cons_zero, List.set_cons_succ]
   clear hT v0 v1 v2 v3 v4 v5 v6 v7 v8 v9 v10 v11 v12 v13 v14
   have HB27 := Aside0.mk (below_step HB26.out hb27)
   have Kg25_26_27 := Aside0.mk (blk_below Kg25_26.out hb27)
   clear hb27
   go_upto_region 3 with fail
   refine Flow.seqT (E := fun u v => Below u.heap.size u v) [(some 21, []), (some 22, [0]), (some 23, [1]), (some 24, [2]), (some 25, [3]), (some 26, [4, 3]), (some 27, [5, 3]), (some 28, [3, 6])] (fun iQ vQ wQ => match iQ with | 0 => vQ = (.pointer (some ⟨g25, 0, none⟩)) | 1 => vQ = (.int .i64 x.kind) | 2 => vQ = (.bool false) | 3 => vQ = (.bool false) | 4 => vQ = undef | 5 => vQ = undef | 6 => vQ = undef | 7 => vQ = (.bool false) | _ => True) rfl (by kernel_rfl) (Below.refl _ _) (fun _ _ _ h k => h.trans (k.mono h.size)) (fun _ _ _ _ h _ => h) ?_ ?_
   ·refine ⟨?_, ?_, ?_, ?_, ?_, ?_, ?_, ?_, trivial⟩
    ·intro a w' hx hu hd K hK; have e1 : a.tmps.getD 1 undef = (.pointer (some ⟨g25, 0, none⟩)) := hu 1 rfl; exact Flow.run1 rfl (fa rfl e1 (fa56_0 _ _ _)) (hK _ _ (Below.refl _ _) rfl)
    ·intro a w' hx hu hd K hK; have e21 := Flow.got (hd 0 rfl) 21 rfl; exact Flow.run1 rfl (ld rfl e21 ((blk_cell (blk_below Kg25_26_27.out hx) 0).trans rfl) Tryd.underlying3 rfl) (hK _ _ (Below.refl _ _) rfl)
    ·intro a w' hx hu hd K hK; have e22 := Flow.got (hd 1 rfl) 22 rfl; exact Flow.run1 rfl (no (gtr rfl e22 rfl) (decide_eq_false H1.out)) (hK _ _ (Below.refl _ _) rfl)
    ·intro a w' hx hu hd K hK; have e23 := Flow.got (hd 2 rfl) 23 rfl; exact Flow.run1 rfl (Flow.r_move rfl e23) (hK _ _ (Below.refl _ _) rfl)
    ·intro a w' hx hu hd K hK; have e24 := Flow.got (hd 3 rfl) 24 rfl; exact Flow.spare (Flow.spare_of (k := 24) rfl e24 rfl) (hK _ _ (Below.refl _ _) rfl)
    ·intro a w' hx hu hd K hK; have e24 := Flow.got (hd 3 rfl) 24 rfl; exact Flow.spare (Flow.spare_of (k := 24) rfl e24 rfl) (hK _ _ (Below.refl _ _) rfl)
    ·intro a w' hx hu hd K hK; have e24 := Flow.got (hd 3 rfl) 24 rfl; exact Flow.spare (Flow.spare_of (k := 24) rfl e24 rfl) (hK _ _ (Below.refl _ _) rfl)
    ·intro a w' hx hu hd K hK; have e24 := Flow.got (hd 3 rfl) 24 rfl; have e27 := Flow.got (hd 6 rfl) 27 rfl; exact Flow.run1 rfl (Flow.r_pick rfl e24 rfl) (hK _ _ (Below.refl _ _) rfl)
   intro vs W28 hb28 hT
   have v0 := Flow.eqn (hT 0 (by decide))
   have v1 := Flow.eqn (hT 1 (by decide))
   have v2 := Flow.eqn (hT 2 (by decide))
   have v3 := Flow.eqn (hT 3 (by decide))
   have v4 := Flow.eqn (hT 4 (by decide))
   have v5 := Flow.eqn (hT 5 (by decide))
   have v6 := Flow.eqn (hT 6 (by decide))
   have v7 := Flow.eqn (hT 7 (by decide))
   simp only [Flow.putsT, v0, v1, v2, v3, v4, v5, v6, v7, Act.put, List.setIfInBounds_toArray, List.set_cons_zero, List.set_cons_succ]
   clear hT v0 v1 v2 v3 v4 v5 v6 v7
   have HB28 := Aside0.mk (below_step HB27.out hb28)
   have Kg25_26_27_28 := Aside0.mk (blk_below Kg25_26_27.out hb28)
   clear hb28
   go_upto_region 5 with fail
   refine Flow.seqT (E := fun u v => Below u.heap.size u v) [(some 2, [])] (fun iQ vQ wQ => match iQ with | 0 => vQ = (.int .i64 (-1)) | _ => True) rfl (by kernel_rfl) (Below.refl _ _) (fun _ _ _ h k => h.trans (k.mono h.size)) (fun _ _ _ _ h _ => h) ?_ ?_
   ·refine ⟨?_, trivial⟩
    ·intro a w' hx hu hd K hK; exact Flow.run1 rfl (Flow.r_assign rfl rfl) (hK _ _ (Below.refl _ _) rfl)
   intro vs W29 hb29 hT
   have v0 := Flow.eqn (hT 0 (by decide))
   simp only [Flow.putsT, v0, Act.put, List.setIfInBounds_toArray, List.set_cons_zero, List.set_cons_succ]
   clear hT v0
   have HB29 := Aside0.mk (below_step HB28.out hb29)
   have Kg25_26_27_28_29 := Aside0.mk (blk_below Kg25_26_27_28.out hb29)
   clear hb29
   go_wp2_with fail
   exact bodyPost_ret (results_tmp Tryd.results58 _ _ _) rfl ⟨rfl, HB29.out⟩
set_option maxHeartbeats 4000000 in
set_option maxRecDepth 100000 in
theorem rnumbers_c (x : A10) (Ad Ak : Option Addr) (nd cd nk ck : Nat) (w : World) : Calls Tryd.prog 59 #[.agg #[.int .i64 x.kind, .int .i64 x.cmd, .int .i64 x.zone, .int .i64 x.at_, .int .i64 x.n, .slice Ad nd cd, .bool x.fua, .int .i64 x.m, .int .i64 x.k, .slice Ak nk ck]] w fun e w' => e = .returned (.agg #[.int .i64 (num3 x).1, .int .i64 (num3 x).2.1, .int .i64 (num3 x).2.2]) ∧ Below w.heap.size w w' := by
 by_cases h0 : x.kind = 0
 ·have H0 := Aside0.mk h0
  clear h0
  have hn : num3 x = (x.zone, x.at_, x.n) := if_pos H0.out
  rw [hn]
  go_enter Tryd.func59, Tryd.ntmps59
  go_upto_region 0 with fail
  refine wp_region_lit ?_
  refine ebox (v := (.agg #[.int .i64 x.kind, .int .i64 x.cmd, .int .i64 x.zone, .int .i64 x.at_, .int .i64 x.n, .slice Ad nd cd, .bool x.fua, .int .i64 x.m, .int .i64 x.k, .slice Ak nk ck])) rfl rfl rfl ?_
  intro g1 hg1 W1 hk1 hb1
  have Kg1 := Aside0.mk hk1
  have HB1 := Aside0.mk (hb1)
  clear hb1
  have Gg1 := Aside0.mk (show w.heap.size ≤ g1 by rw [hg1]; exact Nat.le_refl _)
  clear hg1 hk1
  simp only [Act.put, List.setIfInBounds_toArray, List.set_cons_zero, List.set_cons_succ]
  refine ealloc rfl rfl zero104_is ?_
  intro g2 hg2 W2 hk2 hb2
  have Kg2 := Aside0.mk hk2
  have Ng2_g1 := Aside0.mk (show g1 ≠ g2 by have := (Array.getElem?_eq_some_iff.1 Kg1.out).1; omega)
  have Ng1_g2 := Aside0.mk (Ne.symm Ng2_g1.out)
  have HB2 := Aside0.mk (below_step HB1.out hb2)
  have Kg1_2 := Aside0.mk (blk_below Kg1.out hb2)
  clear hb2
  have Gg2 := Aside0.mk (show w.heap.size ≤ g2 by rw [hg2]; exact HB1.out.size)
  clear hg2 hk2
  simp only [Act.put, List.setIfInBounds_toArray, List.set_cons_zero, List.set_cons_succ]
  go_upto_region 1 with fail
  refine Flow.seqT (E := fun u v => Below u.heap.size u v) [(some 3, []), (some 4, [0]), (some 5, [1])] (fun iQ vQ wQ => match iQ with | 0 => vQ = (.pointer (some ⟨g1, 0, none⟩)) | 1 => vQ = (.int .i64 x.kind) | 2 => vQ = (.bool true) | _ => True) rfl (by kernel_rfl) (Below.refl _ _) (fun _ _ _ h k => h.trans (k.mono h.size)) (fun _ _ _ _ h _ => h) ?_ ?_
  ·refine ⟨?_, ?_, ?_, trivial⟩
   ·intro a w' hx hu hd K hK; have e1 : a.tmps.getD 1 undef = (.pointer (some ⟨g1, 0, none⟩)) := hu 1 rfl; exact Flow.run1 rfl (fa rfl e1 (fa56_0 _ _ _)) (hK _ _ (Below.refl _ _) rfl)
   ·intro a w' hx hu hd K hK; have e3 := Flow.got (hd 0 rfl) 3 rfl; exact Flow.run1 rfl (ld rfl e3 ((blk_cell (blk_below Kg1_2.out hx) 0).trans rfl) Tryd.underlying3 rfl) (hK _ _ (Below.refl _ _) rfl)
   ·intro a w' hx hu hd K hK; have e4 := Flow.got (hd 1 rfl) 4 rfl; exact Flow.run1 rfl (yes (eql rfl e4 rfl) (beq_iff_eq.2 H0.out)) (hK _ _ (Below.refl _ _) rfl)
  intro vs W3 hb3 hT
  have v0 := Flow.eqn (hT 0 (by decide))
  have v1 := Flow.eqn (hT 1 (by decide))
  have v2 := Flow.eqn (hT 2 (by decide))
  simp only [Flow.putsT, v0, v1, v2, Act.put, List.setIfInBounds_toArray, List.set_cons_zero, List.set_cons_succ]
  clear hT v0 v1 v2
  have HB3 := Aside0.mk (below_step HB2.out hb3)
  have Kg1_2_3 := Aside0.mk (blk_below Kg1_2.out hb3)
  have Kg2_3 := Aside0.mk (blk_below Kg2.out hb3)
  clear hb3
  go_upto_region 2 with fail
  refine Flow.seqT_head (E := fun u v => Below u.heap.size u v) 10 [(some 6, []), (some 7, [0]), (some 8, [1]), (some 9, []), (some 10, [3]), (some 11, [4]), (some 12, []), (some 13, [6]), (some 14, [7]), (some 15, [2, 5, 8]), (none, [9, 0, 1, 2, 3, 4, 5, 6, 7, 8, 9])] (fun iQ vQ wQ => match iQ with | 0 => vQ = (.pointer (some ⟨g1, 1, none⟩)) | 1 => vQ = (.pointer (some ⟨g1, 2, none⟩)) | 2 => vQ = (.int .i64 x.zone) | 3 => vQ = (.pointer (some ⟨g1, 1, none⟩)) | 4 => vQ = (.pointer (some ⟨g1, 3, none⟩)) | 5 => vQ = (.int .i64 x.at_) | 6 => vQ = (.pointer (some ⟨g1, 1, none⟩)) | 7 => vQ = (.pointer (some ⟨g1, 4, none⟩)) | 8 => vQ = (.int .i64 x.n) | 9 => vQ = (.agg #[.int .i64 x.zone, .int .i64 x.at_, .int .i64 x.n]) | _ => True) rfl (by decide) (by kernel_rfl) (Below.refl _ _) (fun _ _ _ h k => h.trans (k.mono h.size)) (fun _ _ _ _ h _ => h) ?_ ?_
  ·refine ⟨?_, ?_, ?_, ?_, ?_, ?_, ?_, ?_, ?_, ?_, trivial⟩
   ·intro a w' hx hu hd K hK; have e1 : a.tmps.getD 1 undef = (.pointer (some ⟨g1, 0, none⟩)) := hu 1 rfl; exact Flow.run1 rfl (fa rfl e1 (fa56_1 _ _ _)) (hK _ _ (Below.refl _ _) rfl)
   ·intro a w' hx hu hd K hK; have e6 := Flow.got (hd 0 rfl) 6 rfl; exact Flow.run1 rfl (fa rfl e6 (fa54_1 _ _ _)) (hK _ _ (Below.refl _ _) rfl)
   ·intro a w' hx hu hd K hK; have e7 := Flow.got (hd 1 rfl) 7 rfl; exact Flow.run1 rfl (ld rfl e7 ((blk_cell (blk_below Kg1_2_3.out hx) 2).trans rfl) Tryd.underlying3 rfl) (hK _ _ (Below.refl _ _) rfl)
   ·intro a w' hx hu hd K hK; have e1 : a.tmps.getD 1 undef = (.pointer (some ⟨g1, 0, none⟩)) := hu 1 rfl; exact Flow.run1 rfl (fa rfl e1 (fa56_1 _ _ _)) (hK _ _ (Below.refl _ _) rfl)
   ·intro a w' hx hu hd K hK; have e9 := Flow.got (hd 3 rfl) 9 rfl; exact Flow.run1 rfl (fa rfl e9 (fa54_2 _ _ _)) (hK _ _ (Below.refl _ _) rfl)
   ·intro a w' hx hu hd K hK; have e10 := Flow.got (hd 4 rfl) 10 rfl; exact Flow.run1 rfl (ld rfl e10 ((blk_cell (blk_below Kg1_2_3.out hx) 3).trans rfl) Tryd.underlying3 rfl) (hK _ _ (Below.refl _ _) rfl)
   ·intro a w' hx hu hd K hK; have e1 : a.tmps.getD 1 undef = (.pointer (some ⟨g1, 0, none⟩)) := hu 1 rfl; exact Flow.run1 rfl (fa rfl e1 (fa56_1 _ _ _)) (hK _ _ (Below.refl _ _) rfl)
   ·intro a w' hx hu hd K hK; have e12 := Flow.got (hd 6 rfl) 12 rfl; exact Flow.run1 rfl (fa rfl e12 (fa54_3 _ _ _)) (hK _ _ (Below.refl _ _) rfl)
   ·intro a w' hx hu hd K hK; have e13 := Flow.got (hd 7 rfl) 13 rfl; exact Flow.run1 rfl (ld rfl e13 ((blk_cell (blk_below Kg1_2_3.out hx) 4).trans rfl) Tryd.underlying3 rfl) (hK _ _ (Below.refl _ _) rfl)
   ·intro a w' hx hu hd K hK; have e8 := Flow.got (hd 2 rfl) 8 rfl; have e11 := Flow.got (hd 5 rfl) 11 rfl; have e14 := Flow.got (hd 8 rfl) 14 rfl; exact Flow.run1 rfl (bld104_0_1_2 rfl e8 e11 e14) (hK _ _ (Below.refl _ _) rfl)
  intro vs W4 hb4 hT
  have v0 := Flow.eqn (hT 0 (by decide))
  have v1 := Flow.eqn (hT 1 (by decide))
  have v2 := Flow.eqn (hT 2 (by decide))
  have v3 := Flow.eqn (hT 3 (by decide))
  have v4 := Flow.eqn (hT 4 (by decide))
  have v5 := Flow.eqn (hT 5 (by decide))
  have v6 := Flow.eqn (hT 6 (by decide))
  have v7 := Flow.eqn (hT 7 (by decide))
  have v8 := Flow.eqn (hT 8 (by decide))
  have v9 := Flow.eqn (hT 9 (by decide))
  simp only [Flow.putsT, v0, v1, v2, v3, v4, v5, v6, v7, v8, v9, Act.put, List.setIfInBounds_toArray, List.set_cons_zero, List.set_cons_succ, List.drop_succ_cons, List.drop_zero, List.take_succ_cons, List.take_zero]
  clear hT v0 v1 v2 v3 v4 v5 v6 v7 v8 v9
  have HB4 := Aside0.mk (below_step HB3.out hb4)
  have Kg1_2_3_4 := Aside0.mk (blk_below Kg1_2_3.out hb4)
  have Kg2_3_4 := Aside0.mk (blk_below Kg2_3.out hb4)
  clear hb4
  refine Cells.store_whole rfl rfl 104 _ _ rfl g2 [.int .i64 x.zone, .int .i64 x.at_, .int .i64 x.n] #[.int .i64 0, .int .i64 0, .int .i64 0] rfl rfl Kg2_3_4.out rfl size104 rfl ?_
  intro W5 hk5 hf5 hb5
  have HB5 := Aside0.mk (HB4.out.trans (hb5 _ Gg2.out))
  have Kg1_2_3_4_5 := Aside0.mk ((hf5 _ Ng2_g1.out).trans Kg1_2_3_4.out)
  have Kg2_5 := Aside0.mk hk5
  clear hk5 hf5 hb5
  go_wp2_with fail
  exact bodyPost_ret (results_cell_row Tryd.results59 _ _ g2 104 _ _ _ rfl Kg2_5.out Tryd.underlying104 rfl size104) rfl ⟨rfl, HB5.out⟩
 ·have H0 := Aside0.mk h0
  clear h0
  by_cases h1 : x.kind = 1
  ·have H1 := Aside0.mk h1
   clear h1
   have hn : num3 x = (x.k, 0, 0) := by unfold num3; rw [if_neg H0.out, if_pos H1.out]
   rw [hn]
   go_enter Tryd.func59, Tryd.ntmps59
   go_upto_region 0 with fail
   refine wp_region_lit ?_
   refine ebox (v := (.agg #[.int .i64 x.kind, .int .i64 x.cmd, .int .i64 x.zone, .int .i64 x.at_, .int .i64 x.n, .slice Ad nd cd, .bool x.fua, .int .i64 x.m, .int .i64 x.k, .slice Ak nk ck])) rfl rfl rfl ?_
   intro g6 hg6 W6 hk6 hb6
   have Kg6 := Aside0.mk hk6
   have HB6 := Aside0.mk (hb6)
   clear hb6
   have Gg6 := Aside0.mk (show w.heap.size ≤ g6 by rw [hg6]; exact Nat.le_refl _)
   clear hg6 hk6
   simp only [Act.put, List.setIfInBounds_toArray, List.set_cons_zero, List.set_cons_succ]
   refine ealloc rfl rfl zero104_is ?_
   intro g7 hg7 W7 hk7 hb7
   have Kg7 := Aside0.mk hk7
   have Ng7_g6 := Aside0.mk (show g6 ≠ g7 by have := (Array.getElem?_eq_some_iff.1 Kg6.out).1; omega)
   have Ng6_g7 := Aside0.mk (Ne.symm Ng7_g6.out)
   have HB7 := Aside0.mk (below_step HB6.out hb7)
   have Kg6_7 := Aside0.mk (blk_below Kg6.out hb7)
   clear hb7
   have Gg7 := Aside0.mk (show w.heap.size ≤ g7 by rw [hg7]; exact HB6.out.size)
   clear hg7 hk7
   simp only [Act.put, List.setIfInBounds_toArray, List.set_cons_zero, List.set_cons_succ]
   go_upto_region 1 with fail
   refine Flow.seqT (E := fun u v => Below u.heap.size u v) [(some 3, []), (some 4, [0]), (some 5, [1])] (fun iQ vQ wQ => match iQ with | 0 => vQ = (.pointer (some ⟨g6, 0, none⟩)) | 1 => vQ = (.int .i64 x.kind) | 2 => vQ = (.bool false) | _ => True) rfl (by kernel_rfl) (Below.refl _ _) (fun _ _ _ h k => h.trans (k.mono h.size)) (fun _ _ _ _ h _ => h) ?_ ?_
   ·refine ⟨?_, ?_, ?_, trivial⟩
    ·intro a w' hx hu hd K hK; have e1 : a.tmps.getD 1 undef = (.pointer (some ⟨g6, 0, none⟩)) := hu 1 rfl; exact Flow.run1 rfl (fa rfl e1 (fa56_0 _ _ _)) (hK _ _ (Below.refl _ _) rfl)
    ·intro a w' hx hu hd K hK; have e3 := Flow.got (hd 0 rfl) 3 rfl; exact Flow.run1 rfl (ld rfl e3 ((blk_cell (blk_below Kg6_7.out hx) 0).trans rfl) Tryd.underlying3 rfl) (hK _ _ (Below.refl _ _) rfl)
    ·intro a w' hx hu hd K hK; have e4 := Flow.got (hd 1 rfl) 4 rfl; exact Flow.run1 rfl (no (eql rfl e4 rfl) (beq_eq_false_iff_ne.2 H0.out)) (hK _ _ (Below.refl _ _) rfl)
   intro vs W8 hb8 hT
   have v0 := Flow.eqn (hT 0 (by decide))
   have v1 := Flow.eqn (hT 1 (by decide))
   have v2 := Flow.eqn (hT 2 (by decide))
   simp only [Flow.putsT, v0, v1, v2, Act.put, List.setIfInBounds_toArray, List.set_cons_zero, List.set_cons_succ]
   clear hT v0 v1 v2
   have HB8 := Aside0.mk (below_step HB7.out hb8)
   have Kg6_7_8 := Aside0.mk (blk_below Kg6_7.out hb8)
   have Kg7_8 := Aside0.mk (blk_below Kg7.out hb8)
   clear hb8
   go_upto_region 3 with fail
   refine Flow.seqT (E := fun u v => Below u.heap.size u v) [(some 16, []), (some 17, [0]), (some 18, [1])] (fun iQ vQ wQ => match iQ with | 0 => vQ = (.pointer (some ⟨g6, 0, none⟩)) | 1 => vQ = (.int .i64 x.kind) | 2 => vQ = (.bool true) | _ => True) rfl (by kernel_rfl) (Below.refl _ _) (fun _ _ _ h k => h.trans (k.mono h.size)) (fun _ _ _ _ h _ => h) ?_ ?_
   ·refine ⟨?_, ?_, ?_, trivial⟩
    ·intro a w' hx hu hd K hK; have e1 : a.tmps.getD 1 undef = (.pointer (some ⟨g6, 0, none⟩)) := hu 1 rfl; exact Flow.run1 rfl (fa rfl e1 (fa56_0 _ _ _)) (hK _ _ (Below.refl _ _) rfl)
    ·intro a w' hx hu hd K hK; have e16 := Flow.got (hd 0 rfl) 16 rfl; exact Flow.run1 rfl (ld rfl e16 ((blk_cell (blk_below Kg6_7_8.out hx) 0).trans rfl) Tryd.underlying3 rfl) (hK _ _ (Below.refl _ _) rfl)
    ·intro a w' hx hu hd K hK; have e17 := Flow.got (hd 1 rfl) 17 rfl; exact Flow.run1 rfl (yes (eql rfl e17 rfl) (beq_iff_eq.2 H1.out)) (hK _ _ (Below.refl _ _) rfl)
   intro vs W9 hb9 hT
   have v0 := Flow.eqn (hT 0 (by decide))
   have v1 := Flow.eqn (hT 1 (by decide))
   have v2 := Flow.eqn (hT 2 (by decide))
   simp only [Flow.putsT, v0, v1, v2, Act.put, List.setIfInBounds_toArray, List.set_cons_zero, List.set_cons_succ]
   clear hT v0 v1 v2
   have HB9 := Aside0.mk (below_step HB8.out hb9)
   have Kg6_7_8_9 := Aside0.mk (blk_below Kg6_7_8.out hb9)
   have Kg7_8_9 := Aside0.mk (blk_below Kg7_8.out hb9)
   clear hb9
   go_upto_region 4 with fail
   refine Flow.seqT_head (E := fun u v => Below u.heap.size u v) 3 [(some 19, []), (some 20, [0]), (some 21, [1]), (none, [2, 0, 1, 2])] (fun iQ vQ wQ => match iQ with | 0 => vQ = (.pointer (some ⟨g6, 8, none⟩)) | 1 => vQ = (.int .i64 x.k) | 2 => vQ = (.agg #[.int .i64 x.k, .int .i64 0, .int .i64 0]) | _ => True) rfl (by decide) (by kernel_rfl) (Below.refl _ _) (fun _ _ _ h k => h.trans (k.mono h.size)) (fun _ _ _ _ h _ => h) ?_ ?_
   ·refine ⟨?_, ?_, ?_, trivial⟩
    ·intro a w' hx hu hd K hK; have e1 : a.tmps.getD 1 undef = (.pointer (some ⟨g6, 0, none⟩)) := hu 1 rfl; exact Flow.run1 rfl (fa rfl e1 (fa56_3 _ _ _)) (hK _ _ (Below.refl _ _) rfl)
    ·intro a w' hx hu hd K hK; have e19 := Flow.got (hd 0 rfl) 19 rfl; exact Flow.run1 rfl (ld rfl e19 ((blk_cell (blk_below Kg6_7_8_9.out hx) 8).trans rfl) Tryd.underlying3 rfl) (hK _ _ (Below.refl _ _) rfl)
    ·intro a w' hx hu hd K hK; have e20 := Flow.got (hd 1 rfl) 20 rfl; exact Flow.run1 rfl (bld104_0_1_2 rfl e20 rfl rfl) (hK _ _ (Below.refl _ _) rfl)
   intro vs W10 hb10 hT
   have v0 := Flow.eqn (hT 0 (by decide))
   have v1 := Flow.eqn (hT 1 (by decide))
   have v2 := Flow.eqn (hT 2 (by decide))
   simp only [Flow.putsT, v0, v1, v2, Act.put, List.setIfInBounds_toArray, List.set_cons_zero, List.set_cons_succ, List.drop_succ_cons, List.drop_zero, List.take_succ_cons, List.take_zero]
   clear hT v0 v1 v2
   have HB10 := Aside0.mk (below_step HB9.out hb10)
   have Kg6_7_8_9_10 := Aside0.mk (blk_below Kg6_7_8_9.out hb10)
   have Kg7_8_9_10 := Aside0.mk (blk_below Kg7_8_9.out hb10)
   clear hb10
   refine Cells.store_whole rfl rfl 104 _ _ rfl g7 [.int .i64 x.k, .int .i64 0, .int .i64 0] #[.int .i64 0, .int .i64 0, .int .i64 0] rfl rfl Kg7_8_9_10.out rfl size104 rfl ?_
   intro W11 hk11 hf11 hb11
   have HB11 := Aside0.mk (HB10.out.trans (hb11 _ Gg7.out))
   have Kg6_7_8_9_10_11 := Aside0.mk ((hf11 _ Ng7_g6.out).trans Kg6_7_8_9_10.out)
   have Kg7_11 := Aside0.mk hk11
   clear hk11 hf11 hb11
   go_wp2_with fail
   exact bodyPost_ret (results_cell_row Tryd.results59 _ _ g7 104 _ _ _ rfl Kg7_11.out Tryd.underlying104 rfl size104) rfl ⟨rfl, HB11.out⟩
  ·have H1 := Aside0.mk h1
   clear h1
   have hn : num3 x = (x.m, x.k, 0) := by unfold num3; rw [if_neg H0.out, if_neg H1.out]
   rw [hn]
   go_enter Tryd.func59, Tryd.ntmps59
   go_upto_region 0 with fail
   refine wp_region_lit ?_
   refine ebox (v := (.agg #[.int .i64 x.kind, .int .i64 x.cmd, .int .i64 x.zone, .int .i64 x.at_, .int .i64 x.n, .slice Ad nd cd, .bool x.fua, .int .i64 x.m, .int .i64 x.k, .slice Ak nk ck])) rfl rfl rfl ?_
   intro g12 hg12 W12 hk12 hb12
   have Kg12 := Aside0.mk hk12
   have HB12 := Aside0.mk (hb12)
   clear hb12
   have Gg12 := Aside0.mk (show w.heap.size ≤ g12 by rw [hg12]; exact Nat.le_refl _)
   clear hg12 hk12
   simp only [Act.put, List.setIfInBounds_toArray, List.set_cons_zero, List.set_cons_succ]
   refine ealloc rfl rfl zero104_is ?_
   intro g13 hg13 W13 hk13 hb13
   have Kg13 := Aside0.mk hk13
   have Ng13_g12 := Aside0.mk (show g12 ≠ g13 by have := (Array.getElem?_eq_some_iff.1 Kg12.out).1; omega)
   have Ng12_g13 := Aside0.mk (Ne.symm Ng13_g12.out)
   have HB13 := Aside0.mk (below_step HB12.out hb13)
   have Kg12_13 := Aside0.mk (blk_below Kg12.out hb13)
   clear hb13
   have Gg13 := Aside0.mk (show w.heap.size ≤ g13 by rw [hg13]; exact HB12.out.size)
   clear hg13 hk13
   simp only [Act.put, List.setIfInBounds_toArray, List.set_cons_zero, List.set_cons_succ]
   go_upto_region 1 with fail
   refine Flow.seqT (E := fun u v => Below u.heap.size u v) [(some 3, []), (some 4, [0]), (some 5, [1])] (fun iQ vQ wQ => match iQ with | 0 => vQ = (.pointer (some ⟨g12, 0, none⟩)) | 1 => vQ = (.int .i64 x.kind) | 2 => vQ = (.bool false) | _ => True) rfl (by kernel_rfl) (Below.refl _ _) (fun _ _ _ h k => h.trans (k.mono h.size)) (fun _ _ _ _ h _ => h) ?_ ?_
   ·refine ⟨?_, ?_, ?_, trivial⟩
    ·intro a w' hx hu hd K hK; have e1 : a.tmps.getD 1 undef = (.pointer (some ⟨g12, 0, none⟩)) := hu 1 rfl; exact Flow.run1 rfl (fa rfl e1 (fa56_0 _ _ _)) (hK _ _ (Below.refl _ _) rfl)
    ·intro a w' hx hu hd K hK; have e3 := Flow.got (hd 0 rfl) 3 rfl; exact Flow.run1 rfl (ld rfl e3 ((blk_cell (blk_below Kg12_13.out hx) 0).trans rfl) Tryd.underlying3 rfl) (hK _ _ (Below.refl _ _) rfl)
    ·intro a w' hx hu hd K hK; have e4 := Flow.got (hd 1 rfl) 4 rfl; exact Flow.run1 rfl (no (eql rfl e4 rfl) (beq_eq_false_iff_ne.2 H0.out)) (hK _ _ (Below.refl _ _) rfl)
   intro vs W14 hb14 hT
   have v0 := Flow.eqn (hT 0 (by decide))
   have v1 := Flow.eqn (hT 1 (by decide))
   have v2 := Flow.eqn (hT 2 (by decide))
   simp only [Flow.putsT, v0, v1, v2, Act.put, List.setIfInBounds_toArray, List.set_cons_zero, List.set_cons_succ]
   clear hT v0 v1 v2
   have HB14 := Aside0.mk (below_step HB13.out hb14)
   have Kg12_13_14 := Aside0.mk (blk_below Kg12_13.out hb14)
   have Kg13_14 := Aside0.mk (blk_below Kg13.out hb14)
   clear hb14
   go_upto_region 3 with fail
   refine Flow.seqT (E := fun u v => Below u.heap.size u v) [(some 16, []), (some 17, [0]), (some 18, [1])] (fun iQ vQ wQ => match iQ with | 0 => vQ = (.pointer (some ⟨g12, 0, none⟩)) | 1 => vQ = (.int .i64 x.kind) | 2 => vQ = (.bool false) | _ => True) rfl (by kernel_rfl) (Below.refl _ _) (fun _ _ _ h k => h.trans (k.mono h.size)) (fun _ _ _ _ h _ => h) ?_ ?_
   ·refine ⟨?_, ?_, ?_, trivial⟩
    ·intro a w' hx hu hd K hK; have e1 : a.tmps.getD 1 undef = (.pointer (some ⟨g12, 0, none⟩)) := hu 1 rfl; exact Flow.run1 rfl (fa rfl e1 (fa56_0 _ _ _)) (hK _ _ (Below.refl _ _) rfl)
    ·intro a w' hx hu hd K hK; have e16 := Flow.got (hd 0 rfl) 16 rfl; exact Flow.run1 rfl (ld rfl e16 ((blk_cell (blk_below Kg12_13_14.out hx) 0).trans rfl) Tryd.underlying3 rfl) (hK _ _ (Below.refl _ _) rfl)
    ·intro a w' hx hu hd K hK; have e17 := Flow.got (hd 1 rfl) 17 rfl; exact Flow.run1 rfl (no (eql rfl e17 rfl) (beq_eq_false_iff_ne.2 H1.out)) (hK _ _ (Below.refl _ _) rfl)
   intro vs W15 hb15 hT
   have v0 := Flow.eqn (hT 0 (by decide))
   have v1 := Flow.eqn (hT 1 (by decide))
   have v2 := Flow.eqn (hT 2 (by decide))
   simp only [Flow.putsT, v0, v1, v2, Act.put, List.setIfInBounds_toArray, List.set_cons_zero, List.set_cons_succ]
   clear hT v0 v1 v2
   have HB15 := Aside0.mk (below_step HB14.out hb15)
   have Kg12_13_14_15 := Aside0.mk (blk_below Kg12_13_14.out hb15)
   have Kg13_14_15 := Aside0.mk (blk_below Kg13_14.out hb15)
   clear hb15
   go_upto_region 5 with fail
   refine Flow.seqT_head (E := fun u v => Below u.heap.size u v) 5 [(some 22, []), (some 23, [0]), (some 24, []), (some 25, [2]), (some 26, [1, 3]), (none, [4, 0, 1, 2, 3, 4])] (fun iQ vQ wQ => match iQ with | 0 => vQ = (.pointer (some ⟨g12, 7, none⟩)) | 1 => vQ = (.int .i64 x.m) | 2 => vQ = (.pointer (some ⟨g12, 8, none⟩)) | 3 => vQ = (.int .i64 x.k) | 4 => vQ = (.agg #[.int .i64 x.m, .int .i64 x.k, .int .i64 0]) | _ => True) rfl (by decide) (by kernel_rfl) (Below.refl _ _) (fun _ _ _ h k => h.trans (k.mono h.size)) (fun _ _ _ _ h _ => h) ?_ ?_
   ·refine ⟨?_, ?_, ?_, ?_, ?_, trivial⟩
    ·intro a w' hx hu hd K hK; have e1 : a.tmps.getD 1 undef = (.pointer (some ⟨g12, 0, none⟩)) := hu 1 rfl; exact Flow.run1 rfl (fa rfl e1 (fa56_2 _ _ _)) (hK _ _ (Below.refl _ _) rfl)
    ·intro a w' hx hu hd K hK; have e22 := Flow.got (hd 0 rfl) 22 rfl; exact Flow.run1 rfl (ld rfl e22 ((blk_cell (blk_below Kg12_13_14_15.out hx) 7).trans rfl) Tryd.underlying3 rfl) (hK _ _ (Below.refl _ _) rfl)
    ·intro a w' hx hu hd K hK; have e1 : a.tmps.getD 1 undef = (.pointer (some ⟨g12, 0, none⟩)) := hu 1 rfl; exact Flow.run1 rfl (fa rfl e1 (fa56_3 _ _ _)) (hK _ _ (Below.refl _ _) rfl)
    ·intro a w' hx hu hd K hK; have e24 := Flow.got (hd 2 rfl) 24 rfl; exact Flow.run1 rfl (ld rfl e24 ((blk_cell (blk_below Kg12_13_14_15.out hx) 8).trans rfl) Tryd.underlying3 rfl) (hK _ _ (Below.refl _ _) rfl)
    ·intro a w' hx hu hd K hK; have e23 := Flow.got (hd 1 rfl) 23 rfl; have e25 := Flow.got (hd 3 rfl) 25 rfl; exact Flow.run1 rfl (bld104_0_1_2 rfl e23 e25 rfl) (hK _ _ (Below.refl _ _) rfl)
   intro vs W16 hb16 hT
   have v0 := Flow.eqn (hT 0 (by decide))
   have v1 := Flow.eqn (hT 1 (by decide))
   have v2 := Flow.eqn (hT 2 (by decide))
   have v3 := Flow.eqn (hT 3 (by decide))
   have v4 := Flow.eqn (hT 4 (by decide))
   simp only [Flow.putsT, v0, v1, v2, v3, v4, Act.put, List.setIfInBounds_toArray, List.set_cons_zero, List.set_cons_succ, List.drop_succ_cons, List.drop_zero, List.take_succ_cons, List.take_zero]
   clear hT v0 v1 v2 v3 v4
   have HB16 := Aside0.mk (below_step HB15.out hb16)
   have Kg12_13_14_15_16 := Aside0.mk (blk_below Kg12_13_14_15.out hb16)
   have Kg13_14_15_16 := Aside0.mk (blk_below Kg13_14_15.out hb16)
   clear hb16
   refine Cells.store_whole rfl rfl 104 _ _ rfl g13 [.int .i64 x.m, .int .i64 x.k, .int .i64 0] #[.int .i64 0, .int .i64 0, .int .i64 0] rfl rfl Kg13_14_15_16.out rfl size104 rfl ?_
   intro W17 hk17 hf17 hb17
   have HB17 := Aside0.mk (HB16.out.trans (hb17 _ Gg13.out))
   have Kg12_13_14_15_16_17 := Aside0.mk ((hf17 _ Ng13_g12.out).trans Kg12_13_14_15_16.out)
   have Kg13_17 := Aside0.mk hk17
   clear hk17 hf17 hb17
   go_wp2_with fail
   exact bodyPost_ret (results_cell_row Tryd.results59 _ _ g13 104 _ _ _ rfl Kg13_17.out Tryd.underlying104 rfl size104) rfl ⟨rfl, HB17.out⟩
set_option maxHeartbeats 4000000 in
set_option maxRecDepth 100000 in
theorem word_c (x : A10) (Ad Ak : Option Addr) (nd cd nk ck : Nat) (w : World) : Calls Tryd.prog 55 #[.agg #[.int .i64 x.kind, .int .i64 x.cmd, .int .i64 x.zone, .int .i64 x.at_, .int .i64 x.n, .slice Ad nd cd, .bool x.fua, .int .i64 x.m, .int .i64 x.k, .slice Ak nk ck]] w fun e w' => e = .returned (.string (wdI (idxI x))) ∧ Below w.heap.size w w' := by
 by_cases h0 : x.kind = 0
 ·have H0 := Aside0.mk h0
  clear h0
  by_cases h1 : x.cmd ≥ 0
  ·have H1 := Aside0.mk h1
   clear h1
   by_cases h2 : x.cmd < 8
   ·have H2 := Aside0.mk h2
    clear h2
    obtain ⟨i, HI⟩ : ∃ i : Nat, Aside0 (x.cmd = (i : Int)) := ⟨x.cmd.toNat, ⟨by have := H1.out; omega⟩⟩
    have HI8 : Aside0 (i < 8) := ⟨by have := H2.out; have := HI.out; omega⟩
    rw [idx_c H0.out H1.out H2.out, HI.out, ← cmds_at HI8.out]
    go_enter Tryd.func55, Tryd.ntmps55
    go_upto_region 0 with fail
    refine wp_region_lit ?_
    refine ebox (v := (.agg #[.int .i64 x.kind, .int .i64 i, .int .i64 x.zone, .int .i64 x.at_, .int .i64 x.n, .slice Ad nd cd, .bool x.fua, .int .i64 x.m, .int .i64 x.k, .slice Ak nk ck])) rfl rfl rfl ?_
    intro g1 hg1 W1 hk1 hb1
    have Kg1 := Aside0.mk hk1
    have HB1 := Aside0.mk (hb1)
    clear hb1
    have Gg1 := Aside0.mk (show w.heap.size ≤ g1 by rw [hg1]; exact Nat.le_refl _)
    clear hg1 hk1
    simp only [Act.put, List.setIfInBounds_toArray, List.set_cons_zero, List.set_cons_succ]
    refine Flow.seqL (E := fun u v => Below u.heap.size u v) 1 1 [(some 1, []), (some 2, [])] (fun iQ vQ wQ => match iQ with | 1 => vQ = (.string ⟨#[]⟩) | _ => True) rfl (by decide) (by kernel_rfl) (Below.refl _ _) (fun _ _ _ h k => h.trans (k.mono h.size)) (fun _ _ _ _ h _ => h) ?_ ?_
    ·refine ⟨?_, trivial⟩
     ·intro a w' hx hu hd K hK; exact Flow.run1 rfl (Flow.r_assign rfl rfl) (hK _ _ (Below.refl _ _) rfl)
    intro vs W2 hb2 hT
    have v1 := Flow.eqn (hT 1 (by decide) (by decide))
    simp only [Flow.putsT, v1, Act.put, List.setIfInBounds_toArray, List.set_cons_zero, List.set_cons_succ, List.drop_succ_cons, List.drop_zero, List.take_succ_cons, List.take_zero]
    clear hT v1
    have HB2 := Aside0.mk (below_step HB1.out hb2)
    have Kg1_2 := Aside0.mk (blk_below Kg1.out hb2)
    clear hb2
    go_upto_region 1 with fail
    refine Flow.seqT_head (E := fun u v => Below u.heap.size u v) 1 [(some 5, []), (some 3, [0, 0])] (fun iQ vQ wQ => match iQ with | 0 => SliceAt #[.string ⟨#[119, 114, 105, 116, 101]⟩, .string ⟨#[114, 101, 97, 100]⟩, .string ⟨#[102, 108, 117, 115, 104]⟩, .string ⟨#[114, 101, 115, 101, 116]⟩, .string ⟨#[102, 105, 110, 105, 115, 104]⟩, .string ⟨#[111, 112, 101, 110]⟩, .string ⟨#[99, 108, 111, 115, 101]⟩, .string ⟨#[114, 101, 112, 111, 114, 116]⟩] 9 8 w.heap.size vQ wQ | _ => True) rfl (by decide) (by kernel_rfl) (Below.refl _ _) (fun _ _ _ h k => h.trans (k.mono h.size)) (fun iQ vQ w1Q w2Q hQ hEQ => match iQ, hQ with | 0, hQ => slice_below hQ hEQ | _ + 1, _ => trivial) ?_ ?_
    ·refine ⟨?_, trivial⟩
     ·intro a w' hx hu hd K hK; exact Flow.run1 rfl (row8_79 rfl rfl rfl rfl rfl rfl rfl rfl rfl) (hK _ _ (below_alloc (Below.refl _ _) _) (slice_new (Nat.le_trans (HB2.out).size (hx : Below _ _ _).size)))
    intro vs W3 hb3 hT
    obtain ⟨g3_0, v0, hge0, hk0⟩ : SliceAt _ _ _ _ _ _ := hT 0 (by decide)
    have Kg3_0 := Aside0.mk hk0
    have Gg3_0 := Aside0.mk hge0
    clear hk0 hge0
    simp only [Flow.putsT, v0, Act.put, List.setIfInBounds_toArray, List.set_cons_zero, List.set_cons_succ, List.drop_succ_cons, List.drop_zero, List.take_succ_cons, List.take_zero]
    clear hT v0
    have HB3 := Aside0.mk (below_step HB2.out hb3)
    have Kg1_2_3 := Aside0.mk (blk_below Kg1_2.out hb3)
    clear hb3
    refine Flow.seqL (E := fun u v => Below u.heap.size u v) 1 1 [(some 5, []), (some 3, [0, 0])] (fun iQ vQ wQ => match iQ with | 1 => vQ = (.slice (some ⟨g3_0, 0, none⟩) 8 8) | _ => True) rfl (by decide) (by kernel_rfl) (Below.refl _ _) (fun _ _ _ h k => h.trans (k.mono h.size)) (fun _ _ _ _ h _ => h) ?_ ?_
    ·refine ⟨?_, trivial⟩
     ·intro a w' hx hu hd K hK; have e5 : a.tmps.getD 5 undef = (.slice (some ⟨g3_0, 0, none⟩) 8 8) := hu 5 rfl; exact Flow.run1 rfl (Flow.r_assign rfl e5) (hK _ _ (Below.refl _ _) rfl)
    intro vs W4 hb4 hT
    have v1 := Flow.eqn (hT 1 (by decide) (by decide))
    simp only [Flow.putsT, v1, Act.put, List.setIfInBounds_toArray, List.set_cons_zero, List.set_cons_succ, List.drop_succ_cons, List.drop_zero, List.take_succ_cons, List.take_zero]
    clear hT v1
    have HB4 := Aside0.mk (below_step HB3.out hb4)
    have Kg1_2_3_4 := Aside0.mk (blk_below Kg1_2_3.out hb4)
    have Kg3_0_4 := Aside0.mk (blk_below Kg3_0.out hb4)
    clear hb4
    go_upto_region 2 with fail
    refine Flow.seqT_head (E := fun u v => Below u.heap.size u v) 1 [(some 6, []), (some 4, [0, 0])] (fun iQ vQ wQ => match iQ with | 0 => SliceAt #[.string ⟨#[]⟩, .string ⟨#[102, 117, 115, 101]⟩, .string ⟨#[107, 105, 108, 108]⟩, .string ⟨#[99, 114, 97, 115, 104]⟩, .string ⟨#[114, 101, 112, 108, 97, 99, 101]⟩, .string ⟨#[97, 116, 116, 97, 99, 104]⟩, .string ⟨#[115, 116, 101, 112]⟩, .string ⟨#[97, 108, 108]⟩] 9 8 w.heap.size vQ wQ | _ => True) rfl (by decide) (by kernel_rfl) (Below.refl _ _) (fun _ _ _ h k => h.trans (k.mono h.size)) (fun iQ vQ w1Q w2Q hQ hEQ => match iQ, hQ with | 0, hQ => slice_below hQ hEQ | _ + 1, _ => trivial) ?_ ?_
    ·refine ⟨?_, trivial⟩
     ·intro a w' hx hu hd K hK; exact Flow.run1 rfl (row8_79 rfl rfl rfl rfl rfl rfl rfl rfl rfl) (hK _ _ (below_alloc (Below.refl _ _) _) (slice_new (Nat.le_trans (HB4.out).size (hx : Below _ _ _).size)))
    intro vs W5 hb5 hT
    obtain ⟨g5_0, v0, hge0, hk0⟩ : SliceAt _ _ _ _ _ _ := hT 0 (by decide)
    have Kg5_0 := Aside0.mk hk0
    have Gg5_0 := Aside0.mk hge0
    clear hk0 hge0
    simp only [Flow.putsT, v0, Act.put, List.setIfInBounds_toArray, List.set_cons_zero, List.set_cons_succ, List.drop_succ_cons, List.drop_zero, List.take_succ_cons, List.take_zero]
    clear hT v0
    have HB5 := Aside0.mk (below_step HB4.out hb5)
    have Kg1_2_3_4_5 := Aside0.mk (blk_below Kg1_2_3_4.out hb5)
    have Kg3_0_4_5 := Aside0.mk (blk_below Kg3_0_4.out hb5)
    clear hb5
    refine Flow.seqL (E := fun u v => Below u.heap.size u v) 1 1 [(some 6, []), (some 4, [0, 0])] (fun iQ vQ wQ => match iQ with | 1 => vQ = (.slice (some ⟨g5_0, 0, none⟩) 8 8) | _ => True) rfl (by decide) (by kernel_rfl) (Below.refl _ _) (fun _ _ _ h k => h.trans (k.mono h.size)) (fun _ _ _ _ h _ => h) ?_ ?_
    ·refine ⟨?_, trivial⟩
     ·intro a w' hx hu hd K hK; have e6 : a.tmps.getD 6 undef = (.slice (some ⟨g5_0, 0, none⟩) 8 8) := hu 6 rfl; exact Flow.run1 rfl (Flow.r_assign rfl e6) (hK _ _ (Below.refl _ _) rfl)
    intro vs W6 hb6 hT
    have v1 := Flow.eqn (hT 1 (by decide) (by decide))
    simp only [Flow.putsT, v1, Act.put, List.setIfInBounds_toArray, List.set_cons_zero, List.set_cons_succ, List.drop_succ_cons, List.drop_zero, List.take_succ_cons, List.take_zero]
    clear hT v1
    have HB6 := Aside0.mk (below_step HB5.out hb6)
    have Kg1_2_3_4_5_6 := Aside0.mk (blk_below Kg1_2_3_4_5.out hb6)
    have Kg3_0_4_5_6 := Aside0.mk (blk_below Kg3_0_4_5.out hb6)
    have Kg5_0_6 := Aside0.mk (blk_below Kg5_0.out hb6)
    clear hb6
    have KC := Aside0.mk (show W6.heap[g3_0]? = some (.cells (cmdsL.map Value.string).toArray 9 (0, 0)) from Kg3_0_4_5_6.out)
    have KK := Aside0.mk (show W6.heap[g5_0]? = some (.cells (kindsL.map Value.string).toArray 9 (0, 0)) from Kg5_0_6.out)
    go_upto_region 3 with fail
    refine Flow.seqT (E := fun u v => Below u.heap.size u v) [(some 8, []), (some 9, [0]), (some 10, [1]), (some 11, [2]), (some 12, [3]), (some 13, [4, 3]), (some 14, [5, 3]), (some 15, [6, 3]), (some 16, [3, 7]), (some 17, [8, 3]), (some 18, [9]), (some 19, [10, 9]), (some 20, [11, 9]), (some 21, [9]), (some 22, [13, 9]), (some 23, [12, 14, 9]), (some 24, [9, 15]), (some 7, [16, 9])] (fun iQ vQ wQ => match iQ with | 0 => vQ = (.pointer (some ⟨g1, 0, none⟩)) | 1 => vQ = (.int .i64 x.kind) | 2 => vQ = (.bool true) | 3 => vQ = (.bool true) | 4 => vQ = (.pointer (some ⟨g1, 1, none⟩)) | 5 => vQ = (.pointer (some ⟨g1, 1, none⟩)) | 6 => vQ = (.int .i64 i) | 7 => vQ = (.bool true) | 8 => vQ = (.bool true) | 9 => vQ = (.bool true) | 10 => vQ = (.pointer (some ⟨g1, 1, none⟩)) | 11 => vQ = (.pointer (some ⟨g1, 1, none⟩)) | 12 => vQ = (.int .i64 i) | 13 => vQ = (.slice (some ⟨g3_0, 0, none⟩) 8 8) | 14 => vQ = (.int .i64 8) | 15 => vQ = (.bool true) | 16 => vQ = (.bool true) | 17 => vQ = (.bool true) | _ => True) rfl (by kernel_rfl) (Below.refl _ _) (fun _ _ _ h k => h.trans (k.mono h.size)) (fun _ _ _ _ h _ => h) ?_ ?_
    ·refine ⟨?_, ?_, ?_, ?_, ?_, ?_, ?_, ?_, ?_, ?_, ?_, ?_, ?_, ?_, ?_, ?_, ?_, ?_, trivial⟩
     ·intro a w' hx hu hd K hK; have e1 : a.tmps.getD 1 undef = (.pointer (some ⟨g1, 0, none⟩)) := hu 1 rfl; exact Flow.run1 rfl (fa rfl e1 (fa56_0 _ _ _)) (hK _ _ (Below.refl _ _) rfl)
     ·intro a w' hx hu hd K hK; have e8 := Flow.got (hd 0 rfl) 8 rfl; exact Flow.run1 rfl (ld rfl e8 ((blk_cell (blk_below Kg1_2_3_4_5_6.out hx) 0).trans rfl) Tryd.underlying3 rfl) (hK _ _ (Below.refl _ _) rfl)
     ·intro a w' hx hu hd K hK; have e9 := Flow.got (hd 1 rfl) 9 rfl; exact Flow.run1 rfl (yes (eql rfl e9 rfl) (beq_iff_eq.2 H0.out)) (hK _ _ (Below.refl _ _) rfl)
     ·intro a w' hx hu hd K hK; have e10 := Flow.got (hd 2 rfl) 10 rfl; exact Flow.run1 rfl (Flow.r_move rfl e10) (hK _ _ (Below.refl _ _) rfl)
     ·intro a w' hx hu hd K hK; have e1 : a.tmps.getD 1 undef = (.pointer (some ⟨g1, 0, none⟩)) := hu 1 rfl; have e11 := Flow.got (hd 3 rfl) 11 rfl; exact Flow.run1 (Flow.want_of (k := 11) rfl e11) (fa rfl e1 (fa56_1 _ _ _)) (hK _ _ (Below.refl _ _) rfl)
     ·intro a w' hx hu hd K hK; have e12 := Flow.got (hd 4 rfl) 12 rfl; have e11 := Flow.got (hd 3 rfl) 11 rfl; exact Flow.run1 (Flow.want_of (k := 11) rfl e11) (fa rfl e12 (fa54_0 _ _ _)) (hK _ _ (Below.refl _ _) rfl)
     ·intro a w' hx hu hd K hK; have e13 := Flow.got (hd 5 rfl) 13 rfl; have e11 := Flow.got (hd 3 rfl) 11 rfl; exact Flow.run1 (Flow.want_of (k := 11) rfl e11) (ld rfl e13 ((blk_cell (blk_below Kg1_2_3_4_5_6.out hx) 1).trans rfl) Tryd.underlying3 rfl) (hK _ _ (Below.refl _ _) rfl)
     ·intro a w' hx hu hd K hK; have e14 := Flow.got (hd 6 rfl) 14 rfl; have e11 := Flow.got (hd 3 rfl) 11 rfl; exact Flow.run1 (Flow.want_of (k := 11) rfl e11) (yes (geq rfl e14 rfl) (decide_eq_true (by omega))) (hK _ _ (Below.refl _ _) rfl)
     ·intro a w' hx hu hd K hK; have e11 := Flow.got (hd 3 rfl) 11 rfl; have e15 := Flow.got (hd 7 rfl) 15 rfl; exact Flow.run1 rfl (Flow.r_pick rfl e11 e15) (hK _ _ (Below.refl _ _) rfl)
     ·intro a w' hx hu hd K hK; have e16 := Flow.got (hd 8 rfl) 16 rfl; exact Flow.run1 rfl (Flow.r_move rfl e16) (hK _ _ (Below.refl _ _) rfl)
     ·intro a w' hx hu hd K hK; have e1 : a.tmps.getD 1 undef = (.pointer (some ⟨g1, 0, none⟩)) := hu 1 rfl; have e17 := Flow.got (hd 9 rfl) 17 rfl; exact Flow.run1 (Flow.want_of (k := 17) rfl e17) (fa rfl e1 (fa56_1 _ _ _)) (hK _ _ (Below.refl _ _) rfl)
     ·intro a w' hx hu hd K hK; have e18 := Flow.got (hd 10 rfl) 18 rfl; have e17 := Flow.got (hd 9 rfl) 17 rfl; exact Flow.run1 (Flow.want_of (k := 17) rfl e17) (fa rfl e18 (fa54_0 _ _ _)) (hK _ _ (Below.refl _ _) rfl)
     ·intro a w' hx hu hd K hK; have e19 := Flow.got (hd 11 rfl) 19 rfl; have e17 := Flow.got (hd 9 rfl) 17 rfl; exact Flow.run1 (Flow.want_of (k := 17) rfl e17) (ld rfl e19 ((blk_cell (blk_below Kg1_2_3_4_5_6.out hx) 1).trans rfl) Tryd.underlying3 rfl) (hK _ _ (Below.refl _ _) rfl)
     ·intro a w' hx hu hd K hK; have e3 : a.tmps.getD 3 undef = (.slice (some ⟨g3_0, 0, none⟩) 8 8) := hu 3 rfl; have e17 := Flow.got (hd 9 rfl) 17 rfl; exact Flow.run1 (Flow.want_of (k := 17) rfl e17) (Flow.r_move rfl e3) (hK _ _ (Below.refl _ _) rfl)
     ·intro a w' hx hu hd K hK; have e21 := Flow.got (hd 13 rfl) 21 rfl; have e17 := Flow.got (hd 9 rfl) 17 rfl; exact Flow.run1 (Flow.want_of (k := 17) rfl e17) (lenL Tryd.underlying79 rfl e21) (hK _ _ (Below.refl _ _) rfl)
     ·intro a w' hx hu hd K hK; have e20 := Flow.got (hd 12 rfl) 20 rfl; have e22 := Flow.got (hd 14 rfl) 22 rfl; have e17 := Flow.got (hd 9 rfl) 17 rfl; exact Flow.run1 (Flow.want_of (k := 17) rfl e17) (yes (lss rfl e20 e22) (decide_eq_true (by have := HI8.out; omega))) (hK _ _ (Below.refl _ _) rfl)
     ·intro a w' hx hu hd K hK; have e17 := Flow.got (hd 9 rfl) 17 rfl; have e23 := Flow.got (hd 15 rfl) 23 rfl; exact Flow.run1 rfl (Flow.r_pick rfl e17 e23) (hK _ _ (Below.refl _ _) rfl)
     ·intro a w' hx hu hd K hK; have e24 := Flow.got (hd 16 rfl) 24 rfl; exact Flow.run1 rfl (Flow.r_assign rfl e24) (hK _ _ (Below.refl _ _) rfl)
    intro vs W7 hb7 hT
    have v0 := Flow.eqn (hT 0 (by decide))
    have v1 := Flow.eqn (hT 1 (by decide))
    have v2 := Flow.eqn (hT 2 (by decide))
    have v3 := Flow.eqn (hT 3 (by decide))
    have v4 := Flow.eqn (hT 4 (by decide))
    have v5 := Flow.eqn (hT 5 (by decide))
    have v6 := Flow.eqn (hT 6 (by decide))
    have v7 := Flow.eqn (hT 7 (by decide))
    have v8 := Flow.eqn (hT 8 (by decide))
    have v9 := Flow.eqn (hT 9 (by decide))
    have v10 := Flow.eqn (hT 10 (by decide))
    have v11 := Flow.eqn (hT 11 (by decide))
    have v12 := Flow.eqn (hT 12 (by decide))
    have v13 := Flow.eqn (hT 13 (by decide))
    have v14 := Flow.eqn (hT 14 (by decide))
    have v15 := Flow.eqn (hT 15 (by decide))
    have v16 := Flow.eqn (hT 16 (by decide))
    have v17 := Flow.eqn (hT 17 (by decide))
    simp only [Flow.putsT, v0, v1, v2, v3, v4, v5, v6, v7, v8, v9, v10, v11, v12, v13, v14, v15, v16, v17, Act.put, List.setIfInBounds_toArray, List.set_cons_zero, List.set_cons_succ]
    clear hT v0 v1 v2 v3 v4 v5 v6 v7 v8 v9 v10 v11 v12 v13 v14 v15 v16 v17
    have HB7 := Aside0.mk (below_step HB6.out hb7)
    have KC_7 := Aside0.mk (blk_below KC.out hb7)
    have KK_7 := Aside0.mk (blk_below KK.out hb7)
    have Kg1_2_3_4_5_6_7 := Aside0.mk (blk_below Kg1_2_3_4_5_6.out hb7)
    have Kg3_0_4_5_6_7 := Aside0.mk (blk_below Kg3_0_4_5_6.out hb7)
    have Kg5_0_6_7 := Aside0.mk (blk_below Kg5_0_6.out hb7)
    clear hb7
    go_upto_region 4 with fail
    refine Flow.seqT (E := fun u v => Below u.heap.size u v) [(some 25, []), (some 26, []), (some 27, [1]), (some 28, [2]), (some 29, [0, 3]), (some 30, [4]), (some 2, [5, 0, 1, 2, 3, 4, 5])] (fun iQ vQ wQ => match iQ with | 0 => vQ = (.slice (some ⟨g3_0, 0, none⟩) 8 8) | 1 => vQ = (.pointer (some ⟨g1, 1, none⟩)) | 2 => vQ = (.pointer (some ⟨g1, 1, none⟩)) | 3 => vQ = (.int .i64 i) | 4 => vQ = (.pointer (some ⟨g3_0, i, none⟩)) | 5 => vQ = (.string (cmdsL.getD i ByteArray.empty)) | 6 => vQ = (.string (cmdsL.getD i ByteArray.empty)) | _ => True) rfl (by kernel_rfl) (Below.refl _ _) (fun _ _ _ h k => h.trans (k.mono h.size)) (fun _ _ _ _ h _ => h) ?_ ?_
    ·refine ⟨?_, ?_, ?_, ?_, ?_, ?_, ?_, trivial⟩
     ·intro a w' hx hu hd K hK; have e3 : a.tmps.getD 3 undef = (.slice (some ⟨g3_0, 0, none⟩) 8 8) := hu 3 rfl; exact Flow.run1 rfl (Flow.r_move rfl e3) (hK _ _ (Below.refl _ _) rfl)
     ·intro a w' hx hu hd K hK; have e1 : a.tmps.getD 1 undef = (.pointer (some ⟨g1, 0, none⟩)) := hu 1 rfl; exact Flow.run1 rfl (fa rfl e1 (fa56_1 _ _ _)) (hK _ _ (Below.refl _ _) rfl)
     ·intro a w' hx hu hd K hK; have e26 := Flow.got (hd 1 rfl) 26 rfl; exact Flow.run1 rfl (fa rfl e26 (fa54_0 _ _ _)) (hK _ _ (Below.refl _ _) rfl)
     ·intro a w' hx hu hd K hK; have e27 := Flow.got (hd 2 rfl) 27 rfl; exact Flow.run1 rfl (ld rfl e27 ((blk_cell (blk_below Kg1_2_3_4_5_6_7.out hx) 1).trans rfl) Tryd.underlying3 rfl) (hK _ _ (Below.refl _ _) rfl)
     ·intro a w' hx hu hd K hK; have e25 := Flow.got (hd 0 rfl) 25 rfl; have e28 := Flow.got (hd 3 rfl) 28 rfl; exact Flow.run1 rfl (ixr Tryd.underlying79 size9 rfl e25 e28 HI8.out) (hK _ _ (Below.refl _ _) rfl)
     ·intro a w' hx hu hd K hK; have e29 := Flow.got (hd 4 rfl) 29 rfl; exact Flow.run1 rfl (ld rfl e29 (row_cell Value.string ByteArray.empty (blk_below KC_7.out hx) HI8.out) Tryd.underlying9 rfl) (hK _ _ (Below.refl _ _) rfl)
     ·intro a w' hx hu hd K hK; have e30 := Flow.got (hd 5 rfl) 30 rfl; exact Flow.run1 rfl (Flow.r_assign rfl e30) (hK _ _ (Below.refl _ _) rfl)
    intro vs W8 hb8 hT
    have v0 := Flow.eqn (hT 0 (by decide))
    have v1 := Flow.eqn (hT 1 (by decide))
    have v2 := Flow.eqn (hT 2 (by decide))
    have v3 := Flow.eqn (hT 3 (by decide))
    have v4 := Flow.eqn (hT 4 (by decide))
    have v5 := Flow.eqn (hT 5 (by decide))
    have v6 := Flow.eqn (hT 6 (by decide))
    simp only [Flow.putsT, v0, v1, v2, v3, v4, v5, v6, Act.put, List.setIfInBounds_toArray, List.set_cons_zero, List.set_cons_succ]
    clear hT v0 v1 v2 v3 v4 v5 v6
    have HB8 := Aside0.mk (below_step HB7.out hb8)
    have KC_8 := Aside0.mk (blk_below KC_7.out hb8)
    have KK_8 := Aside0.mk (blk_below KK_7.out hb8)
    have Kg1_2_3_4_5_6_7_8 := Aside0.mk (blk_below Kg1_2_3_4_5_6_7.out hb8)
    have Kg3_0_4_5_6_7_8 := Aside0.mk (blk_below Kg3_0_4_5_6_7.out hb8)
    have Kg5_0_6_7_8 := Aside0.mk (blk_below Kg5_0_6_7.out hb8)
    clear hb8
    go_wp2_with fail
    exact bodyPost_ret (results_tmp Tryd.results55 _ _ _) rfl ⟨rfl, HB8.out⟩
   ·have H2 := Aside0.mk h2
    clear h2
    rw [idx_n1 H0.out (fun h => H2.out h.2)]
    go_enter Tryd.func55, Tryd.ntmps55
    go_upto_region 0 with fail
    refine wp_region_lit ?_
    refine ebox (v := (.agg #[.int .i64 x.kind, .int .i64 x.cmd, .int .i64 x.zone, .int .i64 x.at_, .int .i64 x.n, .slice Ad nd cd, .bool x.fua, .int .i64 x.m, .int .i64 x.k, .slice Ak nk ck])) rfl rfl rfl ?_
    intro g9 hg9 W9 hk9 hb9
    have Kg9 := Aside0.mk hk9
    have HB9 := Aside0.mk (hb9)
    clear hb9
    have Gg9 := Aside0.mk (show w.heap.size ≤ g9 by rw [hg9]; exact Nat.le_refl _)
    clear hg9 hk9
    simp only [Act.put, List.setIfInBounds_toArray, List.set_cons_zero, List.set_cons_succ]
    refine Flow.seqL (E := fun u v => Below u.heap.size u v) 1 1 [(some 1, []), (some 2, [])] (fun iQ vQ wQ => match iQ with | 1 => vQ = (.string ⟨#[]⟩) | _ => True) rfl (by decide) (by kernel_rfl) (Below.refl _ _) (fun _ _ _ h k => h.trans (k.mono h.size)) (fun _ _ _ _ h _ => h) ?_ ?_
    ·refine ⟨?_, trivial⟩
     ·intro a w' hx hu hd K hK; exact Flow.run1 rfl (Flow.r_assign rfl rfl) (hK _ _ (Below.refl _ _) rfl)
    intro vs W10 hb10 hT
    have v1 := Flow.eqn (hT 1 (by decide) (by decide))
    simp only [Flow.putsT, v1, Act.put, List.setIfInBounds_toArray, List.set_cons_zero, List.set_cons_succ, List.drop_succ_cons, List.drop_zero, List.take_succ_cons, List.take_zero]
    clear hT v1
    have HB10 := Aside0.mk (below_step HB9.out hb10)
    have Kg9_10 := Aside0.mk (blk_below Kg9.out hb10)
    clear hb10
    go_upto_region 1 with fail
    refine Flow.seqT_head (E := fun u v => Below u.heap.size u v) 1 [(some 5, []), (some 3, [0, 0])] (fun iQ vQ wQ => match iQ with | 0 => SliceAt #[.string ⟨#[119, 114, 105, 116, 101]⟩, .string ⟨#[114, 101, 97, 100]⟩, .string ⟨#[102, 108, 117, 115, 104]⟩, .string ⟨#[114, 101, 115, 101, 116]⟩, .string ⟨#[102, 105, 110, 105, 115, 104]⟩, .string ⟨#[111, 112, 101, 110]⟩, .string ⟨#[99, 108, 111, 115, 101]⟩, .string ⟨#[114, 101, 112, 111, 114, 116]⟩] 9 8 w.heap.size vQ wQ | _ => True) rfl (by decide) (by kernel_rfl) (Below.refl _ _) (fun _ _ _ h k => h.trans (k.mono h.size)) (fun iQ vQ w1Q w2Q hQ hEQ => match iQ, hQ with | 0, hQ => slice_below hQ hEQ | _ + 1, _ => trivial) ?_ ?_
    ·refine ⟨?_, trivial⟩
     ·intro a w' hx hu hd K hK; exact Flow.run1 rfl (row8_79 rfl rfl rfl rfl rfl rfl rfl rfl rfl) (hK _ _ (below_alloc (Below.refl _ _) _) (slice_new (Nat.le_trans (HB10.out).size (hx : Below _ _ _).size)))
    intro vs W11 hb11 hT
    obtain ⟨g11_0, v0, hge0, hk0⟩ : SliceAt _ _ _ _ _ _ := hT 0 (by decide)
    have Kg11_0 := Aside0.mk hk0
    have Gg11_0 := Aside0.mk hge0
    clear hk0 hge0
    simp only [Flow.putsT, v0, Act.put, List.setIfInBounds_toArray, List.set_cons_zero, List.set_cons_succ, List.drop_succ_cons, List.drop_zero, List.take_succ_cons, List.take_zero]
    clear hT v0
    have HB11 := Aside0.mk (below_step HB10.out hb11)
    have Kg9_10_11 := Aside0.mk (blk_below Kg9_10.out hb11)
    clear hb11
    refine Flow.seqL (E := fun u v => Below u.heap.size u v) 1 1 [(some 5, []), (some 3, [0, 0])] (fun iQ vQ wQ => match iQ with | 1 => vQ = (.slice (some ⟨g11_0, 0, none⟩) 8 8) | _ => True) rfl (by decide) (by kernel_rfl) (Below.refl _ _) (fun _ _ _ h k => h.trans (k.mono h.size)) (fun _ _ _ _ h _ => h) ?_ ?_
    ·refine ⟨?_, trivial⟩
     ·intro a w' hx hu hd K hK; have e5 : a.tmps.getD 5 undef = (.slice (some ⟨g11_0, 0, none⟩) 8 8) := hu 5 rfl; exact Flow.run1 rfl (Flow.r_assign rfl e5) (hK _ _ (Below.refl _ _) rfl)
    intro vs W12 hb12 hT
    have v1 := Flow.eqn (hT 1 (by decide) (by decide))
    simp only [Flow.putsT, v1, Act.put, List.setIfInBounds_toArray, List.set_cons_zero, List.set_cons_succ, List.drop_succ_cons, List.drop_zero, List.take_succ_cons, List.take_zero]
    clear hT v1
    have HB12 := Aside0.mk (below_step HB11.out hb12)
    have Kg9_10_11_12 := Aside0.mk (blk_below Kg9_10_11.out hb12)
    have Kg11_0_12 := Aside0.mk (blk_below Kg11_0.out hb12)
    clear hb12
    go_upto_region 2 with fail
    refine Flow.seqT_head (E := fun u v => Below u.heap.size u v) 1 [(some 6, []), (some 4, [0, 0])] (fun iQ vQ wQ => match iQ with | 0 => SliceAt #[.string ⟨#[]⟩, .string ⟨#[102, 117, 115, 101]⟩, .string ⟨#[107, 105, 108, 108]⟩, .string ⟨#[99, 114, 97, 115, 104]⟩, .string ⟨#[114, 101, 112, 108, 97, 99, 101]⟩, .string ⟨#[97, 116, 116, 97, 99, 104]⟩, .string ⟨#[115, 116, 101, 112]⟩, .string ⟨#[97, 108, 108]⟩] 9 8 w.heap.size vQ wQ | _ => True) rfl (by decide) (by kernel_rfl) (Below.refl _ _) (fun _ _ _ h k => h.trans (k.mono h.size)) (fun iQ vQ w1Q w2Q hQ hEQ => match iQ, hQ with | 0, hQ => slice_below hQ hEQ | _ + 1, _ => trivial) ?_ ?_
    ·refine ⟨?_, trivial⟩
     ·intro a w' hx hu hd K hK; exact Flow.run1 rfl (row8_79 rfl rfl rfl rfl rfl rfl rfl rfl rfl) (hK _ _ (below_alloc (Below.refl _ _) _) (slice_new (Nat.le_trans (HB12.out).size (hx : Below _ _ _).size)))
    intro vs W13 hb13 hT
    obtain ⟨g13_0, v0, hge0, hk0⟩ : SliceAt _ _ _ _ _ _ := hT 0 (by decide)
    have Kg13_0 := Aside0.mk hk0
    have Gg13_0 := Aside0.mk hge0
    clear hk0 hge0
    simp only [Flow.putsT, v0, Act.put, List.setIfInBounds_toArray, List.set_cons_zero, List.set_cons_succ, List.drop_succ_cons, List.drop_zero, List.take_succ_cons, List.take_zero]
    clear hT v0
    have HB13 := Aside0.mk (below_step HB12.out hb13)
    have Kg9_10_11_12_13 := Aside0.mk (blk_below Kg9_10_11_12.out hb13)
    have Kg11_0_12_13 := Aside0.mk (blk_below Kg11_0_12.out hb13)
    clear hb13
    refine Flow.seqL (E := fun u v => Below u.heap.size u v) 1 1 [(some 6, []), (some 4, [0, 0])] (fun iQ vQ wQ => match iQ with | 1 => vQ = (.slice (some ⟨g13_0, 0, none⟩) 8 8) | _ => True) rfl (by decide) (by kernel_rfl) (Below.refl _ _) (fun _ _ _ h k => h.trans (k.mono h.size)) (fun _ _ _ _ h _ => h) ?_ ?_
    ·refine ⟨?_, trivial⟩
     ·intro a w' hx hu hd K hK; have e6 : a.tmps.getD 6 undef = (.slice (some ⟨g13_0, 0, none⟩) 8 8) := hu 6 rfl; exact Flow.run1 rfl (Flow.r_assign rfl e6) (hK _ _ (Below.refl _ _) rfl)
    intro vs W14 hb14 hT
    have v1 := Flow.eqn (hT 1 (by decide) (by decide))
    simp only [Flow.putsT, v1, Act.put, List.setIfInBounds_toArray, List.set_cons_zero, List.set_cons_succ, List.drop_succ_cons, List.drop_zero, List.take_succ_cons, List.take_zero]
    clear hT v1
    have HB14 := Aside0.mk (below_step HB13.out hb14)
    have Kg9_10_11_12_13_14 := Aside0.mk (blk_below Kg9_10_11_12_13.out hb14)
    have Kg11_0_12_13_14 := Aside0.mk (blk_below Kg11_0_12_13.out hb14)
    have Kg13_0_14 := Aside0.mk (blk_below Kg13_0.out hb14)
    clear hb14
    have KC := Aside0.mk (show W14.heap[g11_0]? = some (.cells (cmdsL.map Value.string).toArray 9 (0, 0)) from Kg11_0_12_13_14.out)
    have KK := Aside0.mk (show W14.heap[g13_0]? = some (.cells (kindsL.map Value.string).toArray 9 (0, 0)) from Kg13_0_14.out)
    go_upto_region 3 with fail
    refine Flow.seqT (E := fun u v => Below u.heap.size u v) [(some 8, []), (some 9, [0]), (some 10, [1]), (some 11, [2]), (some 12, [3]), (some 13, [4, 3]), (some 14, [5, 3]), (some 15, [6, 3]), (some 16, [3, 7]), (some 17, [8, 3]), (some 18, [9]), (some 19, [10, 9]), (some 20, [11, 9]), (some 21, [9]), (some 22, [13, 9]), (some 23, [12, 14, 9]), (some 24, [9, 15]), (some 7, [16, 9])] (fun iQ vQ wQ => match iQ with | 0 => vQ = (.pointer (some ⟨g9, 0, none⟩)) | 1 => vQ = (.int .i64 x.kind) | 2 => vQ = (.bool true) | 3 => vQ = (.bool true) | 4 => vQ = (.pointer (some ⟨g9, 1, none⟩)) | 5 => vQ = (.pointer (some ⟨g9, 1, none⟩)) | 6 => vQ = (.int .i64 x.cmd) | 7 => vQ = (.bool true) | 8 => vQ = (.bool true) | 9 => vQ = (.bool true) | 10 => vQ = (.pointer (some ⟨g9, 1, none⟩)) | 11 => vQ = (.pointer (some ⟨g9, 1, none⟩)) | 12 => vQ = (.int .i64 x.cmd) | 13 => vQ = (.slice (some ⟨g11_0, 0, none⟩) 8 8) | 14 => vQ = (.int .i64 8) | 15 => vQ = (.bool false) | 16 => vQ = (.bool false) | 17 => vQ = (.bool false) | _ => True) rfl (by kernel_rfl) (Below.refl _ _) (fun _ _ _ h k => h.trans (k.mono h.size)) (fun _ _ _ _ h _ => h) ?_ ?_
    ·refine ⟨?_, ?_, ?_, ?_, ?_, ?_, ?_, ?_, ?_, ?_, ?_, ?_, ?_, ?_, ?_, ?_, ?_, ?_, trivial⟩
     ·intro a w' hx hu hd K hK; have e1 : a.tmps.getD 1 undef = (.pointer (some ⟨g9, 0, none⟩)) := hu 1 rfl; exact Flow.run1 rfl (fa rfl e1 (fa56_0 _ _ _)) (hK _ _ (Below.refl _ _) rfl)
     ·intro a w' hx hu hd K hK; have e8 := Flow.got (hd 0 rfl) 8 rfl; exact Flow.run1 rfl (ld rfl e8 ((blk_cell (blk_below Kg9_10_11_12_13_14.out hx) 0).trans rfl) Tryd.underlying3 rfl) (hK _ _ (Below.refl _ _) rfl)
     ·intro a w' hx hu hd K hK; have e9 := Flow.got (hd 1 rfl) 9 rfl; exact Flow.run1 rfl (yes (eql rfl e9 rfl) (beq_iff_eq.2 H0.out)) (hK _ _ (Below.refl _ _) rfl)
     ·intro a w' hx hu hd K hK; have e10 := Flow.got (hd 2 rfl) 10 rfl; exact Flow.run1 rfl (Flow.r_move rfl e10) (hK _ _ (Below.refl _ _) rfl)
     ·intro a w' hx hu hd K hK; have e1 : a.tmps.getD 1 undef = (.pointer (some ⟨g9, 0, none⟩)) := hu 1 rfl; have e11 := Flow.got (hd 3 rfl) 11 rfl; exact Flow.run1 (Flow.want_of (k := 11) rfl e11) (fa rfl e1 (fa56_1 _ _ _)) (hK _ _ (Below.refl _ _) rfl)
     ·intro a w' hx hu hd K hK; have e12 := Flow.got (hd 4 rfl) 12 rfl; have e11 := Flow.got (hd 3 rfl) 11 rfl; exact Flow.run1 (Flow.want_of (k := 11) rfl e11) (fa rfl e12 (fa54_0 _ _ _)) (hK _ _ (Below.refl _ _) rfl)
     ·intro a w' hx hu hd K hK; have e13 := Flow.got (hd 5 rfl) 13 rfl; have e11 := Flow.got (hd 3 rfl) 11 rfl; exact Flow.run1 (Flow.want_of (k := 11) rfl e11) (ld rfl e13 ((blk_cell (blk_below Kg9_10_11_12_13_14.out hx) 1).trans rfl) Tryd.underlying3 rfl) (hK _ _ (Below.refl _ _) rfl)
     ·intro a w' hx hu hd K hK; have e14 := Flow.got (hd 6 rfl) 14 rfl; have e11 := Flow.got (hd 3 rfl) 11 rfl; exact Flow.run1 (Flow.want_of (k := 11) rfl e11) (yes (geq rfl e14 rfl) (decide_eq_true H1.out)) (hK _ _ (Below.refl _ _) rfl)
     ·intro a w' hx hu hd K hK; have e11 := Flow.got (hd 3 rfl) 11 rfl; have e15 := Flow.got (hd 7 rfl) 15 rfl; exact Flow.run1 rfl (Flow.r_pick rfl e11 e15) (hK _ _ (Below.refl _ _) rfl)
     ·intro a w' hx hu hd K hK; have e16 := Flow.got (hd 8 rfl) 16 rfl; exact Flow.run1 rfl (Flow.r_move rfl e16) (hK _ _ (Below.refl _ _) rfl)
     ·intro a w' hx hu hd K hK; have e1 : a.tmps.getD 1 undef = (.pointer (some ⟨g9, 0, none⟩)) := hu 1 rfl; have e17 := Flow.got (hd 9 rfl) 17 rfl; exact Flow.run1 (Flow.want_of (k := 17) rfl e17) (fa rfl e1 (fa56_1 _ _ _)) (hK _ _ (Below.refl _ _) rfl)
     ·intro a w' hx hu hd K hK; have e18 := Flow.got (hd 10 rfl) 18 rfl; have e17 := Flow.got (hd 9 rfl) 17 rfl; exact Flow.run1 (Flow.want_of (k := 17) rfl e17) (fa rfl e18 (fa54_0 _ _ _)) (hK _ _ (Below.refl _ _) rfl)
     ·intro a w' hx hu hd K hK; have e19 := Flow.got (hd 11 rfl) 19 rfl; have e17 := Flow.got (hd 9 rfl) 17 rfl; exact Flow.run1 (Flow.want_of (k := 17) rfl e17) (ld rfl e19 ((blk_cell (blk_below Kg9_10_11_12_13_14.out hx) 1).trans rfl) Tryd.underlying3 rfl) (hK _ _ (Below.refl _ _) rfl)
     ·intro a w' hx hu hd K hK; have e3 : a.tmps.getD 3 undef = (.slice (some ⟨g11_0, 0, none⟩) 8 8) := hu 3 rfl; have e17 := Flow.got (hd 9 rfl) 17 rfl; exact Flow.run1 (Flow.want_of (k := 17) rfl e17) (Flow.r_move rfl e3) (hK _ _ (Below.refl _ _) rfl)
     ·intro a w' hx hu hd K hK; have e21 := Flow.got (hd 13 rfl) 21 rfl; have e17 := Flow.got (hd 9 rfl) 17 rfl; exact Flow.run1 (Flow.want_of (k := 17) rfl e17) (lenL Tryd.underlying79 rfl e21) (hK _ _ (Below.refl _ _) rfl)
     ·intro a w' hx hu hd K hK; have e20 := Flow.got (hd 12 rfl) 20 rfl; have e22 := Flow.got (hd 14 rfl) 22 rfl; have e17 := Flow.got (hd 9 rfl) 17 rfl; exact Flow.run1 (Flow.want_of (k := 17) rfl e17) (no (lss rfl e20 e22) (decide_eq_false H2.out)) (hK _ _ (Below.refl _ _) rfl)
     ·intro a w' hx hu hd K hK; have e17 := Flow.got (hd 9 rfl) 17 rfl; have e23 := Flow.got (hd 15 rfl) 23 rfl; exact Flow.run1 rfl (Flow.r_pick rfl e17 e23) (hK _ _ (Below.refl _ _) rfl)
     ·intro a w' hx hu hd K hK; have e24 := Flow.got (hd 16 rfl) 24 rfl; exact Flow.run1 rfl (Flow.r_assign rfl e24) (hK _ _ (Below.refl _ _) rfl)
    intro vs W15 hb15 hT
    have v0 := Flow.eqn (hT 0 (by decide))
    have v1 := Flow.eqn (hT 1 (by decide))
    have v2 := Flow.eqn (hT 2 (by decide))
    have v3 := Flow.eqn (hT 3 (by decide))
    have v4 := Flow.eqn (hT 4 (by decide))
    have v5 := Flow.eqn (hT 5 (by decide))
    have v6 := Flow.eqn (hT 6 (by decide))
    have v7 := Flow.eqn (hT 7 (by decide))
    have v8 := Flow.eqn (hT 8 (by decide))
    have v9 := Flow.eqn (hT 9 (by decide))
    have v10 := Flow.eqn (hT 10 (by decide))
    have v11 := Flow.eqn (hT 11 (by decide))
    have v12 := Flow.eqn (hT 12 (by decide))
    have v13 := Flow.eqn (hT 13 (by decide))
    have v14 := Flow.eqn (hT 14 (by decide))
    have v15 := Flow.eqn (hT 15 (by decide))
    have v16 := Flow.eqn (hT 16 (by decide))
    have v17 := Flow.eqn (hT 17 (by decide))
    simp only [Flow.putsT, v0, v1, v2, v3, v4, v5, v6, v7, v8, v9, v10, v11, v12, v13, v14, v15, v16, v17, Act.put, List.setIfInBounds_toArray, List.set_cons_zero, List.set_cons_succ]
    clear hT v0 v1 v2 v3 v4 v5 v6 v7 v8 v9 v10 v11 v12 v13 v14 v15 v16 v17
    have HB15 := Aside0.mk (below_step HB14.out hb15)
    have KC_15 := Aside0.mk (blk_below KC.out hb15)
    have KK_15 := Aside0.mk (blk_below KK.out hb15)
    have Kg9_10_11_12_13_14_15 := Aside0.mk (blk_below Kg9_10_11_12_13_14.out hb15)
    have Kg11_0_12_13_14_15 := Aside0.mk (blk_below Kg11_0_12_13_14.out hb15)
    have Kg13_0_14_15 := Aside0.mk (blk_below Kg13_0_14.out hb15)
    clear hb15
    go_upto_region 5 with fail
    refine Flow.seqT (E := fun u v => Below u.heap.size u v) [(some 32, []), (some 33, [0]), (some 34, [1]), (some 35, [2]), (some 36, [3]), (some 37, [4, 3]), (some 38, [3]), (some 39, [6, 3]), (some 40, [5, 7, 3]), (some 41, [3, 8]), (some 31, [9, 3])] (fun iQ vQ wQ => match iQ with | 0 => vQ = (.pointer (some ⟨g9, 0, none⟩)) | 1 => vQ = (.int .i64 x.kind) | 2 => vQ = (.bool false) | 3 => vQ = (.bool false) | 4 => vQ = undef | 5 => vQ = undef | 6 => vQ = undef | 7 => vQ = undef | 8 => vQ = undef | 9 => vQ = (.bool false) | 10 => vQ = (.bool false) | _ => True) rfl (by kernel_rfl) (Below.refl _ _) (fun _ _ _ h k => h.trans (k.mono h.size)) (fun _ _ _ _ h _ => h) ?_ ?_
    ·refine ⟨?_, ?_, ?_, ?_, ?_, ?_, ?_, ?_, ?_, ?_, ?_, trivial⟩
     ·intro a w' hx hu hd K hK; have e1 : a.tmps.getD 1 undef = (.pointer (some ⟨g9, 0, none⟩)) := hu 1 rfl; exact Flow.run1 rfl (fa rfl e1 (fa56_0 _ _ _)) (hK _ _ (Below.refl _ _) rfl)
     ·intro a w' hx hu hd K hK; have e32 := Flow.got (hd 0 rfl) 32 rfl; exact Flow.run1 rfl (ld rfl e32 ((blk_cell (blk_below Kg9_10_11_12_13_14_15.out hx) 0).trans rfl) Tryd.underlying3 rfl) (hK _ _ (Below.refl _ _) rfl)
     ·intro a w' hx hu hd K hK; have e33 := Flow.got (hd 1 rfl) 33 rfl; exact Flow.run1 rfl (no (gtr rfl e33 rfl) (decide_eq_false (by have := H0.out; omega))) (hK _ _ (Below.refl _ _) rfl)
     ·intro a w' hx hu hd K hK; have e34 := Flow.got (hd 2 rfl) 34 rfl; exact Flow.run1 rfl (Flow.r_move rfl e34) (hK _ _ (Below.refl _ _) rfl)
     ·intro a w' hx hu hd K hK; have e35 := Flow.got (hd 3 rfl) 35 rfl; exact Flow.spare (Flow.spare_of (k := 35) rfl e35 rfl) (hK _ _ (Below.refl _ _) rfl)
     ·intro a w' hx hu hd K hK; have e35 := Flow.got (hd 3 rfl) 35 rfl; exact Flow.spare (Flow.spare_of (k := 35) rfl e35 rfl) (hK _ _ (Below.refl _ _) rfl)
     ·intro a w' hx hu hd K hK; have e35 := Flow.got (hd 3 rfl) 35 rfl; exact Flow.spare (Flow.spare_of (k := 35) rfl e35 rfl) (hK _ _ (Below.refl _ _) rfl)
     ·intro a w' hx hu hd K hK; have e35 := Flow.got (hd 3 rfl) 35 rfl; exact Flow.spare (Flow.spare_of (k := 35) rfl e35 rfl) (hK _ _ (Below.refl _ _) rfl)
     ·intro a w' hx hu hd K hK; have e35 := Flow.got (hd 3 rfl) 35 rfl; exact Flow.spare (Flow.spare_of (k := 35) rfl e35 rfl) (hK _ _ (Below.refl _ _) rfl)
     ·intro a w' hx hu hd K hK; have e35 := Flow.got (hd 3 rfl) 35 rfl; have e40 := Flow.got (hd 8 rfl) 40 rfl; exact Flow.run1 rfl (Flow.r_pick rfl e35 rfl) (hK _ _ (Below.refl _ _) rfl)
     ·intro a w' hx hu hd K hK; have e41 := Flow.got (hd 9 rfl) 41 rfl; exact Flow.run1 rfl (Flow.r_assign rfl e41) (hK _ _ (Below.refl _ _) rfl)
    intro vs W16 hb16 hT
    have v0 := Flow.eqn (hT 0 (by decide))
    have v1 := Flow.eqn (hT 1 (by decide))
    have v2 := Flow.eqn (hT 2 (by decide))
    have v3 := Flow.eqn (hT 3 (by decide))
    have v4 := Flow.eqn (hT 4 (by decide))
    have v5 := Flow.eqn (hT 5 (by decide))
    have v6 := Flow.eqn (hT 6 (by decide))
    have v7 := Flow.eqn (hT 7 (by decide))
    have v8 := Flow.eqn (hT 8 (by decide))
    have v9 := Flow.eqn (hT 9 (by decide))
    have v10 := Flow.eqn (hT 10 (by decide))
    simp only [Flow.putsT, v0, v1, v2, v3, v4, v5, v6, v7, v8, v9, v10, Act.put, List.setIfInBounds_toArray, List.set_cons_zero, List.set_cons_succ]
    clear hT v0 v1 v2 v3 v4 v5 v6 v7 v8 v9 v10
    have HB16 := Aside0.mk (below_step HB15.out hb16)
    have KC_16 := Aside0.mk (blk_below KC_15.out hb16)
    have KK_16 := Aside0.mk (blk_below KK_15.out hb16)
    have Kg9_10_11_12_13_14_15_16 := Aside0.mk (blk_below Kg9_10_11_12_13_14_15.out hb16)
    have Kg11_0_12_13_14_15_16 := Aside0.mk (blk_below Kg11_0_12_13_14_15.out hb16)
    have Kg13_0_14_15_16 := Aside0.mk (blk_below Kg13_0_14_15.out hb16)
    clear hb16
    go_upto_region 7 with fail
    refine Flow.seqT (E := fun u v => Below u.heap.size u v) [(some 2, [])] (fun iQ vQ wQ => match iQ with | 0 => vQ = (.string ⟨#[]⟩) | _ => True) rfl (by kernel_rfl) (Below.refl _ _) (fun _ _ _ h k => h.trans (k.mono h.size)) (fun _ _ _ _ h _ => h) ?_ ?_
    ·refine ⟨?_, trivial⟩
     ·intro a w' hx hu hd K hK; exact Flow.run1 rfl (Flow.r_assign rfl rfl) (hK _ _ (Below.refl _ _) rfl)
    intro vs W17 hb17 hT
    have v0 := Flow.eqn (hT 0 (by decide))
    simp only [Flow.putsT, v0, Act.put, List.setIfInBounds_toArray, List.set_cons_zero, List.set_cons_succ]
    clear hT v0
    have HB17 := Aside0.mk (below_step HB16.out hb17)
    have KC_17 := Aside0.mk (blk_below KC_16.out hb17)
    have KK_17 := Aside0.mk (blk_below KK_16.out hb17)
    have Kg9_10_11_12_13_14_15_16_17 := Aside0.mk (blk_below Kg9_10_11_12_13_14_15_16.out hb17)
    have Kg11_0_12_13_14_15_16_17 := Aside0.mk (blk_below Kg11_0_12_13_14_15_16.out hb17)
    have Kg13_0_14_15_16_17 := Aside0.mk (blk_below Kg13_0_14_15_16.out hb17)
    clear hb17
    go_wp2_with fail
    exact bodyPost_ret (results_tmp Tryd.results55 _ _ _) rfl ⟨rfl, HB17.out⟩
  ·have H1 := Aside0.mk h1
   clear h1
   rw [idx_n1 H0.out (fun h => H1.out h.1)]
   go_enter Tryd.func55, Tryd.ntmps55
   go_upto_region 0 with fail
   refine wp_region_lit ?_
   refine ebox (v := (.agg #[.int .i64 x.kind, .int .i64 x.cmd, .int .i64 x.zone, .int .i64 x.at_, .int .i64 x.n, .slice Ad nd cd, .bool x.fua, .int .i64 x.m, .int .i64 x.k, .slice Ak nk ck])) rfl rfl rfl ?_
   intro g18 hg18 W18 hk18 hb18
   have Kg18 := Aside0.mk hk18
   have HB18 := Aside0.mk (hb18)
   clear hb18
   have Gg18 := Aside0.mk (show w.heap.size ≤ g18 by rw [hg18]; exact Nat.le_refl _)
   clear hg18 hk18
   simp only [Act.put, List.setIfInBounds_toArray, List.set_cons_zero, List.set_cons_succ]
   refine Flow.seqL (E := fun u v => Below u.heap.size u v) 1 1 [(some 1, []), (some 2, [])] (fun iQ vQ wQ => match iQ with | 1 => vQ = (.string ⟨#[]⟩) | _ => True) rfl (by decide) (by kernel_rfl) (Below.refl _ _) (fun _ _ _ h k => h.trans (k.mono h.size)) (fun _ _ _ _ h _ => h) ?_ ?_
   ·refine ⟨?_, trivial⟩
    ·intro a w' hx hu hd K hK; exact Flow.run1 rfl (Flow.r_assign rfl rfl) (hK _ _ (Below.refl _ _) rfl)
   intro vs W19 hb19 hT
   have v1 := Flow.eqn (hT 1 (by decide) (by decide))
   simp only [Flow.putsT, v1, Act.put, List.setIfInBounds_toArray, List.set_cons_zero, List.set_cons_succ, List.drop_succ_cons, List.drop_zero, List.take_succ_cons, List.take_zero]
   clear hT v1
   have HB19 := Aside0.mk (below_step HB18.out hb19)
   have Kg18_19 := Aside0.mk (blk_below Kg18.out hb19)
   clear hb19
   go_upto_region 1 with fail
   refine Flow.seqT_head (E := fun u v => Below u.heap.size u v) 1 [(some 5, []), (some 3, [0, 0])] (fun iQ vQ wQ => match iQ with | 0 => SliceAt #[.string ⟨#[119, 114, 105, 116, 101]⟩, .string ⟨#[114, 101, 97, 100]⟩, .string ⟨#[102, 108, 117, 115, 104]⟩, .string ⟨#[114, 101, 115, 101, 116]⟩, .string ⟨#[102, 105, 110, 105, 115, 104]⟩, .string ⟨#[111, 112, 101, 110]⟩, .string ⟨#[99, 108, 111, 115, 101]⟩, .string ⟨#[114, 101, 112, 111, 114, 116]⟩] 9 8 w.heap.size vQ wQ | _ => True) rfl (by decide) (by kernel_rfl) (Below.refl _ _) (fun _ _ _ h k => h.trans (k.mono h.size)) (fun iQ vQ w1Q w2Q hQ hEQ => match iQ, hQ with | 0, hQ => slice_below hQ hEQ | _ + 1, _ => trivial) ?_ ?_
   ·refine ⟨?_, trivial⟩
    ·intro a w' hx hu hd K hK; exact Flow.run1 rfl (row8_79 rfl rfl rfl rfl rfl rfl rfl rfl rfl) (hK _ _ (below_alloc (Below.refl _ _) _) (slice_new (Nat.le_trans (HB19.out).size (hx : Below _ _ _).size)))
   intro vs W20 hb20 hT
   obtain ⟨g20_0, v0, hge0, hk0⟩ : SliceAt _ _ _ _ _ _ := hT 0 (by decide)
   have Kg20_0 := Aside0.mk hk0
   have Gg20_0 := Aside0.mk hge0
   clear hk0 hge0
   simp only [Flow.putsT, v0, Act.put, List.setIfInBounds_toArray, List.set_cons_zero, List.set_cons_succ, List.drop_succ_cons, List.drop_zero, List.take_succ_cons, List.take_zero]
   clear hT v0
   have HB20 := Aside0.mk (below_step HB19.out hb20)
   have Kg18_19_20 := Aside0.mk (blk_below Kg18_19.out hb20)
   clear hb20
   refine Flow.seqL (E := fun u v => Below u.heap.size u v) 1 1 [(some 5, []), (some 3, [0, 0])] (fun iQ vQ wQ => match iQ with | 1 => vQ = (.slice (some ⟨g20_0, 0, none⟩) 8 8) | _ => True) rfl (by decide) (by kernel_rfl) (Below.refl _ _) (fun _ _ _ h k => h.trans (k.mono h.size)) (fun _ _ _ _ h _ => h) ?_ ?_
   ·refine ⟨?_, trivial⟩
    ·intro a w' hx hu hd K hK; have e5 : a.tmps.getD 5 undef = (.slice (some ⟨g20_0, 0, none⟩) 8 8) := hu 5 rfl; exact Flow.run1 rfl (Flow.r_assign rfl e5) (hK _ _ (Below.refl _ _) rfl)
   intro vs W21 hb21 hT
   have v1 := Flow.eqn (hT 1 (by decide) (by decide))
   simp only [Flow.putsT, v1, Act.put, List.setIfInBounds_toArray, List.set_cons_zero, List.set_cons_succ, List.drop_succ_cons, List.drop_zero, List.take_succ_cons, List.take_zero]
   clear hT v1
   have HB21 := Aside0.mk (below_step HB20.out hb21)
   have Kg18_19_20_21 := Aside0.mk (blk_below Kg18_19_20.out hb21)
   have Kg20_0_21 := Aside0.mk (blk_below Kg20_0.out hb21)
   clear hb21
   go_upto_region 2 with fail
   refine Flow.seqT_head (E := fun u v => Below u.heap.size u v) 1 [(some 6, []), (some 4, [0, 0])] (fun iQ vQ wQ => match iQ with | 0 => SliceAt #[.string ⟨#[]⟩, .string ⟨#[102, 117, 115, 101]⟩, .string ⟨#[107, 105, 108, 108]⟩, .string ⟨#[99, 114, 97, 115, 104]⟩, .string ⟨#[114, 101, 112, 108, 97, 99, 101]⟩, .string ⟨#[97, 116, 116, 97, 99, 104]⟩, .string ⟨#[115, 116, 101, 112]⟩, .string ⟨#[97, 108, 108]⟩] 9 8 w.heap.size vQ wQ | _ => True) rfl (by decide) (by kernel_rfl) (Below.refl _ _) (fun _ _ _ h k => h.trans (k.mono h.size)) (fun iQ vQ w1Q w2Q hQ hEQ => match iQ, hQ with | 0, hQ => slice_below hQ hEQ | _ + 1, _ => trivial) ?_ ?_
   ·refine ⟨?_, trivial⟩
    ·intro a w' hx hu hd K hK; exact Flow.run1 rfl (row8_79 rfl rfl rfl rfl rfl rfl rfl rfl rfl) (hK _ _ (below_alloc (Below.refl _ _) _) (slice_new (Nat.le_trans (HB21.out).size (hx : Below _ _ _).size)))
   intro vs W22 hb22 hT
   obtain ⟨g22_0, v0, hge0, hk0⟩ : SliceAt _ _ _ _ _ _ := hT 0 (by decide)
   have Kg22_0 := Aside0.mk hk0
   have Gg22_0 := Aside0.mk hge0
   clear hk0 hge0
   simp only [Flow.putsT, v0, Act.put, List.setIfInBounds_toArray, List.set_cons_zero, List.set_cons_succ, List.drop_succ_cons, List.drop_zero, List.take_succ_cons, List.take_zero]
   clear hT v0
   have HB22 := Aside0.mk (below_step HB21.out hb22)
   have Kg18_19_20_21_22 := Aside0.mk (blk_below Kg18_19_20_21.out hb22)
   have Kg20_0_21_22 := Aside0.mk (blk_below Kg20_0_21.out hb22)
   clear hb22
   refine Flow.seqL (E := fun u v => Below u.heap.size u v) 1 1 [(some 6, []), (some 4, [0, 0])] (fun iQ vQ wQ => match iQ with | 1 => vQ = (.slice (some ⟨g22_0, 0, none⟩) 8 8) | _ => True) rfl (by decide) (by kernel_rfl) (Below.refl _ _) (fun _ _ _ h k => h.trans (k.mono h.size)) (fun _ _ _ _ h _ => h) ?_ ?_
   ·refine ⟨?_, trivial⟩
    ·intro a w' hx hu hd K hK; have e6 : a.tmps.getD 6 undef = (.slice (some ⟨g22_0, 0, none⟩) 8 8) := hu 6 rfl; exact Flow.run1 rfl (Flow.r_assign rfl e6) (hK _ _ (Below.refl _ _) rfl)
   intro vs W23 hb23 hT
   have v1 := Flow.eqn (hT 1 (by decide) (by decide))
   simp only [Flow.putsT, v1, Act.put, List.setIfInBounds_toArray, List.set_cons_zero, List.set_cons_succ, List.drop_succ_cons, List.drop_zero, List.take_succ_cons, List.take_zero]
   clear hT v1
   have HB23 := Aside0.mk (below_step HB22.out hb23)
   have Kg18_19_20_21_22_23 := Aside0.mk (blk_below Kg18_19_20_21_22.out hb23)
   have Kg20_0_21_22_23 := Aside0.mk (blk_below Kg20_0_21_22.out hb23)
   have Kg22_0_23 := Aside0.mk (blk_below Kg22_0.out hb23)
   clear hb23
   have KC := Aside0.mk (show W23.heap[g20_0]? = some (.cells (cmdsL.map Value.string).toArray 9 (0, 0)) from Kg20_0_21_22_23.out)
   have KK := Aside0.mk (show W23.heap[g22_0]? = some (.cells (kindsL.map Value.string).toArray 9 (0, 0)) from Kg22_0_23.out)
   go_upto_region 3 with fail
   refine Flow.seqT (E := fun u v => Below u.heap.size u v) [(some 8, []), (some 9, [0]), (some 10, [1]), (some 11, [2]), (some 12, [3]), (some 13, [4, 3]), (some 14, [5, 3]), (some 15, [6, 3]), (some 16, [3, 7]), (some 17, [8, 3]), (some 18, [9]), (some 19, [10, 9]), (some 20, [11, 9]), (some 21, [9]), (some 22, [13, 9]), (some 23, [12, 14, 9]), (some 24, [9, 15]), (some 7, [16, 9])] (fun iQ vQ wQ => match iQ with | 0 => vQ = (.pointer (some ⟨g18, 0, none⟩)) | 1 => vQ = (.int .i64 x.kind) | 2 => vQ = (.bool true) | 3 => vQ = (.bool true) | 4 => vQ = (.pointer (some ⟨g18, 1, none⟩)) | 5 => vQ = (.pointer (some ⟨g18, 1, none⟩)) | 6 => vQ = (.int .i64 x.cmd) | 7 => vQ = (.bool false) | 8 => vQ = (.bool false) | 9 => vQ = (.bool false) | 10 => vQ = undef | 11 => vQ = undef | 12 => vQ = undef | 13 => vQ = undef | 14 => vQ = undef | 15 => vQ = undef | 16 => vQ = (.bool false) | 17 => vQ = (.bool false) | _ => True) rfl (by kernel_rfl) (Below.refl _ _) (fun _ _ _ h k => h.trans (k.mono h.size)) (fun _ _ _ _ h _ => h) ?_ ?_
   ·refine ⟨?_, ?_, ?_, ?_, ?_, ?_, ?_, ?_, ?_, ?_, ?_, ?_, ?_, ?_, ?_, ?_, ?_, ?_, trivial⟩
    ·intro a w' hx hu hd K hK; have e1 : a.tmps.getD 1 undef = (.pointer (some ⟨g18, 0, none⟩)) := hu 1 rfl; exact Flow.run1 rfl (fa rfl e1 (fa56_0 _ _ _)) (hK _ _ (Below.refl _ _) rfl)
    ·intro a w' hx hu hd K hK; have e8 := Flow.got (hd 0 rfl) 8 rfl; exact Flow.run1 rfl (ld rfl e8 ((blk_cell (blk_below Kg18_19_20_21_22_23.out hx) 0).trans rfl) Tryd.underlying3 rfl) (hK _ _ (Below.refl _ _) rfl)
    ·intro a w' hx hu hd K hK; have e9 := Flow.got (hd 1 rfl) 9 rfl; exact Flow.run1 rfl (yes (eql rfl e9 rfl) (beq_iff_eq.2 H0.out)) (hK _ _ (Below.refl _ _) rfl)
    ·intro a w' hx hu hd K hK; have e10 := Flow.got (hd 2 rfl) 10 rfl; exact Flow.run1 rfl (Flow.r_move rfl e10) (hK _ _ (Below.refl _ _) rfl)
    ·intro a w' hx hu hd K hK; have e1 : a.tmps.getD 1 undef = (.pointer (some ⟨g18, 0, none⟩)) := hu 1 rfl; have e11 := Flow.got (hd 3 rfl) 11 rfl; exact Flow.run1 (Flow.want_of (k := 11) rfl e11) (fa rfl e1 (fa56_1 _ _ _)) (hK _ _ (Below.refl _ _) rfl)
    ·intro a w' hx hu hd K hK; have e12 := Flow.got (hd 4 rfl) 12 rfl; have e11 := Flow.got (hd 3 rfl) 11 rfl; exact Flow.run1 (Flow.want_of (k := 11) rfl e11) (fa rfl e12 (fa54_0 _ _ _)) (hK _ _ (Below.refl _ _) rfl)
    ·intro a w' hx hu hd K hK; have e13 := Flow.got (hd 5 rfl) 13 rfl; have e11 := Flow.got (hd 3 rfl) 11 rfl; exact Flow.run1 (Flow.want_of (k := 11) rfl e11) (ld rfl e13 ((blk_cell (blk_below Kg18_19_20_21_22_23.out hx) 1).trans rfl) Tryd.underlying3 rfl) (hK _ _ (Below.refl _ _) rfl)
    ·intro a w' hx hu hd K hK; have e14 := Flow.got (hd 6 rfl) 14 rfl; have e11 := Flow.got (hd 3 rfl) 11 rfl; exact Flow.run1 (Flow.want_of (k := 11) rfl e11) (no (geq rfl e14 rfl) (decide_eq_false H1.out)) (hK _ _ (Below.refl _ _) rfl)
    ·intro a w' hx hu hd K hK; have e11 := Flow.got (hd 3 rfl) 11 rfl; have e15 := Flow.got (hd 7 rfl) 15 rfl; exact Flow.run1 rfl (Flow.r_pick rfl e11 e15) (hK _ _ (Below.refl _ _) rfl)
    ·intro a w' hx hu hd K hK; have e16 := Flow.got (hd 8 rfl) 16 rfl; exact Flow.run1 rfl (Flow.r_move rfl e16) (hK _ _ (Below.refl _ _) rfl)
    ·intro a w' hx hu hd K hK; have e17 := Flow.got (hd 9 rfl) 17 rfl; exact Flow.spare (Flow.spare_of (k := 17) rfl e17 rfl) (hK _ _ (Below.refl _ _) rfl)
    ·intro a w' hx hu hd K hK; have e17 := Flow.got (hd 9 rfl) 17 rfl; exact Flow.spare (Flow.spare_of (k := 17) rfl e17 rfl) (hK _ _ (Below.refl _ _) rfl)
    ·intro a w' hx hu hd K hK; have e17 := Flow.got (hd 9 rfl) 17 rfl; exact Flow.spare (Flow.spare_of (k := 17) rfl e17 rfl) (hK _ _ (Below.refl _ _) rfl)
    ·intro a w' hx hu hd K hK; have e17 := Flow.got (hd 9 rfl) 17 rfl; exact Flow.spare (Flow.spare_of (k := 17) rfl e17 rfl) (hK _ _ (Below.refl _ _) rfl)
    ·intro a w' hx hu hd K hK; have e17 := Flow.got (hd 9 rfl) 17 rfl; exact Flow.spare (Flow.spare_of (k := 17) rfl e17 rfl) (hK _ _ (Below.refl _ _) rfl)
    ·intro a w' hx hu hd K hK; have e17 := Flow.got (hd 9 rfl) 17 rfl; exact Flow.spare (Flow.spare_of (k := 17) rfl e17 rfl) (hK _ _ (Below.refl _ _) rfl)
    ·intro a w' hx hu hd K hK; have e17 := Flow.got (hd 9 rfl) 17 rfl; have e23 := Flow.got (hd 15 rfl) 23 rfl; exact Flow.run1 rfl (Flow.r_pick rfl e17 rfl) (hK _ _ (Below.refl _ _) rfl)
    ·intro a w' hx hu hd K hK; have e24 := Flow.got (hd 16 rfl) 24 rfl; exact Flow.run1 rfl (Flow.r_assign rfl e24) (hK _ _ (Below.refl _ _) rfl)
   intro vs W24 hb24 hT
   have v0 := Flow.eqn (hT 0 (by decide))
   have v1 := Flow.eqn (hT 1 (by decide))
   have v2 := Flow.eqn (hT 2 (by decide))
   have v3 := Flow.eqn (hT 3 (by decide))
   have v4 := Flow.eqn (hT 4 (by decide))
   have v5 := Flow.eqn (hT 5 (by decide))
   have v6 := Flow.eqn (hT 6 (by decide))
   have v7 := Flow.eqn (hT 7 (by decide))
   have v8 := Flow.eqn (hT 8 (by decide))
   have v9 := Flow.eqn (hT 9 (by decide))
   have v10 := Flow.eqn (hT 10 (by decide))
   have v11 := Flow.eqn (hT 11 (by decide))
   have v12 := Flow.eqn (hT 12 (by decide))
   have v13 := Flow.eqn (hT 13 (by decide))
   have v14 := Flow.eqn (hT 14 (by decide))
   have v15 := Flow.eqn (hT 15 (by decide))
   have v16 := Flow.eqn (hT 16 (by decide))
   have v17 := Flow.eqn (hT 17 (by decide))
   simp only [Flow.putsT, v0, v1, v2, v3, v4, v5, v6, v7, v8, v9, v10, v11, v12, v13, v14, v15, v16, v17, Act.put, List.setIfInBounds_toArray, List.set_cons_zero, List.set_cons_succ]
   clear hT v0 v1 v2 v3 v4 v5 v6 v7 v8 v9 v10 v11 v12 v13 v14 v15 v16 v17
   have HB24 := Aside0.mk (below_step HB23.out hb24)
   have KC_24 := Aside0.mk (blk_below KC.out hb24)
   have KK_24 := Aside0.mk (blk_below KK.out hb24)
   have Kg18_19_20_21_22_23_24 := Aside0.mk (blk_below Kg18_19_20_21_22_23.out hb24)
   have Kg20_0_21_22_23_24 := Aside0.mk (blk_below Kg20_0_21_22_23.out hb24)
   have Kg22_0_23_24 := Aside0.mk (blk_below Kg22_0_23.out hb24)
   clear hb24
   go_upto_region 5 with fail
   refine Flow.seqT (E := fun u v => Below u.heap.size u v) [(some 32, []), (some 33, [0]), (some 34, [1]), (some 35, [2]), (some 36, [3]), (some 37, [4, 3]), (some 38, [3]), (some 39, [6, 3]), (some 40, [5, 7, 3]), (some 41, [3, 8]), (some 31, [9, 3])] (fun iQ vQ wQ => match iQ with | 0 => vQ = (.pointer (some ⟨g18, 0, none⟩)) | 1 => vQ = (.int .i64 x.kind) | 2 => vQ = (.bool false) | 3 => vQ = (.bool false) | 4 => vQ = undef | 5 => vQ = undef | 6 => vQ = undef | 7 => vQ = undef | 8 => vQ = undef | 9 => vQ = (.bool false) | 10 => vQ = (.bool false) | _ => True) rfl (by kernel_rfl) (Below.refl _ _) (fun _ _ _ h k => h.trans (k.mono h.size)) (fun _ _ _ _ h _ => h) ?_ ?_
   ·refine ⟨?_, ?_, ?_, ?_, ?_, ?_, ?_, ?_, ?_, ?_, ?_, trivial⟩
    ·intro a w' hx hu hd K hK; have e1 : a.tmps.getD 1 undef = (.pointer (some ⟨g18, 0, none⟩)) := hu 1 rfl; exact Flow.run1 rfl (fa rfl e1 (fa56_0 _ _ _)) (hK _ _ (Below.refl _ _) rfl)
    ·intro a w' hx hu hd K hK; have e32 := Flow.got (hd 0 rfl) 32 rfl; exact Flow.run1 rfl (ld rfl e32 ((blk_cell (blk_below Kg18_19_20_21_22_23_24.out hx) 0).trans rfl) Tryd.underlying3 rfl) (hK _ _ (Below.refl _ _) rfl)
    ·intro a w' hx hu hd K hK; have e33 := Flow.got (hd 1 rfl) 33 rfl; exact Flow.run1 rfl (no (gtr rfl e33 rfl) (decide_eq_false (by have := H0.out; omega))) (hK _ _ (Below.refl _ _) rfl)
    ·intro a w' hx hu hd K hK; have e34 := Flow.got (hd 2 rfl) 34 rfl; exact Flow.run1 rfl (Flow.r_move rfl e34) (hK _ _ (Below.refl _ _) rfl)
    ·intro a w' hx hu hd K hK; have e35 := Flow.got (hd 3 rfl) 35 rfl; exact Flow.spare (Flow.spare_of (k := 35) rfl e35 rfl) (hK _ _ (Below.refl _ _) rfl)
    ·intro a w' hx hu hd K hK; have e35 := Flow.got (hd 3 rfl) 35 rfl; exact Flow.spare (Flow.spare_of (k := 35) rfl e35 rfl) (hK _ _ (Below.refl _ _) rfl)
    ·intro a w' hx hu hd K hK; have e35 := Flow.got (hd 3 rfl) 35 rfl; exact Flow.spare (Flow.spare_of (k := 35) rfl e35 rfl) (hK _ _ (Below.refl _ _) rfl)
    ·intro a w' hx hu hd K hK; have e35 := Flow.got (hd 3 rfl) 35 rfl; exact Flow.spare (Flow.spare_of (k := 35) rfl e35 rfl) (hK _ _ (Below.refl _ _) rfl)
    ·intro a w' hx hu hd K hK; have e35 := Flow.got (hd 3 rfl) 35 rfl; exact Flow.spare (Flow.spare_of (k := 35) rfl e35 rfl) (hK _ _ (Below.refl _ _) rfl)
    ·intro a w' hx hu hd K hK; have e35 := Flow.got (hd 3 rfl) 35 rfl; have e40 := Flow.got (hd 8 rfl) 40 rfl; exact Flow.run1 rfl (Flow.r_pick rfl e35 rfl) (hK _ _ (Below.refl _ _) rfl)
    ·intro a w' hx hu hd K hK; have e41 := Flow.got (hd 9 rfl) 41 rfl; exact Flow.run1 rfl (Flow.r_assign rfl e41) (hK _ _ (Below.refl _ _) rfl)
   intro vs W25 hb25 hT
   have v0 := Flow.eqn (hT 0 (by decide))
   have v1 := Flow.eqn (hT 1 (by decide))
   have v2 := Flow.eqn (hT 2 (by decide))
   have v3 := Flow.eqn (hT 3 (by decide))
   have v4 := Flow.eqn (hT 4 (by decide))
   have v5 := Flow.eqn (hT 5 (by decide))
   have v6 := Flow.eqn (hT 6 (by decide))
   have v7 := Flow.eqn (hT 7 (by decide))
   have v8 := Flow.eqn (hT 8 (by decide))
   have v9 := Flow.eqn (hT 9 (by decide))
   have v10 := Flow.eqn (hT 10 (by decide))
   simp only [Flow.putsT, v0, v1, v2, v3, v4, v5, v6, v7, v8, v9, v10, Act.put, List.setIfInBounds_toArray, List.set_cons_zero, List.set_cons_succ]
   clear hT v0 v1 v2 v3 v4 v5 v6 v7 v8 v9 v10
   have HB25 := Aside0.mk (below_step HB24.out hb25)
   have KC_25 := Aside0.mk (blk_below KC_24.out hb25)
   have KK_25 := Aside0.mk (blk_below KK_24.out hb25)
   have Kg18_19_20_21_22_23_24_25 := Aside0.mk (blk_below Kg18_19_20_21_22_23_24.out hb25)
   have Kg20_0_21_22_23_24_25 := Aside0.mk (blk_below Kg20_0_21_22_23_24.out hb25)
   have Kg22_0_23_24_25 := Aside0.mk (blk_below Kg22_0_23_24.out hb25)
   clear hb25
   go_upto_region 7 with fail
   refine Flow.seqT (E := fun u v => Below u.heap.size u v) [(some 2, [])] (fun iQ vQ wQ => match iQ with | 0 => vQ = (.string ⟨#[]⟩) | _ => True) rfl (by kernel_rfl) (Below.refl _ _) (fun _ _ _ h k => h.trans (k.mono h.size)) (fun _ _ _ _ h _ => h) ?_ ?_
   ·refine ⟨?_, trivial⟩
    ·intro a w' hx hu hd K hK; exact Flow.run1 rfl (Flow.r_assign rfl rfl) (hK _ _ (Below.refl _ _) rfl)
   intro vs W26 hb26 hT
   have v0 := Flow.eqn (hT 0 (by decide))
   simp only [Flow.putsT, v0, Act.put, List.setIfInBounds_toArray, List.set_cons_zero, List.set_cons_succ]
   clear hT v0
   have HB26 := Aside0.mk (below_step HB25.out hb26)
   have KC_26 := Aside0.mk (blk_below KC_25.out hb26)
   have KK_26 := Aside0.mk (blk_below KK_25.out hb26)
   have Kg18_19_20_21_22_23_24_25_26 := Aside0.mk (blk_below Kg18_19_20_21_22_23_24_25.out hb26)
   have Kg20_0_21_22_23_24_25_26 := Aside0.mk (blk_below Kg20_0_21_22_23_24_25.out hb26)
   have Kg22_0_23_24_25_26 := Aside0.mk (blk_below Kg22_0_23_24_25.out hb26)
   clear hb26
   go_wp2_with fail
   exact bodyPost_ret (results_tmp Tryd.results55 _ _ _) rfl ⟨rfl, HB26.out⟩
 ·have H0 := Aside0.mk h0
  clear h0
  by_cases h1 : x.kind > 0
  ·have H1 := Aside0.mk h1
   clear h1
   by_cases h2 : x.kind < 8
   ·have H2 := Aside0.mk h2
    clear h2
    obtain ⟨i, HI⟩ : ∃ i : Nat, Aside0 (x.kind = (i : Int)) := ⟨x.kind.toNat, ⟨by have := H1.out; omega⟩⟩
    have HI8 : Aside0 (i < 8) := ⟨by have := H2.out; have := HI.out; omega⟩
    have HI0 : Aside0 (0 < i) := ⟨by have := H1.out; have := HI.out; omega⟩
    rw [idx_k H1.out H2.out, HI.out, ← kinds_at HI8.out HI0.out]
    go_enter Tryd.func55, Tryd.ntmps55
    go_upto_region 0 with fail
    refine wp_region_lit ?_
    refine ebox (v := (.agg #[.int .i64 i, .int .i64 x.cmd, .int .i64 x.zone, .int .i64 x.at_, .int .i64 x.n, .slice Ad nd cd, .bool x.fua, .int .i64 x.m, .int .i64 x.k, .slice Ak nk ck])) rfl rfl rfl ?_
    intro g27 hg27 W27 hk27 hb27
    have Kg27 := Aside0.mk hk27
    have HB27 := Aside0.mk (hb27)
    clear hb27
    have Gg27 := Aside0.mk (show w.heap.size ≤ g27 by rw [hg27]; exact Nat.le_refl _)
    clear hg27 hk27
    simp only [Act.put, List.setIfInBounds_toArray, List.set_cons_zero, List.set_cons_succ]
    refine Flow.seqL (E := fun u v => Below u.heap.size u v) 1 1 [(some 1, []), (some 2, [])] (fun iQ vQ wQ => match iQ with | 1 => vQ = (.string ⟨#[]⟩) | _ => True) rfl (by decide) (by kernel_rfl) (Below.refl _ _) (fun _ _ _ h k => h.trans (k.mono h.size)) (fun _ _ _ _ h _ => h) ?_ ?_
    ·refine ⟨?_, trivial⟩
     ·intro a w' hx hu hd K hK; exact Flow.run1 rfl (Flow.r_assign rfl rfl) (hK _ _ (Below.refl _ _) rfl)
    intro vs W28 hb28 hT
    have v1 := Flow.eqn (hT 1 (by decide) (by decide))
    simp only [Flow.putsT, v1, Act.put, List.setIfInBounds_toArray, List.set_cons_zero, List.set_cons_succ, List.drop_succ_cons, List.drop_zero, List.take_succ_cons, List.take_zero]
    clear hT v1
    have HB28 := Aside0.mk (below_step HB27.out hb28)
    have Kg27_28 := Aside0.mk (blk_below Kg27.out hb28)
    clear hb28
    go_upto_region 1 with fail
    refine Flow.seqT_head (E := fun u v => Below u.heap.size u v) 1 [(some 5, []), (some 3, [0, 0])] (fun iQ vQ wQ => match iQ with | 0 => SliceAt #[.string ⟨#[119, 114, 105, 116, 101]⟩, .string ⟨#[114, 101, 97, 100]⟩, .string ⟨#[102, 108, 117, 115, 104]⟩, .string ⟨#[114, 101, 115, 101, 116]⟩, .string ⟨#[102, 105, 110, 105, 115, 104]⟩, .string ⟨#[111, 112, 101, 110]⟩, .string ⟨#[99, 108, 111, 115, 101]⟩, .string ⟨#[114, 101, 112, 111, 114, 116]⟩] 9 8 w.heap.size vQ wQ | _ => True) rfl (by decide) (by kernel_rfl) (Below.refl _ _) (fun _ _ _ h k => h.trans (k.mono h.size)) (fun iQ vQ w1Q w2Q hQ hEQ => match iQ, hQ with | 0, hQ => slice_below hQ hEQ | _ + 1, _ => trivial) ?_ ?_
    ·refine ⟨?_, trivial⟩
     ·intro a w' hx hu hd K hK; exact Flow.run1 rfl (row8_79 rfl rfl rfl rfl rfl rfl rfl rfl rfl) (hK _ _ (below_alloc (Below.refl _ _) _) (slice_new (Nat.le_trans (HB28.out).size (hx : Below _ _ _).size)))
    intro vs W29 hb29 hT
    obtain ⟨g29_0, v0, hge0, hk0⟩ : SliceAt _ _ _ _ _ _ := hT 0 (by decide)
    have Kg29_0 := Aside0.mk hk0
    have Gg29_0 := Aside0.mk hge0
    clear hk0 hge0
    simp only [Flow.putsT, v0, Act.put, List.setIfInBounds_toArray, List.set_cons_zero, List.set_cons_succ, List.drop_succ_cons, List.drop_zero, List.take_succ_cons, List.take_zero]
    clear hT v0
    have HB29 := Aside0.mk (below_step HB28.out hb29)
    have Kg27_28_29 := Aside0.mk (blk_below Kg27_28.out hb29)
    clear hb29
    refine Flow.seqL (E := fun u v => Below u.heap.size u v) 1 1 [(some 5, []), (some 3, [0, 0])] (fun iQ vQ wQ => match iQ with | 1 => vQ = (.slice (some ⟨g29_0, 0, none⟩) 8 8) | _ => True) rfl (by decide) (by kernel_rfl) (Below.refl _ _) (fun _ _ _ h k => h.trans (k.mono h.size)) (fun _ _ _ _ h _ => h) ?_ ?_
    ·refine ⟨?_, trivial⟩
     ·intro a w' hx hu hd K hK; have e5 : a.tmps.getD 5 undef = (.slice (some ⟨g29_0, 0, none⟩) 8 8) := hu 5 rfl; exact Flow.run1 rfl (Flow.r_assign rfl e5) (hK _ _ (Below.refl _ _) rfl)
    intro vs W30 hb30 hT
    have v1 := Flow.eqn (hT 1 (by decide) (by decide))
    simp only [Flow.putsT, v1, Act.put, List.setIfInBounds_toArray, List.set_cons_zero, List.set_cons_succ, List.drop_succ_cons, List.drop_zero, List.take_succ_cons, List.take_zero]
    clear hT v1
    have HB30 := Aside0.mk (below_step HB29.out hb30)
    have Kg27_28_29_30 := Aside0.mk (blk_below Kg27_28_29.out hb30)
    have Kg29_0_30 := Aside0.mk (blk_below Kg29_0.out hb30)
    clear hb30
    go_upto_region 2 with fail
    refine Flow.seqT_head (E := fun u v => Below u.heap.size u v) 1 [(some 6, []), (some 4, [0, 0])] (fun iQ vQ wQ => match iQ with | 0 => SliceAt #[.string ⟨#[]⟩, .string ⟨#[102, 117, 115, 101]⟩, .string ⟨#[107, 105, 108, 108]⟩, .string ⟨#[99, 114, 97, 115, 104]⟩, .string ⟨#[114, 101, 112, 108, 97, 99, 101]⟩, .string ⟨#[97, 116, 116, 97, 99, 104]⟩, .string ⟨#[115, 116, 101, 112]⟩, .string ⟨#[97, 108, 108]⟩] 9 8 w.heap.size vQ wQ | _ => True) rfl (by decide) (by kernel_rfl) (Below.refl _ _) (fun _ _ _ h k => h.trans (k.mono h.size)) (fun iQ vQ w1Q w2Q hQ hEQ => match iQ, hQ with | 0, hQ => slice_below hQ hEQ | _ + 1, _ => trivial) ?_ ?_
    ·refine ⟨?_, trivial⟩
     ·intro a w' hx hu hd K hK; exact Flow.run1 rfl (row8_79 rfl rfl rfl rfl rfl rfl rfl rfl rfl) (hK _ _ (below_alloc (Below.refl _ _) _) (slice_new (Nat.le_trans (HB30.out).size (hx : Below _ _ _).size)))
    intro vs W31 hb31 hT
    obtain ⟨g31_0, v0, hge0, hk0⟩ : SliceAt _ _ _ _ _ _ := hT 0 (by decide)
    have Kg31_0 := Aside0.mk hk0
    have Gg31_0 := Aside0.mk hge0
    clear hk0 hge0
    simp only [Flow.putsT, v0, Act.put, List.setIfInBounds_toArray, List.set_cons_zero, List.set_cons_succ, List.drop_succ_cons, List.drop_zero, List.take_succ_cons, List.take_zero]
    clear hT v0
    have HB31 := Aside0.mk (below_step HB30.out hb31)
    have Kg27_28_29_30_31 := Aside0.mk (blk_below Kg27_28_29_30.out hb31)
    have Kg29_0_30_31 := Aside0.mk (blk_below Kg29_0_30.out hb31)
    clear hb31
    refine Flow.seqL (E := fun u v => Below u.heap.size u v) 1 1 [(some 6, []), (some 4, [0, 0])] (fun iQ vQ wQ => match iQ with | 1 => vQ = (.slice (some ⟨g31_0, 0, none⟩) 8 8) | _ => True) rfl (by decide) (by kernel_rfl) (Below.refl _ _) (fun _ _ _ h k => h.trans (k.mono h.size)) (fun _ _ _ _ h _ => h) ?_ ?_
    ·refine ⟨?_, trivial⟩
     ·intro a w' hx hu hd K hK; have e6 : a.tmps.getD 6 undef = (.slice (some ⟨g31_0, 0, none⟩) 8 8) := hu 6 rfl; exact Flow.run1 rfl (Flow.r_assign rfl e6) (hK _ _ (Below.refl _ _) rfl)
    intro vs W32 hb32 hT
    have v1 := Flow.eqn (hT 1 (by decide) (by decide))
    simp only [Flow.putsT, v1, Act.put, List.setIfInBounds_toArray, List.set_cons_zero, List.set_cons_succ, List.drop_succ_cons, List.drop_zero, List.take_succ_cons, List.take_zero]
    clear hT v1
    have HB32 := Aside0.mk (below_step HB31.out hb32)
    have Kg27_28_29_30_31_32 := Aside0.mk (blk_below Kg27_28_29_30_31.out hb32)
    have Kg29_0_30_31_32 := Aside0.mk (blk_below Kg29_0_30_31.out hb32)
    have Kg31_0_32 := Aside0.mk (blk_below Kg31_0.out hb32)
    clear hb32
    have KC := Aside0.mk (show W32.heap[g29_0]? = some (.cells (cmdsL.map Value.string).toArray 9 (0, 0)) from Kg29_0_30_31_32.out)
    have KK := Aside0.mk (show W32.heap[g31_0]? = some (.cells (kindsL.map Value.string).toArray 9 (0, 0)) from Kg31_0_32.out)
    go_upto_region 3 with fail
    refine Flow.seqT (E := fun u v => Below u.heap.size u v) [(some 8, []), (some 9, [0]), (some 10, [1]), (some 11, [2]), (some 12, [3]), (some 13, [4, 3]), (some 14, [5, 3]), (some 15, [6, 3]), (some 16, [3, 7]), (some 17, [8, 3]), (some 18, [9]), (some 19, [10, 9]), (some 20, [11, 9]), (some 21, [9]), (some 22, [13, 9]), (some 23, [12, 14, 9]), (some 24, [9, 15]), (some 7, [16, 9])] (fun iQ vQ wQ => match iQ with | 0 => vQ = (.pointer (some ⟨g27, 0, none⟩)) | 1 => vQ = (.int .i64 i) | 2 => vQ = (.bool false) | 3 => vQ = (.bool false) | 4 => vQ = undef | 5 => vQ = undef | 6 => vQ = undef | 7 => vQ = undef | 8 => vQ = (.bool false) | 9 => vQ = (.bool false) | 10 => vQ = undef | 11 => vQ = undef | 12 => vQ = undef | 13 => vQ = undef | 14 => vQ = undef | 15 => vQ = undef | 16 => vQ = (.bool false) | 17 => vQ = (.bool false) | _ => True) rfl (by kernel_rfl) (Below.refl _ _) (fun _ _ _ h k => h.trans (k.mono h.size)) (fun _ _ _ _ h _ => h) ?_ ?_
    ·refine ⟨?_, ?_, ?_, ?_, ?_, ?_, ?_, ?_, ?_, ?_, ?_, ?_, ?_, ?_, ?_, ?_, ?_, ?_, trivial⟩
     ·intro a w' hx hu hd K hK; have e1 : a.tmps.getD 1 undef = (.pointer (some ⟨g27, 0, none⟩)) := hu 1 rfl; exact Flow.run1 rfl (fa rfl e1 (fa56_0 _ _ _)) (hK _ _ (Below.refl _ _) rfl)
     ·intro a w' hx hu hd K hK; have e8 := Flow.got (hd 0 rfl) 8 rfl; exact Flow.run1 rfl (ld rfl e8 ((blk_cell (blk_below Kg27_28_29_30_31_32.out hx) 0).trans rfl) Tryd.underlying3 rfl) (hK _ _ (Below.refl _ _) rfl)
     ·intro a w' hx hu hd K hK; have e9 := Flow.got (hd 1 rfl) 9 rfl; exact Flow.run1 rfl (no (eql rfl e9 rfl) (beq_eq_false_iff_ne.2 (by have := HI0.out; omega))) (hK _ _ (Below.refl _ _) rfl)
     ·intro a w' hx hu hd K hK; have e10 := Flow.got (hd 2 rfl) 10 rfl; exact Flow.run1 rfl (Flow.r_move rfl e10) (hK _ _ (Below.refl _ _) rfl)
     ·intro a w' hx hu hd K hK; have e11 := Flow.got (hd 3 rfl) 11 rfl; exact Flow.spare (Flow.spare_of (k := 11) rfl e11 rfl) (hK _ _ (Below.refl _ _) rfl)
     ·intro a w' hx hu hd K hK; have e11 := Flow.got (hd 3 rfl) 11 rfl; exact Flow.spare (Flow.spare_of (k := 11) rfl e11 rfl) (hK _ _ (Below.refl _ _) rfl)
     ·intro a w' hx hu hd K hK; have e11 := Flow.got (hd 3 rfl) 11 rfl; exact Flow.spare (Flow.spare_of (k := 11) rfl e11 rfl) (hK _ _ (Below.refl _ _) rfl)
     ·intro a w' hx hu hd K hK; have e11 := Flow.got (hd 3 rfl) 11 rfl; exact Flow.spare (Flow.spare_of (k := 11) rfl e11 rfl) (hK _ _ (Below.refl _ _) rfl)
     ·intro a w' hx hu hd K hK; have e11 := Flow.got (hd 3 rfl) 11 rfl; have e15 := Flow.got (hd 7 rfl) 15 rfl; exact Flow.run1 rfl (Flow.r_pick rfl e11 rfl) (hK _ _ (Below.refl _ _) rfl)
     ·intro a w' hx hu hd K hK; have e16 := Flow.got (hd 8 rfl) 16 rfl; exact Flow.run1 rfl (Flow.r_move rfl e16) (hK _ _ (Below.refl _ _) rfl)
     ·intro a w' hx hu hd K hK; have e17 := Flow.got (hd 9 rfl) 17 rfl; exact Flow.spare (Flow.spare_of (k := 17) rfl e17 rfl) (hK _ _ (Below.refl _ _) rfl)
     ·intro a w' hx hu hd K hK; have e17 := Flow.got (hd 9 rfl) 17 rfl; exact Flow.spare (Flow.spare_of (k := 17) rfl e17 rfl) (hK _ _ (Below.refl _ _) rfl)
     ·intro a w' hx hu hd K hK; have e17 := Flow.got (hd 9 rfl) 17 rfl; exact Flow.spare (Flow.spare_of (k := 17) rfl e17 rfl) (hK _ _ (Below.refl _ _) rfl)
     ·intro a w' hx hu hd K hK; have e17 := Flow.got (hd 9 rfl) 17 rfl; exact Flow.spare (Flow.spare_of (k := 17) rfl e17 rfl) (hK _ _ (Below.refl _ _) rfl)
     ·intro a w' hx hu hd K hK; have e17 := Flow.got (hd 9 rfl) 17 rfl; exact Flow.spare (Flow.spare_of (k := 17) rfl e17 rfl) (hK _ _ (Below.refl _ _) rfl)
     ·intro a w' hx hu hd K hK; have e17 := Flow.got (hd 9 rfl) 17 rfl; exact Flow.spare (Flow.spare_of (k := 17) rfl e17 rfl) (hK _ _ (Below.refl _ _) rfl)
     ·intro a w' hx hu hd K hK; have e17 := Flow.got (hd 9 rfl) 17 rfl; have e23 := Flow.got (hd 15 rfl) 23 rfl; exact Flow.run1 rfl (Flow.r_pick rfl e17 rfl) (hK _ _ (Below.refl _ _) rfl)
     ·intro a w' hx hu hd K hK; have e24 := Flow.got (hd 16 rfl) 24 rfl; exact Flow.run1 rfl (Flow.r_assign rfl e24) (hK _ _ (Below.refl _ _) rfl)
    intro vs W33 hb33 hT
    have v0 := Flow.eqn (hT 0 (by decide))
    have v1 := Flow.eqn (hT 1 (by decide))
    have v2 := Flow.eqn (hT 2 (by decide))
    have v3 := Flow.eqn (hT 3 (by decide))
    have v4 := Flow.eqn (hT 4 (by decide))
    have v5 := Flow.eqn (hT 5 (by decide))
    have v6 := Flow.eqn (hT 6 (by decide))
    have v7 := Flow.eqn (hT 7 (by decide))
    have v8 := Flow.eqn (hT 8 (by decide))
    have v9 := Flow.eqn (hT 9 (by decide))
    have v10 := Flow.eqn (hT 10 (by decide))
    have v11 := Flow.eqn (hT 11 (by decide))
    have v12 := Flow.eqn (hT 12 (by decide))
    have v13 := Flow.eqn (hT 13 (by decide))
    have v14 := Flow.eqn (hT 14 (by decide))
    have v15 := Flow.eqn (hT 15 (by decide))
    have v16 := Flow.eqn (hT 16 (by decide))
    have v17 := Flow.eqn (hT 17 (by decide))
    simp only [Flow.putsT, v0, v1, v2, v3, v4, v5, v6, v7, v8, v9, v10, v11, v12, v13, v14, v15, v16, v17, Act.put, List.setIfInBounds_toArray, List.set_cons_zero, List.set_cons_succ]
    clear hT v0 v1 v2 v3 v4 v5 v6 v7 v8 v9 v10 v11 v12 v13 v14 v15 v16 v17
    have HB33 := Aside0.mk (below_step HB32.out hb33)
    have KC_33 := Aside0.mk (blk_below KC.out hb33)
    have KK_33 := Aside0.mk (blk_below KK.out hb33)
    have Kg27_28_29_30_31_32_33 := Aside0.mk (blk_below Kg27_28_29_30_31_32.out hb33)
    have Kg29_0_30_31_32_33 := Aside0.mk (blk_below Kg29_0_30_31_32.out hb33)
    have Kg31_0_32_33 := Aside0.mk (blk_below Kg31_0_32.out hb33)
    clear hb33
    go_upto_region 5 with fail
    refine Flow.seqT (E := fun u v => Below u.heap.size u v) [(some 32, []), (some 33, [0]), (some 34, [1]), (some 35, [2]), (some 36, [3]), (some 37, [4, 3]), (some 38, [3]), (some 39, [6, 3]), (some 40, [5, 7, 3]), (some 41, [3, 8]), (some 31, [9, 3])] (fun iQ vQ wQ => match iQ with | 0 => vQ = (.pointer (some ⟨g27, 0, none⟩)) | 1 => vQ = (.int .i64 i) | 2 => vQ = (.bool true) | 3 => vQ = (.bool true) | 4 => vQ = (.pointer (some ⟨g27, 0, none⟩)) | 5 => vQ = (.int .i64 i) | 6 => vQ = (.slice (some ⟨g31_0, 0, none⟩) 8 8) | 7 => vQ = (.int .i64 8) | 8 => vQ = (.bool true) | 9 => vQ = (.bool true) | 10 => vQ = (.bool true) | _ => True) rfl (by kernel_rfl) (Below.refl _ _) (fun _ _ _ h k => h.trans (k.mono h.size)) (fun _ _ _ _ h _ => h) ?_ ?_
    ·refine ⟨?_, ?_, ?_, ?_, ?_, ?_, ?_, ?_, ?_, ?_, ?_, trivial⟩
     ·intro a w' hx hu hd K hK; have e1 : a.tmps.getD 1 undef = (.pointer (some ⟨g27, 0, none⟩)) := hu 1 rfl; exact Flow.run1 rfl (fa rfl e1 (fa56_0 _ _ _)) (hK _ _ (Below.refl _ _) rfl)
     ·intro a w' hx hu hd K hK; have e32 := Flow.got (hd 0 rfl) 32 rfl; exact Flow.run1 rfl (ld rfl e32 ((blk_cell (blk_below Kg27_28_29_30_31_32_33.out hx) 0).trans rfl) Tryd.underlying3 rfl) (hK _ _ (Below.refl _ _) rfl)
     ·intro a w' hx hu hd K hK; have e33 := Flow.got (hd 1 rfl) 33 rfl; exact Flow.run1 rfl (yes (gtr rfl e33 rfl) (decide_eq_true (by have := HI0.out; omega))) (hK _ _ (Below.refl _ _) rfl)
     ·intro a w' hx hu hd K hK; have e34 := Flow.got (hd 2 rfl) 34 rfl; exact Flow.run1 rfl (Flow.r_move rfl e34) (hK _ _ (Below.refl _ _) rfl)
     ·intro a w' hx hu hd K hK; have e1 : a.tmps.getD 1 undef = (.pointer (some ⟨g27, 0, none⟩)) := hu 1 rfl; have e35 := Flow.got (hd 3 rfl) 35 rfl; exact Flow.run1 (Flow.want_of (k := 35) rfl e35) (fa rfl e1 (fa56_0 _ _ _)) (hK _ _ (Below.refl _ _) rfl)
     ·intro a w' hx hu hd K hK; have e36 := Flow.got (hd 4 rfl) 36 rfl; have e35 := Flow.got (hd 3 rfl) 35 rfl; exact Flow.run1 (Flow.want_of (k := 35) rfl e35) (ld rfl e36 ((blk_cell (blk_below Kg27_28_29_30_31_32_33.out hx) 0).trans rfl) Tryd.underlying3 rfl) (hK _ _ (Below.refl _ _) rfl)
     ·intro a w' hx hu hd K hK; have e4 : a.tmps.getD 4 undef = (.slice (some ⟨g31_0, 0, none⟩) 8 8) := hu 4 rfl; have e35 := Flow.got (hd 3 rfl) 35 rfl; exact Flow.run1 (Flow.want_of (k := 35) rfl e35) (Flow.r_move rfl e4) (hK _ _ (Below.refl _ _) rfl)
     ·intro a w' hx hu hd K hK; have e38 := Flow.got (hd 6 rfl) 38 rfl; have e35 := Flow.got (hd 3 rfl) 35 rfl; exact Flow.run1 (Flow.want_of (k := 35) rfl e35) (lenL Tryd.underlying79 rfl e38) (hK _ _ (Below.refl _ _) rfl)
     ·intro a w' hx hu hd K hK; have e37 := Flow.got (hd 5 rfl) 37 rfl; have e39 := Flow.got (hd 7 rfl) 39 rfl; have e35 := Flow.got (hd 3 rfl) 35 rfl; exact Flow.run1 (Flow.want_of (k := 35) rfl e35) (yes (lss rfl e37 e39) (decide_eq_true (by have := HI8.out; omega))) (hK _ _ (Below.refl _ _) rfl)
     ·intro a w' hx hu hd K hK; have e35 := Flow.got (hd 3 rfl) 35 rfl; have e40 := Flow.got (hd 8 rfl) 40 rfl; exact Flow.run1 rfl (Flow.r_pick rfl e35 e40) (hK _ _ (Below.refl _ _) rfl)
     ·intro a w' hx hu hd K hK; have e41 := Flow.got (hd 9 rfl) 41 rfl; exact Flow.run1 rfl (Flow.r_assign rfl e41) (hK _ _ (Below.refl _ _) rfl)
    intro vs W34 hb34 hT
    have v0 := Flow.eqn (hT 0 (by decide))
    have v1 := Flow.eqn (hT 1 (by decide))
    have v2 := Flow.eqn (hT 2 (by decide))
    have v3 := Flow.eqn (hT 3 (by decide))
    have v4 := Flow.eqn (hT 4 (by decide))
    have v5 := Flow.eqn (hT 5 (by decide))
    have v6 := Flow.eqn (hT 6 (by decide))
    have v7 := Flow.eqn (hT 7 (by decide))
    have v8 := Flow.eqn (hT 8 (by decide))
    have v9 := Flow.eqn (hT 9 (by decide))
    have v10 := Flow.eqn (hT 10 (by decide))
    simp only [Flow.putsT, v0, v1, v2, v3, v4, v5, v6, v7, v8, v9, v10, Act.put, List.setIfInBounds_toArray, List.set_cons_zero, List.set_cons_succ]
    clear hT v0 v1 v2 v3 v4 v5 v6 v7 v8 v9 v10
    have HB34 := Aside0.mk (below_step HB33.out hb34)
    have KC_34 := Aside0.mk (blk_below KC_33.out hb34)
    have KK_34 := Aside0.mk (blk_below KK_33.out hb34)
    have Kg27_28_29_30_31_32_33_34 := Aside0.mk (blk_below Kg27_28_29_30_31_32_33.out hb34)
    have Kg29_0_30_31_32_33_34 := Aside0.mk (blk_below Kg29_0_30_31_32_33.out hb34)
    have Kg31_0_32_33_34 := Aside0.mk (blk_below Kg31_0_32_33.out hb34)
    clear hb34
    go_upto_region 6 with fail
    refine Flow.seqT (E := fun u v => Below u.heap.size u v) [(some 42, []), (some 43, []), (some 44, [1]), (some 45, [0, 2]), (some 46, [3]), (some 2, [4, 0, 1, 2, 3, 4])] (fun iQ vQ wQ => match iQ with | 0 => vQ = (.slice (some ⟨g31_0, 0, none⟩) 8 8) | 1 => vQ = (.pointer (some ⟨g27, 0, none⟩)) | 2 => vQ = (.int .i64 i) | 3 => vQ = (.pointer (some ⟨g31_0, i, none⟩)) | 4 => vQ = (.string (kindsL.getD i ByteArray.empty)) | 5 => vQ = (.string (kindsL.getD i ByteArray.empty)) | _ => True) rfl (by kernel_rfl) (Below.refl _ _) (fun _ _ _ h k => h.trans (k.mono h.size)) (fun _ _ _ _ h _ => h) ?_ ?_
    ·refine ⟨?_, ?_, ?_, ?_, ?_, ?_, trivial⟩
     ·intro a w' hx hu hd K hK; have e4 : a.tmps.getD 4 undef = (.slice (some ⟨g31_0, 0, none⟩) 8 8) := hu 4 rfl; exact Flow.run1 rfl (Flow.r_move rfl e4) (hK _ _ (Below.refl _ _) rfl)
     ·intro a w' hx hu hd K hK; have e1 : a.tmps.getD 1 undef = (.pointer (some ⟨g27, 0, none⟩)) := hu 1 rfl; exact Flow.run1 rfl (fa rfl e1 (fa56_0 _ _ _)) (hK _ _ (Below.refl _ _) rfl)
     ·intro a w' hx hu hd K hK; have e43 := Flow.got (hd 1 rfl) 43 rfl; exact Flow.run1 rfl (ld rfl e43 ((blk_cell (blk_below Kg27_28_29_30_31_32_33_34.out hx) 0).trans rfl) Tryd.underlying3 rfl) (hK _ _ (Below.refl _ _) rfl)
     ·intro a w' hx hu hd K hK; have e42 := Flow.got (hd 0 rfl) 42 rfl; have e44 := Flow.got (hd 2 rfl) 44 rfl; exact Flow.run1 rfl (ixr Tryd.underlying79 size9 rfl e42 e44 HI8.out) (hK _ _ (Below.refl _ _) rfl)
     ·intro a w' hx hu hd K hK; have e45 := Flow.got (hd 3 rfl) 45 rfl; exact Flow.run1 rfl (ld rfl e45 (row_cell Value.string ByteArray.empty (blk_below KK_34.out hx) HI8.out) Tryd.underlying9 rfl) (hK _ _ (Below.refl _ _) rfl)
     ·intro a w' hx hu hd K hK; have e46 := Flow.got (hd 4 rfl) 46 rfl; exact Flow.run1 rfl (Flow.r_assign rfl e46) (hK _ _ (Below.refl _ _) rfl)
    intro vs W35 hb35 hT
    have v0 := Flow.eqn (hT 0 (by decide))
    have v1 := Flow.eqn (hT 1 (by decide))
    have v2 := Flow.eqn (hT 2 (by decide))
    have v3 := Flow.eqn (hT 3 (by decide))
    have v4 := Flow.eqn (hT 4 (by decide))
    have v5 := Flow.eqn (hT 5 (by decide))
    simp only [Flow.putsT, v0, v1, v2, v3, v4, v5, Act.put, List.setIfInBounds_toArray, List.set_cons_zero, List.set_cons_succ]
    clear hT v0 v1 v2 v3 v4 v5
    have HB35 := Aside0.mk (below_step HB34.out hb35)
    have KC_35 := Aside0.mk (blk_below KC_34.out hb35)
    have KK_35 := Aside0.mk (blk_below KK_34.out hb35)
    have Kg27_28_29_30_31_32_33_34_35 := Aside0.mk (blk_below Kg27_28_29_30_31_32_33_34.out hb35)
    have Kg29_0_30_31_32_33_34_35 := Aside0.mk (blk_below Kg29_0_30_31_32_33_34.out hb35)
    have Kg31_0_32_33_34_35 := Aside0.mk (blk_below Kg31_0_32_33_34.out hb35)
    clear hb35
    go_wp2_with fail
    exact bodyPost_ret (results_tmp Tryd.results55 _ _ _) rfl ⟨rfl, HB35.out⟩
   ·have H2 := Aside0.mk h2
    clear h2
    rw [idx_n2 H0.out (fun h => H2.out h.2)]
    go_enter Tryd.func55, Tryd.ntmps55
    go_upto_region 0 with fail
    refine wp_region_lit ?_
    refine ebox (v := (.agg #[.int .i64 x.kind, .int .i64 x.cmd, .int .i64 x.zone, .int .i64 x.at_, .int .i64 x.n, .slice Ad nd cd, .bool x.fua, .int .i64 x.m, .int .i64 x.k, .slice Ak nk ck])) rfl rfl rfl ?_
    intro g36 hg36 W36 hk36 hb36
    have Kg36 := Aside0.mk hk36
    have HB36 := Aside0.mk (hb36)
    clear hb36
    have Gg36 := Aside0.mk (show w.heap.size ≤ g36 by rw [hg36]; exact Nat.le_refl _)
    clear hg36 hk36
    simp only [Act.put, List.setIfInBounds_toArray, List.set_cons_zero, List.set_cons_succ]
    refine Flow.seqL (E := fun u v => Below u.heap.size u v) 1 1 [(some 1, []), (some 2, [])] (fun iQ vQ wQ => match iQ with | 1 => vQ = (.string ⟨#[]⟩) | _ => True) rfl (by decide) (by kernel_rfl) (Below.refl _ _) (fun _ _ _ h k => h.trans (k.mono h.size)) (fun _ _ _ _ h _ => h) ?_ ?_
    ·refine ⟨?_, trivial⟩
     ·intro a w' hx hu hd K hK; exact Flow.run1 rfl (Flow.r_assign rfl rfl) (hK _ _ (Below.refl _ _) rfl)
    intro vs W37 hb37 hT
    have v1 := Flow.eqn (hT 1 (by decide) (by decide))
    simp only [Flow.putsT, v1, Act.put, List.setIfInBounds_toArray, List.set_cons_zero, List.set_cons_succ, List.drop_succ_cons, List.drop_zero, List.take_succ_cons, List.take_zero]
    clear hT v1
    have HB37 := Aside0.mk (below_step HB36.out hb37)
    have Kg36_37 := Aside0.mk (blk_below Kg36.out hb37)
    clear hb37
    go_upto_region 1 with fail
    refine Flow.seqT_head (E := fun u v => Below u.heap.size u v) 1 [(some 5, []), (some 3, [0, 0])] (fun iQ vQ wQ => match iQ with | 0 => SliceAt #[.string ⟨#[119, 114, 105, 116, 101]⟩, .string ⟨#[114, 101, 97, 100]⟩, .string ⟨#[102, 108, 117, 115, 104]⟩, .string ⟨#[114, 101, 115, 101, 116]⟩, .string ⟨#[102, 105, 110, 105, 115, 104]⟩, .string ⟨#[111, 112, 101, 110]⟩, .string ⟨#[99, 108, 111, 115, 101]⟩, .string ⟨#[114, 101, 112, 111, 114, 116]⟩] 9 8 w.heap.size vQ wQ | _ => True) rfl (by decide) (by kernel_rfl) (Below.refl _ _) (fun _ _ _ h k => h.trans (k.mono h.size)) (fun iQ vQ w1Q w2Q hQ hEQ => match iQ, hQ with | 0, hQ => slice_below hQ hEQ | _ + 1, _ => trivial) ?_ ?_
    ·refine ⟨?_, trivial⟩
     ·intro a w' hx hu hd K hK; exact Flow.run1 rfl (row8_79 rfl rfl rfl rfl rfl rfl rfl rfl rfl) (hK _ _ (below_alloc (Below.refl _ _) _) (slice_new (Nat.le_trans (HB37.out).size (hx : Below _ _ _).size)))
    intro vs W38 hb38 hT
    obtain ⟨g38_0, v0, hge0, hk0⟩ : SliceAt _ _ _ _ _ _ := hT 0 (by decide)
    have Kg38_0 := Aside0.mk hk0
    have Gg38_0 := Aside0.mk hge0
    clear hk0 hge0
    simp only [Flow.putsT, v0, Act.put, List.setIfInBounds_toArray, List.set_cons_zero, List.set_cons_succ, List.drop_succ_cons, List.drop_zero, List.take_succ_cons, List.take_zero]
    clear hT v0
    have HB38 := Aside0.mk (below_step HB37.out hb38)
    have Kg36_37_38 := Aside0.mk (blk_below Kg36_37.out hb38)
    clear hb38
    refine Flow.seqL (E := fun u v => Below u.heap.size u v) 1 1 [(some 5, []), (some 3, [0, 0])] (fun iQ vQ wQ => match iQ with | 1 => vQ = (.slice (some ⟨g38_0, 0, none⟩) 8 8) | _ => True) rfl (by decide) (by kernel_rfl) (Below.refl _ _) (fun _ _ _ h k => h.trans (k.mono h.size)) (fun _ _ _ _ h _ => h) ?_ ?_
    ·refine ⟨?_, trivial⟩
     ·intro a w' hx hu hd K hK; have e5 : a.tmps.getD 5 undef = (.slice (some ⟨g38_0, 0, none⟩) 8 8) := hu 5 rfl; exact Flow.run1 rfl (Flow.r_assign rfl e5) (hK _ _ (Below.refl _ _) rfl)
    intro vs W39 hb39 hT
    have v1 := Flow.eqn (hT 1 (by decide) (by decide))
    simp only [Flow.putsT, v1, Act.put, List.setIfInBounds_toArray, List.set_cons_zero, List.set_cons_succ, List.drop_succ_cons, List.drop_zero, List.take_succ_cons, List.take_zero]
    clear hT v1
    have HB39 := Aside0.mk (below_step HB38.out hb39)
    have Kg36_37_38_39 := Aside0.mk (blk_below Kg36_37_38.out hb39)
    have Kg38_0_39 := Aside0.mk (blk_below Kg38_0.out hb39)
    clear hb39
    go_upto_region 2 with fail
    refine Flow.seqT_head (E := fun u v => Below u.heap.size u v) 1 [(some 6, []), (some 4, [0, 0])] (fun iQ vQ wQ => match iQ with | 0 => SliceAt #[.string ⟨#[]⟩, .string ⟨#[102, 117, 115, 101]⟩, .string ⟨#[107, 105, 108, 108]⟩, .string ⟨#[99, 114, 97, 115, 104]⟩, .string ⟨#[114, 101, 112, 108, 97, 99, 101]⟩, .string ⟨#[97, 116, 116, 97, 99, 104]⟩, .string ⟨#[115, 116, 101, 112]⟩, .string ⟨#[97, 108, 108]⟩] 9 8 w.heap.size vQ wQ | _ => True) rfl (by decide) (by kernel_rfl) (Below.refl _ _) (fun _ _ _ h k => h.trans (k.mono h.size)) (fun iQ vQ w1Q w2Q hQ hEQ => match iQ, hQ with | 0, hQ => slice_below hQ hEQ | _ + 1, _ => trivial) ?_ ?_
    ·refine ⟨?_, trivial⟩
     ·intro a w' hx hu hd K hK; exact Flow.run1 rfl (row8_79 rfl rfl rfl rfl rfl rfl rfl rfl rfl) (hK _ _ (below_alloc (Below.refl _ _) _) (slice_new (Nat.le_trans (HB39.out).size (hx : Below _ _ _).size)))
    intro vs W40 hb40 hT
    obtain ⟨g40_0, v0, hge0, hk0⟩ : SliceAt _ _ _ _ _ _ := hT 0 (by decide)
    have Kg40_0 := Aside0.mk hk0
    have Gg40_0 := Aside0.mk hge0
    clear hk0 hge0
    simp only [Flow.putsT, v0, Act.put, List.setIfInBounds_toArray, List.set_cons_zero, List.set_cons_succ, List.drop_succ_cons, List.drop_zero, List.take_succ_cons, List.take_zero]
    clear hT v0
    have HB40 := Aside0.mk (below_step HB39.out hb40)
    have Kg36_37_38_39_40 := Aside0.mk (blk_below Kg36_37_38_39.out hb40)
    have Kg38_0_39_40 := Aside0.mk (blk_below Kg38_0_39.out hb40)
    clear hb40
    refine Flow.seqL (E := fun u v => Below u.heap.size u v) 1 1 [(some 6, []), (some 4, [0, 0])] (fun iQ vQ wQ => match iQ with | 1 => vQ = (.slice (some ⟨g40_0, 0, none⟩) 8 8) | _ => True) rfl (by decide) (by kernel_rfl) (Below.refl _ _) (fun _ _ _ h k => h.trans (k.mono h.size)) (fun _ _ _ _ h _ => h) ?_ ?_
    ·refine ⟨?_, trivial⟩
     ·intro a w' hx hu hd K hK; have e6 : a.tmps.getD 6 undef = (.slice (some ⟨g40_0, 0, none⟩) 8 8) := hu 6 rfl; exact Flow.run1 rfl (Flow.r_assign rfl e6) (hK _ _ (Below.refl _ _) rfl)
    intro vs W41 hb41 hT
    have v1 := Flow.eqn (hT 1 (by decide) (by decide))
    simp only [Flow.putsT, v1, Act.put, List.setIfInBounds_toArray, List.set_cons_zero, List.set_cons_succ, List.drop_succ_cons, List.drop_zero, List.take_succ_cons, List.take_zero]
    clear hT v1
    have HB41 := Aside0.mk (below_step HB40.out hb41)
    have Kg36_37_38_39_40_41 := Aside0.mk (blk_below Kg36_37_38_39_40.out hb41)
    have Kg38_0_39_40_41 := Aside0.mk (blk_below Kg38_0_39_40.out hb41)
    have Kg40_0_41 := Aside0.mk (blk_below Kg40_0.out hb41)
    clear hb41
    have KC := Aside0.mk (show W41.heap[g38_0]? = some (.cells (cmdsL.map Value.string).toArray 9 (0, 0)) from Kg38_0_39_40_41.out)
    have KK := Aside0.mk (show W41.heap[g40_0]? = some (.cells (kindsL.map Value.string).toArray 9 (0, 0)) from Kg40_0_41.out)
    go_upto_region 3 with fail
    refine Flow.seqT (E := fun u v => Below u.heap.size u v) [(some 8, []), (some 9, [0]), (some 10, [1]), (some 11, [2]), (some 12, [3]), (some 13, [4, 3]), (some 14, [5, 3]), (some 15, [6, 3]), (some 16, [3, 7]), (some 17, [8, 3]), (some 18, [9]), (some 19, [10, 9]), (some 20, [11, 9]), (some 21, [9]), (some 22, [13, 9]), (some 23, [12, 14, 9]), (some 24, [9, 15]), (some 7, [16, 9])] (fun iQ vQ wQ => match iQ with | 0 => vQ = (.pointer (some ⟨g36, 0, none⟩)) | 1 => vQ = (.int .i64 x.kind) | 2 => vQ = (.bool false) | 3 => vQ = (.bool false) | 4 => vQ = undef | 5 => vQ = undef | 6 => vQ = undef | 7 => vQ = undef | 8 => vQ = (.bool false) | 9 => vQ = (.bool false) | 10 => vQ = undef | 11 => vQ = undef | 12 => vQ = undef | 13 => vQ = undef | 14 => vQ = undef | 15 => vQ = undef | 16 => vQ = (.bool false) | 17 => vQ = (.bool false) | _ => True) rfl (by kernel_rfl) (Below.refl _ _) (fun _ _ _ h k => h.trans (k.mono h.size)) (fun _ _ _ _ h _ => h) ?_ ?_
    ·refine ⟨?_, ?_, ?_, ?_, ?_, ?_, ?_, ?_, ?_, ?_, ?_, ?_, ?_, ?_, ?_, ?_, ?_, ?_, trivial⟩
     ·intro a w' hx hu hd K hK; have e1 : a.tmps.getD 1 undef = (.pointer (some ⟨g36, 0, none⟩)) := hu 1 rfl; exact Flow.run1 rfl (fa rfl e1 (fa56_0 _ _ _)) (hK _ _ (Below.refl _ _) rfl)
     ·intro a w' hx hu hd K hK; have e8 := Flow.got (hd 0 rfl) 8 rfl; exact Flow.run1 rfl (ld rfl e8 ((blk_cell (blk_below Kg36_37_38_39_40_41.out hx) 0).trans rfl) Tryd.underlying3 rfl) (hK _ _ (Below.refl _ _) rfl)
     ·intro a w' hx hu hd K hK; have e9 := Flow.got (hd 1 rfl) 9 rfl; exact Flow.run1 rfl (no (eql rfl e9 rfl) (beq_eq_false_iff_ne.2 H0.out)) (hK _ _ (Below.refl _ _) rfl)
     ·intro a w' hx hu hd K hK; have e10 := Flow.got (hd 2 rfl) 10 rfl; exact Flow.run1 rfl (Flow.r_move rfl e10) (hK _ _ (Below.refl _ _) rfl)
     ·intro a w' hx hu hd K hK; have e11 := Flow.got (hd 3 rfl) 11 rfl; exact Flow.spare (Flow.spare_of (k := 11) rfl e11 rfl) (hK _ _ (Below.refl _ _) rfl)
     ·intro a w' hx hu hd K hK; have e11 := Flow.got (hd 3 rfl) 11 rfl; exact Flow.spare (Flow.spare_of (k := 11) rfl e11 rfl) (hK _ _ (Below.refl _ _) rfl)
     ·intro a w' hx hu hd K hK; have e11 := Flow.got (hd 3 rfl) 11 rfl; exact Flow.spare (Flow.spare_of (k := 11) rfl e11 rfl) (hK _ _ (Below.refl _ _) rfl)
     ·intro a w' hx hu hd K hK; have e11 := Flow.got (hd 3 rfl) 11 rfl; exact Flow.spare (Flow.spare_of (k := 11) rfl e11 rfl) (hK _ _ (Below.refl _ _) rfl)
     ·intro a w' hx hu hd K hK; have e11 := Flow.got (hd 3 rfl) 11 rfl; have e15 := Flow.got (hd 7 rfl) 15 rfl; exact Flow.run1 rfl (Flow.r_pick rfl e11 rfl) (hK _ _ (Below.refl _ _) rfl)
     ·intro a w' hx hu hd K hK; have e16 := Flow.got (hd 8 rfl) 16 rfl; exact Flow.run1 rfl (Flow.r_move rfl e16) (hK _ _ (Below.refl _ _) rfl)
     ·intro a w' hx hu hd K hK; have e17 := Flow.got (hd 9 rfl) 17 rfl; exact Flow.spare (Flow.spare_of (k := 17) rfl e17 rfl) (hK _ _ (Below.refl _ _) rfl)
     ·intro a w' hx hu hd K hK; have e17 := Flow.got (hd 9 rfl) 17 rfl; exact Flow.spare (Flow.spare_of (k := 17) rfl e17 rfl) (hK _ _ (Below.refl _ _) rfl)
     ·intro a w' hx hu hd K hK; have e17 := Flow.got (hd 9 rfl) 17 rfl; exact Flow.spare (Flow.spare_of (k := 17) rfl e17 rfl) (hK _ _ (Below.refl _ _) rfl)
     ·intro a w' hx hu hd K hK; have e17 := Flow.got (hd 9 rfl) 17 rfl; exact Flow.spare (Flow.spare_of (k := 17) rfl e17 rfl) (hK _ _ (Below.refl _ _) rfl)
     ·intro a w' hx hu hd K hK; have e17 := Flow.got (hd 9 rfl) 17 rfl; exact Flow.spare (Flow.spare_of (k := 17) rfl e17 rfl) (hK _ _ (Below.refl _ _) rfl)
     ·intro a w' hx hu hd K hK; have e17 := Flow.got (hd 9 rfl) 17 rfl; exact Flow.spare (Flow.spare_of (k := 17) rfl e17 rfl) (hK _ _ (Below.refl _ _) rfl)
     ·intro a w' hx hu hd K hK; have e17 := Flow.got (hd 9 rfl) 17 rfl; have e23 := Flow.got (hd 15 rfl) 23 rfl; exact Flow.run1 rfl (Flow.r_pick rfl e17 rfl) (hK _ _ (Below.refl _ _) rfl)
     ·intro a w' hx hu hd K hK; have e24 := Flow.got (hd 16 rfl) 24 rfl; exact Flow.run1 rfl (Flow.r_assign rfl e24) (hK _ _ (Below.refl _ _) rfl)
    intro vs W42 hb42 hT
    have v0 := Flow.eqn (hT 0 (by decide))
    have v1 := Flow.eqn (hT 1 (by decide))
    have v2 := Flow.eqn (hT 2 (by decide))
    have v3 := Flow.eqn (hT 3 (by decide))
    have v4 := Flow.eqn (hT 4 (by decide))
    have v5 := Flow.eqn (hT 5 (by decide))
    have v6 := Flow.eqn (hT 6 (by decide))
    have v7 := Flow.eqn (hT 7 (by decide))
    have v8 := Flow.eqn (hT 8 (by decide))
    have v9 := Flow.eqn (hT 9 (by decide))
    have v10 := Flow.eqn (hT 10 (by decide))
    have v11 := Flow.eqn (hT 11 (by decide))
    have v12 := Flow.eqn (hT 12 (by decide))
    have v13 := Flow.eqn (hT 13 (by decide))
    have v14 := Flow.eqn (hT 14 (by decide))
    have v15 := Flow.eqn (hT 15 (by decide))
    have v16 := Flow.eqn (hT 16 (by decide))
    have v17 := Flow.eqn (hT 17 (by decide))
    simp only [Flow.putsT, v0, v1, v2, v3, v4, v5, v6, v7, v8, v9, v10, v11, v12, v13, v14, v15, v16, v17, Act.put, List.setIfInBounds_toArray, List.set_cons_zero, List.set_cons_succ]
    clear hT v0 v1 v2 v3 v4 v5 v6 v7 v8 v9 v10 v11 v12 v13 v14 v15 v16 v17
    have HB42 := Aside0.mk (below_step HB41.out hb42)
    have KC_42 := Aside0.mk (blk_below KC.out hb42)
    have KK_42 := Aside0.mk (blk_below KK.out hb42)
    have Kg36_37_38_39_40_41_42 := Aside0.mk (blk_below Kg36_37_38_39_40_41.out hb42)
    have Kg38_0_39_40_41_42 := Aside0.mk (blk_below Kg38_0_39_40_41.out hb42)
    have Kg40_0_41_42 := Aside0.mk (blk_below Kg40_0_41.out hb42)
    clear hb42
    go_upto_region 5 with fail
    refine Flow.seqT (E := fun u v => Below u.heap.size u v) [(some 32, []), (some 33, [0]), (some 34, [1]), (some 35, [2]), (some 36, [3]), (some 37, [4, 3]), (some 38, [3]), (some 39, [6, 3]), (some 40, [5, 7, 3]), (some 41, [3, 8]), (some 31, [9, 3])] (fun iQ vQ wQ => match iQ with | 0 => vQ = (.pointer (some ⟨g36, 0, none⟩)) | 1 => vQ = (.int .i64 x.kind) | 2 => vQ = (.bool true) | 3 => vQ = (.bool true) | 4 => vQ = (.pointer (some ⟨g36, 0, none⟩)) | 5 => vQ = (.int .i64 x.kind) | 6 => vQ = (.slice (some ⟨g40_0, 0, none⟩) 8 8) | 7 => vQ = (.int .i64 8) | 8 => vQ = (.bool false) | 9 => vQ = (.bool false) | 10 => vQ = (.bool false) | _ => True) rfl (by kernel_rfl) (Below.refl _ _) (fun _ _ _ h k => h.trans (k.mono h.size)) (fun _ _ _ _ h _ => h) ?_ ?_
    ·refine ⟨?_, ?_, ?_, ?_, ?_, ?_, ?_, ?_, ?_, ?_, ?_, trivial⟩
     ·intro a w' hx hu hd K hK; have e1 : a.tmps.getD 1 undef = (.pointer (some ⟨g36, 0, none⟩)) := hu 1 rfl; exact Flow.run1 rfl (fa rfl e1 (fa56_0 _ _ _)) (hK _ _ (Below.refl _ _) rfl)
     ·intro a w' hx hu hd K hK; have e32 := Flow.got (hd 0 rfl) 32 rfl; exact Flow.run1 rfl (ld rfl e32 ((blk_cell (blk_below Kg36_37_38_39_40_41_42.out hx) 0).trans rfl) Tryd.underlying3 rfl) (hK _ _ (Below.refl _ _) rfl)
     ·intro a w' hx hu hd K hK; have e33 := Flow.got (hd 1 rfl) 33 rfl; exact Flow.run1 rfl (yes (gtr rfl e33 rfl) (decide_eq_true H1.out)) (hK _ _ (Below.refl _ _) rfl)
     ·intro a w' hx hu hd K hK; have e34 := Flow.got (hd 2 rfl) 34 rfl; exact Flow.run1 rfl (Flow.r_move rfl e34) (hK _ _ (Below.refl _ _) rfl)
     ·intro a w' hx hu hd K hK; have e1 : a.tmps.getD 1 undef = (.pointer (some ⟨g36, 0, none⟩)) := hu 1 rfl; have e35 := Flow.got (hd 3 rfl) 35 rfl; exact Flow.run1 (Flow.want_of (k := 35) rfl e35) (fa rfl e1 (fa56_0 _ _ _)) (hK _ _ (Below.refl _ _) rfl)
     ·intro a w' hx hu hd K hK; have e36 := Flow.got (hd 4 rfl) 36 rfl; have e35 := Flow.got (hd 3 rfl) 35 rfl; exact Flow.run1 (Flow.want_of (k := 35) rfl e35) (ld rfl e36 ((blk_cell (blk_below Kg36_37_38_39_40_41_42.out hx) 0).trans rfl) Tryd.underlying3 rfl) (hK _ _ (Below.refl _ _) rfl)
     ·intro a w' hx hu hd K hK; have e4 : a.tmps.getD 4 undef = (.slice (some ⟨g40_0, 0, none⟩) 8 8) := hu 4 rfl; have e35 := Flow.got (hd 3 rfl) 35 rfl; exact Flow.run1 (Flow.want_of (k := 35) rfl e35) (Flow.r_move rfl e4) (hK _ _ (Below.refl _ _) rfl)
     ·intro a w' hx hu hd K hK; have e38 := Flow.got (hd 6 rfl) 38 rfl; have e35 := Flow.got (hd 3 rfl) 35 rfl; exact Flow.run1 (Flow.want_of (k := 35) rfl e35) (lenL Tryd.underlying79 rfl e38) (hK _ _ (Below.refl _ _) rfl)
     ·intro a w' hx hu hd K hK; have e37 := Flow.got (hd 5 rfl) 37 rfl; have e39 := Flow.got (hd 7 rfl) 39 rfl; have e35 := Flow.got (hd 3 rfl) 35 rfl; exact Flow.run1 (Flow.want_of (k := 35) rfl e35) (no (lss rfl e37 e39) (decide_eq_false H2.out)) (hK _ _ (Below.refl _ _) rfl)
     ·intro a w' hx hu hd K hK; have e35 := Flow.got (hd 3 rfl) 35 rfl; have e40 := Flow.got (hd 8 rfl) 40 rfl; exact Flow.run1 rfl (Flow.r_pick rfl e35 e40) (hK _ _ (Below.refl _ _) rfl)
     ·intro a w' hx hu hd K hK; have e41 := Flow.got (hd 9 rfl) 41 rfl; exact Flow.run1 rfl (Flow.r_assign rfl e41) (hK _ _ (Below.refl _ _) rfl)
    intro vs W43 hb43 hT
    have v0 := Flow.eqn (hT 0 (by decide))
    have v1 := Flow.eqn (hT 1 (by decide))
    have v2 := Flow.eqn (hT 2 (by decide))
    have v3 := Flow.eqn (hT 3 (by decide))
    have v4 := Flow.eqn (hT 4 (by decide))
    have v5 := Flow.eqn (hT 5 (by decide))
    have v6 := Flow.eqn (hT 6 (by decide))
    have v7 := Flow.eqn (hT 7 (by decide))
    have v8 := Flow.eqn (hT 8 (by decide))
    have v9 := Flow.eqn (hT 9 (by decide))
    have v10 := Flow.eqn (hT 10 (by decide))
    simp only [Flow.putsT, v0, v1, v2, v3, v4, v5, v6, v7, v8, v9, v10, Act.put, List.setIfInBounds_toArray, List.set_cons_zero, List.set_cons_succ]
    clear hT v0 v1 v2 v3 v4 v5 v6 v7 v8 v9 v10
    have HB43 := Aside0.mk (below_step HB42.out hb43)
    have KC_43 := Aside0.mk (blk_below KC_42.out hb43)
    have KK_43 := Aside0.mk (blk_below KK_42.out hb43)
    have Kg36_37_38_39_40_41_42_43 := Aside0.mk (blk_below Kg36_37_38_39_40_41_42.out hb43)
    have Kg38_0_39_40_41_42_43 := Aside0.mk (blk_below Kg38_0_39_40_41_42.out hb43)
    have Kg40_0_41_42_43 := Aside0.mk (blk_below Kg40_0_41_42.out hb43)
    clear hb43
    go_upto_region 7 with fail
    refine Flow.seqT (E := fun u v => Below u.heap.size u v) [(some 2, [])] (fun iQ vQ wQ => match iQ with | 0 => vQ = (.string ⟨#[]⟩) | _ => True) rfl (by kernel_rfl) (Below.refl _ _) (fun _ _ _ h k => h.trans (k.mono h.size)) (fun _ _ _ _ h _ => h) ?_ ?_
    ·refine ⟨?_, trivial⟩
     ·intro a w' hx hu hd K hK; exact Flow.run1 rfl (Flow.r_assign rfl rfl) (hK _ _ (Below.refl _ _) rfl)
    intro vs W44 hb44 hT
    have v0 := Flow.eqn (hT 0 (by decide))
    simp only [Flow.putsT, v0, Act.put, List.setIfInBounds_toArray, List.set_cons_zero, List.set_cons_succ]
    clear hT v0
    have HB44 := Aside0.mk (below_step HB43.out hb44)
    have KC_44 := Aside0.mk (blk_below KC_43.out hb44)
    have KK_44 := Aside0.mk (blk_below KK_43.out hb44)
    have Kg36_37_38_39_40_41_42_43_44 := Aside0.mk (blk_below Kg36_37_38_39_40_41_42_43.out hb44)
    have Kg38_0_39_40_41_42_43_44 := Aside0.mk (blk_below Kg38_0_39_40_41_42_43.out hb44)
    have Kg40_0_41_42_43_44 := Aside0.mk (blk_below Kg40_0_41_42_43.out hb44)
    clear hb44
    go_wp2_with fail
    exact bodyPost_ret (results_tmp Tryd.results55 _ _ _) rfl ⟨rfl, HB44.out⟩
  ·have H1 := Aside0.mk h1
   clear h1
   rw [idx_n2 H0.out (fun h => H1.out h.1)]
   go_enter Tryd.func55, Tryd.ntmps55
   go_upto_region 0 with fail
   refine wp_region_lit ?_
   refine ebox (v := (.agg #[.int .i64 x.kind, .int .i64 x.cmd, .int .i64 x.zone, .int .i64 x.at_, .int .i64 x.n, .slice Ad nd cd, .bool x.fua, .int .i64 x.m, .int .i64 x.k, .slice Ak nk ck])) rfl rfl rfl ?_
   intro g45 hg45 W45 hk45 hb45
   have Kg45 := Aside0.mk hk45
   have HB45 := Aside0.mk (hb45)
   clear hb45
   have Gg45 := Aside0.mk (show w.heap.size ≤ g45 by rw [hg45]; exact Nat.le_refl _)
   clear hg45 hk45
   simp only [Act.put, List.setIfInBounds_toArray, List.set_cons_zero, List.set_cons_succ]
   refine Flow.seqL (E := fun u v => Below u.heap.size u v) 1 1 [(some 1, []), (some 2, [])] (fun iQ vQ wQ => match iQ with | 1 => vQ = (.string ⟨#[]⟩) | _ => True) rfl (by decide) (by kernel_rfl) (Below.refl _ _) (fun _ _ _ h k => h.trans (k.mono h.size)) (fun _ _ _ _ h _ => h) ?_ ?_
   ·refine ⟨?_, trivial⟩
    ·intro a w' hx hu hd K hK; exact Flow.run1 rfl (Flow.r_assign rfl rfl) (hK _ _ (Below.refl _ _) rfl)
   intro vs W46 hb46 hT
   have v1 := Flow.eqn (hT 1 (by decide) (by decide))
   simp only [Flow.putsT, v1, Act.put, List.setIfInBounds_toArray, List.set_cons_zero, List.set_cons_succ, List.drop_succ_cons, List.drop_zero, List.take_succ_cons, List.take_zero]
   clear hT v1
   have HB46 := Aside0.mk (below_step HB45.out hb46)
   have Kg45_46 := Aside0.mk (blk_below Kg45.out hb46)
   clear hb46
   go_upto_region 1 with fail
   refine Flow.seqT_head (E := fun u v => Below u.heap.size u v) 1 [(some 5, []), (some 3, [0, 0])] (fun iQ vQ wQ => match iQ with | 0 => SliceAt #[.string ⟨#[119, 114, 105, 116, 101]⟩, .string ⟨#[114, 101, 97, 100]⟩, .string ⟨#[102, 108, 117, 115, 104]⟩, .string ⟨#[114, 101, 115, 101, 116]⟩, .string ⟨#[102, 105, 110, 105, 115, 104]⟩, .string ⟨#[111, 112, 101, 110]⟩, .string ⟨#[99, 108, 111, 115, 101]⟩, .string ⟨#[114, 101, 112, 111, 114, 116]⟩] 9 8 w.heap.size vQ wQ | _ => True) rfl (by decide) (by kernel_rfl) (Below.refl _ _) (fun _ _ _ h k => h.trans (k.mono h.size)) (fun iQ vQ w1Q w2Q hQ hEQ => match iQ, hQ with | 0, hQ => slice_below hQ hEQ | _ + 1, _ => trivial) ?_ ?_
   ·refine ⟨?_, trivial⟩
    ·intro a w' hx hu hd K hK; exact Flow.run1 rfl (row8_79 rfl rfl rfl rfl rfl rfl rfl rfl rfl) (hK _ _ (below_alloc (Below.refl _ _) _) (slice_new (Nat.le_trans (HB46.out).size (hx : Below _ _ _).size)))
   intro vs W47 hb47 hT
   obtain ⟨g47_0, v0, hge0, hk0⟩ : SliceAt _ _ _ _ _ _ := hT 0 (by decide)
   have Kg47_0 := Aside0.mk hk0
   have Gg47_0 := Aside0.mk hge0
   clear hk0 hge0
   simp only [Flow.putsT, v0, Act.put, List.setIfInBounds_toArray, List.set_cons_zero, List.set_cons_succ, List.drop_succ_cons, List.drop_zero, List.take_succ_cons, List.take_zero]
   clear hT v0
   have HB47 := Aside0.mk (below_step HB46.out hb47)
   have Kg45_46_47 := Aside0.mk (blk_below Kg45_46.out hb47)
   clear hb47
   refine Flow.seqL (E := fun u v => Below u.heap.size u v) 1 1 [(some 5, []), (some 3, [0, 0])] (fun iQ vQ wQ => match iQ with | 1 => vQ = (.slice (some ⟨g47_0, 0, none⟩) 8 8) | _ => True) rfl (by decide) (by kernel_rfl) (Below.refl _ _) (fun _ _ _ h k => h.trans (k.mono h.size)) (fun _ _ _ _ h _ => h) ?_ ?_
   ·refine ⟨?_, trivial⟩
    ·intro a w' hx hu hd K hK; have e5 : a.tmps.getD 5 undef = (.slice (some ⟨g47_0, 0, none⟩) 8 8) := hu 5 rfl; exact Flow.run1 rfl (Flow.r_assign rfl e5) (hK _ _ (Below.refl _ _) rfl)
   intro vs W48 hb48 hT
   have v1 := Flow.eqn (hT 1 (by decide) (by decide))
   simp only [Flow.putsT, v1, Act.put, List.setIfInBounds_toArray, List.set_cons_zero, List.set_cons_succ, List.drop_succ_cons, List.drop_zero, List.take_succ_cons, List.take_zero]
   clear hT v1
   have HB48 := Aside0.mk (below_step HB47.out hb48)
   have Kg45_46_47_48 := Aside0.mk (blk_below Kg45_46_47.out hb48)
   have Kg47_0_48 := Aside0.mk (blk_below Kg47_0.out hb48)
   clear hb48
   go_upto_region 2 with fail
   refine Flow.seqT_head (E := fun u v => Below u.heap.size u v) 1 [(some 6, []), (some 4, [0, 0])] (fun iQ vQ wQ => match iQ with | 0 => SliceAt #[.string ⟨#[]⟩, .string ⟨#[102, 117, 115, 101]⟩, .string ⟨#[107, 105, 108, 108]⟩, .string ⟨#[99, 114, 97, 115, 104]⟩, .string ⟨#[114, 101, 112, 108, 97, 99, 101]⟩, .string ⟨#[97, 116, 116, 97, 99, 104]⟩, .string ⟨#[115, 116, 101, 112]⟩, .string ⟨#[97, 108, 108]⟩] 9 8 w.heap.size vQ wQ | _ => True) rfl (by decide) (by kernel_rfl) (Below.refl _ _) (fun _ _ _ h k => h.trans (k.mono h.size)) (fun iQ vQ w1Q w2Q hQ hEQ => match iQ, hQ with | 0, hQ => slice_below hQ hEQ | _ + 1, _ => trivial) ?_ ?_
   ·refine ⟨?_, trivial⟩
    ·intro a w' hx hu hd K hK; exact Flow.run1 rfl (row8_79 rfl rfl rfl rfl rfl rfl rfl rfl rfl) (hK _ _ (below_alloc (Below.refl _ _) _) (slice_new (Nat.le_trans (HB48.out).size (hx : Below _ _ _).size)))
   intro vs W49 hb49 hT
   obtain ⟨g49_0, v0, hge0, hk0⟩ : SliceAt _ _ _ _ _ _ := hT 0 (by decide)
   have Kg49_0 := Aside0.mk hk0
   have Gg49_0 := Aside0.mk hge0
   clear hk0 hge0
   simp only [Flow.putsT, v0, Act.put, List.setIfInBounds_toArray, List.set_cons_zero, List.set_cons_succ, List.drop_succ_cons, List.drop_zero, List.take_succ_cons, List.take_zero]
   clear hT v0
   have HB49 := Aside0.mk (below_step HB48.out hb49)
   have Kg45_46_47_48_49 := Aside0.mk (blk_below Kg45_46_47_48.out hb49)
   have Kg47_0_48_49 := Aside0.mk (blk_below Kg47_0_48.out hb49)
   clear hb49
   refine Flow.seqL (E := fun u v => Below u.heap.size u v) 1 1 [(some 6, []), (some 4, [0, 0])] (fun iQ vQ wQ => match iQ with | 1 => vQ = (.slice (some ⟨g49_0, 0, none⟩) 8 8) | _ => True) rfl (by decide) (by kernel_rfl) (Below.refl _ _) (fun _ _ _ h k => h.trans (k.mono h.size)) (fun _ _ _ _ h _ => h) ?_ ?_
   ·refine ⟨?_, trivial⟩
    ·intro a w' hx hu hd K hK; have e6 : a.tmps.getD 6 undef = (.slice (some ⟨g49_0, 0, none⟩) 8 8) := hu 6 rfl; exact Flow.run1 rfl (Flow.r_assign rfl e6) (hK _ _ (Below.refl _ _) rfl)
   intro vs W50 hb50 hT
   have v1 := Flow.eqn (hT 1 (by decide) (by decide))
   simp only [Flow.putsT, v1, Act.put, List.setIfInBounds_toArray, List.set_cons_zero, List.set_cons_succ, List.drop_succ_cons, List.drop_zero, List.take_succ_cons, List.take_zero]
   clear hT v1
   have HB50 := Aside0.mk (below_step HB49.out hb50)
   have Kg45_46_47_48_49_50 := Aside0.mk (blk_below Kg45_46_47_48_49.out hb50)
   have Kg47_0_48_49_50 := Aside0.mk (blk_below Kg47_0_48_49.out hb50)
   have Kg49_0_50 := Aside0.mk (blk_below Kg49_0.out hb50)
   clear hb50
   have KC := Aside0.mk (show W50.heap[g47_0]? = some (.cells (cmdsL.map Value.string).toArray 9 (0, 0)) from Kg47_0_48_49_50.out)
   have KK := Aside0.mk (show W50.heap[g49_0]? = some (.cells (kindsL.map Value.string).toArray 9 (0, 0)) from Kg49_0_50.out)
   go_upto_region 3 with fail
   refine Flow.seqT (E := fun u v => Below u.heap.size u v) [(some 8, []), (some 9, [0]), (some 10, [1]), (some 11, [2]), (some 12, [3]), (some 13, [4, 3]), (some 14, [5, 3]), (some 15, [6, 3]), (some 16, [3, 7]), (some 17, [8, 3]), (some 18, [9]), (some 19, [10, 9]), (some 20, [11, 9]), (some 21, [9]), (some 22, [13, 9]), (some 23, [12, 14, 9]), (some 24, [9, 15]), (some 7, [16, 9])] (fun iQ vQ wQ => match iQ with | 0 => vQ = (.pointer (some ⟨g45, 0, none⟩)) | 1 => vQ = (.int .i64 x.kind) | 2 => vQ = (.bool false) | 3 => vQ = (.bool false) | 4 => vQ = undef | 5 => vQ = undef | 6 => vQ = undef | 7 => vQ = undef | 8 => vQ = (.bool false) | 9 => vQ = (.bool false) | 10 => vQ = undef | 11 => vQ = undef | 12 => vQ = undef | 13 => vQ = undef | 14 => vQ = undef | 15 => vQ = undef | 16 => vQ = (.bool false) | 17 => vQ = (.bool false) | _ => True) rfl (by kernel_rfl) (Below.refl _ _) (fun _ _ _ h k => h.trans (k.mono h.size)) (fun _ _ _ _ h _ => h) ?_ ?_
   ·refine ⟨?_, ?_, ?_, ?_, ?_, ?_, ?_, ?_, ?_, ?_, ?_, ?_, ?_, ?_, ?_, ?_, ?_, ?_, trivial⟩
    ·intro a w' hx hu hd K hK; have e1 : a.tmps.getD 1 undef = (.pointer (some ⟨g45, 0, none⟩)) := hu 1 rfl; exact Flow.run1 rfl (fa rfl e1 (fa56_0 _ _ _)) (hK _ _ (Below.refl _ _) rfl)
    ·intro a w' hx hu hd K hK; have e8 := Flow.got (hd 0 rfl) 8 rfl; exact Flow.run1 rfl (ld rfl e8 ((blk_cell (blk_below Kg45_46_47_48_49_50.out hx) 0).trans rfl) Tryd.underlying3 rfl) (hK _ _ (Below.refl _ _) rfl)
    ·intro a w' hx hu hd K hK; have e9 := Flow.got (hd 1 rfl) 9 rfl; exact Flow.run1 rfl (no (eql rfl e9 rfl) (beq_eq_false_iff_ne.2 H0.out)) (hK _ _ (Below.refl _ _) rfl)
    ·intro a w' hx hu hd K hK; have e10 := Flow.got (hd 2 rfl) 10 rfl; exact Flow.run1 rfl (Flow.r_move rfl e10) (hK _ _ (Below.refl _ _) rfl)
    ·intro a w' hx hu hd K hK; have e11 := Flow.got (hd 3 rfl) 11 rfl; exact Flow.spare (Flow.spare_of (k := 11) rfl e11 rfl) (hK _ _ (Below.refl _ _) rfl)
    ·intro a w' hx hu hd K hK; have e11 := Flow.got (hd 3 rfl) 11 rfl; exact Flow.spare (Flow.spare_of (k := 11) rfl e11 rfl) (hK _ _ (Below.refl _ _) rfl)
    ·intro a w' hx hu hd K hK; have e11 := Flow.got (hd 3 rfl) 11 rfl; exact Flow.spare (Flow.spare_of (k := 11) rfl e11 rfl) (hK _ _ (Below.refl _ _) rfl)
    ·intro a w' hx hu hd K hK; have e11 := Flow.got (hd 3 rfl) 11 rfl; exact Flow.spare (Flow.spare_of (k := 11) rfl e11 rfl) (hK _ _ (Below.refl _ _) rfl)
    ·intro a w' hx hu hd K hK; have e11 := Flow.got (hd 3 rfl) 11 rfl; have e15 := Flow.got (hd 7 rfl) 15 rfl; exact Flow.run1 rfl (Flow.r_pick rfl e11 rfl) (hK _ _ (Below.refl _ _) rfl)
    ·intro a w' hx hu hd K hK; have e16 := Flow.got (hd 8 rfl) 16 rfl; exact Flow.run1 rfl (Flow.r_move rfl e16) (hK _ _ (Below.refl _ _) rfl)
    ·intro a w' hx hu hd K hK; have e17 := Flow.got (hd 9 rfl) 17 rfl; exact Flow.spare (Flow.spare_of (k := 17) rfl e17 rfl) (hK _ _ (Below.refl _ _) rfl)
    ·intro a w' hx hu hd K hK; have e17 := Flow.got (hd 9 rfl) 17 rfl; exact Flow.spare (Flow.spare_of (k := 17) rfl e17 rfl) (hK _ _ (Below.refl _ _) rfl)
    ·intro a w' hx hu hd K hK; have e17 := Flow.got (hd 9 rfl) 17 rfl; exact Flow.spare (Flow.spare_of (k := 17) rfl e17 rfl) (hK _ _ (Below.refl _ _) rfl)
    ·intro a w' hx hu hd K hK; have e17 := Flow.got (hd 9 rfl) 17 rfl; exact Flow.spare (Flow.spare_of (k := 17) rfl e17 rfl) (hK _ _ (Below.refl _ _) rfl)
    ·intro a w' hx hu hd K hK; have e17 := Flow.got (hd 9 rfl) 17 rfl; exact Flow.spare (Flow.spare_of (k := 17) rfl e17 rfl) (hK _ _ (Below.refl _ _) rfl)
    ·intro a w' hx hu hd K hK; have e17 := Flow.got (hd 9 rfl) 17 rfl; exact Flow.spare (Flow.spare_of (k := 17) rfl e17 rfl) (hK _ _ (Below.refl _ _) rfl)
    ·intro a w' hx hu hd K hK; have e17 := Flow.got (hd 9 rfl) 17 rfl; have e23 := Flow.got (hd 15 rfl) 23 rfl; exact Flow.run1 rfl (Flow.r_pick rfl e17 rfl) (hK _ _ (Below.refl _ _) rfl)
    ·intro a w' hx hu hd K hK; have e24 := Flow.got (hd 16 rfl) 24 rfl; exact Flow.run1 rfl (Flow.r_assign rfl e24) (hK _ _ (Below.refl _ _) rfl)
   intro vs W51 hb51 hT
   have v0 := Flow.eqn (hT 0 (by decide))
   have v1 := Flow.eqn (hT 1 (by decide))
   have v2 := Flow.eqn (hT 2 (by decide))
   have v3 := Flow.eqn (hT 3 (by decide))
   have v4 := Flow.eqn (hT 4 (by decide))
   have v5 := Flow.eqn (hT 5 (by decide))
   have v6 := Flow.eqn (hT 6 (by decide))
   have v7 := Flow.eqn (hT 7 (by decide))
   have v8 := Flow.eqn (hT 8 (by decide))
   have v9 := Flow.eqn (hT 9 (by decide))
   have v10 := Flow.eqn (hT 10 (by decide))
   have v11 := Flow.eqn (hT 11 (by decide))
   have v12 := Flow.eqn (hT 12 (by decide))
   have v13 := Flow.eqn (hT 13 (by decide))
   have v14 := Flow.eqn (hT 14 (by decide))
   have v15 := Flow.eqn (hT 15 (by decide))
   have v16 := Flow.eqn (hT 16 (by decide))
   have v17 := Flow.eqn (hT 17 (by decide))
   simp only [Flow.putsT, v0, v1, v2, v3, v4, v5, v6, v7, v8, v9, v10, v11, v12, v13, v14, v15, v16, v17, Act.put, List.setIfInBounds_toArray, List.set_cons_zero, List.set_cons_succ]
   clear hT v0 v1 v2 v3 v4 v5 v6 v7 v8 v9 v10 v11 v12 v13 v14 v15 v16 v17
   have HB51 := Aside0.mk (below_step HB50.out hb51)
   have KC_51 := Aside0.mk (blk_below KC.out hb51)
   have KK_51 := Aside0.mk (blk_below KK.out hb51)
   have Kg45_46_47_48_49_50_51 := Aside0.mk (blk_below Kg45_46_47_48_49_50.out hb51)
   have Kg47_0_48_49_50_51 := Aside0.mk (blk_below Kg47_0_48_49_50.out hb51)
   have Kg49_0_50_51 := Aside0.mk (blk_below Kg49_0_50.out hb51)
   clear hb51
   go_upto_region 5 with fail
   refine Flow.seqT (E := fun u v => Below u.heap.size u v) [(some 32, []), (some 33, [0]), (some 34, [1]), (some 35, [2]), (some 36, [3]), (some 37, [4, 3]), (some 38, [3]), (some 39, [6, 3]), (some 40, [5, 7, 3]), (some 41, [3, 8]), (some 31, [9, 3])] (fun iQ vQ wQ => match iQ with | 0 => vQ = (.pointer (some ⟨g45, 0, none⟩)) | 1 => vQ = (.int .i64 x.kind) | 2 => vQ = (.bool false) | 3 => vQ = (.bool false) | 4 => vQ = undef | 5 => vQ = undef | 6 => vQ = undef | 7 => vQ = undef | 8 => vQ = undef | 9 => vQ = (.bool false) | 10 => vQ = (.bool false) | _ => True) rfl (by kernel_rfl) (Below.refl _ _) (fun _ _ _ h k => h.trans (k.mono h.size)) (fun _ _ _ _ h _ => h) ?_ ?_
   ·refine ⟨?_, ?_, ?_, ?_, ?_, ?_, ?_, ?_, ?_, ?_, ?_, trivial⟩
    ·intro a w' hx hu hd K hK; have e1 : a.tmps.getD 1 undef = (.pointer (some ⟨g45, 0, none⟩)) := hu 1 rfl; exact Flow.run1 rfl (fa rfl e1 (fa56_0 _ _ _)) (hK _ _ (Below.refl _ _) rfl)
    ·intro a w' hx hu hd K hK; have e32 := Flow.got (hd 0 rfl) 32 rfl; exact Flow.run1 rfl (ld rfl e32 ((blk_cell (blk_below Kg45_46_47_48_49_50_51.out hx) 0).trans rfl) Tryd.underlying3 rfl) (hK _ _ (Below.refl _ _) rfl)
    ·intro a w' hx hu hd K hK; have e33 := Flow.got (hd 1 rfl) 33 rfl; exact Flow.run1 rfl (no (gtr rfl e33 rfl) (decide_eq_false H1.out)) (hK _ _ (Below.refl _ _) rfl)
    ·intro a w' hx hu hd K hK; have e34 := Flow.got (hd 2 rfl) 34 rfl; exact Flow.run1 rfl (Flow.r_move rfl e34) (hK _ _ (Below.refl _ _) rfl)
    ·intro a w' hx hu hd K hK; have e35 := Flow.got (hd 3 rfl) 35 rfl; exact Flow.spare (Flow.spare_of (k := 35) rfl e35 rfl) (hK _ _ (Below.refl _ _) rfl)
    ·intro a w' hx hu hd K hK; have e35 := Flow.got (hd 3 rfl) 35 rfl; exact Flow.spare (Flow.spare_of (k := 35) rfl e35 rfl) (hK _ _ (Below.refl _ _) rfl)
    ·intro a w' hx hu hd K hK; have e35 := Flow.got (hd 3 rfl) 35 rfl; exact Flow.spare (Flow.spare_of (k := 35) rfl e35 rfl) (hK _ _ (Below.refl _ _) rfl)
    ·intro a w' hx hu hd K hK; have e35 := Flow.got (hd 3 rfl) 35 rfl; exact Flow.spare (Flow.spare_of (k := 35) rfl e35 rfl) (hK _ _ (Below.refl _ _) rfl)
    ·intro a w' hx hu hd K hK; have e35 := Flow.got (hd 3 rfl) 35 rfl; exact Flow.spare (Flow.spare_of (k := 35) rfl e35 rfl) (hK _ _ (Below.refl _ _) rfl)
    ·intro a w' hx hu hd K hK; have e35 := Flow.got (hd 3 rfl) 35 rfl; have e40 := Flow.got (hd 8 rfl) 40 rfl; exact Flow.run1 rfl (Flow.r_pick rfl e35 rfl) (hK _ _ (Below.refl _ _) rfl)
    ·intro a w' hx hu hd K hK; have e41 := Flow.got (hd 9 rfl) 41 rfl; exact Flow.run1 rfl (Flow.r_assign rfl e41) (hK _ _ (Below.refl _ _) rfl)
   intro vs W52 hb52 hT
   have v0 := Flow.eqn (hT 0 (by decide))
   have v1 := Flow.eqn (hT 1 (by decide))
   have v2 := Flow.eqn (hT 2 (by decide))
   have v3 := Flow.eqn (hT 3 (by decide))
   have v4 := Flow.eqn (hT 4 (by decide))
   have v5 := Flow.eqn (hT 5 (by decide))
   have v6 := Flow.eqn (hT 6 (by decide))
   have v7 := Flow.eqn (hT 7 (by decide))
   have v8 := Flow.eqn (hT 8 (by decide))
   have v9 := Flow.eqn (hT 9 (by decide))
   have v10 := Flow.eqn (hT 10 (by decide))
   simp only [Flow.putsT, v0, v1, v2, v3, v4, v5, v6, v7, v8, v9, v10, Act.put, List.setIfInBounds_toArray, List.set_cons_zero, List.set_cons_succ]
   clear hT v0 v1 v2 v3 v4 v5 v6 v7 v8 v9 v10
   have HB52 := Aside0.mk (below_step HB51.out hb52)
   have KC_52 := Aside0.mk (blk_below KC_51.out hb52)
   have KK_52 := Aside0.mk (blk_below KK_51.out hb52)
   have Kg45_46_47_48_49_50_51_52 := Aside0.mk (blk_below Kg45_46_47_48_49_50_51.out hb52)
   have Kg47_0_48_49_50_51_52 := Aside0.mk (blk_below Kg47_0_48_49_50_51.out hb52)
   have Kg49_0_50_51_52 := Aside0.mk (blk_below Kg49_0_50_51.out hb52)
   clear hb52
   go_upto_region 7 with fail
   refine Flow.seqT (E := fun u v => Below u.heap.size u v) [(some 2, [])] (fun iQ vQ wQ => match iQ with | 0 => vQ = (.string ⟨#[]⟩) | _ => True) rfl (by kernel_rfl) (Below.refl _ _) (fun _ _ _ h k => h.trans (k.mono h.size)) (fun _ _ _ _ h _ => h) ?_ ?_
   ·refine ⟨?_, trivial⟩
    ·intro a w' hx hu hd K hK; exact Flow.run1 rfl (Flow.r_assign rfl rfl) (hK _ _ (Below.refl _ _) rfl)
   intro vs W53 hb53 hT
   have v0 := Flow.eqn (hT 0 (by decide))
   simp only [Flow.putsT, v0, Act.put, List.setIfInBounds_toArray, List.set_cons_zero, List.set_cons_succ]
   clear hT v0
   have HB53 := Aside0.mk (below_step HB52.out hb53)
   have KC_53 := Aside0.mk (blk_below KC_52.out hb53)
   have KK_53 := Aside0.mk (blk_below KK_52.out hb53)
   have Kg45_46_47_48_49_50_51_52_53 := Aside0.mk (blk_below Kg45_46_47_48_49_50_51_52.out hb53)
   have Kg47_0_48_49_50_51_52_53 := Aside0.mk (blk_below Kg47_0_48_49_50_51_52.out hb53)
   have Kg49_0_50_51_52_53 := Aside0.mk (blk_below Kg49_0_50_51_52.out hb53)
   clear hb53
   go_wp2_with fail
   exact bodyPost_ret (results_tmp Tryd.results55 _ _ _) rfl ⟨rfl, HB53.out⟩
end Go.Proofs.YtlhmpmmblnbmbaaDoor.Con
