/- Put of a cache. -/
import Derived.Test.YtlhmpmmblnbmbaaCacG
set_option linter.unusedVariables false
set_option linter.unusedSimpArgs false
namespace Go.Proofs.Ytlhmpmmblnbmbaa.Cac
open Go Go.RowKit Go.Proofs.Ytlhmpmmblnbmbaa.PCachePlays Go.Proofs.YtlhmpmmblnbmbaaW.PrintWords Go.Proofs.YtlhmpmmblnbmbaaW.PrintLast Go.Proofs.YtlhmpmmblnbmbaaW.PrintMore Go.Proofs.Ytlhmpmmblnbmbaa.FlowU Go.Proofs.Ytlhmpmmblnbmbaa.Ev Go.Proofs.Ytlhmpmmblnbmbaa.Ke Go.Proofs.Ytlhmpmmblnbmbaa.Cells
theorem fa83_1 (g o : Nat) (w : World) : (Instr.fieldAt 83 (.pointer (some ⟨g, o, none⟩)) 1).run Try.prog w = .ok (.pointer (some ⟨g, o + 1, none⟩)) w := by
  have hu := Try.underlying83
  go_simp
theorem fad83_1 (ad : Addr) (w : World) : (Instr.fieldAt 83 (.pointer (some ad)) 1).run Try.prog w = .ok (.pointer (some (ad.add 1))) w := by
  have hu := Try.underlying83
  go_simp
theorem bld86_0_1 {o : Oper} {a : Act} {w : World} {x0 x1 : Operand} {c0A : Option Addr} {c0n c0c : Nat} {c1 : Int} (ho : o.op = .build 86 #[(0, x0), (1, x1)]) (h0 : a.eval x0 = .slice c0A c0n c0c) (h1 : a.eval x1 = .int .i64 c1) : (execOp a.eval o).run Try.prog w = .ok (.value (.agg #[.slice c0A c0n c0c, .int .i64 c1])) w := by
  have hu86 := Try.underlying86
  have hu27 := Try.underlying27
  have hu3 := Try.underlying3
  unfold execOp
  simp only [ho, List.map_toArray, List.map_cons, List.map_nil, h0, h1]
  clear ho h0 h1
  first
  | (go_simp; done)
  | (go_simp; rfl)
theorem wo_last {m : List Ent} (h : Keyd m) {j : Nat} (hj : m.length = j + 1) : wo ((m.map (·.k)).getD j ⟨0, 0, 0⟩) m = m.dropLast := by
  rcases List.eq_nil_or_concat m with rfl | ⟨l, e, rfl⟩
  · simp at hj
  · rw [List.concat_eq_append] at h hj ⊢
    have hl : l.length = j := by simpa using hj
    have e1 : ((l ++ [e]).map (·.k)).getD j ⟨0, 0, 0⟩ = e.k := by
      rw [List.getD_eq_getElem?_getD, List.getElem?_map, List.getElem?_append_right (by omega), hl, Nat.sub_self]; rfl
    rw [e1, List.dropLast_concat]
    unfold wo
    rw [List.filter_append]
    have h1 : l.filter (fun x => !same x.k e.k) = l := List.filter_eq_self.2 (fun x hx => by
      have := (List.pairwise_append.1 h.2).2.2 x hx e (by simp)
      rw [same_ne.2 this]; rfl)
    rw [h1]
    simp [same_iff.2]
def putM (room : Int) (m : List Ent) (e : Ent) : List Ent := if room = 0 then m else if ((e :: wo e.k m).length : Int) > room then (e :: wo e.k m).dropLast else e :: wo e.k m
theorem putM_0 {room : Int} {m : List Ent} {e : Ent} (h : room = 0) : putM room m e = m := if_pos h
theorem putM_no {room : Int} {m : List Ent} {e : Ent} (h : ¬ room = 0) (h2 : ¬ ((e :: wo e.k m).length : Int) > room) : putM room m e = e :: wo e.k m := by unfold putM; rw [if_neg h, if_neg h2]
theorem putM_ov {room : Int} {m : List Ent} {e : Ent} (h : ¬ room = 0) (h2 : ((e :: wo e.k m).length : Int) > room) : putM room m e = (e :: wo e.k m).dropLast := by unfold putM; rw [if_neg h, if_pos h2]
def clkM (room clock : Int) : Int := if room = 0 then clock else clock + 1
theorem clkM_0 {room clock : Int} (h : room = 0) : clkM room clock = clock := if_pos h
theorem clkM_1 {room clock : Int} (h : ¬ room = 0) : clkM room clock = clock + 1 := if_neg h
def PutPost (w w' : World) (gC gM : Nat) (room clock hits misses : Int) (m : List Ent) (k : S36) (d : List Int) (u : Int) : Prop := ∃ v, CA w' gC gM room clock hits misses (putM room m ⟨k, v, d, u⟩) ∧ KB (S2 gC gM) w w'
theorem cell_kb {w w1 : World} {g p : Nat} {v : Value} (h : w.cell? ⟨g, p, none⟩ = some v) (hb : Below w.heap.size w w1) : w1.cell? ⟨g, p, none⟩ = some v := pw_cell_below hb h
set_option maxHeartbeats 4000000 in
set_option maxRecDepth 100000 in
theorem put_c {gC gM : Nat} {room clock hits misses : Int} {m : List Ent} (k : S36) (hgk : G36 k) (A : Option Addr) (n c : Nat) (d : List Int) (w : World) (HC : Aside0 (∀ w', KB (S2 gC gM) w w' → (Kd.int .u8).C w' A n d)) (hl : d.length = n) (hn : n ≤ c) (h47 : n ≤ 1000000) (h : CA w gC gM room clock hits misses m) (h0 : 0 ≤ clock ∧ clock ≤ 4611686018427387900) (ho : m.Pairwise (fun a b => b.u < a.u)) (hu : ∀ e ∈ m, 0 ≤ e.u ∧ e.u ≤ clock) (hlen : m.length ≤ 900000) : Calls Try.prog 18 #[.pointer (some ⟨gC, 0, none⟩), kv k, .slice A n c] w fun e w' => e = .returned (.tuple #[]) ∧ PutPost w w' gC gM room (clkM room clock) hits misses m k d (clock + 1) := by
  have KC := Aside0.mk h.cell
  have HM := Aside0.mk h.map
  have HRW := Aside0.mk h.rows
  have HGK := Aside0.mk hgk
  have HL := Aside0.mk hl
  have HN := Aside0.mk hn
  have H47 := Aside0.mk h47
  have HO := Aside0.mk ho
  have HU := Aside0.mk hu
  have HLEN := Aside0.mk hlen
  clear h hgk hl hn h47 ho hu hlen
  obtain ⟨c1, c1H⟩ : ∃ q, Aside0 (clock + 1 = q) := ⟨_, ⟨rfl⟩⟩
  have c1B : Aside0 (-9223372036854775808 ≤ c1 ∧ c1 ≤ 9223372036854775807) := ⟨by have := c1H.out; omega⟩
  rw [c1H.out]
  unfold kv
  by_cases hr0 : room = 0
  · have HR0 := Aside0.mk hr0
    clear hr0
    rw [clkM_0 HR0.out]
    go_enter Try.func18, Try.ntmps18
    go_upto_region 0 with fail
    refine wp_region_lit ?_
    refine ebox (v := (.agg #[.int .i64 k.f0, .int .i64 k.f1, .int .i64 k.f2])) rfl rfl rfl ?_
    intro g1 hg1 W1 hk1 hb1
    have Kg1 := Aside0.mk hk1
    have HB1 := Aside0.mk (KB.of_below (S := S2 gC gM) hb1)
    have HM_1 := Aside0.mk (MapIs.below HM.out hb1)
    have HRW_1 := Aside0.mk (Rows.below HRW.out hb1)
    have KC_1 := Aside0.mk (blk_below KC.out hb1)
    clear hb1
    have Gg1 := Aside0.mk (show w.heap.size ≤ g1 by rw [hg1]; exact Nat.le_refl _)
    clear hg1 hk1
    simp only [Act.put, List.setIfInBounds_toArray, List.set_cons_zero, List.set_cons_succ]
    go_upto_region 1 with fail
    refine Flow.seqT (E := fun u v => Below u.heap.size u v) [(some 7, []), (some 8, [0]), (some 9, [1]), (some 10, [2]), (some 11, [3, 2]), (some 12, [4, 2]), (some 13, [5, 2]), (some 14, [6, 2]), (some 15, [2, 7])] (fun iQ vQ wQ => match iQ with | 0 => vQ = (.pointer (some ⟨gC, 0, none⟩)) | 1 => vQ = (.bool false) | 2 => vQ = (.bool false) | 3 => vQ = (.pointer (some ⟨gC, 0, none⟩)) | 4 => vQ = (.pointer (some ⟨gC, 0, none⟩)) | 5 => vQ = (.pointer (some ⟨gC, 1, none⟩)) | 6 => vQ = (.int .i64 room) | 7 => vQ = (.bool true) | 8 => vQ = (.bool true) | _ => True) rfl (by kernel_rfl) (Below.refl _ _) (fun _ _ _ h k => h.trans (k.mono h.size)) (fun _ _ _ _ h _ => h) ?_ ?_
    · refine ⟨?_, ?_, ?_, ?_, ?_, ?_, ?_, ?_, ?_, trivial⟩
      · intro a w' hx hu hd K hK; have e0 : a.tmps.getD 0 undef = (.pointer (some ⟨gC, 0, none⟩)) := hu 0 rfl; exact Flow.run1 rfl (Flow.r_move rfl e0) (hK _ _ (Below.refl _ _) rfl)
      · intro a w' hx hu hd K hK; have e7 := Flow.got (hd 0 rfl) 7 rfl; exact Flow.run1 rfl (ptre rfl e7 rfl) (hK _ _ (Below.refl _ _) rfl)
      · intro a w' hx hu hd K hK; have e8 := Flow.got (hd 1 rfl) 8 rfl; exact Flow.run1 rfl (Flow.r_move rfl e8) (hK _ _ (Below.refl _ _) rfl)
      · intro a w' hx hu hd K hK; have e0 : a.tmps.getD 0 undef = (.pointer (some ⟨gC, 0, none⟩)) := hu 0 rfl; have e9 := Flow.got (hd 2 rfl) 9 rfl; exact Flow.run1 (Flow.want_of (k := 9) rfl e9) (Flow.r_move rfl e0) (hK _ _ (Below.refl _ _) rfl)
      · intro a w' hx hu hd K hK; have e10 := Flow.got (hd 3 rfl) 10 rfl; have e9 := Flow.got (hd 2 rfl) 9 rfl; exact Flow.run1 (Flow.want_of (k := 9) rfl e9) (nilck rfl e10) (hK _ _ (Below.refl _ _) rfl)
      · intro a w' hx hu hd K hK; have e11 := Flow.got (hd 4 rfl) 11 rfl; have e9 := Flow.got (hd 2 rfl) 9 rfl; exact Flow.run1 (Flow.want_of (k := 9) rfl e9) (fa rfl e11 (fa83_1 _ _ _)) (hK _ _ (Below.refl _ _) rfl)
      · intro a w' hx hu hd K hK; have e12 := Flow.got (hd 5 rfl) 12 rfl; have e9 := Flow.got (hd 2 rfl) 9 rfl; exact Flow.run1 (Flow.want_of (k := 9) rfl e9) (ld rfl e12 ((blk_cell (blk_below KC_1.out hx) 1).trans rfl) Try.underlying3 rfl) (hK _ _ (Below.refl _ _) rfl)
      · intro a w' hx hu hd K hK; have e13 := Flow.got (hd 6 rfl) 13 rfl; have e9 := Flow.got (hd 2 rfl) 9 rfl; exact Flow.run1 (Flow.want_of (k := 9) rfl e9) (yes (eql rfl e13 rfl) (beq_iff_eq.2 HR0.out)) (hK _ _ (Below.refl _ _) rfl)
      · intro a w' hx hu hd K hK; have e9 := Flow.got (hd 2 rfl) 9 rfl; have e14 := Flow.got (hd 7 rfl) 14 rfl; exact Flow.run1 rfl (Flow.r_pick rfl e9 e14) (hK _ _ (Below.refl _ _) rfl)
    intro vs W2 hb2 hT
    have v0 := Flow.eqn (hT 0 (by decide))
    have v1 := Flow.eqn (hT 1 (by decide))
    have v2 := Flow.eqn (hT 2 (by decide))
    have v3 := Flow.eqn (hT 3 (by decide))
    have v4 := Flow.eqn (hT 4 (by decide))
    have v5 := Flow.eqn (hT 5 (by decide))
    have v6 := Flow.eqn (hT 6 (by decide))
    have v7 := Flow.eqn (hT 7 (by decide))
    have v8 := Flow.eqn (hT 8 (by decide))
    simp only [Flow.putsT, v0, v1, v2, v3, v4, v5, v6, v7, v8, Act.put, List.setIfInBounds_toArray, List.set_cons_zero, List.set_cons_succ]
    clear hT v0 v1 v2 v3 v4 v5 v6 v7 v8
    have HB2 := Aside0.mk (KB.step HB1.out hb2)
    have HM_2 := Aside0.mk (MapIs.below HM_1.out hb2)
    have HRW_2 := Aside0.mk (Rows.below HRW_1.out hb2)
    have KC_1_2 := Aside0.mk (blk_below KC_1.out hb2)
    have Kg1_2 := Aside0.mk (blk_below Kg1.out hb2)
    clear hb2
    go_wp2_with fail
    exact bodyPost_ret (results_none Try.results18 _ _ _) rfl ⟨rfl, .slice none 0 0, by rw [putM_0 HR0.out]; exact ⟨KC_1_2.out, HM_2.out, HRW_2.out⟩, HB2.out⟩
  · have HR0 := Aside0.mk hr0
    clear hr0
    rw [clkM_1 HR0.out, c1H.out]
    go_enter Try.func18, Try.ntmps18
    go_upto_region 0 with fail
    refine wp_region_lit ?_
    refine ebox (v := (.agg #[.int .i64 k.f0, .int .i64 k.f1, .int .i64 k.f2])) rfl rfl rfl ?_
    intro g3 hg3 W3 hk3 hb3
    have Kg3 := Aside0.mk hk3
    have HB3 := Aside0.mk (KB.of_below (S := S2 gC gM) hb3)
    have HM_3 := Aside0.mk (MapIs.below HM.out hb3)
    have HRW_3 := Aside0.mk (Rows.below HRW.out hb3)
    have KC_3 := Aside0.mk (blk_below KC.out hb3)
    clear hb3
    have Gg3 := Aside0.mk (show w.heap.size ≤ g3 by rw [hg3]; exact Nat.le_refl _)
    clear hg3 hk3
    simp only [Act.put, List.setIfInBounds_toArray, List.set_cons_zero, List.set_cons_succ]
    go_upto_region 1 with fail
    refine Flow.seqT (E := fun u v => Below u.heap.size u v) [(some 7, []), (some 8, [0]), (some 9, [1]), (some 10, [2]), (some 11, [3, 2]), (some 12, [4, 2]), (some 13, [5, 2]), (some 14, [6, 2]), (some 15, [2, 7])] (fun iQ vQ wQ => match iQ with | 0 => vQ = (.pointer (some ⟨gC, 0, none⟩)) | 1 => vQ = (.bool false) | 2 => vQ = (.bool false) | 3 => vQ = (.pointer (some ⟨gC, 0, none⟩)) | 4 => vQ = (.pointer (some ⟨gC, 0, none⟩)) | 5 => vQ = (.pointer (some ⟨gC, 1, none⟩)) | 6 => vQ = (.int .i64 room) | 7 => vQ = (.bool false) | 8 => vQ = (.bool false) | _ => True) rfl (by kernel_rfl) (Below.refl _ _) (fun _ _ _ h k => h.trans (k.mono h.size)) (fun _ _ _ _ h _ => h) ?_ ?_
    · refine ⟨?_, ?_, ?_, ?_, ?_, ?_, ?_, ?_, ?_, trivial⟩
      · intro a w' hx hu hd K hK; have e0 : a.tmps.getD 0 undef = (.pointer (some ⟨gC, 0, none⟩)) := hu 0 rfl; exact Flow.run1 rfl (Flow.r_move rfl e0) (hK _ _ (Below.refl _ _) rfl)
      · intro a w' hx hu hd K hK; have e7 := Flow.got (hd 0 rfl) 7 rfl; exact Flow.run1 rfl (ptre rfl e7 rfl) (hK _ _ (Below.refl _ _) rfl)
      · intro a w' hx hu hd K hK; have e8 := Flow.got (hd 1 rfl) 8 rfl; exact Flow.run1 rfl (Flow.r_move rfl e8) (hK _ _ (Below.refl _ _) rfl)
      · intro a w' hx hu hd K hK; have e0 : a.tmps.getD 0 undef = (.pointer (some ⟨gC, 0, none⟩)) := hu 0 rfl; have e9 := Flow.got (hd 2 rfl) 9 rfl; exact Flow.run1 (Flow.want_of (k := 9) rfl e9) (Flow.r_move rfl e0) (hK _ _ (Below.refl _ _) rfl)
      · intro a w' hx hu hd K hK; have e10 := Flow.got (hd 3 rfl) 10 rfl; have e9 := Flow.got (hd 2 rfl) 9 rfl; exact Flow.run1 (Flow.want_of (k := 9) rfl e9) (nilck rfl e10) (hK _ _ (Below.refl _ _) rfl)
      · intro a w' hx hu hd K hK; have e11 := Flow.got (hd 4 rfl) 11 rfl; have e9 := Flow.got (hd 2 rfl) 9 rfl; exact Flow.run1 (Flow.want_of (k := 9) rfl e9) (fa rfl e11 (fa83_1 _ _ _)) (hK _ _ (Below.refl _ _) rfl)
      · intro a w' hx hu hd K hK; have e12 := Flow.got (hd 5 rfl) 12 rfl; have e9 := Flow.got (hd 2 rfl) 9 rfl; exact Flow.run1 (Flow.want_of (k := 9) rfl e9) (ld rfl e12 ((blk_cell (blk_below KC_3.out hx) 1).trans rfl) Try.underlying3 rfl) (hK _ _ (Below.refl _ _) rfl)
      · intro a w' hx hu hd K hK; have e13 := Flow.got (hd 6 rfl) 13 rfl; have e9 := Flow.got (hd 2 rfl) 9 rfl; exact Flow.run1 (Flow.want_of (k := 9) rfl e9) (no (eql rfl e13 rfl) (beq_eq_false_iff_ne.2 HR0.out)) (hK _ _ (Below.refl _ _) rfl)
      · intro a w' hx hu hd K hK; have e9 := Flow.got (hd 2 rfl) 9 rfl; have e14 := Flow.got (hd 7 rfl) 14 rfl; exact Flow.run1 rfl (Flow.r_pick rfl e9 e14) (hK _ _ (Below.refl _ _) rfl)
    intro vs W4 hb4 hT
    have v0 := Flow.eqn (hT 0 (by decide))
    have v1 := Flow.eqn (hT 1 (by decide))
    have v2 := Flow.eqn (hT 2 (by decide))
    have v3 := Flow.eqn (hT 3 (by decide))
    have v4 := Flow.eqn (hT 4 (by decide))
    have v5 := Flow.eqn (hT 5 (by decide))
    have v6 := Flow.eqn (hT 6 (by decide))
    have v7 := Flow.eqn (hT 7 (by decide))
    have v8 := Flow.eqn (hT 8 (by decide))
    simp only [Flow.putsT, v0, v1, v2, v3, v4, v5, v6, v7, v8, Act.put, List.setIfInBounds_toArray, List.set_cons_zero, List.set_cons_succ]
    clear hT v0 v1 v2 v3 v4 v5 v6 v7 v8
    have HB4 := Aside0.mk (KB.step HB3.out hb4)
    have HM_4 := Aside0.mk (MapIs.below HM_3.out hb4)
    have HRW_4 := Aside0.mk (Rows.below HRW_3.out hb4)
    have KC_3_4 := Aside0.mk (blk_below KC_3.out hb4)
    have Kg3_4 := Aside0.mk (blk_below Kg3.out hb4)
    clear hb4
    go_upto_region 2 with fail
    refine FlowU.flowS_head 10 (fun u v => Below u.heap.size u v) ([(8, fun u v : World => KB (fun k => k = gC) u v ∧ v.heap[gC]? = some (.cells #[.map (some gM), .int .i64 room, .int .i64 c1, .int .i64 hits, .int .i64 misses] 83 (0, 0)) ∧ ∃ cs : Array Value, u.heap[gC]? = some (.cells cs 83 (0, 0)))]) [(some 16, []), (some 17, [0]), (some 18, [1]), (some 19, [2]), (some 20, []), (some 21, []), (some 22, [5]), (some 23, []), (some 24, [7, 6]), (some 25, [6, 8]), (none, [3, 4, 9, 8, 0, 1, 2, 3, 4, 5, 6, 7, 8, 9])] (fun iQ vQ wQ => match iQ with | 0 => vQ = (.pointer (some ⟨gC, 0, none⟩)) | 1 => vQ = (.pointer (some ⟨gC, 0, none⟩)) | 2 => vQ = (.pointer (some ⟨gC, 0, none⟩)) | 3 => vQ = (.map (some gM)) | 4 => vQ = (.agg #[.int .i64 k.f0, .int .i64 k.f1, .int .i64 k.f2]) | 5 => vQ = (.slice A n c) | 6 => u8R wQ vQ d | 7 => vQ = (.pointer (some ⟨gC, 0, none⟩)) | 8 => (vQ = .int .i64 c1 ∧ wQ.heap[gC]? = some (.cells #[.map (some gM), .int .i64 room, .int .i64 c1, .int .i64 hits, .int .i64 misses] 83 (0, 0))) | 9 => (∃ A2 c2, vQ = .agg #[.slice A2 d.length c2, .int .i64 c1] ∧ u8R wQ (.slice A2 d.length c2) d) | _ => True) rfl (by kernel_rfl) (by kernel_rfl) (by kernel_rfl) (G := KB (fun k => k = gC)) (U := fun iQ wQ => (iQ = 8 → wQ.heap[gC]? = some (.cells #[.map (some gM), .int .i64 room, .int .i64 clock, .int .i64 hits, .int .i64 misses] 83 (0, 0))) ∧ (iQ = 3 → wQ.cell? ⟨gC, 0, none⟩ = some (.map (some gM)))) KB.drew (fun iQ => ⟨fun _ => KC_3_4.out, fun _ => (blk_cell KC_3_4.out 0).trans rfl⟩) (fun _ _ _ h k => h.trans k) (fun _ _ h => KB.of_below h) ⟨fun u v h => h.1, trivial⟩ (fun iQ vQ w1Q w2Q hQ hE => match iQ, hQ with | 0, hQ => hQ | 1, hQ => hQ | 2, hQ => hQ | 3, hQ => hQ | 4, hQ => hQ | 5, hQ => hQ | 6, hQ => hQ.below hE | 7, hQ => hQ | 8, hQ => ⟨hQ.1, blk_below hQ.2 hE⟩ | 9, hQ => (match hQ with | ⟨A2, c2, h1, h2⟩ => ⟨A2, c2, h1, h2.below hE⟩) | _ + 10, _ => trivial) (fun iQ w1Q w2Q hU hE => ⟨fun h => blk_below (hU.1 h) hE, fun h => pw_cell_below hE (hU.2 h)⟩) ⟨fun iQ vQ w1Q w2Q hn hQ hX => match iQ, hn, hQ with | 0, _, hQ => hQ | 1, _, hQ => hQ | 2, _, hQ => hQ | 3, _, hQ => hQ | 4, _, hQ => hQ | 5, _, hQ => hQ | 6, _, hQ => (match hX.2.2 with | ⟨_, h⟩ => hQ.kb h (by decide) hX.1) | 7, _, hQ => hQ | 8, hn, hQ => absurd rfl hn | 9, _, hQ => (match hQ, hX.2.2 with | ⟨A2, c2, h1, h2⟩, ⟨_, h⟩ => ⟨A2, c2, h1, h2.kb h (by decide) hX.1⟩) | _ + 10, _, _ => trivial, fun iQ w1Q w2Q hn hU hX => ⟨fun h => absurd h hn, fun h => (blk_cell hX.2.1 0).trans rfl⟩, trivial⟩ ?_ ?_
    · refine ⟨?_, ?_, ?_, ?_, ?_, ?_, ?_, ?_, ?_, ?_, trivial⟩
      · intro a w' hx hux hu hd K hK; have e0 : a.tmps.getD 0 undef = (.pointer (some ⟨gC, 0, none⟩)) := hu 0 rfl; exact Flow.run1 rfl (Flow.r_move rfl e0) (hK _ _ (Below.refl _ _) rfl)
      · intro a w' hx hux hu hd K hK; have e16 := Flow.got (hd 0 (by decide)) 16 rfl; exact Flow.run1 rfl (nilck rfl e16) (hK _ _ (Below.refl _ _) rfl)
      · intro a w' hx hux hu hd K hK; have e17 := Flow.got (hd 1 (by decide)) 17 rfl; exact Flow.run1 rfl (fa rfl e17 (fa83_0 _ _ _)) (hK _ _ (Below.refl _ _) rfl)
      · intro a w' hx hux hu hd K hK; have e18 := Flow.got (hd 2 (by decide)) 18 rfl; exact Flow.run1 rfl (ld rfl e18 (hux.2 rfl) Try.underlying81 rfl) (hK _ _ (Below.refl _ _) rfl)
      · intro a w' hx hux hu hd K hK; have e4 : a.tmps.getD 4 undef = (.pointer (some ⟨g3, 0, none⟩)) := hu 4 rfl; exact Flow.run1 rfl (ldrow rfl e4 (lies_block (hx.blk Kg3_4.out (ne_ty Kg3_4.out KC_3_4.out (by decide)))) Try.underlying36 rfl size36) (hK _ _ (Below.refl _ _) rfl)
      · intro a w' hx hux hu hd K hK; have e2 : a.tmps.getD 2 undef = (.slice A n c) := hu 2 rfl; exact Flow.run1 rfl (Flow.r_move rfl e2) (hK _ _ (Below.refl _ _) rfl)
      · intro a w' hx hux hu hd K hK; have e21 := Flow.got (hd 5 (by decide)) 21 rfl; refine Flow.want rfl ?_; refine Flow.val_call rfl Try.func38 (by kernel_rfl) rfl (by first | (simp only [List.map_toArray, List.map_cons, List.map_nil, Act.eval, e21]; done) | (simp only [List.map_toArray, List.map_cons, List.map_nil, Act.eval, e21]; rfl)) (clone_c A n c d w' (HC.out w' (KB.call HB4.out hx (fun _ hi => .inl (.inl hi)))) HL.out HN.out (by have := H47.out; omega)) ?_; rintro e w2 ⟨v, rfl, hR, hb2⟩; exact ⟨_, rfl, hK _ _ hb2 (u8R.of hR)⟩
      · intro a w' hx hux hu hd K hK; have e0 : a.tmps.getD 0 undef = (.pointer (some ⟨gC, 0, none⟩)) := hu 0 rfl; exact Flow.run1 rfl (Flow.r_move rfl e0) (hK _ _ (Below.refl _ _) rfl)
      · intro a w' hx hux hu hd K hK; have e23 := Flow.got (hd 7 (by decide)) 23 rfl; refine Flow.want rfl ?_; refine Flow.val_call rfl Try.func39 (by kernel_rfl) rfl (by first | (simp only [List.map_toArray, List.map_cons, List.map_nil, Act.eval, e23]; done) | (simp only [List.map_toArray, List.map_cons, List.map_nil, Act.eval, e23]; rfl)) (tick_c _ _ clock _ _ w' (hux.1 rfl) h0.1 (by omega)) ?_; rintro e w2 ⟨rfl, hk2, hkb2⟩; rw [c1H.out] at hk2 ⊢; exact ⟨_, rfl, hK _ _ ⟨hkb2, hk2, _, hux.1 rfl⟩ ⟨rfl, hk2⟩⟩
      · intro a w' hx hux hu hd K hK; obtain ⟨v22, p22, q22⟩ := hd 6 (by decide); have e22 : a.tmps.getD 22 undef = v22 := q22 22 rfl; obtain ⟨v24, p24, q24⟩ := hd 8 (by decide); have e24 : a.tmps.getD 24 undef = v24 := q24 24 rfl; refine Flow.want rfl ?_; obtain ⟨A2, c2, hv2⟩ := p22.slice; have e22b := e22.trans hv2; have e24b := e24.trans p24.1; exact Flow.val_run (bld86_0_1 rfl e22b e24b) (hK _ _ (Below.refl _ _) ⟨A2, c2, rfl, hv2 ▸ p22⟩)
    intro vs W5 hb5 hT
    have v0 := Flow.eqn (hT 0 (by decide))
    have v1 := Flow.eqn (hT 1 (by decide))
    have v2 := Flow.eqn (hT 2 (by decide))
    have v3 := Flow.eqn (hT 3 (by decide))
    have v4 := Flow.eqn (hT 4 (by decide))
    have v5 := Flow.eqn (hT 5 (by decide))
    have v7 := Flow.eqn (hT 7 (by decide))
    obtain ⟨v6x, v6, -⟩ : ∃ v : Value, _ = v ∧ u8R _ v d := ⟨_, rfl, hT 6 (by decide)⟩
    obtain ⟨v8, hkC8⟩ : _ = Value.int .i64 c1 ∧ _ := hT 8 (by decide)
    have KC8 := Aside0.mk hkC8
    clear hkC8
    obtain ⟨A2, c2, v9, hu9⟩ := hT 9 (by decide)
    have HU9 := Aside0.mk hu9
    clear hu9
    simp only [Flow.putsT, v0, v1, v2, v3, v4, v5, v6, v7, v8, v9, Act.put, List.setIfInBounds_toArray, List.set_cons_zero, List.set_cons_succ, List.drop_succ_cons, List.drop_zero, List.take_succ_cons, List.take_zero]
    clear hT v0 v1 v2 v3 v4 v5 v6 v7 v8 v9
    have HM_5 := Aside0.mk (MapIs.kb HM_4.out KC_3_4.out hb5)
    have HRW_5 := Aside0.mk (Rows.kb HRW_4.out KC_3_4.out (by decide) hb5)
    have Kg3_4_5 := Aside0.mk (hb5.blk Kg3_4.out (ne_ty Kg3_4.out KC_3_4.out (by decide)))
    have HB5 := Aside0.mk (KB.call HB4.out hb5 (fun _ hi => .inl (.inl hi)))
    clear hb5
    refine put_map (e := ⟨k, .slice A2 d.length c2, d, c1⟩) rfl rfl rfl HM_5.out (Nat.lt_of_le_of_lt HLEN.out (by decide)) rfl HGK.out rfl ?_
    intro W6 hm6 hg6
    have HRW_6 := Aside0.mk (Rows.map HRW_5.out HM_5.out.is_map hg6)
    have HU8_6 := Aside0.mk (u8R.map HU9.out HM_5.out.is_map hg6)
    have Kg3_4_5_6 := Aside0.mk (grown_blk hg6 Kg3_4_5.out (HM_5.out.ne Kg3_4_5.out))
    have KC8_6 := Aside0.mk (grown_blk hg6 KC8.out (HM_5.out.ne KC8.out))
    have HM_6 := Aside0.mk hm6
    have HB6 := Aside0.mk (KB.grown HB5.out hg6 (.inl (.inr rfl)))
    clear hm6 hg6
    simp only [Act.put, List.setIfInBounds_toArray, List.set_cons_zero, List.set_cons_succ]
    obtain ⟨m1, HM1⟩ : ∃ q, Aside0 ((⟨k, .slice A2 d.length c2, d, c1⟩ :: wo k m : List Ent) = q) := ⟨_, ⟨rfl⟩⟩
    obtain ⟨n1, HN1⟩ : ∃ q, Aside0 (m1.length = q) := ⟨_, ⟨rfl⟩⟩
    have HRW1 : Aside0 (Rows W6 m1) := ⟨by rw [← HM1.out]; exact Rows.cons (Rows.sub HRW_6.out (fun e he => wo_sub.subset he)) HU8_6.out⟩
    have HMM1 : Aside0 (MapIs W6 gM m1) := ⟨HM1.out ▸ HM_6.out⟩
    have HO1 : Aside0 (m1.Pairwise (fun a b => b.u < a.u)) := ⟨by rw [← HM1.out]; exact List.pairwise_cons.2 ⟨fun x hx => by have := (HU.out x (wo_sub.subset hx)).2; have := c1H.out; show x.u < c1; omega, HO.out.sublist wo_sub⟩⟩
    have HU1 : Aside0 (∀ e ∈ m1, 0 ≤ e.u ∧ e.u ≤ 4611686018427387904) := ⟨fun x hx => by rw [← HM1.out] at hx; have := c1H.out; exact (List.mem_cons.1 hx).elim (fun hx => by subst hx; show 0 ≤ c1 ∧ c1 ≤ _; omega) (fun hx => by have := HU.out x (wo_sub.subset hx); omega)⟩
    have hn1 : n1 ≤ 900001 := by have h1 := (wo_sub (k := k) (m := m)).length_le; have := HLEN.out; rw [← HN1.out, ← HM1.out, List.length_cons]; omega
    clear HM_6 HRW_6 HU8_6
    by_cases hov : (n1 : Int) > room
    · have HOV := Aside0.mk hov
      clear hov
      go_upto_region 3 with fail
      refine Flow.flowT (E := fun u v => Below u.heap.size u v) [(some 26, []), (some 27, [0]), (some 28, [1]), (some 29, [2]), (some 30, [3]), (some 31, []), (some 32, [5]), (some 33, [6]), (some 34, [7]), (some 35, [4, 8])] (fun iQ vQ wQ => match iQ with | 0 => vQ = (.pointer (some ⟨gC, 0, none⟩)) | 1 => vQ = (.pointer (some ⟨gC, 0, none⟩)) | 2 => vQ = (.pointer (some ⟨gC, 0, none⟩)) | 3 => vQ = (.map (some gM)) | 4 => vQ = (.int .i64 n1) | 5 => vQ = (.pointer (some ⟨gC, 0, none⟩)) | 6 => vQ = (.pointer (some ⟨gC, 0, none⟩)) | 7 => vQ = (.pointer (some ⟨gC, 1, none⟩)) | 8 => vQ = (.int .i64 room) | 9 => vQ = (.bool true) | _ => True) rfl (by kernel_rfl) (by kernel_rfl) (by kernel_rfl) ((Below.refl _ _).drew) (fun _ _ _ h k => h.trans (k.mono h.size)) (fun _ _ _ _ h _ => h) ?_ ?_
      · refine ⟨?_, ?_, ?_, ?_, ?_, ?_, ?_, ?_, ?_, ?_, trivial⟩
        · intro a w' hx hu hd K hK; have e0 : a.tmps.getD 0 undef = (.pointer (some ⟨gC, 0, none⟩)) := hu 0 rfl; exact Flow.run1 rfl (Flow.r_move rfl e0) (hK _ _ (Below.refl _ _) rfl)
        · intro a w' hx hu hd K hK; have e26 := Flow.got (hd 0 (by decide)) 26 rfl; exact Flow.run1 rfl (nilck rfl e26) (hK _ _ (Below.refl _ _) rfl)
        · intro a w' hx hu hd K hK; have e27 := Flow.got (hd 1 (by decide)) 27 rfl; exact Flow.run1 rfl (fa rfl e27 (fa83_0 _ _ _)) (hK _ _ (Below.refl _ _) rfl)
        · intro a w' hx hu hd K hK; have e28 := Flow.got (hd 2 (by decide)) 28 rfl; exact Flow.run1 rfl (ld rfl e28 ((blk_cell (blk_below KC8_6.out hx) 0).trans rfl) Try.underlying81 rfl) (hK _ _ (Below.refl _ _) rfl)
        · intro a w' hx hu hd K hK; have e29 := Flow.got (hd 3 (by decide)) 29 rfl; exact Flow.run1 rfl (lenM rfl e29 (HMM1.out.below hx) HN1.out) (hK _ _ (Below.refl _ _) rfl)
        · intro a w' hx hu hd K hK; have e0 : a.tmps.getD 0 undef = (.pointer (some ⟨gC, 0, none⟩)) := hu 0 rfl; exact Flow.run1 rfl (Flow.r_move rfl e0) (hK _ _ (Below.refl _ _) rfl)
        · intro a w' hx hu hd K hK; have e31 := Flow.got (hd 5 (by decide)) 31 rfl; exact Flow.run1 rfl (nilck rfl e31) (hK _ _ (Below.refl _ _) rfl)
        · intro a w' hx hu hd K hK; have e32 := Flow.got (hd 6 (by decide)) 32 rfl; exact Flow.run1 rfl (fa rfl e32 (fa83_1 _ _ _)) (hK _ _ (Below.refl _ _) rfl)
        · intro a w' hx hu hd K hK; have e33 := Flow.got (hd 7 (by decide)) 33 rfl; exact Flow.run1 rfl (ld rfl e33 ((blk_cell (blk_below KC8_6.out hx) 1).trans rfl) Try.underlying3 rfl) (hK _ _ (Below.refl _ _) rfl)
        · intro a w' hx hu hd K hK; have e30 := Flow.got (hd 4 (by decide)) 30 rfl; have e34 := Flow.got (hd 8 (by decide)) 34 rfl; exact Flow.run1 rfl (yes (gtr rfl e30 e34) (decide_eq_true HOV.out)) (hK _ _ (Below.refl _ _) rfl)
      intro vs W7 hb7 hT
      have v0 := Flow.eqn (hT 0 (by decide))
      have v1 := Flow.eqn (hT 1 (by decide))
      have v2 := Flow.eqn (hT 2 (by decide))
      have v3 := Flow.eqn (hT 3 (by decide))
      have v4 := Flow.eqn (hT 4 (by decide))
      have v5 := Flow.eqn (hT 5 (by decide))
      have v6 := Flow.eqn (hT 6 (by decide))
      have v7 := Flow.eqn (hT 7 (by decide))
      have v8 := Flow.eqn (hT 8 (by decide))
      have v9 := Flow.eqn (hT 9 (by decide))
      simp only [Flow.putsT, v0, v1, v2, v3, v4, v5, v6, v7, v8, v9, Act.put, List.setIfInBounds_toArray, List.set_cons_zero, List.set_cons_succ]
      clear hT v0 v1 v2 v3 v4 v5 v6 v7 v8 v9
      have HB7 := Aside0.mk (KB.step HB6.out hb7)
      have HM_7 := Aside0.mk (MapIs.below HMM1.out hb7)
      have HRW_7 := Aside0.mk (Rows.below HRW1.out hb7)
      have Kg3_4_5_6_7 := Aside0.mk (blk_below Kg3_4_5_6.out hb7)
      have KC8_6_7 := Aside0.mk (blk_below KC8_6.out hb7)
      clear hb7
      go_upto_region 4 with fail
      refine Flow.seqT_head (E := fun u v => Below u.heap.size u v) 1 [(some 36, []), (some 37, [0]), (some 6, [1, 1, 0, 1])] (fun iQ vQ wQ => match iQ with | 0 => vQ = (.pointer (some ⟨gC, 0, none⟩)) | _ => True) rfl (by decide) (by kernel_rfl) (Below.refl _ _) (fun _ _ _ h k => h.trans (k.mono h.size)) (fun _ _ _ _ h _ => h) ?_ ?_
      · refine ⟨?_, trivial⟩
        · intro a w' hx hu hd K hK; have e0 : a.tmps.getD 0 undef = (.pointer (some ⟨gC, 0, none⟩)) := hu 0 rfl; exact Flow.run1 rfl (Flow.r_move rfl e0) (hK _ _ (Below.refl _ _) rfl)
      intro vs W8 hb8 hT
      have v0 := Flow.eqn (hT 0 (by decide))
      simp only [Flow.putsT, v0, Act.put, List.setIfInBounds_toArray, List.set_cons_zero, List.set_cons_succ, List.drop_succ_cons, List.drop_zero, List.take_succ_cons, List.take_zero]
      clear hT v0
      have HB8 := Aside0.mk (KB.step HB7.out hb8)
      have HM_8 := Aside0.mk (MapIs.below HM_7.out hb8)
      have HRW_8 := Aside0.mk (Rows.below HRW_7.out hb8)
      have Kg3_4_5_6_7_8 := Aside0.mk (blk_below Kg3_4_5_6_7.out hb8)
      have KC8_6_7_8 := Aside0.mk (blk_below KC8_6_7.out hb8)
      clear hb8
      refine ecall rfl rfl Try.func27 (by kernel_rfl) rfl (args := #[.pointer (some ⟨gC, 0, none⟩)]) (by simp only [List.map_toArray, List.map_cons, List.map_nil, Act.eval]; rfl) (keys_c _ ⟨KC8_6_7_8.out, HM_8.out, HRW_8.out⟩ HO1.out HU1.out (by rw [HN1.out]; omega)) ?_
      rintro e W9 ⟨vk, rfl, hkr, hbz⟩
      refine ⟨_, rfl, ?_⟩
      obtain ⟨Ak, ck, rfl⟩ := hkr.slice
      rw [List.length_map, HN1.out] at hkr ⊢
      have HKR := Aside0.mk hkr
      clear hkr
      have HM_9 := Aside0.mk (MapIs.below HM_8.out hbz)
      have HRW_9 := Aside0.mk (Rows.below HRW_8.out hbz)
      have Kg3_4_5_6_7_8_9 := Aside0.mk (blk_below Kg3_4_5_6_7_8.out hbz)
      have KC8_6_7_8_9 := Aside0.mk (blk_below KC8_6_7_8.out hbz)
      have HB9 := Aside0.mk (KB.step HB8.out hbz)
      clear hbz
      simp only [Act.put, List.setIfInBounds_toArray, List.set_cons_zero, List.set_cons_succ]
      refine Flow.seqL (E := fun u v => Below u.heap.size u v) 2 1 [(some 36, []), (some 37, [0]), (some 6, [1, 1, 0, 1])] (fun iQ vQ wQ => match iQ with | 2 => vQ = (.slice Ak n1 ck) | _ => True) rfl (by decide) (by kernel_rfl) (Below.refl _ _) (fun _ _ _ h k => h.trans (k.mono h.size)) (fun _ _ _ _ h _ => h) ?_ ?_
      · refine ⟨?_, trivial⟩
        · intro a w' hx hu hd K hK; have e37 : a.tmps.getD 37 undef = (.slice Ak n1 ck) := hu 37 rfl; exact Flow.run1 rfl (Flow.r_assign rfl e37) (hK _ _ (Below.refl _ _) rfl)
      intro vs W10 hb10 hT
      have v2 := Flow.eqn (hT 2 (by decide) (by decide))
      simp only [Flow.putsT, v2, Act.put, List.setIfInBounds_toArray, List.set_cons_zero, List.set_cons_succ, List.drop_succ_cons, List.drop_zero, List.take_succ_cons, List.take_zero]
      clear hT v2
      have HB10 := Aside0.mk (KB.step HB9.out hb10)
      have HM_10 := Aside0.mk (MapIs.below HM_9.out hb10)
      have HRW_10 := Aside0.mk (Rows.below HRW_9.out hb10)
      have HKR_10 := Aside0.mk (KRow.below HKR.out hb10)
      have Kg3_4_5_6_7_8_9_10 := Aside0.mk (blk_below Kg3_4_5_6_7_8_9.out hb10)
      have KC8_6_7_8_9_10 := Aside0.mk (blk_below KC8_6_7_8_9.out hb10)
      clear hb10
      obtain ⟨j1, HJ1⟩ : ∃ q, Aside0 (n1 = q + 1) := ⟨n1 - 1, ⟨by have := HN1.out; rw [← HM1.out, List.length_cons] at this; omega⟩⟩
      have hj1 := HJ1.out
      have hjn : j1 < n1 := by omega
      obtain ⟨hnk, gk, hAk, hlk⟩ := HKR_10.out.at_ hjn
      obtain ⟨ad7, had7⟩ : ∃ q, (⟨gk, 0, none⟩ : Addr) = q := ⟨_, rfl⟩
      rw [had7] at hAk hlk
      subst hAk
      obtain ⟨kz, HKZ⟩ : ∃ q, Aside0 ((m1.map (·.k)).getD j1 ⟨0, 0, 0⟩ = q) := ⟨_, ⟨rfl⟩⟩
      rw [HKZ.out] at hlk
      have HLK := Aside0.mk hlk
      clear hlk had7 hnk
      have HGZ : Aside0 (G36 kz) := ⟨by rw [← HKZ.out, List.getD_eq_getElem?_getD, List.getElem?_map]; have h1 : j1 < m1.length := (by rw [HN1.out]; omega); rw [List.getElem?_eq_getElem h1]; exact HM_10.out.2.1 _ (List.getElem_mem h1)⟩
      have HWL := Aside0.mk (wo_last HM_10.out.2 (j := j1) (by rw [HN1.out]; omega))
      rw [HKZ.out] at HWL
      go_upto_region 5 with fail
      refine Flow.flowT_head (E := fun u v => Below u.heap.size u v) 10 [(some 38, []), (some 39, [0]), (some 40, [1]), (some 41, [2]), (some 42, []), (some 43, []), (some 44, [5]), (some 45, [6]), (some 46, [4, 7]), (some 47, [8]), (none, [3, 9])] (fun iQ vQ wQ => match iQ with | 0 => vQ = (.pointer (some ⟨gC, 0, none⟩)) | 1 => vQ = (.pointer (some ⟨gC, 0, none⟩)) | 2 => vQ = (.pointer (some ⟨gC, 0, none⟩)) | 3 => vQ = (.map (some gM)) | 4 => vQ = (.slice (some ad7) n1 ck) | 5 => vQ = (.slice (some ad7) n1 ck) | 6 => vQ = (.int .i64 n1) | 7 => vQ = (.int .i64 j1) | 8 => vQ = (.pointer (some (ad7.add (j1 * 3)))) | 9 => vQ = (.agg #[.int .i64 kz.f0, .int .i64 kz.f1, .int .i64 kz.f2]) | _ => True) rfl (by kernel_rfl) (by kernel_rfl) (by kernel_rfl) ((Below.refl _ _).drew) (fun _ _ _ h k => h.trans (k.mono h.size)) (fun _ _ _ _ h _ => h) ?_ ?_
      · refine ⟨?_, ?_, ?_, ?_, ?_, ?_, ?_, ?_, ?_, ?_, trivial⟩
        · intro a w' hx hu hd K hK; have e0 : a.tmps.getD 0 undef = (.pointer (some ⟨gC, 0, none⟩)) := hu 0 rfl; exact Flow.run1 rfl (Flow.r_move rfl e0) (hK _ _ (Below.refl _ _) rfl)
        · intro a w' hx hu hd K hK; have e38 := Flow.got (hd 0 (by decide)) 38 rfl; exact Flow.run1 rfl (nilck rfl e38) (hK _ _ (Below.refl _ _) rfl)
        · intro a w' hx hu hd K hK; have e39 := Flow.got (hd 1 (by decide)) 39 rfl; exact Flow.run1 rfl (fa rfl e39 (fa83_0 _ _ _)) (hK _ _ (Below.refl _ _) rfl)
        · intro a w' hx hu hd K hK; have e40 := Flow.got (hd 2 (by decide)) 40 rfl; exact Flow.run1 rfl (ld rfl e40 ((blk_cell (blk_below KC8_6_7_8_9_10.out hx) 0).trans rfl) Try.underlying81 rfl) (hK _ _ (Below.refl _ _) rfl)
        · intro a w' hx hu hd K hK; have e6 : a.tmps.getD 6 undef = (.slice (some ad7) n1 ck) := hu 6 rfl; exact Flow.run1 rfl (Flow.r_move rfl e6) (hK _ _ (Below.refl _ _) rfl)
        · intro a w' hx hu hd K hK; have e6 : a.tmps.getD 6 undef = (.slice (some ad7) n1 ck) := hu 6 rfl; exact Flow.run1 rfl (Flow.r_move rfl e6) (hK _ _ (Below.refl _ _) rfl)
        · intro a w' hx hu hd K hK; have e43 := Flow.got (hd 5 (by decide)) 43 rfl; exact Flow.run1 rfl (lenL Try.underlying53 rfl e43) (hK _ _ (Below.refl _ _) rfl)
        · intro a w' hx hu hd K hK; have e44 := Flow.got (hd 6 (by decide)) 44 rfl; exact Flow.run1 rfl (subk rfl e44 rfl (by omega) (by omega) (by omega)) (hK _ _ (Below.refl _ _) rfl)
        · intro a w' hx hu hd K hK; have e42 := Flow.got (hd 4 (by decide)) 42 rfl; have e45 := Flow.got (hd 7 (by decide)) 45 rfl; exact Flow.run1 rfl (ix (i := j1) Try.underlying53 size36 rfl e42 e45 hjn) (hK _ _ (Below.refl _ _) rfl)
        · intro a w' hx hu hd K hK; have e46 := Flow.got (hd 8 (by decide)) 46 rfl; exact Flow.run1 rfl (ldrow rfl e46 (lies_below HLK.out hx) Try.underlying36 rfl size36) (hK _ _ (Below.refl _ _) rfl)
      intro vs W11 hb11 hT
      have v0 := Flow.eqn (hT 0 (by decide))
      have v1 := Flow.eqn (hT 1 (by decide))
      have v2 := Flow.eqn (hT 2 (by decide))
      have v3 := Flow.eqn (hT 3 (by decide))
      have v4 := Flow.eqn (hT 4 (by decide))
      have v5 := Flow.eqn (hT 5 (by decide))
      have v6 := Flow.eqn (hT 6 (by decide))
      have v7 := Flow.eqn (hT 7 (by decide))
      have v8 := Flow.eqn (hT 8 (by decide))
      have v9 := Flow.eqn (hT 9 (by decide))
      simp only [Flow.putsT, v0, v1, v2, v3, v4, v5, v6, v7, v8, v9, Act.put, List.setIfInBounds_toArray, List.set_cons_zero, List.set_cons_succ, List.drop_succ_cons, List.drop_zero, List.take_succ_cons, List.take_zero]
      clear hT v0 v1 v2 v3 v4 v5 v6 v7 v8 v9
      have HB11 := Aside0.mk (KB.step HB10.out hb11)
      have HM_11 := Aside0.mk (MapIs.below HM_10.out hb11)
      have HRW_11 := Aside0.mk (Rows.below HRW_10.out hb11)
      have HKR_11 := Aside0.mk (KRow.below HKR_10.out hb11)
      have Kg3_4_5_6_7_8_9_10_11 := Aside0.mk (blk_below Kg3_4_5_6_7_8_9_10.out hb11)
      have KC8_6_7_8_9_10_11 := Aside0.mk (blk_below KC8_6_7_8_9_10.out hb11)
      clear hb11
      refine del_map (k := kz) rfl rfl rfl HM_11.out rfl HGZ.out ?_
      intro W12 hm12 hg12
      rw [HWL.out] at hm12
      have HRW_12 := Aside0.mk (Rows.map HRW_11.out HM_11.out.is_map hg12)
      have KC_12 := Aside0.mk (grown_blk hg12 KC8_6_7_8_9_10_11.out (HM_11.out.ne KC8_6_7_8_9_10_11.out))
      have HM_12 := Aside0.mk hm12
      have HB12 := Aside0.mk (KB.grown HB11.out hg12 (.inl (.inr rfl)))
      clear hm12 hg12
      simp only [Act.put, List.setIfInBounds_toArray, List.set_cons_zero, List.set_cons_succ]
      have HPM : Aside0 (putM room m ⟨k, .slice A2 d.length c2, d, c1⟩ = m1.dropLast) := ⟨by rw [putM_ov HR0.out (by show ((⟨k, .slice A2 d.length c2, d, c1⟩ :: wo k m : List Ent).length : Int) > room; rw [HM1.out, HN1.out]; exact HOV.out)]; exact congrArg List.dropLast HM1.out⟩
      go_wp2_with fail
      exact bodyPost_end (results_none Try.results18 _ _ _) rfl ⟨rfl, .slice A2 d.length c2, by rw [HPM.out]; exact ⟨KC_12.out, HM_12.out, Rows.sub HRW_12.out (fun e he => (List.dropLast_sublist _).subset he)⟩, HB12.out⟩
    · have HOV := Aside0.mk hov
      clear hov
      go_upto_region 3 with fail
      refine Flow.flowT (E := fun u v => Below u.heap.size u v) [(some 26, []), (some 27, [0]), (some 28, [1]), (some 29, [2]), (some 30, [3]), (some 31, []), (some 32, [5]), (some 33, [6]), (some 34, [7]), (some 35, [4, 8])] (fun iQ vQ wQ => match iQ with | 0 => vQ = (.pointer (some ⟨gC, 0, none⟩)) | 1 => vQ = (.pointer (some ⟨gC, 0, none⟩)) | 2 => vQ = (.pointer (some ⟨gC, 0, none⟩)) | 3 => vQ = (.map (some gM)) | 4 => vQ = (.int .i64 n1) | 5 => vQ = (.pointer (some ⟨gC, 0, none⟩)) | 6 => vQ = (.pointer (some ⟨gC, 0, none⟩)) | 7 => vQ = (.pointer (some ⟨gC, 1, none⟩)) | 8 => vQ = (.int .i64 room) | 9 => vQ = (.bool false) | _ => True) rfl (by kernel_rfl) (by kernel_rfl) (by kernel_rfl) ((Below.refl _ _).drew) (fun _ _ _ h k => h.trans (k.mono h.size)) (fun _ _ _ _ h _ => h) ?_ ?_
      · refine ⟨?_, ?_, ?_, ?_, ?_, ?_, ?_, ?_, ?_, ?_, trivial⟩
        · intro a w' hx hu hd K hK; have e0 : a.tmps.getD 0 undef = (.pointer (some ⟨gC, 0, none⟩)) := hu 0 rfl; exact Flow.run1 rfl (Flow.r_move rfl e0) (hK _ _ (Below.refl _ _) rfl)
        · intro a w' hx hu hd K hK; have e26 := Flow.got (hd 0 (by decide)) 26 rfl; exact Flow.run1 rfl (nilck rfl e26) (hK _ _ (Below.refl _ _) rfl)
        · intro a w' hx hu hd K hK; have e27 := Flow.got (hd 1 (by decide)) 27 rfl; exact Flow.run1 rfl (fa rfl e27 (fa83_0 _ _ _)) (hK _ _ (Below.refl _ _) rfl)
        · intro a w' hx hu hd K hK; have e28 := Flow.got (hd 2 (by decide)) 28 rfl; exact Flow.run1 rfl (ld rfl e28 ((blk_cell (blk_below KC8_6.out hx) 0).trans rfl) Try.underlying81 rfl) (hK _ _ (Below.refl _ _) rfl)
        · intro a w' hx hu hd K hK; have e29 := Flow.got (hd 3 (by decide)) 29 rfl; exact Flow.run1 rfl (lenM rfl e29 (HMM1.out.below hx) HN1.out) (hK _ _ (Below.refl _ _) rfl)
        · intro a w' hx hu hd K hK; have e0 : a.tmps.getD 0 undef = (.pointer (some ⟨gC, 0, none⟩)) := hu 0 rfl; exact Flow.run1 rfl (Flow.r_move rfl e0) (hK _ _ (Below.refl _ _) rfl)
        · intro a w' hx hu hd K hK; have e31 := Flow.got (hd 5 (by decide)) 31 rfl; exact Flow.run1 rfl (nilck rfl e31) (hK _ _ (Below.refl _ _) rfl)
        · intro a w' hx hu hd K hK; have e32 := Flow.got (hd 6 (by decide)) 32 rfl; exact Flow.run1 rfl (fa rfl e32 (fa83_1 _ _ _)) (hK _ _ (Below.refl _ _) rfl)
        · intro a w' hx hu hd K hK; have e33 := Flow.got (hd 7 (by decide)) 33 rfl; exact Flow.run1 rfl (ld rfl e33 ((blk_cell (blk_below KC8_6.out hx) 1).trans rfl) Try.underlying3 rfl) (hK _ _ (Below.refl _ _) rfl)
        · intro a w' hx hu hd K hK; have e30 := Flow.got (hd 4 (by decide)) 30 rfl; have e34 := Flow.got (hd 8 (by decide)) 34 rfl; exact Flow.run1 rfl (no (gtr rfl e30 e34) (decide_eq_false HOV.out)) (hK _ _ (Below.refl _ _) rfl)
      intro vs W13 hb13 hT
      have v0 := Flow.eqn (hT 0 (by decide))
      have v1 := Flow.eqn (hT 1 (by decide))
      have v2 := Flow.eqn (hT 2 (by decide))
      have v3 := Flow.eqn (hT 3 (by decide))
      have v4 := Flow.eqn (hT 4 (by decide))
      have v5 := Flow.eqn (hT 5 (by decide))
      have v6 := Flow.eqn (hT 6 (by decide))
      have v7 := Flow.eqn (hT 7 (by decide))
      have v8 := Flow.eqn (hT 8 (by decide))
      have v9 := Flow.eqn (hT 9 (by decide))
      simp only [Flow.putsT, v0, v1, v2, v3, v4, v5, v6, v7, v8, v9, Act.put, List.setIfInBounds_toArray, List.set_cons_zero, List.set_cons_succ]
      clear hT v0 v1 v2 v3 v4 v5 v6 v7 v8 v9
      have HB13 := Aside0.mk (KB.step HB6.out hb13)
      have HM_13 := Aside0.mk (MapIs.below HMM1.out hb13)
      have HRW_13 := Aside0.mk (Rows.below HRW1.out hb13)
      have Kg3_4_5_6_13 := Aside0.mk (blk_below Kg3_4_5_6.out hb13)
      have KC8_6_13 := Aside0.mk (blk_below KC8_6.out hb13)
      clear hb13
      have HPM : Aside0 (putM room m ⟨k, .slice A2 d.length c2, d, c1⟩ = m1) := ⟨by rw [putM_no HR0.out (by show ¬ ((⟨k, .slice A2 d.length c2, d, c1⟩ :: wo k m : List Ent).length : Int) > room; rw [HM1.out, HN1.out]; exact HOV.out)]; exact HM1.out⟩
      go_wp2_with fail
      exact bodyPost_end (results_none Try.results18 _ _ _) rfl ⟨rfl, .slice A2 d.length c2, by rw [HPM.out]; exact ⟨KC8_6_13.out, HM_13.out, HRW_13.out⟩, HB13.out⟩
end Go.Proofs.Ytlhmpmmblnbmbaa.Cac
