/- Get of a cache. -/
import Derived.Test.YtlhmpmmblnbmbaaCacK2
set_option linter.unusedVariables false
set_option linter.unusedSimpArgs false
namespace Go.Proofs.Ytlhmpmmblnbmbaa.Cac
open Go Go.RowKit Go.Proofs.Ytlhmpmmblnbmbaa.PCachePlays Go.Proofs.YtlhmpmmblnbmbaaW.PrintWords Go.Proofs.YtlhmpmmblnbmbaaW.PrintLast Go.Proofs.YtlhmpmmblnbmbaaW.PrintMore Go.Proofs.Ytlhmpmmblnbmbaa.FlowU Go.Proofs.Ytlhmpmmblnbmbaa.Ev Go.Proofs.Ytlhmpmmblnbmbaa.Ke Go.Proofs.Ytlhmpmmblnbmbaa.Cells
theorem fa86_0 (g o : Nat) (w : World) : (Instr.fieldAt 86 (.pointer (some ⟨g, o, none⟩)) 0).run Try.prog w = .ok (.pointer (some ⟨g, o, none⟩)) w := by
  have hu := Try.underlying86
  go_simp
theorem fad86_0 (ad : Addr) (w : World) : (Instr.fieldAt 86 (.pointer (some ad)) 0).run Try.prog w = .ok (.pointer (some (ad.add 0))) w := by
  have hu := Try.underlying86
  go_simp
theorem fa86_1 (g o : Nat) (w : World) : (Instr.fieldAt 86 (.pointer (some ⟨g, o, none⟩)) 1).run Try.prog w = .ok (.pointer (some ⟨g, o + 1, none⟩)) w := by
  have hu := Try.underlying86
  go_simp
theorem fad86_1 (ad : Addr) (w : World) : (Instr.fieldAt 86 (.pointer (some ad)) 1).run Try.prog w = .ok (.pointer (some (ad.add 1))) w := by
  have hu := Try.underlying86
  go_simp
theorem size86 : (Try.prog.info? 86).map (·.size) = some 2 := by kernel_rfl
theorem zero86_is : (Try.prog.info? 86).map (·.zero) = some (some (.agg #[.slice none 0 0, .int .i64 0])) := by kernel_rfl
theorem ne_ty {w : World} {q g t s : Nat} {x y : Array Value} (hq : w.heap[q]? = some (.cells x t (0, 0))) (hg : w.heap[g]? = some (.cells y s (0, 0))) (h : t ≠ s) : q ≠ g := fun e => by
  rw [e, hg] at hq
  injection hq with hq
  injection hq with _ hq _
  exact h hq.symm
section
variable {W W1 : World} {m : List Ent} {v : Value} {d : List Int} {g b t : Nat} {cs : Array Value}
theorem u8R.kb (h : u8R W v d) (hk : W.heap[g]? = some (.cells cs t (0, 0))) (ht : t ≠ 5) (hb : KB (fun k => k = g) W W1) : u8R W1 v d := by
  refine Kd.R_mono (Kd.R_move (Kd.R_bound h) (fun k hk2 => hb.block k hk2.2.2.1 (fun e => ?_))) (fun _ hk => hk.1)
  subst e
  obtain ⟨_, _, _, q, hq, cells, hc⟩ := hk2
  rw [hk] at hc
  injection hc with hc
  injection hc with _ hc _
  simp [Kd.int, Kd.scalar] at hq
  exact ht (hc.trans hq)
theorem Rows.kb (h : Rows W m) (hk : W.heap[g]? = some (.cells cs t (0, 0))) (ht : t ≠ 5) (hb : KB (fun k => k = g) W W1) : Rows W1 m := fun e he => (h e he).kb hk ht hb
theorem MapIs.kb (h : MapIs W b m) (hk : W.heap[g]? = some (.cells cs t (0, 0))) (hb : KB (fun k => k = g) W W1) : MapIs W1 b m := h.of_heap (hb.block b h.lt (h.ne hk))
theorem u8R.of {base : Nat} (h : (Kd.int .u8).R 5 W base (fun _ => True) v d) : u8R W v d := Kd.R_lower h (Nat.zero_le _)
theorem alloc_run {P : Program} {o : Oper} {a : Act} {w : World} {t : TypeId} {z : Value} (ho : o.op = .alloc t) (hz : (P.info? t).map (·.zero) = some (some z)) : (execOp a.eval o).run P w = .ok (.value (.pointer (some ⟨w.heap.size, 0, none⟩))) (w.alloc (.cells z.cells t (0, 0))) := by
  obtain ⟨i, hi, hzz⟩ := Option.map_eq_some_iff.1 hz
  unfold execOp
  simp only [ho]
  simp [zeroValue, typeInfo, hi, hzz, newVar, newRow, Sem.run_bind, go_sem]
theorem store_run {P : Program} {o : Oper} {a : Act} {w : World} {ty : TypeId} {x y : Operand} {g : Nat} {c : List Value} {cs0 : Array Value} (ho : o.op = .store ty x y) (hx : a.eval x = .pointer (some ⟨g, 0, none⟩)) (hy : a.eval y = .agg c.toArray) (hg : w.heap[g]? = some (.cells cs0 ty (0, 0))) (hs : cs0.size = c.length) (hi : (P.info? ty).map (·.size) = some c.length) (h1 : c.all (·.oneCell') = true) :
    ∃ w1, (execOp a.eval o).run P w = .ok .skip w1 ∧ w1.heap[g]? = some (.cells c.toArray ty (0, 0)) ∧ (∀ k, k ≠ g → w1.heap[k]? = w.heap[k]?) ∧ (∀ B, B ≤ g → Below B w w1) ∧ w1.heap.size = w.heap.size := by
  have hrun := run_storeVar_mid (P := P) w g 0 ty c.toArray (fun j hj => by
    rw [Nat.zero_add, cell_of_row w g j _ _ _ hg]
    have hj' : j < cs0.size := by simpa [hs] using hj
    exact ⟨by simp [Array.getElem?_eq_getElem hj'], by simp [World.frozen?, hg]⟩) (by simpa using hi) (all_oneCell_toArray (fun v hv => List.all_eq_true.1 h1 v hv))
  obtain ⟨cur', hc1, hc2, hc3⟩ := setCells_row c 0 w cs0 hg (by omega)
  have e : cur' = c.toArray := by
    apply Array.toList_inj.1
    rw [hc3]; simp [List.drop_eq_nil_of_le, hs]
  subst e
  obtain ⟨s1, s2, s3, s4⟩ := setCells_same g c 0 w
  refine ⟨w.setCells g 0 c, ?_, hc1, fun k hk => setCells_far c 0 k hk, fun B hB => ⟨s1, s2, s3, by rw [s4]; exact Nat.le_refl _, fun k hk => setCells_far c 0 k (by omega)⟩, s4⟩
  unfold execOp
  simp only [ho, hx, hy, Instr.storeAt, Instr.sureAddr, Sem.run_bind, Sem.run_pure, Result.andThen_ok]
  rw [hrun]
  simp
theorem store_kS {P : Program} {o : Oper} {a : Act} {w : World} {K : Act → World → Prop} {Q : Exit → Act → World → Prop} {ty : TypeId} {x y : Operand} {g : Nat} {c : List Value} {cs0 : Array Value} (ho : o.op = .store ty x y) (hx : a.eval x = .pointer (some ⟨g, 0, none⟩)) (hy : a.eval y = .agg c.toArray) (hg : w.heap[g]? = some (.cells cs0 ty (0, 0))) (hs : cs0.size = c.length) (hi : (P.info? ty).map (·.size) = some c.length) (h1 : c.all (·.oneCell') = true)
    (h : ∀ w1, w1.heap[g]? = some (.cells c.toArray ty (0, 0)) → (∀ k, k ≠ g → w1.heap[k]? = w.heap[k]?) → (∀ B, B ≤ g → Below B w w1) → w1.heap.size = w.heap.size → K (a.put o.dst undef) w1) : o.wp P a w K Q := by
  obtain ⟨w1, hr, k1, hf, hB, hz⟩ := store_run ho hx hy hg hs hi h1
  exact Flow.skip_run hr (h w1 k1 hf hB hz)
end
set_option maxHeartbeats 4000000 in
set_option maxRecDepth 100000 in
theorem get_c {gC gM : Nat} {room clock hits misses : Int} {m : List Ent} (k : S36) (hgk : G36 k) (w : World) (h : CA w gC gM room clock hits misses m) (h0 : 0 ≤ clock ∧ clock ≤ 4611686018427387900) (h1 : 0 ≤ hits ∧ hits ≤ 4611686018427387904) (h2 : 0 ≤ misses ∧ misses ≤ 4611686018427387904) (hlen : m.length ≤ 1000000) (hdl : ∀ e ∈ m, e.d.length ≤ 1000000) : Calls Try.prog 19 #[.pointer (some ⟨gC, 0, none⟩), kv k] w fun e w' => match at_ k m with
    | none => e = .returned (.tuple #[.slice none 0 0, .bool false]) ∧ CA w' gC gM room clock hits (misses + 1) m ∧ KB (S2 gC gM) w w'
    | some e0 => ∃ v, e = .returned (.tuple #[v, .bool true]) ∧ (Kd.int .u8).R 5 w' 0 (fun _ => True) v e0.d ∧ CA w' gC gM room (clock + 1) (hits + 1) misses (⟨k, e0.v, e0.d, clock + 1⟩ :: wo k m) ∧ KB (S2 gC gM) w w' := by
  have KC := Aside0.mk h.cell
  have HM := Aside0.mk h.map
  have HRW := Aside0.mk h.rows
  have HGK := Aside0.mk hgk
  clear h hgk
  obtain ⟨c1, c1H⟩ : ∃ q, Aside0 (clock + 1 = q) := ⟨_, ⟨rfl⟩⟩
  have c1B : Aside0 (-9223372036854775808 ≤ c1 ∧ c1 ≤ 9223372036854775807) := ⟨by have := c1H.out; omega⟩
  obtain ⟨h1, h1H⟩ : ∃ q, Aside0 (hits + 1 = q) := ⟨_, ⟨rfl⟩⟩
  have h1B : Aside0 (-9223372036854775808 ≤ h1 ∧ h1 ≤ 9223372036854775807) := ⟨by have := h1H.out; omega⟩
  obtain ⟨m1, m1H⟩ : ∃ q, Aside0 (misses + 1 = q) := ⟨_, ⟨rfl⟩⟩
  have m1B : Aside0 (-9223372036854775808 ≤ m1 ∧ m1 ≤ 9223372036854775807) := ⟨by have := m1H.out; omega⟩
  rw [c1H.out, h1H.out, m1H.out]
  obtain ⟨ko, HKO⟩ : ∃ q, Aside0 (at_ k m = q) := ⟨_, ⟨rfl⟩⟩
  rw [HKO.out]
  obtain ⟨vl, HVL⟩ : ∃ q, Aside0 (lk k m = q) := ⟨_, ⟨rfl⟩⟩
  unfold kv
  cases ko with
  | none =>
    have HVE := Aside0.mk (show vl = .agg #[.slice none 0 0, .int .i64 0] by rw [← HVL.out]; unfold lk; rw [HKO.out]; rfl)
    dsimp only
    go_enter Try.func19, Try.ntmps19
    go_upto_region 0 with fail
    refine wp_region_lit ?_
    refine ebox (v := (.agg #[.int .i64 k.f0, .int .i64 k.f1, .int .i64 k.f2])) rfl rfl rfl ?_
    intro g1 hg1 W1 hk1 hb1
    have Kg1 := Aside0.mk hk1
    have HB1 := Aside0.mk (KB.of_below (S := S2 gC gM) hb1)
    have HM_1 := Aside0.mk (MapIs.below HM.out hb1)
    have HRW_1 := Aside0.mk (Rows.below HRW.out hb1)
    have KC_1 := Aside0.mk (blk_below KC.out hb1)
    clear hb1
    have Gg1 := Aside0.mk (show w.heap.size ≤ g1 by rw [hg1]; exact Nat.le_refl _)
    clear hg1 hk1
    simp only [Act.put, List.setIfInBounds_toArray, List.set_cons_zero, List.set_cons_succ]
    refine Flow.seqL (E := fun u v => Below u.heap.size u v) 1 2 [(some 3, []), (some 4, []), (some 5, [1])] (fun iQ vQ wQ => match iQ with | 1 => vQ = (.slice none 0 0) | 2 => vQ = (.bool false) | _ => True) rfl (by decide) (by kernel_rfl) (Below.refl _ _) (fun _ _ _ h k => h.trans (k.mono h.size)) (fun _ _ _ _ h _ => h) ?_ ?_
    · refine ⟨?_, ?_, trivial⟩
      · intro a w' hx hu hd K hK; exact Flow.run1 rfl (Flow.r_assign rfl rfl) (hK _ _ (Below.refl _ _) rfl)
      · intro a w' hx hu hd K hK; exact Flow.run1 rfl (Flow.r_assign rfl rfl) (hK _ _ (Below.refl _ _) rfl)
    intro vs W2 hb2 hT
    have v1 := Flow.eqn (hT 1 (by decide) (by decide))
    have v2 := Flow.eqn (hT 2 (by decide) (by decide))
    simp only [Flow.putsT, v1, v2, Act.put, List.setIfInBounds_toArray, List.set_cons_zero, List.set_cons_succ, List.drop_succ_cons, List.drop_zero, List.take_succ_cons, List.take_zero]
    clear hT v1 v2
    have HB2 := Aside0.mk (KB.step HB1.out hb2)
    have HM_2 := Aside0.mk (MapIs.below HM_1.out hb2)
    have HRW_2 := Aside0.mk (Rows.below HRW_1.out hb2)
    have KC_1_2 := Aside0.mk (blk_below KC_1.out hb2)
    have Kg1_2 := Aside0.mk (blk_below Kg1.out hb2)
    clear hb2
    go_upto_region 1 with fail
    refine Flow.seqT (E := fun u v => Below u.heap.size u v) [(some 8, []), (some 9, [0])] (fun iQ vQ wQ => match iQ with | 0 => vQ = (.pointer (some ⟨gC, 0, none⟩)) | 1 => vQ = (.bool false) | _ => True) rfl (by kernel_rfl) (Below.refl _ _) (fun _ _ _ h k => h.trans (k.mono h.size)) (fun _ _ _ _ h _ => h) ?_ ?_
    · refine ⟨?_, ?_, trivial⟩
      · intro a w' hx hu hd K hK; have e0 : a.tmps.getD 0 undef = (.pointer (some ⟨gC, 0, none⟩)) := hu 0 rfl; exact Flow.run1 rfl (Flow.r_move rfl e0) (hK _ _ (Below.refl _ _) rfl)
      · intro a w' hx hu hd K hK; have e8 := Flow.got (hd 0 rfl) 8 rfl; exact Flow.run1 rfl (ptre rfl e8 rfl) (hK _ _ (Below.refl _ _) rfl)
    intro vs W3 hb3 hT
    have v0 := Flow.eqn (hT 0 (by decide))
    have v1 := Flow.eqn (hT 1 (by decide))
    simp only [Flow.putsT, v0, v1, Act.put, List.setIfInBounds_toArray, List.set_cons_zero, List.set_cons_succ]
    clear hT v0 v1
    have HB3 := Aside0.mk (KB.step HB2.out hb3)
    have HM_3 := Aside0.mk (MapIs.below HM_2.out hb3)
    have HRW_3 := Aside0.mk (Rows.below HRW_2.out hb3)
    have KC_1_2_3 := Aside0.mk (blk_below KC_1_2.out hb3)
    have Kg1_2_3 := Aside0.mk (blk_below Kg1_2.out hb3)
    clear hb3
    obtain ⟨g6, HG6⟩ : ∃ q, Aside0 (W3.heap.size = q) := ⟨_, ⟨rfl⟩⟩
    have Gg6 := Aside0.mk (show w.heap.size ≤ g6 by rw [← HG6.out]; exact HB3.out.size)
    go_upto_region 3 with fail
    refine FlowU.flowS Still ([(9, fun u v : World => u.heap.size = g6 ∧ v = u.alloc (.cells #[.slice none 0 0, .int .i64 0] 86 (0, 0))), (10, fun u v : World => v.os = u.os ∧ v.tape = u.tape ∧ v.output = u.output ∧ v.heap.size = u.heap.size ∧ (∀ k, k ≠ g6 → v.heap[k]? = u.heap[k]?) ∧ v.heap[g6]? = some (.cells #[.slice none 0 0, .int .i64 0] 86 (0, 0)))]) [(some 11, []), (some 12, [0]), (some 13, [1]), (some 14, [2]), (some 15, []), (some 16, [3, 4]), (some 10, [5]), (some 17, [6]), (some 18, [6]), (some 6, []), (none, [9, 7, 0, 1, 2, 3, 4, 5, 6, 7, 9]), (some 7, [8, 10, 0, 1, 2, 3, 4, 5, 6, 7, 8, 9, 10])] (fun iQ vQ wQ => match iQ with | 0 => vQ = (.pointer (some ⟨gC, 0, none⟩)) | 1 => vQ = (.pointer (some ⟨gC, 0, none⟩)) | 2 => vQ = (.pointer (some ⟨gC, 0, none⟩)) | 3 => vQ = (.map (some gM)) | 4 => vQ = (.agg #[.int .i64 k.f0, .int .i64 k.f1, .int .i64 k.f2]) | 5 => vQ = (.tuple #[.agg #[.slice none 0 0, .int .i64 0], .bool false]) | 6 => vQ = (.tuple #[.agg #[.slice none 0 0, .int .i64 0], .bool false]) | 7 => vQ = (.agg #[.slice none 0 0, .int .i64 0]) | 8 => vQ = (.bool false) | 9 => (vQ = .pointer (some ⟨g6, 0, none⟩) ∧ ∃ cs : Array Value, wQ.heap[g6]? = some (.cells cs 86 (0, 0)) ∧ cs.size = 2) | 10 => wQ.heap[g6]? = some (.cells #[.slice none 0 0, .int .i64 0] 86 (0, 0)) | 11 => vQ = (.bool false) | _ => True) rfl (by kernel_rfl) (by kernel_rfl) (by kernel_rfl) (G := fun u v => Below g6 u v) (U := fun iQ wQ => iQ = 9 → wQ.heap.size = g6) (Below.refl _ _).drew (fun iQ _ => HG6.out) (fun _ _ _ h k => h.trans k) (fun _ _ h => h.below) ⟨fun u v h => by rw [h.2]; exact (Below.refl _ _).alloc (Nat.le_of_eq h.1.symm) _, fun u v h => ⟨h.1, h.2.1, h.2.2.1, Nat.le_of_eq h.2.2.2.1.symm, fun k hk => h.2.2.2.2.1 k (by omega)⟩, trivial⟩ (fun iQ vQ w1Q w2Q hQ hE => match iQ, hQ with | 0, hQ => hQ | 1, hQ => hQ | 2, hQ => hQ | 3, hQ => hQ | 4, hQ => hQ | 5, hQ => hQ | 6, hQ => hQ | 7, hQ => hQ | 8, hQ => hQ | 9, hQ => (by rw [hE.2.2.2]; exact hQ) | 10, hQ => (by rw [hE.2.2.2]; exact hQ) | 11, hQ => hQ | _ + 12, _ => trivial) (fun iQ w1Q w2Q hU hE h => by rw [hE.2.2.2]; exact hU h) ⟨fun iQ vQ w1Q w2Q hn hQ hX => match iQ, hn, hQ with | 0, _, hQ => hQ | 1, _, hQ => hQ | 2, _, hQ => hQ | 3, _, hQ => hQ | 4, _, hQ => hQ | 5, _, hQ => hQ | 6, _, hQ => hQ | 7, _, hQ => hQ | 8, _, hQ => hQ | 9, hn, hQ => absurd rfl hn | 10, hn, hQ => (by rw [hX.2]; exact blk_alloc hQ _) | 11, _, hQ => hQ | _ + 12, _, _ => trivial, fun iQ w1Q w2Q hn hU hX h => absurd h hn, fun iQ vQ w1Q w2Q hn hQ hX => match iQ, hn, hQ with | 0, _, hQ => hQ | 1, _, hQ => hQ | 2, _, hQ => hQ | 3, _, hQ => hQ | 4, _, hQ => hQ | 5, _, hQ => hQ | 6, _, hQ => hQ | 7, _, hQ => hQ | 8, _, hQ => hQ | 9, hn, hQ => ⟨hQ.1, _, hX.2.2.2.2.2, rfl⟩ | 10, hn, hQ => absurd rfl hn | 11, _, hQ => hQ | _ + 12, _, _ => trivial, fun iQ w1Q w2Q hn hU hX h => hX.2.2.2.1.trans (hU h), trivial⟩ ?_ ?_
    · refine ⟨?_, ?_, ?_, ?_, ?_, ?_, ?_, ?_, ?_, ?_, ?_, ?_, trivial⟩
      · intro a w' hx hux hu hd K hK; rw [← HG6.out] at hx; have e0 : a.tmps.getD 0 undef = (.pointer (some ⟨gC, 0, none⟩)) := hu 0 rfl; exact Flow.run1 rfl (Flow.r_move rfl e0) (hK _ _ (Still.refl _) rfl)
      · intro a w' hx hux hu hd K hK; rw [← HG6.out] at hx; have e11 := Flow.got (hd 0 (by decide)) 11 rfl; exact Flow.run1 rfl (nilck rfl e11) (hK _ _ (Still.refl _) rfl)
      · intro a w' hx hux hu hd K hK; rw [← HG6.out] at hx; have e12 := Flow.got (hd 1 (by decide)) 12 rfl; exact Flow.run1 rfl (fa rfl e12 (fa83_0 _ _ _)) (hK _ _ (Still.refl _) rfl)
      · intro a w' hx hux hu hd K hK; rw [← HG6.out] at hx; have e13 := Flow.got (hd 2 (by decide)) 13 rfl; exact Flow.run1 rfl (ld rfl e13 ((blk_cell (blk_below KC_1_2_3.out hx) 0).trans rfl) Try.underlying81 rfl) (hK _ _ (Still.refl _) rfl)
      · intro a w' hx hux hu hd K hK; rw [← HG6.out] at hx; have e3 : a.tmps.getD 3 undef = (.pointer (some ⟨g1, 0, none⟩)) := hu 3 rfl; exact Flow.run1 rfl (ldrow rfl e3 (lies_block (blk_below Kg1_2_3.out hx)) Try.underlying36 rfl size36) (hK _ _ (Still.refl _) rfl)
      · intro a w' hx hux hu hd K hK; rw [← HG6.out] at hx; have e14 := Flow.got (hd 3 (by decide)) 14 rfl; have e15 := Flow.got (hd 4 (by decide)) 15 rfl; exact Flow.run1 rfl (lkr (k := k) rfl e14 e15 (HM_3.out.below hx) HGK.out (HVL.out.trans HVE.out) (by rw [HKO.out]; rfl)) (hK _ _ (Still.refl _) rfl)
      · intro a w' hx hux hu hd K hK; rw [← HG6.out] at hx; have e16 := Flow.got (hd 5 (by decide)) 16 rfl; exact Flow.run1 rfl (Flow.r_move rfl e16) (hK _ _ (Still.refl _) rfl)
      · intro a w' hx hux hu hd K hK; rw [← HG6.out] at hx; have e10 := Flow.got (hd 6 (by decide)) 10 rfl; exact Flow.run1 rfl (extr rfl e10 rfl) (hK _ _ (Still.refl _) rfl)
      · intro a w' hx hux hu hd K hK; rw [← HG6.out] at hx; have e10 := Flow.got (hd 6 (by decide)) 10 rfl; exact Flow.run1 rfl (extr rfl e10 rfl) (hK _ _ (Still.refl _) rfl)
      · intro a w' hx hux hu hd K hK; rw [← HG6.out] at hx; refine Flow.want rfl ?_; exact Flow.val_run (alloc_run rfl zero86_is) (hK _ _ ⟨hux rfl, rfl⟩ ⟨by rw [hux rfl], _, (by rw [← hux rfl]; exact blk_new _ _), rfl⟩)
      · intro a w' hx hux hu hd K hK; rw [← HG6.out] at hx; obtain ⟨v6, p6, q6⟩ := hd 9 (by decide); have e6 : a.tmps.getD 6 undef = v6 := q6 6 rfl; have e17 := Flow.got (hd 7 (by decide)) 17 rfl; refine Flow.want rfl ?_; obtain ⟨hp6, cs6, hc6, hs6⟩ := p6; have e6b := e6.trans hp6; refine store_kS (c := [.slice none 0 0, .int .i64 0]) rfl e6b e17 hc6 hs6 size86 rfl ?_; intro w1 hk1 hf1 hB1 hs1; exact (hK _ _ ⟨(hB1 0 (Nat.zero_le _)).os, (hB1 0 (Nat.zero_le _)).tape, (hB1 0 (Nat.zero_le _)).output, hs1, hf1, hk1⟩ hk1)
      · intro a w' hx hux hu hd K hK; rw [← HG6.out] at hx; have e18 := Flow.got (hd 8 (by decide)) 18 rfl; exact Flow.run1 rfl (Flow.r_assign rfl e18) (hK _ _ (Still.refl _) rfl)
    intro vs W4 hb4 hT
    rw [← HG6.out] at hb4
    have v0 := Flow.eqn (hT 0 (by decide))
    have v1 := Flow.eqn (hT 1 (by decide))
    have v2 := Flow.eqn (hT 2 (by decide))
    have v3 := Flow.eqn (hT 3 (by decide))
    have v4 := Flow.eqn (hT 4 (by decide))
    have v5 := Flow.eqn (hT 5 (by decide))
    have v6 := Flow.eqn (hT 6 (by decide))
    have v7 := Flow.eqn (hT 7 (by decide))
    have v8 := Flow.eqn (hT 8 (by decide))
    have v11 := Flow.eqn (hT 11 (by decide))
    obtain ⟨v9, -⟩ : _ = Value.pointer (some ⟨g6, 0, none⟩) ∧ _ := hT 9 (by decide)
    have Kg6 := Aside0.mk (show W4.heap[g6]? = _ from hT 10 (by decide))
    simp only [Flow.putsT, v0, v1, v2, v3, v4, v5, v6, v7, v8, v9, v11, Act.put, List.setIfInBounds_toArray, List.set_cons_zero, List.set_cons_succ]
    clear hT v0 v1 v2 v3 v4 v5 v6 v7 v8 v9 v11
    have HB4 := Aside0.mk (KB.step HB3.out hb4)
    have HM_4 := Aside0.mk (MapIs.below HM_3.out hb4)
    have HRW_4 := Aside0.mk (Rows.below HRW_3.out hb4)
    have KC_1_2_3_4 := Aside0.mk (blk_below KC_1_2_3.out hb4)
    have Kg1_2_3_4 := Aside0.mk (blk_below Kg1_2_3.out hb4)
    clear hb4
    have Ng6_gC := Aside0.mk (ne_ty KC_1_2_3_4.out Kg6.out (by decide))
    have NgC_g6 := Aside0.mk (Ne.symm Ng6_gC.out)
    have Ng6_g1 := Aside0.mk (ne_ty Kg1_2_3_4.out Kg6.out (by decide))
    have Ng1_g6 := Aside0.mk (Ne.symm Ng6_g1.out)
    have Ng1_gC := Aside0.mk (ne_ty KC_1_2_3_4.out Kg1_2_3_4.out (by decide))
    have NgC_g1 := Aside0.mk (Ne.symm Ng1_gC.out)
    go_upto_region 4 with fail
    refine Flow.seqT (E := fun u v => Below u.heap.size u v) [(some 19, []), (some 20, [0])] (fun iQ vQ wQ => match iQ with | 0 => vQ = (.bool false) | 1 => vQ = (.bool true) | _ => True) rfl (by kernel_rfl) (Below.refl _ _) (fun _ _ _ h k => h.trans (k.mono h.size)) (fun _ _ _ _ h _ => h) ?_ ?_
    · refine ⟨?_, ?_, trivial⟩
      · intro a w' hx hu hd K hK; have e7 : a.tmps.getD 7 undef = (.bool false) := hu 7 rfl; exact Flow.run1 rfl (Flow.r_move rfl e7) (hK _ _ (Below.refl _ _) rfl)
      · intro a w' hx hu hd K hK; have e19 := Flow.got (hd 0 rfl) 19 rfl; exact Flow.run1 rfl (Flow.r_not rfl e19) (hK _ _ (Below.refl _ _) rfl)
    intro vs W5 hb5 hT
    have v0 := Flow.eqn (hT 0 (by decide))
    have v1 := Flow.eqn (hT 1 (by decide))
    simp only [Flow.putsT, v0, v1, Act.put, List.setIfInBounds_toArray, List.set_cons_zero, List.set_cons_succ]
    clear hT v0 v1
    have HB5 := Aside0.mk (KB.step HB4.out hb5)
    have HM_5 := Aside0.mk (MapIs.below HM_4.out hb5)
    have HRW_5 := Aside0.mk (Rows.below HRW_4.out hb5)
    have KC_1_2_3_4_5 := Aside0.mk (blk_below KC_1_2_3_4.out hb5)
    have Kg1_2_3_4_5 := Aside0.mk (blk_below Kg1_2_3_4.out hb5)
    have Kg6_5 := Aside0.mk (blk_below Kg6.out hb5)
    clear hb5
    go_upto_region 5 with fail
    refine Flow.seqT_head (E := fun u v => Below u.heap.size u v) 7 [(some 21, []), (some 22, [0]), (some 23, [1]), (some 24, [2]), (some 25, [3]), (some 26, [0, 0, 1, 2, 3, 4]), (some 27, [5, 0, 1, 2, 3, 4]), (none, [6, 4, 0, 1, 2, 3, 4])] (fun iQ vQ wQ => match iQ with | 0 => vQ = (.pointer (some ⟨gC, 0, none⟩)) | 1 => vQ = (.pointer (some ⟨gC, 0, none⟩)) | 2 => vQ = (.pointer (some ⟨gC, 4, none⟩)) | 3 => vQ = (.int .i64 misses) | 4 => vQ = (.int .i64 m1) | 5 => vQ = (.pointer (some ⟨gC, 0, none⟩)) | 6 => vQ = (.pointer (some ⟨gC, 4, none⟩)) | _ => True) rfl (by decide) (by kernel_rfl) (Below.refl _ _) (fun _ _ _ h k => h.trans (k.mono h.size)) (fun _ _ _ _ h _ => h) ?_ ?_
    · refine ⟨?_, ?_, ?_, ?_, ?_, ?_, ?_, trivial⟩
      · intro a w' hx hu hd K hK; have e0 : a.tmps.getD 0 undef = (.pointer (some ⟨gC, 0, none⟩)) := hu 0 rfl; exact Flow.run1 rfl (Flow.r_move rfl e0) (hK _ _ (Below.refl _ _) rfl)
      · intro a w' hx hu hd K hK; have e21 := Flow.got (hd 0 rfl) 21 rfl; exact Flow.run1 rfl (nilck rfl e21) (hK _ _ (Below.refl _ _) rfl)
      · intro a w' hx hu hd K hK; have e22 := Flow.got (hd 1 rfl) 22 rfl; exact Flow.run1 rfl (fa rfl e22 (fa83_4 _ _ _)) (hK _ _ (Below.refl _ _) rfl)
      · intro a w' hx hu hd K hK; have e23 := Flow.got (hd 2 rfl) 23 rfl; exact Flow.run1 rfl (ld rfl e23 ((blk_cell (blk_below KC_1_2_3_4_5.out hx) 4).trans rfl) Try.underlying3 rfl) (hK _ _ (Below.refl _ _) rfl)
      · intro a w' hx hu hd K hK; have e24 := Flow.got (hd 3 rfl) 24 rfl; exact Flow.run1 rfl (addk rfl e24 rfl m1H.out m1B.out.1 m1B.out.2) (hK _ _ (Below.refl _ _) rfl)
      · intro a w' hx hu hd K hK; have e21 := Flow.got (hd 0 rfl) 21 rfl; exact Flow.run1 rfl (nilck rfl e21) (hK _ _ (Below.refl _ _) rfl)
      · intro a w' hx hu hd K hK; have e26 := Flow.got (hd 5 rfl) 26 rfl; exact Flow.run1 rfl (fa rfl e26 (fa83_4 _ _ _)) (hK _ _ (Below.refl _ _) rfl)
    intro vs W6 hb6 hT
    have v0 := Flow.eqn (hT 0 (by decide))
    have v1 := Flow.eqn (hT 1 (by decide))
    have v2 := Flow.eqn (hT 2 (by decide))
    have v3 := Flow.eqn (hT 3 (by decide))
    have v4 := Flow.eqn (hT 4 (by decide))
    have v5 := Flow.eqn (hT 5 (by decide))
    have v6 := Flow.eqn (hT 6 (by decide))
    simp only [Flow.putsT, v0, v1, v2, v3, v4, v5, v6, Act.put, List.setIfInBounds_toArray, List.set_cons_zero, List.set_cons_succ, List.drop_succ_cons, List.drop_zero, List.take_succ_cons, List.take_zero]
    clear hT v0 v1 v2 v3 v4 v5 v6
    have HB6 := Aside0.mk (KB.step HB5.out hb6)
    have HM_6 := Aside0.mk (MapIs.below HM_5.out hb6)
    have HRW_6 := Aside0.mk (Rows.below HRW_5.out hb6)
    have KC_1_2_3_4_5_6 := Aside0.mk (blk_below KC_1_2_3_4_5.out hb6)
    have Kg1_2_3_4_5_6 := Aside0.mk (blk_below Kg1_2_3_4_5.out hb6)
    have Kg6_5_6 := Aside0.mk (blk_below Kg6_5.out hb6)
    clear hb6
    refine put_event rfl rfl 3 _ _ rfl gC (4) (.int .i64 m1) #[.map (some gM), .int .i64 room, .int .i64 clock, .int .i64 hits, .int .i64 misses] #[.map (some gM), .int .i64 room, .int .i64 clock, .int .i64 hits, .int .i64 m1] rfl rfl rfl size3 KC_1_2_3_4_5_6.out (show 4 < 5 by decide) rfl ?_
    intro W7 hk7 hf7 hb7
    have HM_7 := Aside0.mk (MapIs.of_heap HM_6.out (hf7 _ (MapIs.ne HM_6.out KC_1_2_3_4_5_6.out)))
    have HRW_7 := Aside0.mk (Rows.far HRW_6.out KC_1_2_3_4_5_6.out (by decide) hf7)
    have HB7 := Aside0.mk (KB.store HB6.out hf7 (hb7 0 (Nat.zero_le _)) (.inl (.inl rfl)))
    have KgC_7 := Aside0.mk hk7
    have Kg1_2_3_4_5_6_7 := Aside0.mk ((hf7 _ NgC_g1.out).trans Kg1_2_3_4_5_6.out)
    have Kg6_5_6_7 := Aside0.mk ((hf7 _ NgC_g6.out).trans Kg6_5_6.out)
    clear hk7 hf7 hb7
    go_upto_region 6 with fail
    refine Flow.seqT (E := fun u v => Below u.heap.size u v) [(some 4, []), (some 5, [0, 0])] (fun iQ vQ wQ => match iQ with | 0 => vQ = (.slice none 0 0) | 1 => vQ = (.bool false) | _ => True) rfl (by kernel_rfl) (Below.refl _ _) (fun _ _ _ h k => h.trans (k.mono h.size)) (fun _ _ _ _ h _ => h) ?_ ?_
    · refine ⟨?_, ?_, trivial⟩
      · intro a w' hx hu hd K hK; exact Flow.run1 rfl (Flow.r_assign rfl rfl) (hK _ _ (Below.refl _ _) rfl)
      · intro a w' hx hu hd K hK; exact Flow.run1 rfl (Flow.r_assign rfl rfl) (hK _ _ (Below.refl _ _) rfl)
    intro vs W8 hb8 hT
    have v0 := Flow.eqn (hT 0 (by decide))
    have v1 := Flow.eqn (hT 1 (by decide))
    simp only [Flow.putsT, v0, v1, Act.put, List.setIfInBounds_toArray, List.set_cons_zero, List.set_cons_succ]
    clear hT v0 v1
    have HB8 := Aside0.mk (KB.step HB7.out hb8)
    have HM_8 := Aside0.mk (MapIs.below HM_7.out hb8)
    have HRW_8 := Aside0.mk (Rows.below HRW_7.out hb8)
    have KgC_7_8 := Aside0.mk (blk_below KgC_7.out hb8)
    have Kg1_2_3_4_5_6_7_8 := Aside0.mk (blk_below Kg1_2_3_4_5_6_7.out hb8)
    have Kg6_5_6_7_8 := Aside0.mk (blk_below Kg6_5_6_7.out hb8)
    clear hb8
    go_wp2_with fail
    exact bodyPost_ret (results_tmp2 Try.results19 _ _ _) rfl ⟨rfl, ⟨KgC_7_8.out, HM_8.out, HRW_8.out⟩, HB8.out⟩
  | some e0 =>
    obtain ⟨hem, hek⟩ := at_mem HKO.out
    have HDL := Aside0.mk (hdl e0 hem)
    have HU8 := Aside0.mk (HRW.out e0 hem)
    obtain ⟨A, ca, hev⟩ := HU8.out.slice
    rw [hev] at HU8
    have HVE := Aside0.mk (show vl = .agg #[.slice A e0.d.length ca, .int .i64 e0.u] by rw [← HVL.out]; unfold lk; rw [HKO.out]; show ev e0 = _; unfold ev; rw [hev])
    have HEV := Aside0.mk hev
    clear hem hek hev
    dsimp only
    obtain ⟨nd, HND⟩ : ∃ q, Aside0 (e0.d.length = q) := ⟨_, ⟨rfl⟩⟩
    rw [HND.out] at HU8 HVE HEV
    rw [HEV.out]
    go_enter Try.func19, Try.ntmps19
    go_upto_region 0 with fail
    refine wp_region_lit ?_
    refine ebox (v := (.agg #[.int .i64 k.f0, .int .i64 k.f1, .int .i64 k.f2])) rfl rfl rfl ?_
    intro g9 hg9 W9 hk9 hb9
    have Kg9 := Aside0.mk hk9
    have Ng9_gC := Aside0.mk (show gC ≠ g9 by have := (Array.getElem?_eq_some_iff.1 KC.out).1; omega)
    have NgC_g9 := Aside0.mk (Ne.symm Ng9_gC.out)
    have HB9 := Aside0.mk (KB.of_below (S := S2 gC gM) hb9)
    have HM_9 := Aside0.mk (MapIs.below HM.out hb9)
    have HRW_9 := Aside0.mk (Rows.below HRW.out hb9)
    have HU8_9 := Aside0.mk (u8R.below HU8.out hb9)
    have KC_9 := Aside0.mk (blk_below KC.out hb9)
    clear hb9
    have Gg9 := Aside0.mk (show w.heap.size ≤ g9 by rw [hg9]; exact Nat.le_refl _)
    clear hg9 hk9
    simp only [Act.put, List.setIfInBounds_toArray, List.set_cons_zero, List.set_cons_succ]
    refine Flow.seqL (E := fun u v => Below u.heap.size u v) 1 2 [(some 3, []), (some 4, []), (some 5, [1])] (fun iQ vQ wQ => match iQ with | 1 => vQ = (.slice none 0 0) | 2 => vQ = (.bool false) | _ => True) rfl (by decide) (by kernel_rfl) (Below.refl _ _) (fun _ _ _ h k => h.trans (k.mono h.size)) (fun _ _ _ _ h _ => h) ?_ ?_
    · refine ⟨?_, ?_, trivial⟩
      · intro a w' hx hu hd K hK; exact Flow.run1 rfl (Flow.r_assign rfl rfl) (hK _ _ (Below.refl _ _) rfl)
      · intro a w' hx hu hd K hK; exact Flow.run1 rfl (Flow.r_assign rfl rfl) (hK _ _ (Below.refl _ _) rfl)
    intro vs W10 hb10 hT
    have v1 := Flow.eqn (hT 1 (by decide) (by decide))
    have v2 := Flow.eqn (hT 2 (by decide) (by decide))
    simp only [Flow.putsT, v1, v2, Act.put, List.setIfInBounds_toArray, List.set_cons_zero, List.set_cons_succ, List.drop_succ_cons, List.drop_zero, List.take_succ_cons, List.take_zero]
    clear hT v1 v2
    have HB10 := Aside0.mk (KB.step HB9.out hb10)
    have HM_10 := Aside0.mk (MapIs.below HM_9.out hb10)
    have HRW_10 := Aside0.mk (Rows.below HRW_9.out hb10)
    have HU8_10 := Aside0.mk (u8R.below HU8_9.out hb10)
    have KC_9_10 := Aside0.mk (blk_below KC_9.out hb10)
    have Kg9_10 := Aside0.mk (blk_below Kg9.out hb10)
    clear hb10
    go_upto_region 1 with fail
    refine Flow.seqT (E := fun u v => Below u.heap.size u v) [(some 8, []), (some 9, [0])] (fun iQ vQ wQ => match iQ with | 0 => vQ = (.pointer (some ⟨gC, 0, none⟩)) | 1 => vQ = (.bool false) | _ => True) rfl (by kernel_rfl) (Below.refl _ _) (fun _ _ _ h k => h.trans (k.mono h.size)) (fun _ _ _ _ h _ => h) ?_ ?_
    · refine ⟨?_, ?_, trivial⟩
      · intro a w' hx hu hd K hK; have e0 : a.tmps.getD 0 undef = (.pointer (some ⟨gC, 0, none⟩)) := hu 0 rfl; exact Flow.run1 rfl (Flow.r_move rfl e0) (hK _ _ (Below.refl _ _) rfl)
      · intro a w' hx hu hd K hK; have e8 := Flow.got (hd 0 rfl) 8 rfl; exact Flow.run1 rfl (ptre rfl e8 rfl) (hK _ _ (Below.refl _ _) rfl)
    intro vs W11 hb11 hT
    have v0 := Flow.eqn (hT 0 (by decide))
    have v1 := Flow.eqn (hT 1 (by decide))
    simp only [Flow.putsT, v0, v1, Act.put, List.setIfInBounds_toArray, List.set_cons_zero, List.set_cons_succ]
    clear hT v0 v1
    have HB11 := Aside0.mk (KB.step HB10.out hb11)
    have HM_11 := Aside0.mk (MapIs.below HM_10.out hb11)
    have HRW_11 := Aside0.mk (Rows.below HRW_10.out hb11)
    have HU8_11 := Aside0.mk (u8R.below HU8_10.out hb11)
    have KC_9_10_11 := Aside0.mk (blk_below KC_9_10.out hb11)
    have Kg9_10_11 := Aside0.mk (blk_below Kg9_10.out hb11)
    clear hb11
    obtain ⟨g6, HG6⟩ : ∃ q, Aside0 (W11.heap.size = q) := ⟨_, ⟨rfl⟩⟩
    have Gg6 := Aside0.mk (show w.heap.size ≤ g6 by rw [← HG6.out]; exact HB11.out.size)
    go_upto_region 3 with fail
    refine FlowU.flowS Still ([(9, fun u v : World => u.heap.size = g6 ∧ v = u.alloc (.cells #[.slice none 0 0, .int .i64 0] 86 (0, 0))), (10, fun u v : World => v.os = u.os ∧ v.tape = u.tape ∧ v.output = u.output ∧ v.heap.size = u.heap.size ∧ (∀ k, k ≠ g6 → v.heap[k]? = u.heap[k]?) ∧ v.heap[g6]? = some (.cells #[.slice A nd ca, .int .i64 e0.u] 86 (0, 0)))]) [(some 11, []), (some 12, [0]), (some 13, [1]), (some 14, [2]), (some 15, []), (some 16, [3, 4]), (some 10, [5]), (some 17, [6]), (some 18, [6]), (some 6, []), (none, [9, 7, 0, 1, 2, 3, 4, 5, 6, 7, 9]), (some 7, [8, 10, 0, 1, 2, 3, 4, 5, 6, 7, 8, 9, 10])] (fun iQ vQ wQ => match iQ with | 0 => vQ = (.pointer (some ⟨gC, 0, none⟩)) | 1 => vQ = (.pointer (some ⟨gC, 0, none⟩)) | 2 => vQ = (.pointer (some ⟨gC, 0, none⟩)) | 3 => vQ = (.map (some gM)) | 4 => vQ = (.agg #[.int .i64 k.f0, .int .i64 k.f1, .int .i64 k.f2]) | 5 => vQ = (.tuple #[.agg #[.slice A nd ca, .int .i64 e0.u], .bool true]) | 6 => vQ = (.tuple #[.agg #[.slice A nd ca, .int .i64 e0.u], .bool true]) | 7 => vQ = (.agg #[.slice A nd ca, .int .i64 e0.u]) | 8 => vQ = (.bool true) | 9 => (vQ = .pointer (some ⟨g6, 0, none⟩) ∧ ∃ cs : Array Value, wQ.heap[g6]? = some (.cells cs 86 (0, 0)) ∧ cs.size = 2) | 10 => wQ.heap[g6]? = some (.cells #[.slice A nd ca, .int .i64 e0.u] 86 (0, 0)) | 11 => vQ = (.bool true) | _ => True) rfl (by kernel_rfl) (by kernel_rfl) (by kernel_rfl) (G := fun u v => Below g6 u v) (U := fun iQ wQ => iQ = 9 → wQ.heap.size = g6) (Below.refl _ _).drew (fun iQ _ => HG6.out) (fun _ _ _ h k => h.trans k) (fun _ _ h => h.below) ⟨fun u v h => by rw [h.2]; exact (Below.refl _ _).alloc (Nat.le_of_eq h.1.symm) _, fun u v h => ⟨h.1, h.2.1, h.2.2.1, Nat.le_of_eq h.2.2.2.1.symm, fun k hk => h.2.2.2.2.1 k (by omega)⟩, trivial⟩ (fun iQ vQ w1Q w2Q hQ hE => match iQ, hQ with | 0, hQ => hQ | 1, hQ => hQ | 2, hQ => hQ | 3, hQ => hQ | 4, hQ => hQ | 5, hQ => hQ | 6, hQ => hQ | 7, hQ => hQ | 8, hQ => hQ | 9, hQ => (by rw [hE.2.2.2]; exact hQ) | 10, hQ => (by rw [hE.2.2.2]; exact hQ) | 11, hQ => hQ | _ + 12, _ => trivial) (fun iQ w1Q w2Q hU hE h => by rw [hE.2.2.2]; exact hU h) ⟨fun iQ vQ w1Q w2Q hn hQ hX => match iQ, hn, hQ with | 0, _, hQ => hQ | 1, _, hQ => hQ | 2, _, hQ => hQ | 3, _, hQ => hQ | 4, _, hQ => hQ | 5, _, hQ => hQ | 6, _, hQ => hQ | 7, _, hQ => hQ | 8, _, hQ => hQ | 9, hn, hQ => absurd rfl hn | 10, hn, hQ => (by rw [hX.2]; exact blk_alloc hQ _) | 11, _, hQ => hQ | _ + 12, _, _ => trivial, fun iQ w1Q w2Q hn hU hX h => absurd h hn, fun iQ vQ w1Q w2Q hn hQ hX => match iQ, hn, hQ with | 0, _, hQ => hQ | 1, _, hQ => hQ | 2, _, hQ => hQ | 3, _, hQ => hQ | 4, _, hQ => hQ | 5, _, hQ => hQ | 6, _, hQ => hQ | 7, _, hQ => hQ | 8, _, hQ => hQ | 9, hn, hQ => ⟨hQ.1, _, hX.2.2.2.2.2, rfl⟩ | 10, hn, hQ => absurd rfl hn | 11, _, hQ => hQ | _ + 12, _, _ => trivial, fun iQ w1Q w2Q hn hU hX h => hX.2.2.2.1.trans (hU h), trivial⟩ ?_ ?_
    · refine ⟨?_, ?_, ?_, ?_, ?_, ?_, ?_, ?_, ?_, ?_, ?_, ?_, trivial⟩
      · intro a w' hx hux hu hd K hK; rw [← HG6.out] at hx; have e0 : a.tmps.getD 0 undef = (.pointer (some ⟨gC, 0, none⟩)) := hu 0 rfl; exact Flow.run1 rfl (Flow.r_move rfl e0) (hK _ _ (Still.refl _) rfl)
      · intro a w' hx hux hu hd K hK; rw [← HG6.out] at hx; have e11 := Flow.got (hd 0 (by decide)) 11 rfl; exact Flow.run1 rfl (nilck rfl e11) (hK _ _ (Still.refl _) rfl)
      · intro a w' hx hux hu hd K hK; rw [← HG6.out] at hx; have e12 := Flow.got (hd 1 (by decide)) 12 rfl; exact Flow.run1 rfl (fa rfl e12 (fa83_0 _ _ _)) (hK _ _ (Still.refl _) rfl)
      · intro a w' hx hux hu hd K hK; rw [← HG6.out] at hx; have e13 := Flow.got (hd 2 (by decide)) 13 rfl; exact Flow.run1 rfl (ld rfl e13 ((blk_cell (blk_below KC_9_10_11.out hx) 0).trans rfl) Try.underlying81 rfl) (hK _ _ (Still.refl _) rfl)
      · intro a w' hx hux hu hd K hK; rw [← HG6.out] at hx; have e3 : a.tmps.getD 3 undef = (.pointer (some ⟨g9, 0, none⟩)) := hu 3 rfl; exact Flow.run1 rfl (ldrow rfl e3 (lies_block (blk_below Kg9_10_11.out hx)) Try.underlying36 rfl size36) (hK _ _ (Still.refl _) rfl)
      · intro a w' hx hux hu hd K hK; rw [← HG6.out] at hx; have e14 := Flow.got (hd 3 (by decide)) 14 rfl; have e15 := Flow.got (hd 4 (by decide)) 15 rfl; exact Flow.run1 rfl (lkr (k := k) rfl e14 e15 (HM_11.out.below hx) HGK.out (HVL.out.trans HVE.out) (by rw [HKO.out]; rfl)) (hK _ _ (Still.refl _) rfl)
      · intro a w' hx hux hu hd K hK; rw [← HG6.out] at hx; have e16 := Flow.got (hd 5 (by decide)) 16 rfl; exact Flow.run1 rfl (Flow.r_move rfl e16) (hK _ _ (Still.refl _) rfl)
      · intro a w' hx hux hu hd K hK; rw [← HG6.out] at hx; have e10 := Flow.got (hd 6 (by decide)) 10 rfl; exact Flow.run1 rfl (extr rfl e10 rfl) (hK _ _ (Still.refl _) rfl)
      · intro a w' hx hux hu hd K hK; rw [← HG6.out] at hx; have e10 := Flow.got (hd 6 (by decide)) 10 rfl; exact Flow.run1 rfl (extr rfl e10 rfl) (hK _ _ (Still.refl _) rfl)
      · intro a w' hx hux hu hd K hK; rw [← HG6.out] at hx; refine Flow.want rfl ?_; exact Flow.val_run (alloc_run rfl zero86_is) (hK _ _ ⟨hux rfl, rfl⟩ ⟨by rw [hux rfl], _, (by rw [← hux rfl]; exact blk_new _ _), rfl⟩)
      · intro a w' hx hux hu hd K hK; rw [← HG6.out] at hx; obtain ⟨v6, p6, q6⟩ := hd 9 (by decide); have e6 : a.tmps.getD 6 undef = v6 := q6 6 rfl; have e17 := Flow.got (hd 7 (by decide)) 17 rfl; refine Flow.want rfl ?_; obtain ⟨hp6, cs6, hc6, hs6⟩ := p6; have e6b := e6.trans hp6; refine store_kS (c := [.slice A nd ca, .int .i64 e0.u]) rfl e6b e17 hc6 hs6 size86 rfl ?_; intro w1 hk1 hf1 hB1 hs1; exact (hK _ _ ⟨(hB1 0 (Nat.zero_le _)).os, (hB1 0 (Nat.zero_le _)).tape, (hB1 0 (Nat.zero_le _)).output, hs1, hf1, hk1⟩ hk1)
      · intro a w' hx hux hu hd K hK; rw [← HG6.out] at hx; have e18 := Flow.got (hd 8 (by decide)) 18 rfl; exact Flow.run1 rfl (Flow.r_assign rfl e18) (hK _ _ (Still.refl _) rfl)
    intro vs W12 hb12 hT
    rw [← HG6.out] at hb12
    have v0 := Flow.eqn (hT 0 (by decide))
    have v1 := Flow.eqn (hT 1 (by decide))
    have v2 := Flow.eqn (hT 2 (by decide))
    have v3 := Flow.eqn (hT 3 (by decide))
    have v4 := Flow.eqn (hT 4 (by decide))
    have v5 := Flow.eqn (hT 5 (by decide))
    have v6 := Flow.eqn (hT 6 (by decide))
    have v7 := Flow.eqn (hT 7 (by decide))
    have v8 := Flow.eqn (hT 8 (by decide))
    have v11 := Flow.eqn (hT 11 (by decide))
    obtain ⟨v9, -⟩ : _ = Value.pointer (some ⟨g6, 0, none⟩) ∧ _ := hT 9 (by decide)
    have Kg6 := Aside0.mk (show W12.heap[g6]? = _ from hT 10 (by decide))
    simp only [Flow.putsT, v0, v1, v2, v3, v4, v5, v6, v7, v8, v9, v11, Act.put, List.setIfInBounds_toArray, List.set_cons_zero, List.set_cons_succ]
    clear hT v0 v1 v2 v3 v4 v5 v6 v7 v8 v9 v11
    have HB12 := Aside0.mk (KB.step HB11.out hb12)
    have HM_12 := Aside0.mk (MapIs.below HM_11.out hb12)
    have HRW_12 := Aside0.mk (Rows.below HRW_11.out hb12)
    have HU8_12 := Aside0.mk (u8R.below HU8_11.out hb12)
    have KC_9_10_11_12 := Aside0.mk (blk_below KC_9_10_11.out hb12)
    have Kg9_10_11_12 := Aside0.mk (blk_below Kg9_10_11.out hb12)
    clear hb12
    have Ng6_gC := Aside0.mk (ne_ty KC_9_10_11_12.out Kg6.out (by decide))
    have NgC_g6 := Aside0.mk (Ne.symm Ng6_gC.out)
    have Ng6_g9 := Aside0.mk (ne_ty Kg9_10_11_12.out Kg6.out (by decide))
    have Ng9_g6 := Aside0.mk (Ne.symm Ng6_g9.out)
    have Ng9_gC := Aside0.mk (ne_ty KC_9_10_11_12.out Kg9_10_11_12.out (by decide))
    have NgC_g9 := Aside0.mk (Ne.symm Ng9_gC.out)
    go_upto_region 4 with fail
    refine Flow.seqT (E := fun u v => Below u.heap.size u v) [(some 19, []), (some 20, [0])] (fun iQ vQ wQ => match iQ with | 0 => vQ = (.bool true) | 1 => vQ = (.bool false) | _ => True) rfl (by kernel_rfl) (Below.refl _ _) (fun _ _ _ h k => h.trans (k.mono h.size)) (fun _ _ _ _ h _ => h) ?_ ?_
    · refine ⟨?_, ?_, trivial⟩
      · intro a w' hx hu hd K hK; have e7 : a.tmps.getD 7 undef = (.bool true) := hu 7 rfl; exact Flow.run1 rfl (Flow.r_move rfl e7) (hK _ _ (Below.refl _ _) rfl)
      · intro a w' hx hu hd K hK; have e19 := Flow.got (hd 0 rfl) 19 rfl; exact Flow.run1 rfl (Flow.r_not rfl e19) (hK _ _ (Below.refl _ _) rfl)
    intro vs W13 hb13 hT
    have v0 := Flow.eqn (hT 0 (by decide))
    have v1 := Flow.eqn (hT 1 (by decide))
    simp only [Flow.putsT, v0, v1, Act.put, List.setIfInBounds_toArray, List.set_cons_zero, List.set_cons_succ]
    clear hT v0 v1
    have HB13 := Aside0.mk (KB.step HB12.out hb13)
    have HM_13 := Aside0.mk (MapIs.below HM_12.out hb13)
    have HRW_13 := Aside0.mk (Rows.below HRW_12.out hb13)
    have HU8_13 := Aside0.mk (u8R.below HU8_12.out hb13)
    have KC_9_10_11_12_13 := Aside0.mk (blk_below KC_9_10_11_12.out hb13)
    have Kg9_10_11_12_13 := Aside0.mk (blk_below Kg9_10_11_12.out hb13)
    have Kg6_13 := Aside0.mk (blk_below Kg6.out hb13)
    clear hb13
    go_upto_region 7 with fail
    refine Flow.seqT_head (E := fun u v => Below u.heap.size u v) 7 [(some 28, []), (some 29, [0]), (some 30, [1]), (some 31, [2]), (some 32, [3]), (some 33, [0, 0, 1, 2, 3, 4]), (some 34, [5, 0, 1, 2, 3, 4]), (none, [6, 4, 0, 1, 2, 3, 4])] (fun iQ vQ wQ => match iQ with | 0 => vQ = (.pointer (some ⟨gC, 0, none⟩)) | 1 => vQ = (.pointer (some ⟨gC, 0, none⟩)) | 2 => vQ = (.pointer (some ⟨gC, 3, none⟩)) | 3 => vQ = (.int .i64 hits) | 4 => vQ = (.int .i64 h1) | 5 => vQ = (.pointer (some ⟨gC, 0, none⟩)) | 6 => vQ = (.pointer (some ⟨gC, 3, none⟩)) | _ => True) rfl (by decide) (by kernel_rfl) (Below.refl _ _) (fun _ _ _ h k => h.trans (k.mono h.size)) (fun _ _ _ _ h _ => h) ?_ ?_
    · refine ⟨?_, ?_, ?_, ?_, ?_, ?_, ?_, trivial⟩
      · intro a w' hx hu hd K hK; have e0 : a.tmps.getD 0 undef = (.pointer (some ⟨gC, 0, none⟩)) := hu 0 rfl; exact Flow.run1 rfl (Flow.r_move rfl e0) (hK _ _ (Below.refl _ _) rfl)
      · intro a w' hx hu hd K hK; have e28 := Flow.got (hd 0 rfl) 28 rfl; exact Flow.run1 rfl (nilck rfl e28) (hK _ _ (Below.refl _ _) rfl)
      · intro a w' hx hu hd K hK; have e29 := Flow.got (hd 1 rfl) 29 rfl; exact Flow.run1 rfl (fa rfl e29 (fa83_3 _ _ _)) (hK _ _ (Below.refl _ _) rfl)
      · intro a w' hx hu hd K hK; have e30 := Flow.got (hd 2 rfl) 30 rfl; exact Flow.run1 rfl (ld rfl e30 ((blk_cell (blk_below KC_9_10_11_12_13.out hx) 3).trans rfl) Try.underlying3 rfl) (hK _ _ (Below.refl _ _) rfl)
      · intro a w' hx hu hd K hK; have e31 := Flow.got (hd 3 rfl) 31 rfl; exact Flow.run1 rfl (addk rfl e31 rfl h1H.out h1B.out.1 h1B.out.2) (hK _ _ (Below.refl _ _) rfl)
      · intro a w' hx hu hd K hK; have e28 := Flow.got (hd 0 rfl) 28 rfl; exact Flow.run1 rfl (nilck rfl e28) (hK _ _ (Below.refl _ _) rfl)
      · intro a w' hx hu hd K hK; have e33 := Flow.got (hd 5 rfl) 33 rfl; exact Flow.run1 rfl (fa rfl e33 (fa83_3 _ _ _)) (hK _ _ (Below.refl _ _) rfl)
    intro vs W14 hb14 hT
    have v0 := Flow.eqn (hT 0 (by decide))
    have v1 := Flow.eqn (hT 1 (by decide))
    have v2 := Flow.eqn (hT 2 (by decide))
    have v3 := Flow.eqn (hT 3 (by decide))
    have v4 := Flow.eqn (hT 4 (by decide))
    have v5 := Flow.eqn (hT 5 (by decide))
    have v6 := Flow.eqn (hT 6 (by decide))
    simp only [Flow.putsT, v0, v1, v2, v3, v4, v5, v6, Act.put, List.setIfInBounds_toArray, List.set_cons_zero, List.set_cons_succ, List.drop_succ_cons, List.drop_zero, List.take_succ_cons, List.take_zero]
    clear hT v0 v1 v2 v3 v4 v5 v6
    have HB14 := Aside0.mk (KB.step HB13.out hb14)
    have HM_14 := Aside0.mk (MapIs.below HM_13.out hb14)
    have HRW_14 := Aside0.mk (Rows.below HRW_13.out hb14)
    have HU8_14 := Aside0.mk (u8R.below HU8_13.out hb14)
    have KC_9_10_11_12_13_14 := Aside0.mk (blk_below KC_9_10_11_12_13.out hb14)
    have Kg9_10_11_12_13_14 := Aside0.mk (blk_below Kg9_10_11_12_13.out hb14)
    have Kg6_13_14 := Aside0.mk (blk_below Kg6_13.out hb14)
    clear hb14
    refine put_event rfl rfl 3 _ _ rfl gC (3) (.int .i64 h1) #[.map (some gM), .int .i64 room, .int .i64 clock, .int .i64 hits, .int .i64 misses] #[.map (some gM), .int .i64 room, .int .i64 clock, .int .i64 h1, .int .i64 misses] rfl rfl rfl size3 KC_9_10_11_12_13_14.out (show 3 < 5 by decide) rfl ?_
    intro W15 hk15 hf15 hb15
    have HM_15 := Aside0.mk (MapIs.of_heap HM_14.out (hf15 _ (MapIs.ne HM_14.out KC_9_10_11_12_13_14.out)))
    have HRW_15 := Aside0.mk (Rows.far HRW_14.out KC_9_10_11_12_13_14.out (by decide) hf15)
    have HU8_15 := Aside0.mk (u8R.far HU8_14.out KC_9_10_11_12_13_14.out (by decide) hf15)
    have HB15 := Aside0.mk (KB.store HB14.out hf15 (hb15 0 (Nat.zero_le _)) (.inl (.inl rfl)))
    have KgC_15 := Aside0.mk hk15
    have Kg9_10_11_12_13_14_15 := Aside0.mk ((hf15 _ NgC_g9.out).trans Kg9_10_11_12_13_14.out)
    have Kg6_13_14_15 := Aside0.mk ((hf15 _ NgC_g6.out).trans Kg6_13_14.out)
    clear hk15 hf15 hb15
    go_upto_region 8 with fail
    refine Flow.seqT_head (E := fun u v => Below u.heap.size u v) 1 [(some 35, []), (some 36, [0]), (some 37, [0, 1]), (none, [2, 1, 1, 0, 1])] (fun iQ vQ wQ => match iQ with | 0 => vQ = (.pointer (some ⟨gC, 0, none⟩)) | _ => True) rfl (by decide) (by kernel_rfl) (Below.refl _ _) (fun _ _ _ h k => h.trans (k.mono h.size)) (fun _ _ _ _ h _ => h) ?_ ?_
    · refine ⟨?_, trivial⟩
      · intro a w' hx hu hd K hK; have e0 : a.tmps.getD 0 undef = (.pointer (some ⟨gC, 0, none⟩)) := hu 0 rfl; exact Flow.run1 rfl (Flow.r_move rfl e0) (hK _ _ (Below.refl _ _) rfl)
    intro vs W16 hb16 hT
    have v0 := Flow.eqn (hT 0 (by decide))
    simp only [Flow.putsT, v0, Act.put, List.setIfInBounds_toArray, List.set_cons_zero, List.set_cons_succ, List.drop_succ_cons, List.drop_zero, List.take_succ_cons, List.take_zero]
    clear hT v0
    have HB16 := Aside0.mk (KB.step HB15.out hb16)
    have HM_16 := Aside0.mk (MapIs.below HM_15.out hb16)
    have HRW_16 := Aside0.mk (Rows.below HRW_15.out hb16)
    have HU8_16 := Aside0.mk (u8R.below HU8_15.out hb16)
    have KgC_15_16 := Aside0.mk (blk_below KgC_15.out hb16)
    have Kg9_10_11_12_13_14_15_16 := Aside0.mk (blk_below Kg9_10_11_12_13_14_15.out hb16)
    have Kg6_13_14_15_16 := Aside0.mk (blk_below Kg6_13_14_15.out hb16)
    clear hb16
    refine ecall rfl rfl Try.func39 (by kernel_rfl) rfl (args := #[.pointer (some ⟨gC, 0, none⟩)]) (by simp only [List.map_toArray, List.map_cons, List.map_nil, Act.eval]; rfl) (tick_c _ _ clock _ _ _ KgC_15_16.out (by omega) (by omega)) ?_
    rintro e W17 ⟨rfl, hk17, hkb17⟩
    rw [c1H.out] at hk17
    refine ⟨_, rfl, ?_⟩
    rw [c1H.out]
    have HM_17 := Aside0.mk (MapIs.kb HM_16.out KgC_15_16.out hkb17)
    have HRW_17 := Aside0.mk (Rows.kb HRW_16.out KgC_15_16.out (by decide) hkb17)
    have HU8_17 := Aside0.mk (u8R.kb HU8_16.out KgC_15_16.out (by decide) hkb17)
    have Kg9_10_11_12_13_14_15_16_17 := Aside0.mk (hkb17.blk Kg9_10_11_12_13_14_15_16.out (ne_ty Kg9_10_11_12_13_14_15_16.out KgC_15_16.out (by decide)))
    have Kg6_13_14_15_16_17 := Aside0.mk (hkb17.blk Kg6_13_14_15_16.out (ne_ty Kg6_13_14_15_16.out KgC_15_16.out (by decide)))
    have KC_17 := Aside0.mk hk17
    have HB17 := Aside0.mk (KB.call HB16.out hkb17 (fun _ hi => .inl (.inl hi)))
    clear hk17 hkb17
    simp only [Act.put, List.setIfInBounds_toArray, List.set_cons_zero, List.set_cons_succ]
    refine Flow.seqL (E := fun u v => Below u.heap.size u v) 2 1 [(some 35, []), (some 36, [0]), (some 37, [0, 1]), (none, [2, 1, 1, 0, 1])] (fun iQ vQ wQ => match iQ with | 2 => vQ = (.pointer (some ⟨g6, 1, none⟩)) | _ => True) rfl (by decide) (by kernel_rfl) (Below.refl _ _) (fun _ _ _ h k => h.trans (k.mono h.size)) (fun _ _ _ _ h _ => h) ?_ ?_
    · refine ⟨?_, trivial⟩
      · intro a w' hx hu hd K hK; have e6 : a.tmps.getD 6 undef = (.pointer (some ⟨g6, 0, none⟩)) := hu 6 rfl; exact Flow.run1 rfl (fa rfl e6 (fa86_1 _ _ _)) (hK _ _ (Below.refl _ _) rfl)
    intro vs W18 hb18 hT
    have v2 := Flow.eqn (hT 2 (by decide) (by decide))
    simp only [Flow.putsT, v2, Act.put, List.setIfInBounds_toArray, List.set_cons_zero, List.set_cons_succ, List.drop_succ_cons, List.drop_zero, List.take_succ_cons, List.take_zero]
    clear hT v2
    have HB18 := Aside0.mk (KB.step HB17.out hb18)
    have HM_18 := Aside0.mk (MapIs.below HM_17.out hb18)
    have HRW_18 := Aside0.mk (Rows.below HRW_17.out hb18)
    have HU8_18 := Aside0.mk (u8R.below HU8_17.out hb18)
    have Kg9_10_11_12_13_14_15_16_17_18 := Aside0.mk (blk_below Kg9_10_11_12_13_14_15_16_17.out hb18)
    have Kg6_13_14_15_16_17_18 := Aside0.mk (blk_below Kg6_13_14_15_16_17.out hb18)
    have KC_17_18 := Aside0.mk (blk_below KC_17.out hb18)
    clear hb18
    refine put_event rfl rfl 3 _ _ rfl g6 (1) (.int .i64 c1) #[.slice A nd ca, .int .i64 e0.u] #[.slice A nd ca, .int .i64 c1] rfl rfl rfl size3 Kg6_13_14_15_16_17_18.out (show 1 < 2 by decide) rfl ?_
    intro W19 hk19 hf19 hb19
    have HM_19 := Aside0.mk (MapIs.of_heap HM_18.out (hf19 _ (MapIs.ne HM_18.out Kg6_13_14_15_16_17_18.out)))
    have HRW_19 := Aside0.mk (Rows.far HRW_18.out Kg6_13_14_15_16_17_18.out (by decide) hf19)
    have HU8_19 := Aside0.mk (u8R.far HU8_18.out Kg6_13_14_15_16_17_18.out (by decide) hf19)
    have HB19 := Aside0.mk (KB.store HB18.out hf19 (hb19 0 (Nat.zero_le _)) (.inr Gg6.out))
    have Kg6_19 := Aside0.mk hk19
    have Kg9_10_11_12_13_14_15_16_17_18_19 := Aside0.mk ((hf19 _ Ng6_g9.out).trans Kg9_10_11_12_13_14_15_16_17_18.out)
    have KC_17_18_19 := Aside0.mk ((hf19 _ Ng6_gC.out).trans KC_17_18.out)
    clear hk19 hf19 hb19
    go_upto_region 9 with fail
    refine Flow.flowT_head (E := fun u v => Below u.heap.size u v) 6 [(some 38, []), (some 39, [0]), (some 40, [1]), (some 41, [2]), (some 42, []), (some 43, []), (none, [3, 4, 5, 0, 1, 2, 3, 4, 5])] (fun iQ vQ wQ => match iQ with | 0 => vQ = (.pointer (some ⟨gC, 0, none⟩)) | 1 => vQ = (.pointer (some ⟨gC, 0, none⟩)) | 2 => vQ = (.pointer (some ⟨gC, 0, none⟩)) | 3 => vQ = (.map (some gM)) | 4 => vQ = (.agg #[.int .i64 k.f0, .int .i64 k.f1, .int .i64 k.f2]) | 5 => vQ = (.agg #[.slice A nd ca, .int .i64 c1]) | _ => True) rfl (by kernel_rfl) (by kernel_rfl) (by kernel_rfl) ((Below.refl _ _).drew) (fun _ _ _ h k => h.trans (k.mono h.size)) (fun _ _ _ _ h _ => h) ?_ ?_
    · refine ⟨?_, ?_, ?_, ?_, ?_, ?_, trivial⟩
      · intro a w' hx hu hd K hK; have e0 : a.tmps.getD 0 undef = (.pointer (some ⟨gC, 0, none⟩)) := hu 0 rfl; exact Flow.run1 rfl (Flow.r_move rfl e0) (hK _ _ (Below.refl _ _) rfl)
      · intro a w' hx hu hd K hK; have e38 := Flow.got (hd 0 (by decide)) 38 rfl; exact Flow.run1 rfl (nilck rfl e38) (hK _ _ (Below.refl _ _) rfl)
      · intro a w' hx hu hd K hK; have e39 := Flow.got (hd 1 (by decide)) 39 rfl; exact Flow.run1 rfl (fa rfl e39 (fa83_0 _ _ _)) (hK _ _ (Below.refl _ _) rfl)
      · intro a w' hx hu hd K hK; have e40 := Flow.got (hd 2 (by decide)) 40 rfl; exact Flow.run1 rfl (ld rfl e40 ((blk_cell (blk_below KC_17_18_19.out hx) 0).trans rfl) Try.underlying81 rfl) (hK _ _ (Below.refl _ _) rfl)
      · intro a w' hx hu hd K hK; have e3 : a.tmps.getD 3 undef = (.pointer (some ⟨g9, 0, none⟩)) := hu 3 rfl; exact Flow.run1 rfl (ldrow rfl e3 (lies_block (blk_below Kg9_10_11_12_13_14_15_16_17_18_19.out hx)) Try.underlying36 rfl size36) (hK _ _ (Below.refl _ _) rfl)
      · intro a w' hx hu hd K hK; have e6 : a.tmps.getD 6 undef = (.pointer (some ⟨g6, 0, none⟩)) := hu 6 rfl; exact Flow.run1 rfl (ldrow rfl e6 (lies_block (blk_below Kg6_19.out hx)) Try.underlying86 rfl size86) (hK _ _ (Below.refl _ _) rfl)
    intro vs W20 hb20 hT
    have v0 := Flow.eqn (hT 0 (by decide))
    have v1 := Flow.eqn (hT 1 (by decide))
    have v2 := Flow.eqn (hT 2 (by decide))
    have v3 := Flow.eqn (hT 3 (by decide))
    have v4 := Flow.eqn (hT 4 (by decide))
    have v5 := Flow.eqn (hT 5 (by decide))
    simp only [Flow.putsT, v0, v1, v2, v3, v4, v5, Act.put, List.setIfInBounds_toArray, List.set_cons_zero, List.set_cons_succ, List.drop_succ_cons, List.drop_zero, List.take_succ_cons, List.take_zero]
    clear hT v0 v1 v2 v3 v4 v5
    have HB20 := Aside0.mk (KB.step HB19.out hb20)
    have HM_20 := Aside0.mk (MapIs.below HM_19.out hb20)
    have HRW_20 := Aside0.mk (Rows.below HRW_19.out hb20)
    have HU8_20 := Aside0.mk (u8R.below HU8_19.out hb20)
    have Kg6_19_20 := Aside0.mk (blk_below Kg6_19.out hb20)
    have Kg9_10_11_12_13_14_15_16_17_18_19_20 := Aside0.mk (blk_below Kg9_10_11_12_13_14_15_16_17_18_19.out hb20)
    have KC_17_18_19_20 := Aside0.mk (blk_below KC_17_18_19.out hb20)
    clear hb20
    refine put_map (e := ⟨k, .slice A nd ca, e0.d, c1⟩) rfl rfl rfl HM_20.out (Nat.lt_of_le_of_lt hlen (by decide)) rfl HGK.out rfl ?_
    intro W21 hm21 hg21
    have HRW_21 := Aside0.mk (Rows.map HRW_20.out HM_20.out.is_map hg21)
    have HU8_21 := Aside0.mk (u8R.map HU8_20.out HM_20.out.is_map hg21)
    have Kg6_19_20_21 := Aside0.mk (grown_blk hg21 Kg6_19_20.out (HM_20.out.ne Kg6_19_20.out))
    have Kg9_10_11_12_13_14_15_16_17_18_19_20_21 := Aside0.mk (grown_blk hg21 Kg9_10_11_12_13_14_15_16_17_18_19_20.out (HM_20.out.ne Kg9_10_11_12_13_14_15_16_17_18_19_20.out))
    have KC_17_18_19_20_21 := Aside0.mk (grown_blk hg21 KC_17_18_19_20.out (HM_20.out.ne KC_17_18_19_20.out))
    have HM_21 := Aside0.mk hm21
    have HB21 := Aside0.mk (KB.grown HB20.out hg21 (.inl (.inr rfl)))
    clear hm21 hg21
    simp only [Act.put, List.setIfInBounds_toArray, List.set_cons_zero, List.set_cons_succ]
    have hcl := Kd.R_reads' HU8_21.out
    rw [HND.out] at hcl
    have HCL := Aside0.mk hcl
    clear hcl
    go_upto_region 10 with fail
    refine Flow.seqT_head (E := fun u v => Below u.heap.size u v) 3 [(some 44, []), (some 45, [0]), (some 46, [1]), (some 4, [2, 2, 0, 1, 2]), (some 5, [3, 0, 1, 2, 3])] (fun iQ vQ wQ => match iQ with | 0 => vQ = (.pointer (some ⟨g6, 0, none⟩)) | 1 => vQ = (.slice A nd ca) | 2 => u8R wQ vQ e0.d | _ => True) rfl (by decide) (by kernel_rfl) (Below.refl _ _) (fun _ _ _ h k => h.trans (k.mono h.size)) (fun iQ vQ w1Q w2Q hQ hEQ => match iQ, hQ with | 0, hQ => hQ | 1, hQ => hQ | 2, hQ => u8R.below hQ hEQ | _ + 3, _ => trivial) ?_ ?_
    · refine ⟨?_, ?_, ?_, trivial⟩
      · intro a w' hx hu hd K hK; have e6 : a.tmps.getD 6 undef = (.pointer (some ⟨g6, 0, none⟩)) := hu 6 rfl; exact Flow.run1 rfl (fa rfl e6 (fa86_0 _ _ _)) (hK _ _ (Below.refl _ _) rfl)
      · intro a w' hx hu hd K hK; have e44 := Flow.got (hd 0 rfl) 44 rfl; exact Flow.run1 rfl (ld rfl e44 ((blk_cell (blk_below Kg6_19_20_21.out hx) 0).trans rfl) Try.underlying27 rfl) (hK _ _ (Below.refl _ _) rfl)
      · intro a w' hx hu hd K hK; have e45 := Flow.got (hd 1 rfl) 45 rfl; refine Flow.want rfl ?_; refine Flow.val_call rfl Try.func38 (by kernel_rfl) rfl (by first | (simp only [List.map_toArray, List.map_cons, List.map_nil, Act.eval, e45]; done) | (simp only [List.map_toArray, List.map_cons, List.map_nil, Act.eval, e45]; rfl)) (clone_c A nd ca e0.d w' (Kd.C_below HCL.out.2.2 hx) HND.out HCL.out.2.1 (by have := HDL.out; have := HND.out; omega)) ?_; rintro e w2 ⟨v, rfl, hR, hb2⟩; exact ⟨_, rfl, hK _ _ hb2 (u8R.of hR)⟩
    intro vs W22 hb22 hT
    have v0 := Flow.eqn (hT 0 (by decide))
    have v1 := Flow.eqn (hT 1 (by decide))
    obtain ⟨vc, v2, hvc⟩ : ∃ v : Value, _ = v ∧ u8R _ v e0.d := ⟨_, rfl, hT 2 (by decide)⟩
    have HVC := Aside0.mk hvc
    clear hvc
    simp only [Flow.putsT, v0, v1, v2, Act.put, List.setIfInBounds_toArray, List.set_cons_zero, List.set_cons_succ, List.drop_succ_cons, List.drop_zero, List.take_succ_cons, List.take_zero]
    clear hT v0 v1 v2
    have HB22 := Aside0.mk (KB.step HB21.out hb22)
    have HM_22 := Aside0.mk (MapIs.below HM_21.out hb22)
    have HRW_22 := Aside0.mk (Rows.below HRW_21.out hb22)
    have HU8_22 := Aside0.mk (u8R.below HU8_21.out hb22)
    have Kg6_19_20_21_22 := Aside0.mk (blk_below Kg6_19_20_21.out hb22)
    have Kg9_10_11_12_13_14_15_16_17_18_19_20_21_22 := Aside0.mk (blk_below Kg9_10_11_12_13_14_15_16_17_18_19_20_21.out hb22)
    have KC_17_18_19_20_21_22 := Aside0.mk (blk_below KC_17_18_19_20_21.out hb22)
    clear hb22
    refine Flow.seqL (E := fun u v => Below u.heap.size u v) 3 2 [(some 44, []), (some 45, [0]), (some 46, [1]), (some 4, [2, 2, 0, 1, 2]), (some 5, [3, 0, 1, 2, 3])] (fun iQ vQ wQ => match iQ with | 3 => vQ = vc | 4 => vQ = (.bool true) | _ => True) rfl (by decide) (by kernel_rfl) (Below.refl _ _) (fun _ _ _ h k => h.trans (k.mono h.size)) (fun _ _ _ _ h _ => h) ?_ ?_
    · refine ⟨?_, ?_, trivial⟩
      · intro a w' hx hu hd K hK; have e46 : a.tmps.getD 46 undef = vc := hu 46 rfl; exact Flow.run1 rfl (Flow.r_assign rfl e46) (hK _ _ (Below.refl _ _) rfl)
      · intro a w' hx hu hd K hK; exact Flow.run1 rfl (Flow.r_assign rfl rfl) (hK _ _ (Below.refl _ _) rfl)
    intro vs W23 hb23 hT
    have v3 := Flow.eqn (hT 3 (by decide) (by decide))
    have v4 := Flow.eqn (hT 4 (by decide) (by decide))
    simp only [Flow.putsT, v3, v4, Act.put, List.setIfInBounds_toArray, List.set_cons_zero, List.set_cons_succ, List.drop_succ_cons, List.drop_zero, List.take_succ_cons, List.take_zero]
    clear hT v3 v4
    have HB23 := Aside0.mk (KB.step HB22.out hb23)
    have HM_23 := Aside0.mk (MapIs.below HM_22.out hb23)
    have HRW_23 := Aside0.mk (Rows.below HRW_22.out hb23)
    have HU8_23 := Aside0.mk (u8R.below HU8_22.out hb23)
    have HVC_23 := Aside0.mk (u8R.below HVC.out hb23)
    have Kg6_19_20_21_22_23 := Aside0.mk (blk_below Kg6_19_20_21_22.out hb23)
    have Kg9_10_11_12_13_14_15_16_17_18_19_20_21_22_23 := Aside0.mk (blk_below Kg9_10_11_12_13_14_15_16_17_18_19_20_21_22.out hb23)
    have KC_17_18_19_20_21_22_23 := Aside0.mk (blk_below KC_17_18_19_20_21_22.out hb23)
    clear hb23
    go_wp2_with fail
    exact bodyPost_ret (results_tmp2 Try.results19 _ _ _) rfl ⟨_, rfl, HVC_23.out, ⟨KC_17_18_19_20_21_22_23.out, HM_23.out, Rows.cons (Rows.sub HRW_23.out (fun e he => wo_sub.subset he)) HU8_23.out⟩, HB23.out⟩
end Go.Proofs.Ytlhmpmmblnbmbaa.Cac
