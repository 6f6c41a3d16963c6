/- Drop of a cache. -/
import Derived.Test.YtlhmpmmblnbmbaaCacP
set_option linter.unusedVariables false
set_option linter.unusedSimpArgs false
namespace Go.Proofs.Ytlhmpmmblnbmbaa.Cac
open Go Go.RowKit Go.Proofs.Ytlhmpmmblnbmbaa.PCachePlays Go.Proofs.YtlhmpmmblnbmbaaW.PrintWords Go.Proofs.YtlhmpmmblnbmbaaW.PrintLast Go.Proofs.YtlhmpmmblnbmbaaW.PrintMore Go.Proofs.Ytlhmpmmblnbmbaa.FlowU Go.Proofs.Ytlhmpmmblnbmbaa.Ev Go.Proofs.Ytlhmpmmblnbmbaa.Ke Go.Proofs.Ytlhmpmmblnbmbaa.Cells
theorem fa36_0 (g o : Nat) (w : World) : (Instr.fieldAt 36 (.pointer (some ⟨g, o, none⟩)) 0).run Try.prog w = .ok (.pointer (some ⟨g, o, none⟩)) w := by
  have hu := Try.underlying36
  go_simp
theorem fad36_0 (ad : Addr) (w : World) : (Instr.fieldAt 36 (.pointer (some ad)) 0).run Try.prog w = .ok (.pointer (some (ad.add 0))) w := by
  have hu := Try.underlying36
  go_simp
def dropM (z : Int) (m : List Ent) : List Ent := m.filter fun e => !(e.k.f0 == z)
theorem drop_get {m : List Ent} {i : Nat} (h : i < m.length) : m.drop i = m[i] :: m.drop (i + 1) ∧ m.take (i + 1) = m.take i ++ [m[i]] := ⟨List.drop_eq_getElem_cons h, List.take_succ_eq_append_getElem h⟩
theorem dropM_no {z : Int} {m : List Ent} {i : Nat} (h : i < m.length) (hz : ¬ m[i].k.f0 = z) : dropM z (m.take i) ++ m.drop i = dropM z (m.take (i + 1)) ++ m.drop (i + 1) := by
  obtain ⟨h1, h2⟩ := drop_get h
  rw [h1, h2]
  unfold dropM
  rw [List.filter_append, List.append_assoc]
  simp [hz]
theorem dropM_yes {z : Int} {m : List Ent} (hk : Keyd m) {i : Nat} (h : i < m.length) (hz : m[i].k.f0 = z) : wo m[i].k (dropM z (m.take i) ++ m.drop i) = dropM z (m.take (i + 1)) ++ m.drop (i + 1) := by
  obtain ⟨h1, h2⟩ := drop_get h
  have hs : m = m.take i ++ (m[i] :: m.drop (i + 1)) := by rw [← h1, List.take_append_drop]
  have hp := hk.2
  rw [hs] at hp
  have hp2 := List.pairwise_append.1 hp
  rw [h1, h2]
  unfold dropM wo
  rw [List.filter_append, List.filter_append, List.filter_cons]
  have e1 : ((m.take i).filter fun e => !(e.k.f0 == z)).filter (fun e => !same e.k m[i].k) = (m.take i).filter fun e => !(e.k.f0 == z) := List.filter_eq_self.2 (fun x hx => by
    have := hp2.2.2 x (List.mem_filter.1 hx).1 m[i] List.mem_cons_self
    rw [same_ne.2 this]; rfl)
  have e2 : (m.drop (i + 1)).filter (fun e => !same e.k m[i].k) = m.drop (i + 1) := List.filter_eq_self.2 (fun x hx => by
    have := (List.pairwise_cons.1 hp2.2.1).1 x hx
    rw [same_ne.2 (Ne.symm this)]; rfl)
  rw [e1, e2, same_iff.2 rfl]
  simp [hz]
theorem dropM_cnt {z : Int} {m : List Ent} {i : Nat} (h : i < m.length) : ((dropM z (m.take (i + 1))).length : Int) = (dropM z (m.take i)).length + (if m[i].k.f0 = z then 0 else 1) := by
  obtain ⟨_, h2⟩ := drop_get h
  rw [h2]
  unfold dropM
  rw [List.filter_append, List.length_append]
  by_cases hz : m[i].k.f0 = z <;> simp [hz]
theorem dropM_le {z : Int} {m : List Ent} {i : Nat} : (dropM z (m.take i)).length ≤ i := Nat.le_trans (List.length_filter_le _ _) (by rw [List.length_take]; omega)
theorem keyd_drop {z : Int} {m : List Ent} {i : Nat} (h : Keyd m) : Keyd (dropM z (m.take i) ++ m.drop i) := keyd_sub h (by
  have : (dropM z (m.take i) ++ m.drop i).Sublist (m.take i ++ m.drop i) := List.Sublist.append List.filter_sublist (List.Sublist.refl _)
  rwa [List.take_append_drop] at this)
def KP (cur : Array Value) (n c : Nat) (ks : List S36) : Prop := n = ks.length ∧ n ≤ c ∧ c ≤ maxLen ∧ cur.size = c * 3 ∧ ∀ j k, ks[j]? = some k → cur[j * 3]? = some (.int .i64 k.f0) ∧ cur[j * 3 + 1]? = some (.int .i64 k.f1) ∧ cur[j * 3 + 2]? = some (.int .i64 k.f2)
theorem KRow.open_ {W : World} {A : Option Addr} {n c : Nat} {ks : List S36} (h : KRow W (.slice A n c) ks) (hn : 0 < n) : ∃ g cur, A = some ⟨g, 0, none⟩ ∧ W.heap[g]? = some (.cells cur 36 (0, 0)) ∧ KP cur n c ks := by
  rcases h with ⟨h1, rfl⟩ | ⟨g, c2, cur, h1, h2, h3, h4, h5, h6⟩
  · injection h1 with _ hn _; omega
  · injection h1 with ha hn2 hc
    subst ha; subst hn2; subst hc
    exact ⟨g, cur, rfl, h2, rfl, h3, h4, h5, h6⟩
theorem KP.close {W : World} {g n c : Nat} {cur : Array Value} {ks : List S36} (h : KP cur n c ks) (hk : W.heap[g]? = some (.cells cur 36 (0, 0))) : KRow W (.slice (some ⟨g, 0, none⟩) n c) ks := by
  obtain ⟨rfl, h3, h4, h5, h6⟩ := h
  exact .inr ⟨g, c, cur, rfl, hk, h3, h4, h5, h6⟩
theorem KP.lies {W : World} {g n c j : Nat} {cur : Array Value} {ks : List S36} {k : S36} (h : KP cur n c ks) (hk : W.heap[g]? = some (.cells cur 36 (0, 0))) (hj : ks[j]? = some k) : Lies W ((⟨g, 0, none⟩ : Addr).add (j * 3)) [.int .i64 k.f0, .int .i64 k.f1, .int .i64 k.f2] := by
  obtain ⟨q1, q2, q3⟩ := h.2.2.2.2 j k hj
  intro i u hi
  rw [add_plain, Addr.add_mid]
  match i, hi with
  | 0, hi => obtain rfl : _ = u := Option.some.inj hi; exact (blk_cell hk _).trans q1
  | 1, hi => obtain rfl : _ = u := Option.some.inj hi; exact (blk_cell hk _).trans q2
  | 2, hi => obtain rfl : _ = u := Option.some.inj hi; exact (blk_cell hk _).trans q3
  | i + 3, hi => simp at hi
set_option maxHeartbeats 4000000 in
set_option maxRecDepth 100000 in
theorem drop_c {gC gM : Nat} {room clock hits misses : Int} {m : List Ent} (z : Int) (w : World) (h : CA w gC gM room clock hits misses m) (ho : m.Pairwise (fun a b => b.u < a.u)) (hu : ∀ e ∈ m, 0 ≤ e.u ∧ e.u ≤ 4611686018427387904) (hlen : m.length ≤ 900000) : Calls Try.prog 25 #[.pointer (some ⟨gC, 0, none⟩), .int .i64 z] w fun e w' => e = .returned (.int .i64 ((m.length : Int) - (dropM z m).length)) ∧ CA w' gC gM room clock hits misses (dropM z m) ∧ KB (S2 gC gM) w w' := by
  have KC := Aside0.mk h.cell
  have HM := Aside0.mk h.map
  have HRW := Aside0.mk h.rows
  have HCA := Aside0.mk h
  have HO := Aside0.mk ho
  have HU := Aside0.mk hu
  have HKD := Aside0.mk h.map.2
  clear h ho hu
  obtain ⟨n1, HN1⟩ : ∃ q, Aside0 (m.length = q) := ⟨_, ⟨rfl⟩⟩
  have hn1 : n1 ≤ 900000 := HN1.out ▸ hlen
  go_enter Try.func25, Try.ntmps25
  go_upto_region 0 with fail
  refine Flow.seqT (E := fun u v => Below u.heap.size u v) [(some 4, [])] (fun iQ vQ wQ => match iQ with | 0 => vQ = (.int .i64 0) | _ => True) rfl (by kernel_rfl) (Below.refl _ _) (fun _ _ _ h k => h.trans (k.mono h.size)) (fun _ _ _ _ h _ => h) ?_ ?_
  · refine ⟨?_, trivial⟩
    · intro a w' hx hu hd K hK; exact Flow.run1 rfl (Flow.r_assign rfl rfl) (hK _ _ (Below.refl _ _) rfl)
  intro vs W1 hb1 hT
  have v0 := Flow.eqn (hT 0 (by decide))
  simp only [Flow.putsT, v0, Act.put, List.setIfInBounds_toArray, List.set_cons_zero, List.set_cons_succ]
  clear hT v0
  have HB1 := Aside0.mk (KB.of_below (S := S2 gC gM) hb1)
  have HM_1 := Aside0.mk (MapIs.below HM.out hb1)
  have HRW_1 := Aside0.mk (Rows.below HRW.out hb1)
  have KC_1 := Aside0.mk (blk_below KC.out hb1)
  clear hb1
  go_upto_region 1 with fail
  refine Flow.seqT (E := fun u v => Below u.heap.size u v) [(some 5, [])] (fun iQ vQ wQ => match iQ with | 0 => vQ = (.int .i64 0) | _ => True) rfl (by kernel_rfl) (Below.refl _ _) (fun _ _ _ h k => h.trans (k.mono h.size)) (fun _ _ _ _ h _ => h) ?_ ?_
  · refine ⟨?_, trivial⟩
    · intro a w' hx hu hd K hK; exact Flow.run1 rfl (Flow.r_assign rfl rfl) (hK _ _ (Below.refl _ _) rfl)
  intro vs W2 hb2 hT
  have v0 := Flow.eqn (hT 0 (by decide))
  simp only [Flow.putsT, v0, Act.put, List.setIfInBounds_toArray, List.set_cons_zero, List.set_cons_succ]
  clear hT v0
  have HB2 := Aside0.mk (KB.step HB1.out hb2)
  have HM_2 := Aside0.mk (MapIs.below HM_1.out hb2)
  have HRW_2 := Aside0.mk (Rows.below HRW_1.out hb2)
  have KC_1_2 := Aside0.mk (blk_below KC_1.out hb2)
  clear hb2
  go_upto_region 2 with fail
  refine Flow.seqT_head (E := fun u v => Below u.heap.size u v) 1 [(some 8, []), (some 9, [0]), (some 10, [1]), (some 11, [])] (fun iQ vQ wQ => match iQ with | 0 => vQ = (.pointer (some ⟨gC, 0, none⟩)) | _ => True) rfl (by decide) (by kernel_rfl) (Below.refl _ _) (fun _ _ _ h k => h.trans (k.mono h.size)) (fun _ _ _ _ h _ => h) ?_ ?_
  · refine ⟨?_, trivial⟩
    · intro a w' hx hu hd K hK; have e0 : a.tmps.getD 0 undef = (.pointer (some ⟨gC, 0, none⟩)) := hu 0 rfl; exact Flow.run1 rfl (Flow.r_move rfl e0) (hK _ _ (Below.refl _ _) rfl)
  intro vs W3 hb3 hT
  have v0 := Flow.eqn (hT 0 (by decide))
  simp only [Flow.putsT, v0, Act.put, List.setIfInBounds_toArray, List.set_cons_zero, List.set_cons_succ, List.drop_succ_cons, List.drop_zero, List.take_succ_cons, List.take_zero]
  clear hT v0
  have HB3 := Aside0.mk (KB.step HB2.out hb3)
  have HM_3 := Aside0.mk (MapIs.below HM_2.out hb3)
  have HRW_3 := Aside0.mk (Rows.below HRW_2.out hb3)
  have KC_1_2_3 := Aside0.mk (blk_below KC_1_2.out hb3)
  clear hb3
  refine ecall rfl rfl Try.func27 (by kernel_rfl) rfl (args := #[.pointer (some ⟨gC, 0, none⟩)]) (by simp only [List.map_toArray, List.map_cons, List.map_nil, Act.eval]; rfl) (keys_c _ ⟨KC_1_2_3.out, HM_3.out, HRW_3.out⟩ HO.out HU.out (by rw [HN1.out]; omega)) ?_
  rintro e W4 ⟨vk, rfl, hkr, hbz⟩
  refine ⟨_, rfl, ?_⟩
  obtain ⟨Ak, ck, rfl⟩ := hkr.slice
  rw [List.length_map, HN1.out] at hkr ⊢
  have HKR := Aside0.mk hkr
  clear hkr
  have HM_4 := Aside0.mk (MapIs.below HM_3.out hbz)
  have HRW_4 := Aside0.mk (Rows.below HRW_3.out hbz)
  have KC_1_2_3_4 := Aside0.mk (blk_below KC_1_2_3.out hbz)
  have HB4 := Aside0.mk (KB.step HB3.out hbz)
  clear hbz
  simp only [Act.put, List.setIfInBounds_toArray, List.set_cons_zero, List.set_cons_succ]
  refine Flow.seqL (E := fun u v => Below u.heap.size u v) 2 2 [(some 8, []), (some 9, [0]), (some 10, [1]), (some 11, [])] (fun iQ vQ wQ => match iQ with | 2 => vQ = (.int .i64 n1) | 3 => vQ = (.int .i64 0) | _ => True) rfl (by decide) (by kernel_rfl) (Below.refl _ _) (fun _ _ _ h k => h.trans (k.mono h.size)) (fun _ _ _ _ h _ => h) ?_ ?_
  · refine ⟨?_, ?_, trivial⟩
    · intro a w' hx hu hd K hK; have e9 : a.tmps.getD 9 undef = (.slice Ak n1 ck) := hu 9 rfl; exact Flow.run1 rfl (lenL Try.underlying53 rfl e9) (hK _ _ (Below.refl _ _) rfl)
    · intro a w' hx hu hd K hK; exact Flow.run1 rfl (Flow.r_move rfl rfl) (hK _ _ (Below.refl _ _) rfl)
  intro vs W5 hb5 hT
  have v2 := Flow.eqn (hT 2 (by decide) (by decide))
  have v3 := Flow.eqn (hT 3 (by decide) (by decide))
  simp only [Flow.putsT, v2, v3, Act.put, List.setIfInBounds_toArray, List.set_cons_zero, List.set_cons_succ, List.drop_succ_cons, List.drop_zero, List.take_succ_cons, List.take_zero]
  clear hT v2 v3
  have HB5 := Aside0.mk (KB.step HB4.out hb5)
  have HM_5 := Aside0.mk (MapIs.below HM_4.out hb5)
  have HRW_5 := Aside0.mk (Rows.below HRW_4.out hb5)
  have HKR_5 := Aside0.mk (KRow.below HKR.out hb5)
  have KC_1_2_3_4_5 := Aside0.mk (blk_below KC_1_2_3_4.out hb5)
  clear hb5
  go_wp2
  go_loopg [5, 11] n1 (fun g v5 v11 wr => ∃ i : Nat, ∃ q : Int, i ≤ n1 ∧ Aside0 (g = n1 - i) ∧ v11 = .int .i64 i ∧ v5 = .int .i64 q ∧ Aside0 (q = (i : Int) - (dropM z (m.take i)).length) ∧ Aside0 (KB (S2 gC gM) w wr) ∧ Aside0 (wr.heap[gC]? = some (.cells #[.map (some gM), .int .i64 room, .int .i64 clock, .int .i64 hits, .int .i64 misses] 83 (0, 0))) ∧ Aside0 (MapIs wr gM (dropM z (m.take i) ++ m.drop i)) ∧ Aside0 (Rows wr m) ∧ Aside0 (KRow wr (.slice Ak n1 ck) (m.map (·.k))))
  case atStart => exact ⟨0, 0, Nat.zero_le _, ⟨rfl⟩, rfl, rfl, ⟨rfl⟩, HB5, KC_1_2_3_4_5, ⟨by rw [List.take_zero, List.drop_zero]; exact HM_5.out⟩, HRW_5, HKR_5⟩
  case round =>
    clear HB5 KC_1_2_3_4_5 HM_5 HRW_5 HKR_5
    obtain ⟨i, q, hi, HGI, rfl, rfl, HQ, HBR, KCR, HMR, HRR, HKR⟩ := hrel
    by_cases hlt : i < n1
    · have hlt2 : (i : Int) < n1 := by omega
      have him : i < m.length := by rw [HN1.out]; exact hlt
      obtain ⟨gk, cur, hAk, hkk, hkp⟩ := HKR.out.open_ (by omega)
      subst hAk
      have KGK := Aside0.mk hkk
      have HKP := Aside0.mk hkp
      clear hkk hkp
      obtain ⟨ee, HEE⟩ : ∃ q, Aside0 (m[i] = q) := ⟨_, ⟨rfl⟩⟩
      have HKE : Aside0 ((m.map (·.k))[i]? = some ee.k) := ⟨by rw [← HEE.out, List.getElem?_map, List.getElem?_eq_getElem him]; rfl⟩
      have HGE : Aside0 (G36 ee.k) := ⟨HKD.out.1 ee (HEE.out ▸ List.getElem_mem him)⟩
      obtain ⟨kz, HKZ⟩ : ∃ q, Aside0 (ee.k = q) := ⟨_, ⟨rfl⟩⟩
      rw [HKZ.out] at HKE HGE
      obtain ⟨q1, Q1H⟩ : ∃ x, Aside0 (q + 1 = x) := ⟨_, ⟨rfl⟩⟩
      obtain ⟨i1, I1H⟩ : ∃ x, Aside0 (i + 1 = x) := ⟨_, ⟨rfl⟩⟩
      have hq1 := Q1H.out
      have hi1 := I1H.out
      have hqq := HQ.out
      have hdl := dropM_le (z := z) (m := m) (i := i)
      have hcn := dropM_cnt (z := z) him
      rw [HEE.out, HKZ.out] at hcn
      go_upto_region 3 with fail
      refine Flow.seqT (E := fun u v => Below u.heap.size u v) [(some 12, [])] (fun iQ vQ wQ => match iQ with | 0 => vQ = (.bool true) | _ => True) rfl (by kernel_rfl) (Below.refl _ _) (fun _ _ _ h k => h.trans (k.mono h.size)) (fun _ _ _ _ h _ => h) ?_ ?_
      · refine ⟨?_, trivial⟩
        · intro a w' hx hu hd K hK; have e11 : a.tmps.getD 11 undef = (.int .i64 i) := hu 11 rfl; have e10 : a.tmps.getD 10 undef = (.int .i64 n1) := hu 10 rfl; exact Flow.run1 rfl (yes (lss rfl e11 e10) (decide_eq_true hlt2)) (hK _ _ (Below.refl _ _) rfl)
      intro vs W6 hb6 hT
      have v0 := Flow.eqn (hT 0 (by decide))
      simp only [Flow.putsT, v0, Act.put, List.setIfInBounds_toArray, List.set_cons_zero, List.set_cons_succ]
      clear hT v0
      have HB6 := Aside0.mk (KB.step HBR.out hb6)
      have HM_6 := Aside0.mk (MapIs.below HMR.out hb6)
      have HRW_6 := Aside0.mk (Rows.below HRR.out hb6)
      have KCR_6 := Aside0.mk (blk_below KCR.out hb6)
      have KGK_6 := Aside0.mk (blk_below KGK.out hb6)
      clear hb6
      go_upto_region 4 with fail
      refine Flow.seqT_head (E := fun u v => Below u.heap.size u v) 2 [(some 13, []), (some 14, [0]), (some 7, []), (none, [2, 1, 0, 1, 2])] (fun iQ vQ wQ => match iQ with | 0 => vQ = (.pointer (some ((⟨gk, 0, none⟩ : Addr).add (i * 3)))) | 1 => vQ = (.agg #[.int .i64 kz.f0, .int .i64 kz.f1, .int .i64 kz.f2]) | _ => True) rfl (by decide) (by kernel_rfl) (Below.refl _ _) (fun _ _ _ h k => h.trans (k.mono h.size)) (fun _ _ _ _ h _ => h) ?_ ?_
      · refine ⟨?_, ?_, trivial⟩
        · intro a w' hx hu hd K hK; have e9 : a.tmps.getD 9 undef = (.slice (some ⟨gk, 0, none⟩) n1 ck) := hu 9 rfl; have e11 : a.tmps.getD 11 undef = (.int .i64 i) := hu 11 rfl; exact Flow.run1 rfl (ix (i := i) Try.underlying53 size36 rfl e9 e11 hlt) (hK _ _ (Below.refl _ _) rfl)
        · intro a w' hx hu hd K hK; have e13 := Flow.got (hd 0 rfl) 13 rfl; exact Flow.run1 rfl (ldrow rfl e13 (HKP.out.lies (blk_below KGK_6.out hx) HKE.out) Try.underlying36 rfl size36) (hK _ _ (Below.refl _ _) rfl)
      intro vs W7 hb7 hT
      have v0 := Flow.eqn (hT 0 (by decide))
      have v1 := Flow.eqn (hT 1 (by decide))
      simp only [Flow.putsT, v0, v1, Act.put, List.setIfInBounds_toArray, List.set_cons_zero, List.set_cons_succ, List.drop_succ_cons, List.drop_zero, List.take_succ_cons, List.take_zero]
      clear hT v0 v1
      have HB7 := Aside0.mk (KB.step HB6.out hb7)
      have HM_7 := Aside0.mk (MapIs.below HM_6.out hb7)
      have HRW_7 := Aside0.mk (Rows.below HRW_6.out hb7)
      have KCR_6_7 := Aside0.mk (blk_below KCR_6.out hb7)
      have KGK_6_7 := Aside0.mk (blk_below KGK_6.out hb7)
      clear hb7
      refine ealloc rfl rfl zero36_is ?_
      intro g8 hg8 W8 hk8 hb8
      have Kg8 := Aside0.mk hk8
      have Ng8_gC := Aside0.mk (show gC ≠ g8 by have := (Array.getElem?_eq_some_iff.1 KCR_6_7.out).1; omega)
      have NgC_g8 := Aside0.mk (Ne.symm Ng8_gC.out)
      have Ng8_gk := Aside0.mk (show gk ≠ g8 by have := (Array.getElem?_eq_some_iff.1 KGK_6_7.out).1; omega)
      have Ngk_g8 := Aside0.mk (Ne.symm Ng8_gk.out)
      have HB8 := Aside0.mk (KB.step HB7.out hb8)
      have HM_8 := Aside0.mk (MapIs.below HM_7.out hb8)
      have HRW_8 := Aside0.mk (Rows.below HRW_7.out hb8)
      have KCR_6_7_8 := Aside0.mk (blk_below KCR_6_7.out hb8)
      have KGK_6_7_8 := Aside0.mk (blk_below KGK_6_7.out hb8)
      clear hb8
      have Gg8 := Aside0.mk (show w.heap.size ≤ g8 by rw [hg8]; exact HB7.out.size)
      clear hg8 hk8
      simp only [Act.put, List.setIfInBounds_toArray, List.set_cons_zero, List.set_cons_succ]
      refine Cells.store_whole rfl rfl 36 _ _ rfl g8 [.int .i64 kz.f0, .int .i64 kz.f1, .int .i64 kz.f2] #[.int .i64 0, .int .i64 0, .int .i64 0] rfl rfl Kg8.out rfl size36 rfl ?_
      intro W9 hk9 hf9 hb9
      have HM_9 := Aside0.mk (MapIs.of_heap HM_8.out (hf9 _ (MapIs.ne HM_8.out Kg8.out)))
      have HRW_9 := Aside0.mk (Rows.far HRW_8.out Kg8.out (by decide) hf9)
      have HB9 := Aside0.mk (KB.store HB8.out hf9 (hb9 0 (Nat.zero_le _)) (.inr Gg8.out))
      have KCR_6_7_8_9 := Aside0.mk ((hf9 _ Ng8_gC.out).trans KCR_6_7_8.out)
      have KGK_6_7_8_9 := Aside0.mk ((hf9 _ Ng8_gk.out).trans KGK_6_7_8.out)
      have Kg8_9 := Aside0.mk hk9
      clear hk9 hf9 hb9
      by_cases hz : kz.f0 = z
      · have HZ := Aside0.mk hz
        clear hz
        rw [if_pos HZ.out] at hcn
        go_upto_region 5 with fail
        refine Flow.seqT (E := fun u v => Below u.heap.size u v) [(some 15, []), (some 16, [0]), (some 17, []), (some 18, [1, 2])] (fun iQ vQ wQ => match iQ with | 0 => vQ = (.pointer (some ⟨g8, 0, none⟩)) | 1 => vQ = (.int .i64 kz.f0) | 2 => vQ = (.int .i64 z) | 3 => vQ = (.bool true) | _ => True) rfl (by kernel_rfl) (Below.refl _ _) (fun _ _ _ h k => h.trans (k.mono h.size)) (fun _ _ _ _ h _ => h) ?_ ?_
        · refine ⟨?_, ?_, ?_, ?_, trivial⟩
          · intro a w' hx hu hd K hK; have e7 : a.tmps.getD 7 undef = (.pointer (some ⟨g8, 0, none⟩)) := hu 7 rfl; exact Flow.run1 rfl (fa rfl e7 (fa36_0 _ _ _)) (hK _ _ (Below.refl _ _) rfl)
          · intro a w' hx hu hd K hK; have e15 := Flow.got (hd 0 rfl) 15 rfl; exact Flow.run1 rfl (ld rfl e15 ((blk_cell (blk_below Kg8_9.out hx) 0).trans rfl) Try.underlying3 rfl) (hK _ _ (Below.refl _ _) rfl)
          · intro a w' hx hu hd K hK; have e1 : a.tmps.getD 1 undef = (.int .i64 z) := hu 1 rfl; exact Flow.run1 rfl (Flow.r_move rfl e1) (hK _ _ (Below.refl _ _) rfl)
          · intro a w' hx hu hd K hK; have e16 := Flow.got (hd 1 rfl) 16 rfl; have e17 := Flow.got (hd 2 rfl) 17 rfl; exact Flow.run1 rfl (yes (eql rfl e16 e17) (beq_iff_eq.2 HZ.out)) (hK _ _ (Below.refl _ _) rfl)
        intro vs W10 hb10 hT
        have v0 := Flow.eqn (hT 0 (by decide))
        have v1 := Flow.eqn (hT 1 (by decide))
        have v2 := Flow.eqn (hT 2 (by decide))
        have v3 := Flow.eqn (hT 3 (by decide))
        simp only [Flow.putsT, v0, v1, v2, v3, Act.put, List.setIfInBounds_toArray, List.set_cons_zero, List.set_cons_succ]
        clear hT v0 v1 v2 v3
        have HB10 := Aside0.mk (KB.step HB9.out hb10)
        have HM_10 := Aside0.mk (MapIs.below HM_9.out hb10)
        have HRW_10 := Aside0.mk (Rows.below HRW_9.out hb10)
        have KCR_6_7_8_9_10 := Aside0.mk (blk_below KCR_6_7_8_9.out hb10)
        have KGK_6_7_8_9_10 := Aside0.mk (blk_below KGK_6_7_8_9.out hb10)
        have Kg8_9_10 := Aside0.mk (blk_below Kg8_9.out hb10)
        clear hb10
        go_upto_region 6 with fail
        refine Flow.flowT_head (E := fun u v => Below u.heap.size u v) 5 [(some 19, []), (some 20, [0]), (some 21, [1]), (some 22, [2]), (some 23, []), (none, [3, 4])] (fun iQ vQ wQ => match iQ with | 0 => vQ = (.pointer (some ⟨gC, 0, none⟩)) | 1 => vQ = (.pointer (some ⟨gC, 0, none⟩)) | 2 => vQ = (.pointer (some ⟨gC, 0, none⟩)) | 3 => vQ = (.map (some gM)) | 4 => vQ = (.agg #[.int .i64 kz.f0, .int .i64 kz.f1, .int .i64 kz.f2]) | _ => True) rfl (by kernel_rfl) (by kernel_rfl) (by kernel_rfl) ((Below.refl _ _).drew) (fun _ _ _ h k => h.trans (k.mono h.size)) (fun _ _ _ _ h _ => h) ?_ ?_
        · refine ⟨?_, ?_, ?_, ?_, ?_, trivial⟩
          · intro a w' hx hu hd K hK; have e0 : a.tmps.getD 0 undef = (.pointer (some ⟨gC, 0, none⟩)) := hu 0 rfl; exact Flow.run1 rfl (Flow.r_move rfl e0) (hK _ _ (Below.refl _ _) rfl)
          · intro a w' hx hu hd K hK; have e19 := Flow.got (hd 0 (by decide)) 19 rfl; exact Flow.run1 rfl (nilck rfl e19) (hK _ _ (Below.refl _ _) rfl)
          · intro a w' hx hu hd K hK; have e20 := Flow.got (hd 1 (by decide)) 20 rfl; exact Flow.run1 rfl (fa rfl e20 (fa83_0 _ _ _)) (hK _ _ (Below.refl _ _) rfl)
          · intro a w' hx hu hd K hK; have e21 := Flow.got (hd 2 (by decide)) 21 rfl; exact Flow.run1 rfl (ld rfl e21 ((blk_cell (blk_below KCR_6_7_8_9_10.out hx) 0).trans rfl) Try.underlying81 rfl) (hK _ _ (Below.refl _ _) rfl)
          · intro a w' hx hu hd K hK; have e7 : a.tmps.getD 7 undef = (.pointer (some ⟨g8, 0, none⟩)) := hu 7 rfl; exact Flow.run1 rfl (ldrow rfl e7 (lies_block (blk_below Kg8_9_10.out hx)) Try.underlying36 rfl size36) (hK _ _ (Below.refl _ _) rfl)
        intro vs W11 hb11 hT
        have v0 := Flow.eqn (hT 0 (by decide))
        have v1 := Flow.eqn (hT 1 (by decide))
        have v2 := Flow.eqn (hT 2 (by decide))
        have v3 := Flow.eqn (hT 3 (by decide))
        have v4 := Flow.eqn (hT 4 (by decide))
        simp only [Flow.putsT, v0, v1, v2, v3, v4, Act.put, List.setIfInBounds_toArray, List.set_cons_zero, List.set_cons_succ, List.drop_succ_cons, List.drop_zero, List.take_succ_cons, List.take_zero]
        clear hT v0 v1 v2 v3 v4
        have HB11 := Aside0.mk (KB.step HB10.out hb11)
        have HM_11 := Aside0.mk (MapIs.below HM_10.out hb11)
        have HRW_11 := Aside0.mk (Rows.below HRW_10.out hb11)
        have KCR_6_7_8_9_10_11 := Aside0.mk (blk_below KCR_6_7_8_9_10.out hb11)
        have KGK_6_7_8_9_10_11 := Aside0.mk (blk_below KGK_6_7_8_9_10.out hb11)
        have Kg8_9_10_11 := Aside0.mk (blk_below Kg8_9_10.out hb11)
        clear hb11
        refine del_map (k := kz) rfl rfl rfl HM_11.out rfl HGE.out ?_
        intro W12 hm12 hg12
        have hwo := dropM_yes (z := z) HKD.out him (by rw [HEE.out, HKZ.out]; exact HZ.out)
        rw [HEE.out, HKZ.out] at hwo
        rw [hwo] at hm12
        have HRW_12 := Aside0.mk (Rows.map HRW_11.out HM_11.out.is_map hg12)
        have KGK_12 := Aside0.mk (grown_blk hg12 KGK_6_7_8_9_10_11.out (HM_11.out.ne KGK_6_7_8_9_10_11.out))
        have KC_12 := Aside0.mk (grown_blk hg12 KCR_6_7_8_9_10_11.out (HM_11.out.ne KCR_6_7_8_9_10_11.out))
        have HM_12 := Aside0.mk hm12
        have HB12 := Aside0.mk (KB.grown HB11.out hg12 (.inl (.inr rfl)))
        clear hm12 hg12 hwo
        simp only [Act.put, List.setIfInBounds_toArray, List.set_cons_zero, List.set_cons_succ]
        go_upto_region 7 with fail
        refine Flow.seqT (E := fun u v => Below u.heap.size u v) [(some 24, []), (some 25, [0]), (some 5, [1, 0, 1])] (fun iQ vQ wQ => match iQ with | 0 => vQ = (.int .i64 q) | 1 => vQ = (.int .i64 q1) | 2 => vQ = (.int .i64 q1) | _ => True) rfl (by kernel_rfl) (Below.refl _ _) (fun _ _ _ h k => h.trans (k.mono h.size)) (fun _ _ _ _ h _ => h) ?_ ?_
        · refine ⟨?_, ?_, ?_, trivial⟩
          · intro a w' hx hu hd K hK; have e5 : a.tmps.getD 5 undef = (.int .i64 q) := hu 5 rfl; exact Flow.run1 rfl (Flow.r_move rfl e5) (hK _ _ (Below.refl _ _) rfl)
          · intro a w' hx hu hd K hK; have e24 := Flow.got (hd 0 rfl) 24 rfl; exact Flow.run1 rfl (addk rfl e24 rfl (by omega) (by omega) (by omega)) (hK _ _ (Below.refl _ _) rfl)
          · intro a w' hx hu hd K hK; have e25 := Flow.got (hd 1 rfl) 25 rfl; exact Flow.run1 rfl (Flow.r_assign rfl e25) (hK _ _ (Below.refl _ _) rfl)
        intro vs W13 hb13 hT
        have v0 := Flow.eqn (hT 0 (by decide))
        have v1 := Flow.eqn (hT 1 (by decide))
        have v2 := Flow.eqn (hT 2 (by decide))
        simp only [Flow.putsT, v0, v1, v2, Act.put, List.setIfInBounds_toArray, List.set_cons_zero, List.set_cons_succ]
        clear hT v0 v1 v2
        have HB13 := Aside0.mk (KB.step HB12.out hb13)
        have HM_13 := Aside0.mk (MapIs.below HM_12.out hb13)
        have HRW_13 := Aside0.mk (Rows.below HRW_12.out hb13)
        have KC_12_13 := Aside0.mk (blk_below KC_12.out hb13)
        have KGK_12_13 := Aside0.mk (blk_below KGK_12.out hb13)
        clear hb13
        go_upto_region 8 with fail
        refine Flow.seqT (E := fun u v => Below u.heap.size u v) [(some 26, []), (some 11, [0])] (fun iQ vQ wQ => match iQ with | 0 => vQ = (.int .i64 i1) | 1 => vQ = (.int .i64 i1) | _ => True) rfl (by kernel_rfl) (Below.refl _ _) (fun _ _ _ h k => h.trans (k.mono h.size)) (fun _ _ _ _ h _ => h) ?_ ?_
        · refine ⟨?_, ?_, trivial⟩
          · intro a w' hx hu hd K hK; have e11 : a.tmps.getD 11 undef = (.int .i64 i) := hu 11 rfl; exact Flow.run1 rfl (addk rfl e11 rfl (by omega) (by omega) (by omega)) (hK _ _ (Below.refl _ _) rfl)
          · intro a w' hx hu hd K hK; have e26 := Flow.got (hd 0 rfl) 26 rfl; exact Flow.run1 rfl (Flow.r_move rfl e26) (hK _ _ (Below.refl _ _) rfl)
        intro vs W14 hb14 hT
        have v0 := Flow.eqn (hT 0 (by decide))
        have v1 := Flow.eqn (hT 1 (by decide))
        simp only [Flow.putsT, v0, v1, Act.put, List.setIfInBounds_toArray, List.set_cons_zero, List.set_cons_succ]
        clear hT v0 v1
        have HB14 := Aside0.mk (KB.step HB13.out hb14)
        have HM_14 := Aside0.mk (MapIs.below HM_13.out hb14)
        have HRW_14 := Aside0.mk (Rows.below HRW_13.out hb14)
        have KC_12_13_14 := Aside0.mk (blk_below KC_12_13.out hb14)
        have KGK_12_13_14 := Aside0.mk (blk_below KGK_12_13.out hb14)
        clear hb14
        go_wp2
        go_roundg (n1 - (i + 1))
        case measure => have := HGI.out; omega
        case rel => exact ⟨i1, _, by omega, ⟨by omega⟩, rfl, rfl, ⟨by rw [← hi1]; omega⟩, HB14, KC_12_13_14, ⟨by rw [← hi1]; exact HM_14.out⟩, HRW_14, ⟨HKP.out.close KGK_12_13_14.out⟩⟩
      · have HZ := Aside0.mk hz
        clear hz
        rw [if_neg HZ.out] at hcn
        go_upto_region 5 with fail
        refine Flow.seqT (E := fun u v => Below u.heap.size u v) [(some 15, []), (some 16, [0]), (some 17, []), (some 18, [1, 2])] (fun iQ vQ wQ => match iQ with | 0 => vQ = (.pointer (some ⟨g8, 0, none⟩)) | 1 => vQ = (.int .i64 kz.f0) | 2 => vQ = (.int .i64 z) | 3 => vQ = (.bool false) | _ => True) rfl (by kernel_rfl) (Below.refl _ _) (fun _ _ _ h k => h.trans (k.mono h.size)) (fun _ _ _ _ h _ => h) ?_ ?_
        · refine ⟨?_, ?_, ?_, ?_, trivial⟩
          · intro a w' hx hu hd K hK; have e7 : a.tmps.getD 7 undef = (.pointer (some ⟨g8, 0, none⟩)) := hu 7 rfl; exact Flow.run1 rfl (fa rfl e7 (fa36_0 _ _ _)) (hK _ _ (Below.refl _ _) rfl)
          · intro a w' hx hu hd K hK; have e15 := Flow.got (hd 0 rfl) 15 rfl; exact Flow.run1 rfl (ld rfl e15 ((blk_cell (blk_below Kg8_9.out hx) 0).trans rfl) Try.underlying3 rfl) (hK _ _ (Below.refl _ _) rfl)
          · intro a w' hx hu hd K hK; have e1 : a.tmps.getD 1 undef = (.int .i64 z) := hu 1 rfl; exact Flow.run1 rfl (Flow.r_move rfl e1) (hK _ _ (Below.refl _ _) rfl)
          · intro a w' hx hu hd K hK; have e16 := Flow.got (hd 1 rfl) 16 rfl; have e17 := Flow.got (hd 2 rfl) 17 rfl; exact Flow.run1 rfl (no (eql rfl e16 e17) (beq_eq_false_iff_ne.2 HZ.out)) (hK _ _ (Below.refl _ _) rfl)
        intro vs W15 hb15 hT
        have v0 := Flow.eqn (hT 0 (by decide))
        have v1 := Flow.eqn (hT 1 (by decide))
        have v2 := Flow.eqn (hT 2 (by decide))
        have v3 := Flow.eqn (hT 3 (by decide))
        simp only [Flow.putsT, v0, v1, v2, v3, Act.put, List.setIfInBounds_toArray, List.set_cons_zero, List.set_cons_succ]
        clear hT v0 v1 v2 v3
        have HB15 := Aside0.mk (KB.step HB9.out hb15)
        have HM_15 := Aside0.mk (MapIs.below HM_9.out hb15)
        have HRW_15 := Aside0.mk (Rows.below HRW_9.out hb15)
        have KCR_6_7_8_9_15 := Aside0.mk (blk_below KCR_6_7_8_9.out hb15)
        have KGK_6_7_8_9_15 := Aside0.mk (blk_below KGK_6_7_8_9.out hb15)
        have Kg8_9_15 := Aside0.mk (blk_below Kg8_9.out hb15)
        clear hb15
        go_upto_region 8 with fail
        refine Flow.seqT (E := fun u v => Below u.heap.size u v) [(some 26, []), (some 11, [0])] (fun iQ vQ wQ => match iQ with | 0 => vQ = (.int .i64 i1) | 1 => vQ = (.int .i64 i1) | _ => True) rfl (by kernel_rfl) (Below.refl _ _) (fun _ _ _ h k => h.trans (k.mono h.size)) (fun _ _ _ _ h _ => h) ?_ ?_
        · refine ⟨?_, ?_, trivial⟩
          · intro a w' hx hu hd K hK; have e11 : a.tmps.getD 11 undef = (.int .i64 i) := hu 11 rfl; exact Flow.run1 rfl (addk rfl e11 rfl (by omega) (by omega) (by omega)) (hK _ _ (Below.refl _ _) rfl)
          · intro a w' hx hu hd K hK; have e26 := Flow.got (hd 0 rfl) 26 rfl; exact Flow.run1 rfl (Flow.r_move rfl e26) (hK _ _ (Below.refl _ _) rfl)
        intro vs W16 hb16 hT
        have v0 := Flow.eqn (hT 0 (by decide))
        have v1 := Flow.eqn (hT 1 (by decide))
        simp only [Flow.putsT, v0, v1, Act.put, List.setIfInBounds_toArray, List.set_cons_zero, List.set_cons_succ]
        clear hT v0 v1
        have HB16 := Aside0.mk (KB.step HB15.out hb16)
        have HM_16 := Aside0.mk (MapIs.below HM_15.out hb16)
        have HRW_16 := Aside0.mk (Rows.below HRW_15.out hb16)
        have KCR_6_7_8_9_15_16 := Aside0.mk (blk_below KCR_6_7_8_9_15.out hb16)
        have KGK_6_7_8_9_15_16 := Aside0.mk (blk_below KGK_6_7_8_9_15.out hb16)
        have Kg8_9_15_16 := Aside0.mk (blk_below Kg8_9_15.out hb16)
        clear hb16
        have hno := dropM_no (z := z) him (by rw [HEE.out, HKZ.out]; exact HZ.out)
        go_wp2
        go_roundg (n1 - (i + 1))
        case measure => have := HGI.out; omega
        case rel => exact ⟨i1, _, by omega, ⟨by omega⟩, rfl, rfl, ⟨by rw [← hi1]; omega⟩, HB16, KCR_6_7_8_9_15_16, ⟨by rw [← hi1]; exact hno ▸ HM_16.out⟩, HRW_16, ⟨HKP.out.close KGK_6_7_8_9_15_16.out⟩⟩
    · obtain rfl : i = n1 := by omega
      have hlt2 : ¬ ((i : Nat) : Int) < i := by omega
      go_upto_region 3 with fail
      refine Flow.seqT (E := fun u v => Below u.heap.size u v) [(some 12, [])] (fun iQ vQ wQ => match iQ with | 0 => vQ = (.bool false) | _ => True) rfl (by kernel_rfl) (Below.refl _ _) (fun _ _ _ h k => h.trans (k.mono h.size)) (fun _ _ _ _ h _ => h) ?_ ?_
      · refine ⟨?_, trivial⟩
        · intro a w' hx hu hd K hK; have e11 : a.tmps.getD 11 undef = (.int .i64 i) := hu 11 rfl; have e10 : a.tmps.getD 10 undef = (.int .i64 i) := hu 10 rfl; exact Flow.run1 rfl (no (lss rfl e11 e10) (decide_eq_false hlt2)) (hK _ _ (Below.refl _ _) rfl)
      intro vs W17 hb17 hT
      have v0 := Flow.eqn (hT 0 (by decide))
      simp only [Flow.putsT, v0, Act.put, List.setIfInBounds_toArray, List.set_cons_zero, List.set_cons_succ]
      clear hT v0
      have HB17 := Aside0.mk (KB.step HBR.out hb17)
      have HM_17 := Aside0.mk (MapIs.below HMR.out hb17)
      have HRW_17 := Aside0.mk (Rows.below HRR.out hb17)
      have HKR_17 := Aside0.mk (KRow.below HKR.out hb17)
      have KCR_17 := Aside0.mk (blk_below KCR.out hb17)
      clear hb17
      go_upto_region 9 with fail
      refine Flow.seqT (E := fun u v => Below u.heap.size u v) [(some 27, []), (some 4, [0, 0])] (fun iQ vQ wQ => match iQ with | 0 => vQ = (.int .i64 q) | 1 => vQ = (.int .i64 q) | _ => True) rfl (by kernel_rfl) (Below.refl _ _) (fun _ _ _ h k => h.trans (k.mono h.size)) (fun _ _ _ _ h _ => h) ?_ ?_
      · refine ⟨?_, ?_, trivial⟩
        · intro a w' hx hu hd K hK; have e5 : a.tmps.getD 5 undef = (.int .i64 q) := hu 5 rfl; exact Flow.run1 rfl (Flow.r_move rfl e5) (hK _ _ (Below.refl _ _) rfl)
        · intro a w' hx hu hd K hK; have e27 := Flow.got (hd 0 rfl) 27 rfl; exact Flow.run1 rfl (Flow.r_assign rfl e27) (hK _ _ (Below.refl _ _) rfl)
      intro vs W18 hb18 hT
      have v0 := Flow.eqn (hT 0 (by decide))
      have v1 := Flow.eqn (hT 1 (by decide))
      simp only [Flow.putsT, v0, v1, Act.put, List.setIfInBounds_toArray, List.set_cons_zero, List.set_cons_succ]
      clear hT v0 v1
      have HB18 := Aside0.mk (KB.step HB17.out hb18)
      have HM_18 := Aside0.mk (MapIs.below HM_17.out hb18)
      have HRW_18 := Aside0.mk (Rows.below HRW_17.out hb18)
      have HKR_18 := Aside0.mk (KRow.below HKR_17.out hb18)
      have KCR_17_18 := Aside0.mk (blk_below KCR_17.out hb18)
      clear hb18
      have HTK : Aside0 (dropM z (m.take i) ++ m.drop i = dropM z m) := ⟨by rw [List.take_of_length_le (Nat.le_of_eq HN1.out), List.drop_eq_nil_of_le (Nat.le_of_eq HN1.out), List.append_nil]⟩
      have HTK2 : Aside0 (dropM z (m.take i) = dropM z m) := ⟨by rw [List.take_of_length_le (Nat.le_of_eq HN1.out)]⟩
      have HQ2 : Aside0 (q = (m.length : Int) - (dropM z m).length) := ⟨by rw [HN1.out, ← HTK2.out]; exact HQ.out⟩
      go_wp2_with fail
      exact bodyPost_ret (results_tmp Try.results25 _ _ _) rfl ⟨by rw [← HQ2.out]; rfl, ⟨KCR_17_18.out, HTK.out ▸ HM_18.out, Rows.sub HRW_18.out (fun e he => (List.mem_filter.1 he).1)⟩, HB18.out⟩
end Go.Proofs.Ytlhmpmmblnbmbaa.Cac
