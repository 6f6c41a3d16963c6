/- The law ReportZones, walked. -/
import Derived.Test.YtlhmpmmblnbmbaaDoorRepLive
import Derived.Test.YtlhmpmmblnbmbaaDoorRepInj
import Derived.Laws.StructEq
namespace Go.Proofs.YtlhmpmmblnbmbaaDoor.Rep
open Go.Lib Go.RowKit Go.Proofs.YtlhmpmmblnbmbaaDoor.Cells Go.Proofs.YtlhmpmmblnbmbaaDoorW.PrintWords Go.Proofs.YtlhmpmmblnbmbaaDoorW.PrintLast Go.Proofs.YtlhmpmmblnbmbaaDoorW.PrintMore
theorem neq_one {o : Oper} {a : Act} {w : World} {x y : Operand} {s : ByteArray} (ho : o.op = .binOp .neq 9 x y 9) (hx : a.eval x = .string s) (hy : a.eval y = .string s) : (execOp a.eval o).run Tryd.prog w = .ok (.value (.bool false)) w := by
  have hu := Tryd.underlying9
  unfold execOp
  simp only [ho, hx, hy]
  simp [go_sem]
theorem eqs_one {o : Oper} {a : Act} {w : World} {x y : Operand} {p q : S24} (ho : o.op = .binOp .eql 24 x y 24) (hx : a.eval x = .agg #[.int .i64 p.f0, .int .i64 p.f1, .int .i64 p.f2]) (hy : a.eval y = .agg #[.int .i64 q.f0, .int .i64 q.f1, .int .i64 q.f2]) : (execOp a.eval o).run Tryd.prog w = .ok (.value (.bool ((p.f0 == q.f0) && (p.f1 == q.f1) && (p.f2 == q.f2)))) w := by
  have hu := Tryd.underlying24
  have hu3 := Tryd.underlying3
  unfold execOp
  simp only [ho, hx, hy]
  go_simp
  by_cases h1 : p.f0 = q.f0 <;> by_cases h2 : p.f1 = q.f1 <;> by_cases h3 : p.f2 = q.f2 <;> simp [h1, h2, h3]
theorem eqt_one {o : Oper} {a : Act} {w : World} {x y : Operand} {s t : ByteArray} (ho : o.op = .binOp .eql 9 x y 9) (hx : a.eval x = .string s) (hy : a.eval y = .string t) : (execOp a.eval o).run Tryd.prog w = .ok (.value (.bool (s.toList == t.toList))) w := by
  unfold execOp
  simp only [ho, hx, hy]
  simp [go_sem]
theorem eqb_one {o : Oper} {a : Act} {w : World} {x y : Operand} {b : Bool} (ho : o.op = .binOp .eql 4 x y 4) (hx : a.eval x = .bool b) (hy : a.eval y = .bool b) : (execOp a.eval o).run Tryd.prog w = .ok (.value (.bool true)) w := by
  have hu := Tryd.underlying4
  unfold execOp
  simp only [ho, hx, hy]
  go_simp
theorem zones_next (l : List S24) (i : Nat) : zonesB l i ++ zoneB i (l.getD i z24).f0 (l.getD i z24).f1 (l.getD i z24).f2 ++ ⟨#[10]⟩ = zonesB l (i + 1) := by
  show _ = zonesB l i ++ (zoneB i _ _ _ ++ _)
  rw [ByteArray.append_assoc]
set_option maxHeartbeats 4000000 in
set_option maxRecDepth 100000 in
theorem law_c (l : List S24) (A : Option Addr) (c : Nat) (x y : S24) (z : Int) (sx sy : Int) (sd : Bool) (hg : ∀ i, G24 (l.getD i z24)) (hx : G24 x) (hy : G24 y) (hz : I64 z) (hsx : I64 sx) (hsy : I64 sy) (w : World) (hl : Kd.C k24 w A l.length l) (h : POW w) :
    Calls Tryd.prog 3 #[.slice A l.length c, .agg #[.int .i64 x.f0, .int .i64 x.f1, .int .i64 x.f2], .agg #[.int .i64 y.f0, .int .i64 y.f1, .int .i64 y.f2], .int .i64 z, .agg #[.int .i64 sx, .int .i64 sy, .bool sd]] w fun e w' => e = .returned (.bool true) ∧ Below w.heap.size w w' := by
  have hu24 := Tryd.underlying24
  have hu22 := Tryd.underlying22
  have hu26 := Tryd.underlying26
  obtain ⟨n, HN⟩ : ∃ n, Aside0 (l.length = n) := ⟨_, ⟨rfl⟩⟩
  rw [HN.out] at hl ⊢
  have HL := Aside0.mk hl
  have HG := Aside0.mk hg
  have HPW := Aside0.mk h
  clear hl hg h
  obtain ⟨w1, hw1⟩ : ∃ w1, ((w.alloc (.cells #[.int .i64 x.f0, .int .i64 x.f1, .int .i64 x.f2] 24 (0, 0))).alloc (.cells #[.int .i64 y.f0, .int .i64 y.f1, .int .i64 y.f2] 24 (0, 0))).alloc (.cells #[.int .i64 sx, .int .i64 sy, .bool sd] 26 (0, 0)) = w1 := ⟨_, rfl⟩
  have HB1 := Aside0.mk (show Below w.heap.size w w1 from hw1 ▸ below_alloc (below_alloc (below_alloc (Below.refl _ _) _) _) _)
  have K6 := Aside0.mk (hw1 ▸ al0 w _ _ _ : w1.heap[w.heap.size]? = some (.cells #[.int .i64 x.f0, .int .i64 x.f1, .int .i64 x.f2] 24 (0, 0)))
  have K7 := Aside0.mk (hw1 ▸ al1 w _ _ _ : w1.heap[w.heap.size + 1]? = some (.cells #[.int .i64 y.f0, .int .i64 y.f1, .int .i64 y.f2] 24 (0, 0)))
  have K9 := Aside0.mk (hw1 ▸ al2 w _ _ _ : w1.heap[w.heap.size + 2]? = some (.cells #[.int .i64 sx, .int .i64 sy, .bool sd] 26 (0, 0)))
  by_cases hlen : (n : Int) > 50
  · have hd : decide ((n : Int) > 50) = true := decide_eq_true hlen
    have hd2 : decide (50 < (n : Int)) = true := decide_eq_true hlen
    go_enter Tryd.func3, Tryd.ntmps3
    go_wp2_with (go_at_call 8; have hcon := live_c w1 (HPW.out.below HB1.out); refine hcon.mono ?_; clear hcon; rintro e wl ⟨rfl, hbl⟩)
    go_ret
    exact ⟨rfl, below_step HB1.out hbl⟩
  · have hd : decide ((n : Int) > 50) = false := decide_eq_false hlen
    have hd2 : decide (50 < (n : Int)) = false := decide_eq_false hlen
    go_enter Tryd.func3, Tryd.ntmps3
    go_wp2_with fail
    try rw [hw1]
    clear hw1
    go_loopg [11, 12] n (fun g v11 v12 wr => ∃ i : Nat, i ≤ n ∧ Aside0 (g = n - i) ∧ v11 = .string (zonesB l i) ∧ v12 = .int .i64 i ∧ Aside0 (Below w1.heap.size w1 wr))
    case atStart => exact ⟨0, Nat.zero_le _, ⟨rfl⟩, rfl, rfl, ⟨Below.refl _ _⟩⟩
    case round =>
      obtain ⟨i, hi, HGK, rfl, rfl, HB⟩ := hrel
      by_cases hlt : i < n
      · obtain ⟨ad, hA, hlies⟩ := elem24 HL.out i hlt
        subst hA
        have hlies2 := lies_below hlies (below_step HB1.out HB.out)
        clear hlies
        obtain ⟨s, hs⟩ : ∃ s, l.getD i z24 = s := ⟨_, rfl⟩
        have HGS := Aside0.mk (show G24 s from hs ▸ HG.out i)
        rw [hs] at hlies2
        have HZN := Aside0.mk (show zonesB l i ++ zoneB i s.f0 s.f1 s.f2 ++ ⟨#[10]⟩ = zonesB l (i + 1) by rw [← hs]; exact zones_next l i)
        have HIZ := Aside0.mk (show I64 (i : Int) by unfold I64; omega)
        have hZS := zones_size l HG.out i (by omega)
        obtain ⟨acc, hacc⟩ : ∃ t, zonesB l i = t := ⟨_, rfl⟩
        obtain ⟨zt, hzt⟩ : ∃ t, zoneB i s.f0 s.f1 s.f2 = t := ⟨_, rfl⟩
        have hzs := zone_size i s.f0 s.f1 s.f2 HIZ.out HGS.out.2.1 HGS.out.2.2
        rw [hzt] at hzs
        rw [hacc] at hZS ⊢
        have HZT := Aside0.mk hzt
        have HZ2 := Aside0.mk (show acc ++ zt ++ ⟨#[10]⟩ = zonesB l (i + 1) by rw [← hacc, ← hzt]; exact HZN.out)
        have h9 : (⟨#[10]⟩ : ByteArray).size = 1 := rfl
        have hc1 : (9223372036854775807 < acc.size + zt.size) = False := eq_false (by omega)
        have hap : (acc ++ zt).size ≤ 100000 := by rw [ByteArray.size_append]; omega
        have hc2 : (9223372036854775807 < (acc ++ zt).size + (⟨#[10]⟩ : ByteArray).size) = False := eq_false (by omega)
        have hc3 : (9223372036854775807 < (acc ++ zt).size + 1) = False := eq_false (by omega)
        have hc4 : (9223372036854775807 < acc.size + zt.size + 1) = False := eq_false (by omega)
        clear hs hzt hacc HZN h9
        go_wp2_with (first | ((with_reducible refine gate_dst (N := 29) rfl ?_); refine load_at rfl 24 _ rfl (ad.add (i * 3)) rfl [.int .i64 s.f0, .int .i64 s.f1, .int .i64 s.f2] _ hlies2 Tryd.underlying24 rfl size24 ?_) | (go_at_call 9; have hcon := rzone_c i s.f0 s.f1 s.f2 HIZ.out HGS.out.2.1 HGS.out.2.2 wr; refine hcon.mono ?_; clear hcon; rw [HZT.out]; rintro e wf ⟨rfl, hbf⟩; have HF := Aside0.mk (below_step HB.out hbf); clear hbf))
        go_roundg (n - (i + 1))
        case measure => have := HGK.out; omega
        case rel => exact ⟨i + 1, hlt, ⟨rfl⟩, by rw [HZ2.out], by go_num, HF⟩
      · obtain rfl : i = n := by omega
        have HPR := Aside0.mk (HPW.out.below (below_step HB1.out HB.out))
        have K6r := Aside0.mk (blk_below K6.out HB.out)
        have K7r := Aside0.mk (blk_below K7.out HB.out)
        have K9r := Aside0.mk (blk_below K9.out HB.out)
        have HZC : Aside0 (∀ w', Below wr.heap.size wr w' → Calls Tryd.prog 10 #[.slice A i c] w' fun e w2 => e = .returned (.string (zonesB l i)) ∧ Below w'.heap.size w' w2) := ⟨fun w' hb => by
          have h1 := zones_c l A c (by rw [HN.out]; omega) HG.out w' (by rw [HN.out]; exact Kd.C_below HL.out (below_step (below_step HB1.out HB.out) hb)) (HPR.out.below hb)
          rw [HN.out] at h1
          exact h1⟩
        clear hlt HGK
        go_upto_region 8 with fail
        refine Flow.flowT (E := fun u v => Below u.heap.size u v) [(some 33, []), (some 34, [0]), (some 35, []), (some 36, [1, 2]), (some 37, [3, 1]), (some 38, [4]), (some 39, [4]), (some 40, [5, 6, 4, 4]), (some 41, [4]), (some 42, [4]), (some 43, [8, 9, 7, 4]), (some 44, [7, 10, 4]), (some 45, [4, 11]), (some 46, [12, 10]), (some 47, [13]), (some 48, [14, 13, 13]), (some 49, [13]), (some 50, [16, 15, 13]), (some 51, [15, 17, 13]), (some 52, [13, 18]), (some 53, [19, 17]), (some 54, [20]), (some 55, [21, 20, 20]), (some 56, [20]), (some 57, [23, 22, 20]), (some 58, [22, 24, 20]), (some 59, [20, 25])] (fun iQ vQ wQ => match iQ with | 0 => vQ = (.slice A i c) | 1 => vQ = (.string (zonesB l i)) | 2 => vQ = (.string (zonesB l i)) | 3 => vQ = (.bool false) | 4 => vQ = (.bool false) | 5 => vQ = (.int .i64 z) | 6 => vQ = (.agg #[.int .i64 x.f0, .int .i64 x.f1, .int .i64 x.f2]) | 7 => vQ = (.string (zoneB z x.f0 x.f1 x.f2)) | 8 => vQ = (.int .i64 z) | 9 => vQ = (.agg #[.int .i64 x.f0, .int .i64 x.f1, .int .i64 x.f2]) | 10 => vQ = (.string (zoneB z x.f0 x.f1 x.f2)) | 11 => vQ = (.bool false) | 12 => vQ = (.bool false) | 13 => vQ = (.bool false) | 14 => vQ = (.agg #[.int .i64 sx, .int .i64 sy, .bool sd]) | 15 => vQ = (.string (lookB sx sy sd)) | 16 => vQ = (.agg #[.int .i64 sx, .int .i64 sy, .bool sd]) | 17 => vQ = (.string (lookB sx sy sd)) | 18 => vQ = (.bool false) | 19 => vQ = (.bool false) | 20 => vQ = (.bool false) | 21 => vQ = (.int .i64 z) | 22 => vQ = (.string (stateB z)) | 23 => vQ = (.int .i64 z) | 24 => vQ = (.string (stateB z)) | 25 => vQ = (.bool false) | 26 => vQ = (.bool false) | _ => True) rfl (by kernel_rfl) (by kernel_rfl) (by kernel_rfl) ((Below.refl _ _).drew) (fun _ _ _ h k => h.trans (k.mono h.size)) (fun _ _ _ _ h _ => h) ?_ ?_
        · refine ⟨?_, ?_, ?_, ?_, ?_, ?_, ?_, ?_, ?_, ?_, ?_, ?_, ?_, ?_, ?_, ?_, ?_, ?_, ?_, ?_, ?_, ?_, ?_, ?_, ?_, ?_, ?_, trivial⟩
          · intro a w' hx0 hu hd K hK
            have e0 : a.tmps.getD 0 undef = (.slice A i c) := hu 0 rfl
            refine Flow.want rfl ?_
            exact Flow.val_move rfl e0 (hK _ _ (Below.refl _ _) rfl)
          · intro a w' hx0 hu hd K hK
            have e33 : a.tmps.getD 33 undef = (.slice A i c) := by obtain ⟨_, t, q⟩ := hd 0 (by decide); exact (q 33 rfl).trans t
            refine Flow.want rfl ?_
            refine Flow.val_call rfl Tryd.func10 (by kernel_rfl) rfl (by simp only [List.map_toArray, List.map_cons, List.map_nil, Act.eval, e33]) (HZC.out w' hx0) ?_
            rintro e w2 ⟨rfl, hb2⟩
            exact ⟨_, rfl, hK _ _ hb2 (by rfl)⟩
          · intro a w' hx0 hu hd K hK
            have e11 : a.tmps.getD 11 undef = (.string (zonesB l i)) := hu 11 rfl
            refine Flow.want rfl ?_
            exact Flow.val_move rfl e11 (hK _ _ (Below.refl _ _) rfl)
          · intro a w' hx0 hu hd K hK
            have e34 : a.tmps.getD 34 undef = (.string (zonesB l i)) := by obtain ⟨_, t, q⟩ := hd 1 (by decide); exact (q 34 rfl).trans t
            have e35 : a.tmps.getD 35 undef = (.string (zonesB l i)) := by obtain ⟨_, t, q⟩ := hd 2 (by decide); exact (q 35 rfl).trans t
            refine Flow.want rfl ?_
            exact Flow.val_run (neq_one rfl e34 e35) (hK _ _ (Below.refl _ _) rfl)
          · intro a w' hx0 hu hd K hK
            have e36 : a.tmps.getD 36 undef = (.bool false) := by obtain ⟨_, t, q⟩ := hd 3 (by decide); exact (q 36 rfl).trans t
            refine Flow.want rfl ?_
            exact Flow.val_move rfl e36 (hK _ _ (Below.refl _ _) rfl)
          · intro a w' hx0 hu hd K hK
            have e3 : a.tmps.getD 3 undef = (.int .i64 z) := hu 3 rfl
            have e37 : a.tmps.getD 37 undef = (.bool false) := by obtain ⟨_, t, q⟩ := hd 4 (by decide); exact (q 37 rfl).trans t
            refine Flow.want (Flow.want_of (k := 37) rfl e37) ?_
            exact Flow.val_move rfl e3 (hK _ _ (Below.refl _ _) rfl)
          · intro a w' hx0 hu hd K hK
            have e6 : a.tmps.getD 6 undef = (.pointer (some ⟨w.heap.size, 0, none⟩)) := hu 6 rfl
            have e37 : a.tmps.getD 37 undef = (.bool false) := by obtain ⟨_, t, q⟩ := hd 4 (by decide); exact (q 37 rfl).trans t
            refine Flow.want (Flow.want_of (k := 37) rfl e37) ?_
            exact Flow.val_run (run_load_row rfl e6 Tryd.underlying24 rfl (by kernel_rfl) (blk_below K6r.out hx0)) (hK _ _ (Below.refl _ _) rfl)
          · intro a w' hx0 hu hd K hK
            have e38 : a.tmps.getD 38 undef = (.int .i64 z) := by obtain ⟨_, t, q⟩ := hd 5 (by decide); exact (q 38 rfl).trans t
            have e39 : a.tmps.getD 39 undef = (.agg #[.int .i64 x.f0, .int .i64 x.f1, .int .i64 x.f2]) := by obtain ⟨_, t, q⟩ := hd 6 (by decide); exact (q 39 rfl).trans t
            have e37 : a.tmps.getD 37 undef = (.bool false) := by obtain ⟨_, t, q⟩ := hd 4 (by decide); exact (q 37 rfl).trans t
            refine Flow.want (Flow.want_of (k := 37) rfl e37) ?_
            refine Flow.val_call rfl Tryd.func11 (by kernel_rfl) rfl (by simp only [List.map_toArray, List.map_cons, List.map_nil, Act.eval, e38, e39]) (zone_c z x.f0 x.f1 x.f2 hz hx.2.1 hx.2.2 w' (HPR.out.below hx0)) ?_
            rintro e w2 ⟨rfl, hb2⟩
            exact ⟨_, rfl, hK _ _ hb2 (by rfl)⟩
          · intro a w' hx0 hu hd K hK
            have e3 : a.tmps.getD 3 undef = (.int .i64 z) := hu 3 rfl
            have e37 : a.tmps.getD 37 undef = (.bool false) := by obtain ⟨_, t, q⟩ := hd 4 (by decide); exact (q 37 rfl).trans t
            refine Flow.want (Flow.want_of (k := 37) rfl e37) ?_
            exact Flow.val_move rfl e3 (hK _ _ (Below.refl _ _) rfl)
          · intro a w' hx0 hu hd K hK
            have e6 : a.tmps.getD 6 undef = (.pointer (some ⟨w.heap.size, 0, none⟩)) := hu 6 rfl
            have e37 : a.tmps.getD 37 undef = (.bool false) := by obtain ⟨_, t, q⟩ := hd 4 (by decide); exact (q 37 rfl).trans t
            refine Flow.want (Flow.want_of (k := 37) rfl e37) ?_
            exact Flow.val_run (run_load_row rfl e6 Tryd.underlying24 rfl (by kernel_rfl) (blk_below K6r.out hx0)) (hK _ _ (Below.refl _ _) rfl)
          · intro a w' hx0 hu hd K hK
            have e41 : a.tmps.getD 41 undef = (.int .i64 z) := by obtain ⟨_, t, q⟩ := hd 8 (by decide); exact (q 41 rfl).trans t
            have e42 : a.tmps.getD 42 undef = (.agg #[.int .i64 x.f0, .int .i64 x.f1, .int .i64 x.f2]) := by obtain ⟨_, t, q⟩ := hd 9 (by decide); exact (q 42 rfl).trans t
            have e37 : a.tmps.getD 37 undef = (.bool false) := by obtain ⟨_, t, q⟩ := hd 4 (by decide); exact (q 37 rfl).trans t
            refine Flow.want (Flow.want_of (k := 37) rfl e37) ?_
            refine Flow.val_call rfl Tryd.func9 (by kernel_rfl) rfl (by simp only [List.map_toArray, List.map_cons, List.map_nil, Act.eval, e41, e42]) (rzone_c z x.f0 x.f1 x.f2 hz hx.2.1 hx.2.2 w') ?_
            rintro e w2 ⟨rfl, hb2⟩
            exact ⟨_, rfl, hK _ _ hb2 (by rfl)⟩
          · intro a w' hx0 hu hd K hK
            have e40 : a.tmps.getD 40 undef = (.string (zoneB z x.f0 x.f1 x.f2)) := by obtain ⟨_, t, q⟩ := hd 7 (by decide); exact (q 40 rfl).trans t
            have e43 : a.tmps.getD 43 undef = (.string (zoneB z x.f0 x.f1 x.f2)) := by obtain ⟨_, t, q⟩ := hd 10 (by decide); exact (q 43 rfl).trans t
            have e37 : a.tmps.getD 37 undef = (.bool false) := by obtain ⟨_, t, q⟩ := hd 4 (by decide); exact (q 37 rfl).trans t
            refine Flow.want (Flow.want_of (k := 37) rfl e37) ?_
            exact Flow.val_run (neq_one rfl e40 e43) (hK _ _ (Below.refl _ _) rfl)
          · intro a w' hx0 hu hd K hK
            have e37 : a.tmps.getD 37 undef = (.bool false) := by obtain ⟨_, t, q⟩ := hd 4 (by decide); exact (q 37 rfl).trans t
            have e44 : a.tmps.getD 44 undef = (.bool false) := by obtain ⟨_, t, q⟩ := hd 11 (by decide); exact (q 44 rfl).trans t
            refine Flow.want rfl ?_
            exact Flow.val_pick rfl e37 e44 (hK _ _ (Below.refl _ _) rfl)
          · intro a w' hx0 hu hd K hK
            have e45 : a.tmps.getD 45 undef = (.bool false) := by obtain ⟨_, t, q⟩ := hd 12 (by decide); exact (q 45 rfl).trans t
            refine Flow.want rfl ?_
            exact Flow.val_move rfl e45 (hK _ _ (Below.refl _ _) rfl)
          · intro a w' hx0 hu hd K hK
            have e9 : a.tmps.getD 9 undef = (.pointer (some ⟨w.heap.size + 2, 0, none⟩)) := hu 9 rfl
            have e46 : a.tmps.getD 46 undef = (.bool false) := by obtain ⟨_, t, q⟩ := hd 13 (by decide); exact (q 46 rfl).trans t
            refine Flow.want (Flow.want_of (k := 46) rfl e46) ?_
            exact Flow.val_run (run_load_row rfl e9 Tryd.underlying26 rfl (by kernel_rfl) (blk_below K9r.out hx0)) (hK _ _ (Below.refl _ _) rfl)
          · intro a w' hx0 hu hd K hK
            have e47 : a.tmps.getD 47 undef = (.agg #[.int .i64 sx, .int .i64 sy, .bool sd]) := by obtain ⟨_, t, q⟩ := hd 14 (by decide); exact (q 47 rfl).trans t
            have e46 : a.tmps.getD 46 undef = (.bool false) := by obtain ⟨_, t, q⟩ := hd 13 (by decide); exact (q 46 rfl).trans t
            refine Flow.want (Flow.want_of (k := 46) rfl e46) ?_
            refine Flow.val_call rfl Tryd.func12 (by kernel_rfl) rfl (by simp only [List.map_toArray, List.map_cons, List.map_nil, Act.eval, e47]) (look_c sx sy sd hsx hsy w' (HPR.out.below hx0)) ?_
            rintro e w2 ⟨rfl, hb2⟩
            exact ⟨_, rfl, hK _ _ hb2 (by rfl)⟩
          · intro a w' hx0 hu hd K hK
            have e9 : a.tmps.getD 9 undef = (.pointer (some ⟨w.heap.size + 2, 0, none⟩)) := hu 9 rfl
            have e46 : a.tmps.getD 46 undef = (.bool false) := by obtain ⟨_, t, q⟩ := hd 13 (by decide); exact (q 46 rfl).trans t
            refine Flow.want (Flow.want_of (k := 46) rfl e46) ?_
            exact Flow.val_run (run_load_row rfl e9 Tryd.underlying26 rfl (by kernel_rfl) (blk_below K9r.out hx0)) (hK _ _ (Below.refl _ _) rfl)
          · intro a w' hx0 hu hd K hK
            have e49 : a.tmps.getD 49 undef = (.agg #[.int .i64 sx, .int .i64 sy, .bool sd]) := by obtain ⟨_, t, q⟩ := hd 16 (by decide); exact (q 49 rfl).trans t
            have e46 : a.tmps.getD 46 undef = (.bool false) := by obtain ⟨_, t, q⟩ := hd 13 (by decide); exact (q 46 rfl).trans t
            refine Flow.want (Flow.want_of (k := 46) rfl e46) ?_
            refine Flow.val_call rfl Tryd.func13 (by kernel_rfl) rfl (by simp only [List.map_toArray, List.map_cons, List.map_nil, Act.eval, e49]) (rlook_c sx sy sd hsx hsy w' (HPR.out.below hx0)) ?_
            rintro e w2 ⟨rfl, hb2⟩
            exact ⟨_, rfl, hK _ _ hb2 (by rfl)⟩
          · intro a w' hx0 hu hd K hK
            have e48 : a.tmps.getD 48 undef = (.string (lookB sx sy sd)) := by obtain ⟨_, t, q⟩ := hd 15 (by decide); exact (q 48 rfl).trans t
            have e50 : a.tmps.getD 50 undef = (.string (lookB sx sy sd)) := by obtain ⟨_, t, q⟩ := hd 17 (by decide); exact (q 50 rfl).trans t
            have e46 : a.tmps.getD 46 undef = (.bool false) := by obtain ⟨_, t, q⟩ := hd 13 (by decide); exact (q 46 rfl).trans t
            refine Flow.want (Flow.want_of (k := 46) rfl e46) ?_
            exact Flow.val_run (neq_one rfl e48 e50) (hK _ _ (Below.refl _ _) rfl)
          · intro a w' hx0 hu hd K hK
            have e46 : a.tmps.getD 46 undef = (.bool false) := by obtain ⟨_, t, q⟩ := hd 13 (by decide); exact (q 46 rfl).trans t
            have e51 : a.tmps.getD 51 undef = (.bool false) := by obtain ⟨_, t, q⟩ := hd 18 (by decide); exact (q 51 rfl).trans t
            refine Flow.want rfl ?_
            exact Flow.val_pick rfl e46 e51 (hK _ _ (Below.refl _ _) rfl)
          · intro a w' hx0 hu hd K hK
            have e52 : a.tmps.getD 52 undef = (.bool false) := by obtain ⟨_, t, q⟩ := hd 19 (by decide); exact (q 52 rfl).trans t
            refine Flow.want rfl ?_
            exact Flow.val_move rfl e52 (hK _ _ (Below.refl _ _) rfl)
          · intro a w' hx0 hu hd K hK
            have e3 : a.tmps.getD 3 undef = (.int .i64 z) := hu 3 rfl
            have e53 : a.tmps.getD 53 undef = (.bool false) := by obtain ⟨_, t, q⟩ := hd 20 (by decide); exact (q 53 rfl).trans t
            refine Flow.want (Flow.want_of (k := 53) rfl e53) ?_
            exact Flow.val_move rfl e3 (hK _ _ (Below.refl _ _) rfl)
          · intro a w' hx0 hu hd K hK
            have e54 : a.tmps.getD 54 undef = (.int .i64 z) := by obtain ⟨_, t, q⟩ := hd 21 (by decide); exact (q 54 rfl).trans t
            have e53 : a.tmps.getD 53 undef = (.bool false) := by obtain ⟨_, t, q⟩ := hd 20 (by decide); exact (q 53 rfl).trans t
            refine Flow.want (Flow.want_of (k := 53) rfl e53) ?_
            refine Flow.val_call rfl Tryd.func14 (by kernel_rfl) rfl (by simp only [List.map_toArray, List.map_cons, List.map_nil, Act.eval, e54]) (state_c z w') ?_
            rintro e w2 ⟨rfl, hb2⟩
            exact ⟨_, rfl, hK _ _ hb2 (by rfl)⟩
          · intro a w' hx0 hu hd K hK
            have e3 : a.tmps.getD 3 undef = (.int .i64 z) := hu 3 rfl
            have e53 : a.tmps.getD 53 undef = (.bool false) := by obtain ⟨_, t, q⟩ := hd 20 (by decide); exact (q 53 rfl).trans t
            refine Flow.want (Flow.want_of (k := 53) rfl e53) ?_
            exact Flow.val_move rfl e3 (hK _ _ (Below.refl _ _) rfl)
          · intro a w' hx0 hu hd K hK
            have e56 : a.tmps.getD 56 undef = (.int .i64 z) := by obtain ⟨_, t, q⟩ := hd 23 (by decide); exact (q 56 rfl).trans t
            have e53 : a.tmps.getD 53 undef = (.bool false) := by obtain ⟨_, t, q⟩ := hd 20 (by decide); exact (q 53 rfl).trans t
            refine Flow.want (Flow.want_of (k := 53) rfl e53) ?_
            refine Flow.val_call rfl Tryd.func15 (by kernel_rfl) rfl (by simp only [List.map_toArray, List.map_cons, List.map_nil, Act.eval, e56]) (rstate_c z w') ?_
            rintro e w2 ⟨rfl, hb2⟩
            exact ⟨_, rfl, hK _ _ hb2 (by rfl)⟩
          · intro a w' hx0 hu hd K hK
            have e55 : a.tmps.getD 55 undef = (.string (stateB z)) := by obtain ⟨_, t, q⟩ := hd 22 (by decide); exact (q 55 rfl).trans t
            have e57 : a.tmps.getD 57 undef = (.string (stateB z)) := by obtain ⟨_, t, q⟩ := hd 24 (by decide); exact (q 57 rfl).trans t
            have e53 : a.tmps.getD 53 undef = (.bool false) := by obtain ⟨_, t, q⟩ := hd 20 (by decide); exact (q 53 rfl).trans t
            refine Flow.want (Flow.want_of (k := 53) rfl e53) ?_
            exact Flow.val_run (neq_one rfl e55 e57) (hK _ _ (Below.refl _ _) rfl)
          · intro a w' hx0 hu hd K hK
            have e53 : a.tmps.getD 53 undef = (.bool false) := by obtain ⟨_, t, q⟩ := hd 20 (by decide); exact (q 53 rfl).trans t
            have e58 : a.tmps.getD 58 undef = (.bool false) := by obtain ⟨_, t, q⟩ := hd 25 (by decide); exact (q 58 rfl).trans t
            refine Flow.want rfl ?_
            exact Flow.val_pick rfl e53 e58 (hK _ _ (Below.refl _ _) rfl)
        · intro vs w' hb hT
          have v0 : vs 0 = (.slice A i c) := hT 0 (by decide)
          have v1 : vs 1 = (.string (zonesB l i)) := hT 1 (by decide)
          have v2 : vs 2 = (.string (zonesB l i)) := hT 2 (by decide)
          have v3 : vs 3 = (.bool false) := hT 3 (by decide)
          have v4 : vs 4 = (.bool false) := hT 4 (by decide)
          have v5 : vs 5 = (.int .i64 z) := hT 5 (by decide)
          have v6 : vs 6 = (.agg #[.int .i64 x.f0, .int .i64 x.f1, .int .i64 x.f2]) := hT 6 (by decide)
          have v7 : vs 7 = (.string (zoneB z x.f0 x.f1 x.f2)) := hT 7 (by decide)
          have v8 : vs 8 = (.int .i64 z) := hT 8 (by decide)
          have v9 : vs 9 = (.agg #[.int .i64 x.f0, .int .i64 x.f1, .int .i64 x.f2]) := hT 9 (by decide)
          have v10 : vs 10 = (.string (zoneB z x.f0 x.f1 x.f2)) := hT 10 (by decide)
          have v11 : vs 11 = (.bool false) := hT 11 (by decide)
          have v12 : vs 12 = (.bool false) := hT 12 (by decide)
          have v13 : vs 13 = (.bool false) := hT 13 (by decide)
          have v14 : vs 14 = (.agg #[.int .i64 sx, .int .i64 sy, .bool sd]) := hT 14 (by decide)
          have v15 : vs 15 = (.string (lookB sx sy sd)) := hT 15 (by decide)
          have v16 : vs 16 = (.agg #[.int .i64 sx, .int .i64 sy, .bool sd]) := hT 16 (by decide)
          have v17 : vs 17 = (.string (lookB sx sy sd)) := hT 17 (by decide)
          have v18 : vs 18 = (.bool false) := hT 18 (by decide)
          have v19 : vs 19 = (.bool false) := hT 19 (by decide)
          have v20 : vs 20 = (.bool false) := hT 20 (by decide)
          have v21 : vs 21 = (.int .i64 z) := hT 21 (by decide)
          have v22 : vs 22 = (.string (stateB z)) := hT 22 (by decide)
          have v23 : vs 23 = (.int .i64 z) := hT 23 (by decide)
          have v24 : vs 24 = (.string (stateB z)) := hT 24 (by decide)
          have v25 : vs 25 = (.bool false) := hT 25 (by decide)
          have v26 : vs 26 = (.bool false) := hT 26 (by decide)
          simp only [Flow.putsT, v0, v1, v2, v3, v4, v5, v6, v7, v8, v9, v10, v11, v12, v13, v14, v15, v16, v17, v18, v19, v20, v21, v22, v23, v24, v25, v26, Act.put, List.setIfInBounds_toArray, List.set_cons_zero, List.set_cons_succ]
          clear hT v0 v1 v2 v3 v4 v5 v6 v7 v8 v9 v10 v11 v12 v13 v14 v15 v16 v17 v18 v19 v20 v21 v22 v23 v24 v25 v26
          have k6 := blk_below K6r.out hb
          have k7 := blk_below K7r.out hb
          have c6 : w'.cell? ⟨w.heap.size, 0, none⟩ = some (.int .i64 x.f0) := (blk_cell k6 0).trans rfl
          have c7 : w'.cell? ⟨w.heap.size + 1, 0, none⟩ = some (.int .i64 y.f0) := (blk_cell k7 0).trans rfl
          have HBF := Aside0.mk hb
          clear k6 k7 hb
          obtain ⟨inb, HIN⟩ : ∃ b, Aside0 ((decide (x.f0 ≥ 0) && decide (x.f0 ≤ 3) && decide (y.f0 ≥ 0) && decide (y.f0 ≤ 3)) = b) := ⟨_, ⟨rfl⟩⟩
          go_upto_region 10 with fail
          go_cut [13] from 60 to 77 (fun v wx => v = .bool inb ∧ wx = w')
          case first =>
            by_cases q1 : x.f0 ≥ 0
            · have d1 : decide (x.f0 ≥ 0) = true := decide_eq_true q1
              by_cases q2 : x.f0 ≤ 3
              · have d2 : decide (x.f0 ≤ 3) = true := decide_eq_true q2
                by_cases q3 : y.f0 ≥ 0
                · have d3 : decide (y.f0 ≥ 0) = true := decide_eq_true q3
                  have d4 : decide (y.f0 ≤ 3) = inb := by rw [← HIN.out, d1, d2, d3]; rfl
                  go_wp2_with fail
                  go_meet
                  exact ⟨by rw [← d4], rfl⟩
                · have d3 : decide (y.f0 ≥ 0) = false := decide_eq_false q3
                  go_wp2_with fail
                  go_meet
                  exact ⟨by rw [← HIN.out, d1, d2, d3]; rfl, rfl⟩
              · have d2 : decide (x.f0 ≤ 3) = false := decide_eq_false q2
                go_wp2_with fail
                go_meet
                exact ⟨by rw [← HIN.out, d1, d2]; rfl, rfl⟩
            · have d1 : decide (x.f0 ≥ 0) = false := decide_eq_false q1
              go_wp2_with fail
              go_meet
              exact ⟨by rw [← HIN.out, d1]; rfl, rfl⟩
          case rest =>
            obtain ⟨h13, hwx⟩ := hcut
            subst h13
            subst hwx
            clear c6 c7
            have HPF := Aside0.mk (HPR.out.below HBF.out)
            have HBT := Aside0.mk (below_step (below_step HB1.out HB.out) HBF.out)
            have K6f := Aside0.mk (blk_below K6r.out HBF.out)
            have K7f := Aside0.mk (blk_below K7r.out HBF.out)
            cases inb with
            | false =>
              go_upto_region 11 with fail
              refine Flow.flowT (E := fun u v => Below u.heap.size u v) [(some 78, []), (some 79, [0]), (some 80, [1]), (some 81, [2]), (some 82, [2]), (some 83, [3, 4, 2, 2]), (some 84, [2]), (some 85, [2]), (some 86, [6, 7, 5, 2]), (some 87, [5, 8, 2]), (some 88, [2]), (some 89, [2]), (some 90, [10, 11, 2]), (some 91, [9, 12, 2]), (some 92, [2, 13]), (some 93, [14, 8]), (some 94, [15, 15]), (some 95, [15, 16]), (some 10, [17, 16, 0, 1, 2, 3, 4, 5, 6, 7, 8, 9, 10, 11, 12, 13, 14, 15, 16, 17])] (fun iQ vQ wQ => match iQ with | 0 => vQ = (.bool false) | 1 => vQ = (.bool true) | 2 => vQ = (.bool true) | 3 => vQ = undef | 4 => vQ = undef | 5 => vQ = undef | 6 => vQ = undef | 7 => vQ = undef | 8 => vQ = undef | 9 => vQ = undef | 10 => vQ = undef | 11 => vQ = undef | 12 => vQ = undef | 13 => vQ = undef | 14 => vQ = (.bool true) | 15 => vQ = (.bool true) | 16 => vQ = (.bool true) | 17 => vQ = (.bool true) | 18 => vQ = (.bool true) | _ => True) rfl (by kernel_rfl) (by kernel_rfl) (by kernel_rfl) ((Below.refl _ _).drew) (fun _ _ _ h k => h.trans (k.mono h.size)) (fun _ _ _ _ h _ => h) ?_ ?_
              · refine ⟨?_, ?_, ?_, ?_, ?_, ?_, ?_, ?_, ?_, ?_, ?_, ?_, ?_, ?_, ?_, ?_, ?_, ?_, ?_, trivial⟩
                · intro a w' hx0 hu hd K hK
                  have e13 : a.tmps.getD 13 undef = (.bool false) := hu 13 rfl
                  refine Flow.want rfl ?_
                  exact Flow.val_move rfl e13 (hK _ _ (Below.refl _ _) rfl)
                · intro a w' hx0 hu hd K hK
                  have e78 : a.tmps.getD 78 undef = (.bool false) := by obtain ⟨_, t, q⟩ := hd 0 (by decide); exact (q 78 rfl).trans t
                  refine Flow.want rfl ?_
                  exact Flow.val_not rfl e78 (hK _ _ (Below.refl _ _) rfl)
                · intro a w' hx0 hu hd K hK
                  have e79 : a.tmps.getD 79 undef = (.bool true) := by obtain ⟨_, t, q⟩ := hd 1 (by decide); exact (q 79 rfl).trans t
                  refine Flow.want rfl ?_
                  exact Flow.val_move rfl e79 (hK _ _ (Below.refl _ _) rfl)
                · intro a w' hx0 hu hd K hK
                  have e3 : a.tmps.getD 3 undef = (.int .i64 z) := hu 3 rfl
                  have e80 : a.tmps.getD 80 undef = (.bool true) := by obtain ⟨_, t, q⟩ := hd 2 (by decide); exact (q 80 rfl).trans t
                  exact Flow.spare (Flow.spare_of (k := 80) rfl e80 rfl) (hK _ _ (Below.refl _ _) rfl)
                · intro a w' hx0 hu hd K hK
                  have e6 : a.tmps.getD 6 undef = (.pointer (some ⟨w.heap.size, 0, none⟩)) := hu 6 rfl
                  have e80 : a.tmps.getD 80 undef = (.bool true) := by obtain ⟨_, t, q⟩ := hd 2 (by decide); exact (q 80 rfl).trans t
                  exact Flow.spare (Flow.spare_of (k := 80) rfl e80 rfl) (hK _ _ (Below.refl _ _) rfl)
                · intro a w' hx0 hu hd K hK
                  have e81 : a.tmps.getD 81 undef = undef := by obtain ⟨_, t, q⟩ := hd 3 (by decide); exact (q 81 rfl).trans t
                  have e82 : a.tmps.getD 82 undef = undef := by obtain ⟨_, t, q⟩ := hd 4 (by decide); exact (q 82 rfl).trans t
                  have e80 : a.tmps.getD 80 undef = (.bool true) := by obtain ⟨_, t, q⟩ := hd 2 (by decide); exact (q 80 rfl).trans t
                  exact Flow.spare (Flow.spare_of (k := 80) rfl e80 rfl) (hK _ _ (Below.refl _ _) rfl)
                · intro a w' hx0 hu hd K hK
                  have e3 : a.tmps.getD 3 undef = (.int .i64 z) := hu 3 rfl
                  have e80 : a.tmps.getD 80 undef = (.bool true) := by obtain ⟨_, t, q⟩ := hd 2 (by decide); exact (q 80 rfl).trans t
                  exact Flow.spare (Flow.spare_of (k := 80) rfl e80 rfl) (hK _ _ (Below.refl _ _) rfl)
                · intro a w' hx0 hu hd K hK
                  have e7 : a.tmps.getD 7 undef = (.pointer (some ⟨w.heap.size + 1, 0, none⟩)) := hu 7 rfl
                  have e80 : a.tmps.getD 80 undef = (.bool true) := by obtain ⟨_, t, q⟩ := hd 2 (by decide); exact (q 80 rfl).trans t
                  exact Flow.spare (Flow.spare_of (k := 80) rfl e80 rfl) (hK _ _ (Below.refl _ _) rfl)
                · intro a w' hx0 hu hd K hK
                  have e84 : a.tmps.getD 84 undef = undef := by obtain ⟨_, t, q⟩ := hd 6 (by decide); exact (q 84 rfl).trans t
                  have e85 : a.tmps.getD 85 undef = undef := by obtain ⟨_, t, q⟩ := hd 7 (by decide); exact (q 85 rfl).trans t
                  have e80 : a.tmps.getD 80 undef = (.bool true) := by obtain ⟨_, t, q⟩ := hd 2 (by decide); exact (q 80 rfl).trans t
                  exact Flow.spare (Flow.spare_of (k := 80) rfl e80 rfl) (hK _ _ (Below.refl _ _) rfl)
                · intro a w' hx0 hu hd K hK
                  have e83 : a.tmps.getD 83 undef = undef := by obtain ⟨_, t, q⟩ := hd 5 (by decide); exact (q 83 rfl).trans t
                  have e86 : a.tmps.getD 86 undef = undef := by obtain ⟨_, t, q⟩ := hd 8 (by decide); exact (q 86 rfl).trans t
                  have e80 : a.tmps.getD 80 undef = (.bool true) := by obtain ⟨_, t, q⟩ := hd 2 (by decide); exact (q 80 rfl).trans t
                  exact Flow.spare (Flow.spare_of (k := 80) rfl e80 rfl) (hK _ _ (Below.refl _ _) rfl)
                · intro a w' hx0 hu hd K hK
                  have e6 : a.tmps.getD 6 undef = (.pointer (some ⟨w.heap.size, 0, none⟩)) := hu 6 rfl
                  have e80 : a.tmps.getD 80 undef = (.bool true) := by obtain ⟨_, t, q⟩ := hd 2 (by decide); exact (q 80 rfl).trans t
                  exact Flow.spare (Flow.spare_of (k := 80) rfl e80 rfl) (hK _ _ (Below.refl _ _) rfl)
                · intro a w' hx0 hu hd K hK
                  have e7 : a.tmps.getD 7 undef = (.pointer (some ⟨w.heap.size + 1, 0, none⟩)) := hu 7 rfl
                  have e80 : a.tmps.getD 80 undef = (.bool true) := by obtain ⟨_, t, q⟩ := hd 2 (by decide); exact (q 80 rfl).trans t
                  exact Flow.spare (Flow.spare_of (k := 80) rfl e80 rfl) (hK _ _ (Below.refl _ _) rfl)
                · intro a w' hx0 hu hd K hK
                  have e88 : a.tmps.getD 88 undef = undef := by obtain ⟨_, t, q⟩ := hd 10 (by decide); exact (q 88 rfl).trans t
                  have e89 : a.tmps.getD 89 undef = undef := by obtain ⟨_, t, q⟩ := hd 11 (by decide); exact (q 89 rfl).trans t
                  have e80 : a.tmps.getD 80 undef = (.bool true) := by obtain ⟨_, t, q⟩ := hd 2 (by decide); exact (q 80 rfl).trans t
                  exact Flow.spare (Flow.spare_of (k := 80) rfl e80 rfl) (hK _ _ (Below.refl _ _) rfl)
                · intro a w' hx0 hu hd K hK
                  have e87 : a.tmps.getD 87 undef = undef := by obtain ⟨_, t, q⟩ := hd 9 (by decide); exact (q 87 rfl).trans t
                  have e90 : a.tmps.getD 90 undef = undef := by obtain ⟨_, t, q⟩ := hd 12 (by decide); exact (q 90 rfl).trans t
                  have e80 : a.tmps.getD 80 undef = (.bool true) := by obtain ⟨_, t, q⟩ := hd 2 (by decide); exact (q 80 rfl).trans t
                  exact Flow.spare (Flow.spare_of (k := 80) rfl e80 rfl) (hK _ _ (Below.refl _ _) rfl)
                · intro a w' hx0 hu hd K hK
                  have e80 : a.tmps.getD 80 undef = (.bool true) := by obtain ⟨_, t, q⟩ := hd 2 (by decide); exact (q 80 rfl).trans t
                  have e91 : a.tmps.getD 91 undef = undef := by obtain ⟨_, t, q⟩ := hd 13 (by decide); exact (q 91 rfl).trans t
                  refine Flow.want rfl ?_
                  exact Flow.val_pick rfl e80 rfl (hK _ _ (Below.refl _ _) rfl)
                · intro a w' hx0 hu hd K hK
                  have e92 : a.tmps.getD 92 undef = (.bool true) := by obtain ⟨_, t, q⟩ := hd 14 (by decide); exact (q 92 rfl).trans t
                  refine Flow.want rfl ?_
                  exact Flow.val_move rfl e92 (hK _ _ (Below.refl _ _) rfl)
                · intro a w' hx0 hu hd K hK
                  have e93 : a.tmps.getD 93 undef = (.bool true) := by obtain ⟨_, t, q⟩ := hd 15 (by decide); exact (q 93 rfl).trans t
                  refine Flow.want (Flow.want_of (k := 93) rfl e93) ?_
                  refine Flow.val_call rfl Tryd.func8 (by kernel_rfl) rfl (by simp) (live_c w' (HPF.out.below hx0)) ?_
                  rintro e w2 ⟨rfl, hb2⟩
                  exact ⟨_, rfl, hK _ _ hb2 (by rfl)⟩
                · intro a w' hx0 hu hd K hK
                  have e93 : a.tmps.getD 93 undef = (.bool true) := by obtain ⟨_, t, q⟩ := hd 15 (by decide); exact (q 93 rfl).trans t
                  have e94 : a.tmps.getD 94 undef = (.bool true) := by obtain ⟨_, t, q⟩ := hd 16 (by decide); exact (q 94 rfl).trans t
                  refine Flow.want rfl ?_
                  exact Flow.val_pick rfl e93 e94 (hK _ _ (Below.refl _ _) rfl)
                · intro a w' hx0 hu hd K hK
                  have e95 : a.tmps.getD 95 undef = (.bool true) := by obtain ⟨_, t, q⟩ := hd 17 (by decide); exact (q 95 rfl).trans t
                  refine Flow.want rfl ?_
                  exact Flow.val_assign rfl e95 (hK _ _ (Below.refl _ _) rfl)
              · intro vs w' hb hT
                have v0 : vs 0 = (.bool false) := hT 0 (by decide)
                have v1 : vs 1 = (.bool true) := hT 1 (by decide)
                have v2 : vs 2 = (.bool true) := hT 2 (by decide)
                have v3 : vs 3 = undef := hT 3 (by decide)
                have v4 : vs 4 = undef := hT 4 (by decide)
                have v5 : vs 5 = undef := hT 5 (by decide)
                have v6 : vs 6 = undef := hT 6 (by decide)
                have v7 : vs 7 = undef := hT 7 (by decide)
                have v8 : vs 8 = undef := hT 8 (by decide)
                have v9 : vs 9 = undef := hT 9 (by decide)
                have v10 : vs 10 = undef := hT 10 (by decide)
                have v11 : vs 11 = undef := hT 11 (by decide)
                have v12 : vs 12 = undef := hT 12 (by decide)
                have v13 : vs 13 = undef := hT 13 (by decide)
                have v14 : vs 14 = (.bool true) := hT 14 (by decide)
                have v15 : vs 15 = (.bool true) := hT 15 (by decide)
                have v16 : vs 16 = (.bool true) := hT 16 (by decide)
                have v17 : vs 17 = (.bool true) := hT 17 (by decide)
                have v18 : vs 18 = (.bool true) := hT 18 (by decide)
                simp only [Flow.putsT, v0, v1, v2, v3, v4, v5, v6, v7, v8, v9, v10, v11, v12, v13, v14, v15, v16, v17, v18, Act.put, List.setIfInBounds_toArray, List.set_cons_zero, List.set_cons_succ]
                clear hT v0 v1 v2 v3 v4 v5 v6 v7 v8 v9 v10 v11 v12 v13 v14 v15 v16 v17 v18
                go_wp2
                go_ret
                exact ⟨rfl, below_step HBT.out hb⟩
            | true =>
              have hin := HIN.out
              simp only [Bool.and_eq_true, decide_eq_true_eq] at hin
              have HES := Aside0.mk (show ((x.f0 == y.f0) && (x.f1 == y.f1) && (x.f2 == y.f2)) = ((zoneB z x.f0 x.f1 x.f2).toList == (zoneB z y.f0 y.f1 y.f2).toList) by
                rw [Bool.eq_iff_iff]
                simp only [Bool.and_eq_true, beq_iff_eq]
                constructor
                · rintro ⟨⟨h1, h2⟩, h3⟩
                  rw [h1, h2, h3]
                · intro h
                  rw [ByteArray.toList_eq, ByteArray.toList_eq] at h
                  obtain ⟨r1, r2, r3⟩ := zone_inj hin.1.1.1 hin.1.1.2 hin.1.2 hin.2 (ByteArray.ext (Array.toList_inj.1 h))
                  exact ⟨⟨r1, r2⟩, r3⟩)
              obtain ⟨eb, HEB⟩ : ∃ b, Aside0 (((zoneB z x.f0 x.f1 x.f2).toList == (zoneB z y.f0 y.f1 y.f2).toList) = b) := ⟨_, ⟨rfl⟩⟩
              clear hin
              go_upto_region 11 with fail
              refine Flow.flowT (E := fun u v => Below u.heap.size u v) [(some 78, []), (some 79, [0]), (some 80, [1]), (some 81, [2]), (some 82, [2]), (some 83, [3, 4, 2, 2]), (some 84, [2]), (some 85, [2]), (some 86, [6, 7, 5, 2]), (some 87, [5, 8, 2]), (some 88, [2]), (some 89, [2]), (some 90, [10, 11, 2]), (some 91, [9, 12, 2]), (some 92, [2, 13]), (some 93, [14, 8]), (some 94, [15, 15]), (some 95, [15, 16]), (some 10, [17, 16, 0, 1, 2, 3, 4, 5, 6, 7, 8, 9, 10, 11, 12, 13, 14, 15, 16, 17])] (fun iQ vQ wQ => match iQ with | 0 => vQ = (.bool true) | 1 => vQ = (.bool false) | 2 => vQ = (.bool false) | 3 => vQ = (.int .i64 z) | 4 => vQ = (.agg #[.int .i64 x.f0, .int .i64 x.f1, .int .i64 x.f2]) | 5 => vQ = (.string (zoneB z x.f0 x.f1 x.f2)) | 6 => vQ = (.int .i64 z) | 7 => vQ = (.agg #[.int .i64 y.f0, .int .i64 y.f1, .int .i64 y.f2]) | 8 => vQ = (.string (zoneB z y.f0 y.f1 y.f2)) | 9 => vQ = (.bool eb) | 10 => vQ = (.agg #[.int .i64 x.f0, .int .i64 x.f1, .int .i64 x.f2]) | 11 => vQ = (.agg #[.int .i64 y.f0, .int .i64 y.f1, .int .i64 y.f2]) | 12 => vQ = (.bool eb) | 13 => vQ = (.bool true) | 14 => vQ = (.bool true) | 15 => vQ = (.bool true) | 16 => vQ = (.bool true) | 17 => vQ = (.bool true) | 18 => vQ = (.bool true) | _ => True) rfl (by kernel_rfl) (by kernel_rfl) (by kernel_rfl) ((Below.refl _ _).drew) (fun _ _ _ h k => h.trans (k.mono h.size)) (fun _ _ _ _ h _ => h) ?_ ?_
              · refine ⟨?_, ?_, ?_, ?_, ?_, ?_, ?_, ?_, ?_, ?_, ?_, ?_, ?_, ?_, ?_, ?_, ?_, ?_, ?_, trivial⟩
                · intro a w' hx0 hu hd K hK
                  have e13 : a.tmps.getD 13 undef = (.bool true) := hu 13 rfl
                  refine Flow.want rfl ?_
                  exact Flow.val_move rfl e13 (hK _ _ (Below.refl _ _) rfl)
                · intro a w' hx0 hu hd K hK
                  have e78 : a.tmps.getD 78 undef = (.bool true) := by obtain ⟨_, t, q⟩ := hd 0 (by decide); exact (q 78 rfl).trans t
                  refine Flow.want rfl ?_
                  exact Flow.val_not rfl e78 (hK _ _ (Below.refl _ _) rfl)
                · intro a w' hx0 hu hd K hK
                  have e79 : a.tmps.getD 79 undef = (.bool false) := by obtain ⟨_, t, q⟩ := hd 1 (by decide); exact (q 79 rfl).trans t
                  refine Flow.want rfl ?_
                  exact Flow.val_move rfl e79 (hK _ _ (Below.refl _ _) rfl)
                · intro a w' hx0 hu hd K hK
                  have e3 : a.tmps.getD 3 undef = (.int .i64 z) := hu 3 rfl
                  have e80 : a.tmps.getD 80 undef = (.bool false) := by obtain ⟨_, t, q⟩ := hd 2 (by decide); exact (q 80 rfl).trans t
                  refine Flow.want (Flow.want_of (k := 80) rfl e80) ?_
                  exact Flow.val_move rfl e3 (hK _ _ (Below.refl _ _) rfl)
                · intro a w' hx0 hu hd K hK
                  have e6 : a.tmps.getD 6 undef = (.pointer (some ⟨w.heap.size, 0, none⟩)) := hu 6 rfl
                  have e80 : a.tmps.getD 80 undef = (.bool false) := by obtain ⟨_, t, q⟩ := hd 2 (by decide); exact (q 80 rfl).trans t
                  refine Flow.want (Flow.want_of (k := 80) rfl e80) ?_
                  exact Flow.val_run (run_load_row rfl e6 Tryd.underlying24 rfl (by kernel_rfl) (blk_below K6f.out hx0)) (hK _ _ (Below.refl _ _) rfl)
                · intro a w' hx0 hu hd K hK
                  have e81 : a.tmps.getD 81 undef = (.int .i64 z) := by obtain ⟨_, t, q⟩ := hd 3 (by decide); exact (q 81 rfl).trans t
                  have e82 : a.tmps.getD 82 undef = (.agg #[.int .i64 x.f0, .int .i64 x.f1, .int .i64 x.f2]) := by obtain ⟨_, t, q⟩ := hd 4 (by decide); exact (q 82 rfl).trans t
                  have e80 : a.tmps.getD 80 undef = (.bool false) := by obtain ⟨_, t, q⟩ := hd 2 (by decide); exact (q 80 rfl).trans t
                  refine Flow.want (Flow.want_of (k := 80) rfl e80) ?_
                  refine Flow.val_call rfl Tryd.func11 (by kernel_rfl) rfl (by simp only [List.map_toArray, List.map_cons, List.map_nil, Act.eval, e81, e82]) (zone_c z x.f0 x.f1 x.f2 hz hx.2.1 hx.2.2 w' (HPF.out.below hx0)) ?_
                  rintro e w2 ⟨rfl, hb2⟩
                  exact ⟨_, rfl, hK _ _ hb2 (by rfl)⟩
                · intro a w' hx0 hu hd K hK
                  have e3 : a.tmps.getD 3 undef = (.int .i64 z) := hu 3 rfl
                  have e80 : a.tmps.getD 80 undef = (.bool false) := by obtain ⟨_, t, q⟩ := hd 2 (by decide); exact (q 80 rfl).trans t
                  refine Flow.want (Flow.want_of (k := 80) rfl e80) ?_
                  exact Flow.val_move rfl e3 (hK _ _ (Below.refl _ _) rfl)
                · intro a w' hx0 hu hd K hK
                  have e7 : a.tmps.getD 7 undef = (.pointer (some ⟨w.heap.size + 1, 0, none⟩)) := hu 7 rfl
                  have e80 : a.tmps.getD 80 undef = (.bool false) := by obtain ⟨_, t, q⟩ := hd 2 (by decide); exact (q 80 rfl).trans t
                  refine Flow.want (Flow.want_of (k := 80) rfl e80) ?_
                  exact Flow.val_run (run_load_row rfl e7 Tryd.underlying24 rfl (by kernel_rfl) (blk_below K7f.out hx0)) (hK _ _ (Below.refl _ _) rfl)
                · intro a w' hx0 hu hd K hK
                  have e84 : a.tmps.getD 84 undef = (.int .i64 z) := by obtain ⟨_, t, q⟩ := hd 6 (by decide); exact (q 84 rfl).trans t
                  have e85 : a.tmps.getD 85 undef = (.agg #[.int .i64 y.f0, .int .i64 y.f1, .int .i64 y.f2]) := by obtain ⟨_, t, q⟩ := hd 7 (by decide); exact (q 85 rfl).trans t
                  have e80 : a.tmps.getD 80 undef = (.bool false) := by obtain ⟨_, t, q⟩ := hd 2 (by decide); exact (q 80 rfl).trans t
                  refine Flow.want (Flow.want_of (k := 80) rfl e80) ?_
                  refine Flow.val_call rfl Tryd.func11 (by kernel_rfl) rfl (by simp only [List.map_toArray, List.map_cons, List.map_nil, Act.eval, e84, e85]) (zone_c z y.f0 y.f1 y.f2 hz hy.2.1 hy.2.2 w' (HPF.out.below hx0)) ?_
                  rintro e w2 ⟨rfl, hb2⟩
                  exact ⟨_, rfl, hK _ _ hb2 (by rfl)⟩
                · intro a w' hx0 hu hd K hK
                  have e83 : a.tmps.getD 83 undef = (.string (zoneB z x.f0 x.f1 x.f2)) := by obtain ⟨_, t, q⟩ := hd 5 (by decide); exact (q 83 rfl).trans t
                  have e86 : a.tmps.getD 86 undef = (.string (zoneB z y.f0 y.f1 y.f2)) := by obtain ⟨_, t, q⟩ := hd 8 (by decide); exact (q 86 rfl).trans t
                  have e80 : a.tmps.getD 80 undef = (.bool false) := by obtain ⟨_, t, q⟩ := hd 2 (by decide); exact (q 80 rfl).trans t
                  refine Flow.want (Flow.want_of (k := 80) rfl e80) ?_
                  exact Flow.val_run (v := .bool eb) (by rw [← HEB.out]; exact eqt_one rfl e83 e86) (hK _ _ (Below.refl _ _) rfl)
                · intro a w' hx0 hu hd K hK
                  have e6 : a.tmps.getD 6 undef = (.pointer (some ⟨w.heap.size, 0, none⟩)) := hu 6 rfl
                  have e80 : a.tmps.getD 80 undef = (.bool false) := by obtain ⟨_, t, q⟩ := hd 2 (by decide); exact (q 80 rfl).trans t
                  refine Flow.want (Flow.want_of (k := 80) rfl e80) ?_
                  exact Flow.val_run (run_load_row rfl e6 Tryd.underlying24 rfl (by kernel_rfl) (blk_below K6f.out hx0)) (hK _ _ (Below.refl _ _) rfl)
                · intro a w' hx0 hu hd K hK
                  have e7 : a.tmps.getD 7 undef = (.pointer (some ⟨w.heap.size + 1, 0, none⟩)) := hu 7 rfl
                  have e80 : a.tmps.getD 80 undef = (.bool false) := by obtain ⟨_, t, q⟩ := hd 2 (by decide); exact (q 80 rfl).trans t
                  refine Flow.want (Flow.want_of (k := 80) rfl e80) ?_
                  exact Flow.val_run (run_load_row rfl e7 Tryd.underlying24 rfl (by kernel_rfl) (blk_below K7f.out hx0)) (hK _ _ (Below.refl _ _) rfl)
                · intro a w' hx0 hu hd K hK
                  have e88 : a.tmps.getD 88 undef = (.agg #[.int .i64 x.f0, .int .i64 x.f1, .int .i64 x.f2]) := by obtain ⟨_, t, q⟩ := hd 10 (by decide); exact (q 88 rfl).trans t
                  have e89 : a.tmps.getD 89 undef = (.agg #[.int .i64 y.f0, .int .i64 y.f1, .int .i64 y.f2]) := by obtain ⟨_, t, q⟩ := hd 11 (by decide); exact (q 89 rfl).trans t
                  have e80 : a.tmps.getD 80 undef = (.bool false) := by obtain ⟨_, t, q⟩ := hd 2 (by decide); exact (q 80 rfl).trans t
                  refine Flow.want (Flow.want_of (k := 80) rfl e80) ?_
                  exact Flow.val_run (v := .bool eb) (by rw [← HEB.out, ← HES.out]; exact eqs_one (p := x) (q := y) rfl e88 e89) (hK _ _ (Below.refl _ _) rfl)
                · intro a w' hx0 hu hd K hK
                  have e87 : a.tmps.getD 87 undef = (.bool eb) := by obtain ⟨_, t, q⟩ := hd 9 (by decide); exact (q 87 rfl).trans t
                  have e90 : a.tmps.getD 90 undef = (.bool eb) := by obtain ⟨_, t, q⟩ := hd 12 (by decide); exact (q 90 rfl).trans t
                  have e80 : a.tmps.getD 80 undef = (.bool false) := by obtain ⟨_, t, q⟩ := hd 2 (by decide); exact (q 80 rfl).trans t
                  refine Flow.want (Flow.want_of (k := 80) rfl e80) ?_
                  exact Flow.val_run (eqb_one rfl e87 e90) (hK _ _ (Below.refl _ _) rfl)
                · intro a w' hx0 hu hd K hK
                  have e80 : a.tmps.getD 80 undef = (.bool false) := by obtain ⟨_, t, q⟩ := hd 2 (by decide); exact (q 80 rfl).trans t
                  have e91 : a.tmps.getD 91 undef = (.bool true) := by obtain ⟨_, t, q⟩ := hd 13 (by decide); exact (q 91 rfl).trans t
                  refine Flow.want rfl ?_
                  exact Flow.val_pick rfl e80 e91 (hK _ _ (Below.refl _ _) rfl)
                · intro a w' hx0 hu hd K hK
                  have e92 : a.tmps.getD 92 undef = (.bool true) := by obtain ⟨_, t, q⟩ := hd 14 (by decide); exact (q 92 rfl).trans t
                  refine Flow.want rfl ?_
                  exact Flow.val_move rfl e92 (hK _ _ (Below.refl _ _) rfl)
                · intro a w' hx0 hu hd K hK
                  have e93 : a.tmps.getD 93 undef = (.bool true) := by obtain ⟨_, t, q⟩ := hd 15 (by decide); exact (q 93 rfl).trans t
                  refine Flow.want (Flow.want_of (k := 93) rfl e93) ?_
                  refine Flow.val_call rfl Tryd.func8 (by kernel_rfl) rfl (by simp) (live_c w' (HPF.out.below hx0)) ?_
                  rintro e w2 ⟨rfl, hb2⟩
                  exact ⟨_, rfl, hK _ _ hb2 (by rfl)⟩
                · intro a w' hx0 hu hd K hK
                  have e93 : a.tmps.getD 93 undef = (.bool true) := by obtain ⟨_, t, q⟩ := hd 15 (by decide); exact (q 93 rfl).trans t
                  have e94 : a.tmps.getD 94 undef = (.bool true) := by obtain ⟨_, t, q⟩ := hd 16 (by decide); exact (q 94 rfl).trans t
                  refine Flow.want rfl ?_
                  exact Flow.val_pick rfl e93 e94 (hK _ _ (Below.refl _ _) rfl)
                · intro a w' hx0 hu hd K hK
                  have e95 : a.tmps.getD 95 undef = (.bool true) := by obtain ⟨_, t, q⟩ := hd 17 (by decide); exact (q 95 rfl).trans t
                  refine Flow.want rfl ?_
                  exact Flow.val_assign rfl e95 (hK _ _ (Below.refl _ _) rfl)
              · intro vs w' hb hT
                have v0 : vs 0 = (.bool true) := hT 0 (by decide)
                have v1 : vs 1 = (.bool false) := hT 1 (by decide)
                have v2 : vs 2 = (.bool false) := hT 2 (by decide)
                have v3 : vs 3 = (.int .i64 z) := hT 3 (by decide)
                have v4 : vs 4 = (.agg #[.int .i64 x.f0, .int .i64 x.f1, .int .i64 x.f2]) := hT 4 (by decide)
                have v5 : vs 5 = (.string (zoneB z x.f0 x.f1 x.f2)) := hT 5 (by decide)
                have v6 : vs 6 = (.int .i64 z) := hT 6 (by decide)
                have v7 : vs 7 = (.agg #[.int .i64 y.f0, .int .i64 y.f1, .int .i64 y.f2]) := hT 7 (by decide)
                have v8 : vs 8 = (.string (zoneB z y.f0 y.f1 y.f2)) := hT 8 (by decide)
                have v9 : vs 9 = (.bool eb) := hT 9 (by decide)
                have v10 : vs 10 = (.agg #[.int .i64 x.f0, .int .i64 x.f1, .int .i64 x.f2]) := hT 10 (by decide)
                have v11 : vs 11 = (.agg #[.int .i64 y.f0, .int .i64 y.f1, .int .i64 y.f2]) := hT 11 (by decide)
                have v12 : vs 12 = (.bool eb) := hT 12 (by decide)
                have v13 : vs 13 = (.bool true) := hT 13 (by decide)
                have v14 : vs 14 = (.bool true) := hT 14 (by decide)
                have v15 : vs 15 = (.bool true) := hT 15 (by decide)
                have v16 : vs 16 = (.bool true) := hT 16 (by decide)
                have v17 : vs 17 = (.bool true) := hT 17 (by decide)
                have v18 : vs 18 = (.bool true) := hT 18 (by decide)
                simp only [Flow.putsT, v0, v1, v2, v3, v4, v5, v6, v7, v8, v9, v10, v11, v12, v13, v14, v15, v16, v17, v18, Act.put, List.setIfInBounds_toArray, List.set_cons_zero, List.set_cons_succ]
                clear hT v0 v1 v2 v3 v4 v5 v6 v7 v8 v9 v10 v11 v12 v13 v14 v15 v16 v17 v18
                go_wp2
                go_ret
                exact ⟨rfl, below_step HBT.out hb⟩
end Go.Proofs.YtlhmpmmblnbmbaaDoor.Rep
