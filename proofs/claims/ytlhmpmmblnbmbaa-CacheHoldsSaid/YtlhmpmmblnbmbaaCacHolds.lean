/- CacheHolds: what is got is what was put last. -/
import Derived.Test.YtlhmpmmblnbmbaaCacHl
import Derived.Test.YtlhmpmmblnbmbaaCacNils
set_option linter.unusedVariables false
set_option linter.unusedSimpArgs false
namespace Go.Proofs.Ytlhmpmmblnbmbaa.Cac
open Go Go.RowKit Go.Proofs.Ytlhmpmmblnbmbaa.PCachePlays Go.Proofs.YtlhmpmmblnbmbaaW.PrintWords Go.Proofs.YtlhmpmmblnbmbaaW.PrintLast Go.Proofs.YtlhmpmmblnbmbaaW.PrintMore Go.Proofs.Ytlhmpmmblnbmbaa.FlowU Go.Proofs.Ytlhmpmmblnbmbaa.Ev Go.Proofs.Ytlhmpmmblnbmbaa.Ke Go.Proofs.Ytlhmpmmblnbmbaa.Cells
theorem fa38_0 (g o : Nat) (w : World) : (Instr.fieldAt 38 (.pointer (some ⟨g, o, none⟩)) 0).run Try.prog w = .ok (.pointer (some ⟨g, o, none⟩)) w := by
  have hu := Try.underlying38
  go_simp
theorem fad38_0 (ad : Addr) (w : World) : (Instr.fieldAt 38 (.pointer (some ad)) 0).run Try.prog w = .ok (.pointer (some (ad.add 0))) w := by
  have hu := Try.underlying38
  go_simp
theorem size38 : (Try.prog.info? 38).map (·.size) = some 5 := by kernel_rfl
def GetP (w : World) (v : Value) (ob : Bool) (k : S36) (L L' : KL) : Prop := (ob = false ∧ fat k L = none ∧ L' = L) ∨ ∃ d, ob = true ∧ fat k L = some d ∧ L' = (k, d) :: fwo k L ∧ u8R w v d
theorem GetP.below {w w1 : World} {v : Value} {ob : Bool} {k : S36} {L L' : KL} (h : GetP w v ob k L L') (hb : Below w.heap.size w w1) : GetP w1 v ob k L L' := by
  rcases h with h | ⟨d, h1, h2, h3, h4⟩
  · exact .inl h
  · exact .inr ⟨d, h1, h2, h3, h4.below hb⟩
theorem get_i {gC gM : Nat} {room hits misses : Int} {N : Nat} {L : KL} (k : S36) (hgk : G36 k) (w : World) (h : CI w gC gM room hits misses N L) (hN : N ≤ 900000) : Calls Try.prog 19 #[.pointer (some ⟨gC, 0, none⟩), kv k] w fun e w' => ∃ v ob hits' misses' L', e = .returned (.tuple #[v, .bool ob]) ∧ GetP w' v ob k L L' ∧ CI w' gC gM room hits' misses' (N + 1) L' ∧ KB (S2 gC gM) w w' := by
  cases hk : fat k L with
  | none => exact Calls.mono (get_none_i k hgk w h hN hk) (fun e w' ⟨h1, h2, h3⟩ => ⟨_, false, _, _, L, h1, .inl ⟨rfl, hk, rfl⟩, h2, h3⟩)
  | some d => exact Calls.mono (get_some_i k hgk d _ w h hN hk rfl) (fun e w' ⟨v, h1, h4, h2, h3⟩ => ⟨_, true, _, _, _, h1, .inr ⟨d, rfl, hk, rfl, u8R.of h4⟩, h2, h3⟩)
set_option maxHeartbeats 4000000 in
set_option maxRecDepth 100000 in
theorem holds_c (A : Option Addr) (c : Nat) (room : Int) (l : List S38) (w : World) (h8 : 0 ≤ room ∧ room ≤ 255) (hR : Kd.C k38 w A l.length l) (hc : l.length ≤ c) (hg : ∀ x ∈ l, G36 x.f1) : Calls Try.prog 4 #[.int .u8 room, .slice A l.length c] w fun e w' => e = .returned (.bool true) ∧ Below w.heap.size w w' := by
  obtain ⟨bm, hmb, hmc⟩ := much_c A c l w hR hc
  have HL := Aside0.mk hR
  have HC := Aside0.mk hc
  have HG := Aside0.mk hg
  have HMC := Aside0.mk hmc
  have H8 := Aside0.mk h8
  clear hR hc hg hmc h8
  obtain ⟨n, HN⟩ : ∃ q, Aside0 (l.length = q) := ⟨_, ⟨rfl⟩⟩
  rw [HN.out] at HL HC HMC hmb
  rw [HN.out]
  cases bm with
  | true =>
    go_enter Try.func4, Try.ntmps4
    go_upto_region 0 with fail
    refine Flow.seqT (E := fun u v => Below u.heap.size u v) [(some 4, [])] (fun iQ vQ wQ => match iQ with | 0 => vQ = (.bool false) | _ => True) rfl (by kernel_rfl) (Below.refl _ _) (fun _ _ _ h k => h.trans (k.mono h.size)) (fun _ _ _ _ h _ => h) ?_ ?_
    · refine ⟨?_, trivial⟩
      · intro a w' hx hu hd K hK; exact Flow.run1 rfl (Flow.r_assign rfl rfl) (hK _ _ (Below.refl _ _) rfl)
    intro vs W1 hb1 hT
    have v0 := Flow.eqn (hT 0 (by decide))
    simp only [Flow.putsT, v0, Act.put, List.setIfInBounds_toArray, List.set_cons_zero, List.set_cons_succ]
    clear hT v0
    have HB1 := Aside0.mk (hb1)
    clear hb1
    go_upto_region 1 with fail
    refine Flow.seqT (E := fun u v => Below u.heap.size u v) [(some 12, []), (some 13, [0])] (fun iQ vQ wQ => match iQ with | 0 => vQ = (.slice A n c) | 1 => vQ = (.bool true) | _ => True) rfl (by kernel_rfl) (Below.refl _ _) (fun _ _ _ h k => h.trans (k.mono h.size)) (fun _ _ _ _ h _ => h) ?_ ?_
    · refine ⟨?_, ?_, trivial⟩
      · intro a w' hx hu hd K hK; have e1 : a.tmps.getD 1 undef = (.slice A n c) := hu 1 rfl; exact Flow.run1 rfl (Flow.r_move rfl e1) (hK _ _ (Below.refl _ _) rfl)
      · intro a w' hx hu hd K hK; have e12 := Flow.got (hd 0 rfl) 12 rfl; refine Flow.want rfl ?_; refine Flow.val_call rfl Try.func15 (by kernel_rfl) rfl (by first | (simp only [List.map_toArray, List.map_cons, List.map_nil, Act.eval, e12]; done) | (simp only [List.map_toArray, List.map_cons, List.map_nil, Act.eval, e12]; rfl)) (HMC.out w' (below_step HB1.out hx)) ?_; rintro e w2 ⟨rfl, hb2⟩; exact ⟨_, rfl, hK _ _ hb2 rfl⟩
    intro vs W2 hb2 hT
    have v0 := Flow.eqn (hT 0 (by decide))
    have v1 := Flow.eqn (hT 1 (by decide))
    simp only [Flow.putsT, v0, v1, Act.put, List.setIfInBounds_toArray, List.set_cons_zero, List.set_cons_succ]
    clear hT v0 v1
    have HB2 := Aside0.mk (below_step HB1.out hb2)
    clear hb2
    go_upto_region 2 with fail
    refine Flow.seqT (E := fun u v => Below u.heap.size u v) [(some 14, []), (some 4, [0, 0, 0])] (fun iQ vQ wQ => match iQ with | 0 => vQ = (.bool true) | 1 => vQ = (.bool true) | _ => True) rfl (by kernel_rfl) (Below.refl _ _) (fun _ _ _ h k => h.trans (k.mono h.size)) (fun _ _ _ _ h _ => h) ?_ ?_
    · refine ⟨?_, ?_, trivial⟩
      · intro a w' hx hu hd K hK; refine Flow.want rfl ?_; refine Flow.val_call rfl Try.func16 (by kernel_rfl) rfl (by first | (simp only [List.map_toArray, List.map_cons, List.map_nil, Act.eval]; done) | (simp only [List.map_toArray, List.map_cons, List.map_nil, Act.eval]; rfl)) (live_c w') ?_; rintro e w2 ⟨rfl, hb2⟩; exact ⟨_, rfl, hK _ _ hb2 rfl⟩
      · intro a w' hx hu hd K hK; have e14 := Flow.got (hd 0 rfl) 14 rfl; exact Flow.run1 rfl (Flow.r_assign rfl e14) (hK _ _ (Below.refl _ _) rfl)
    intro vs W3 hb3 hT
    have v0 := Flow.eqn (hT 0 (by decide))
    have v1 := Flow.eqn (hT 1 (by decide))
    simp only [Flow.putsT, v0, v1, Act.put, List.setIfInBounds_toArray, List.set_cons_zero, List.set_cons_succ]
    clear hT v0 v1
    have HB3 := Aside0.mk (below_step HB2.out hb3)
    clear hb3
    go_wp2_with fail
    exact bodyPost_ret (results_tmp Try.results4 _ _ _) rfl ⟨rfl, HB3.out⟩
  | false =>
    have HMB := Aside0.mk (hmb rfl)
    clear hmb
    have hn50 : n ≤ 50 := HMB.out.1
    go_enter Try.func4, Try.ntmps4
    go_upto_region 0 with fail
    refine Flow.seqT (E := fun u v => Below u.heap.size u v) [(some 4, [])] (fun iQ vQ wQ => match iQ with | 0 => vQ = (.bool false) | _ => True) rfl (by kernel_rfl) (Below.refl _ _) (fun _ _ _ h k => h.trans (k.mono h.size)) (fun _ _ _ _ h _ => h) ?_ ?_
    · refine ⟨?_, trivial⟩
      · intro a w' hx hu hd K hK; exact Flow.run1 rfl (Flow.r_assign rfl rfl) (hK _ _ (Below.refl _ _) rfl)
    intro vs W4 hb4 hT
    have v0 := Flow.eqn (hT 0 (by decide))
    simp only [Flow.putsT, v0, Act.put, List.setIfInBounds_toArray, List.set_cons_zero, List.set_cons_succ]
    clear hT v0
    have HB4 := Aside0.mk (hb4)
    clear hb4
    go_upto_region 1 with fail
    refine Flow.seqT (E := fun u v => Below u.heap.size u v) [(some 12, []), (some 13, [0])] (fun iQ vQ wQ => match iQ with | 0 => vQ = (.slice A n c) | 1 => vQ = (.bool false) | _ => True) rfl (by kernel_rfl) (Below.refl _ _) (fun _ _ _ h k => h.trans (k.mono h.size)) (fun _ _ _ _ h _ => h) ?_ ?_
    · refine ⟨?_, ?_, trivial⟩
      · intro a w' hx hu hd K hK; have e1 : a.tmps.getD 1 undef = (.slice A n c) := hu 1 rfl; exact Flow.run1 rfl (Flow.r_move rfl e1) (hK _ _ (Below.refl _ _) rfl)
      · intro a w' hx hu hd K hK; have e12 := Flow.got (hd 0 rfl) 12 rfl; refine Flow.want rfl ?_; refine Flow.val_call rfl Try.func15 (by kernel_rfl) rfl (by first | (simp only [List.map_toArray, List.map_cons, List.map_nil, Act.eval, e12]; done) | (simp only [List.map_toArray, List.map_cons, List.map_nil, Act.eval, e12]; rfl)) (HMC.out w' (below_step HB4.out hx)) ?_; rintro e w2 ⟨rfl, hb2⟩; exact ⟨_, rfl, hK _ _ hb2 rfl⟩
    intro vs W5 hb5 hT
    have v0 := Flow.eqn (hT 0 (by decide))
    have v1 := Flow.eqn (hT 1 (by decide))
    simp only [Flow.putsT, v0, v1, Act.put, List.setIfInBounds_toArray, List.set_cons_zero, List.set_cons_succ]
    clear hT v0 v1
    have HB5 := Aside0.mk (below_step HB4.out hb5)
    clear hb5
    go_upto_region 3 with fail
    refine Flow.seqT_head (E := fun u v => Below u.heap.size u v) 2 [(some 15, []), (some 16, [0]), (some 17, [1]), (some 5, [2, 2, 0, 1, 2])] (fun iQ vQ wQ => match iQ with | 0 => vQ = (.int .u8 room) | 1 => vQ = (.int .i64 room) | _ => True) rfl (by decide) (by kernel_rfl) (Below.refl _ _) (fun _ _ _ h k => h.trans (k.mono h.size)) (fun _ _ _ _ h _ => h) ?_ ?_
    · refine ⟨?_, ?_, trivial⟩
      · intro a w' hx hu hd K hK; have e0 : a.tmps.getD 0 undef = (.int .u8 room) := hu 0 rfl; exact Flow.run1 rfl (Flow.r_move rfl e0) (hK _ _ (Below.refl _ _) rfl)
      · intro a w' hx hu hd K hK; have e15 := Flow.got (hd 0 rfl) 15 rfl; exact Flow.run1 rfl (cv8 Try.underlying5 Try.underlying3 rfl e15 H8.out.1 H8.out.2) (hK _ _ (Below.refl _ _) rfl)
    intro vs W6 hb6 hT
    have v0 := Flow.eqn (hT 0 (by decide))
    have v1 := Flow.eqn (hT 1 (by decide))
    simp only [Flow.putsT, v0, v1, Act.put, List.setIfInBounds_toArray, List.set_cons_zero, List.set_cons_succ, List.drop_succ_cons, List.drop_zero, List.take_succ_cons, List.take_zero]
    clear hT v0 v1
    have HB6 := Aside0.mk (below_step HB5.out hb6)
    clear hb6
    refine ecall rfl rfl Try.func17 (by kernel_rfl) rfl (args := #[.int .i64 room]) (by first | (simp only [List.map_toArray, List.map_cons, List.map_nil, Act.eval]; done) | (simp only [List.map_toArray, List.map_cons, List.map_nil, Act.eval]; rfl)) (new_i room room (by have := H8.out; omega) _) ?_
    rintro e W7 ⟨gC, gM, rfl, hci7, hgc, hgm, hb7⟩
    refine ⟨_, rfl, ?_⟩
    have HGC := Aside0.mk (show w.heap.size ≤ gC from Nat.le_trans HB6.out.size hgc)
    have HGM := Aside0.mk (show w.heap.size ≤ gM from Nat.le_trans HB6.out.size hgm)
    have HCI_7 := Aside0.mk hci7
    clear hci7 hgc hgm
    have HB7 := Aside0.mk (below_step HB6.out hb7)
    clear hb7
    simp only [Act.put, List.setIfInBounds_toArray, List.set_cons_zero, List.set_cons_succ]
    refine Flow.seqL (E := fun u v => Below u.heap.size u v) 3 1 [(some 15, []), (some 16, [0]), (some 17, [1]), (some 5, [2, 2, 0, 1, 2])] (fun iQ vQ wQ => match iQ with | 3 => vQ = (.pointer (some ⟨gC, 0, none⟩)) | _ => True) rfl (by decide) (by kernel_rfl) (Below.refl _ _) (fun _ _ _ h k => h.trans (k.mono h.size)) (fun _ _ _ _ h _ => h) ?_ ?_
    · refine ⟨?_, trivial⟩
      · intro a w' hx hu hd K hK; have e17 : a.tmps.getD 17 undef = (.pointer (some ⟨gC, 0, none⟩)) := hu 17 rfl; exact Flow.run1 rfl (Flow.r_assign rfl e17) (hK _ _ (Below.refl _ _) rfl)
    intro vs W8 hb8 hT
    have v3 := Flow.eqn (hT 3 (by decide) (by decide))
    simp only [Flow.putsT, v3, Act.put, List.setIfInBounds_toArray, List.set_cons_zero, List.set_cons_succ, List.drop_succ_cons, List.drop_zero, List.take_succ_cons, List.take_zero]
    clear hT v3
    have HB8 := Aside0.mk (below_step HB7.out hb8)
    have HCI_8 := Aside0.mk (CI.below HCI_7.out hb8)
    clear hb8
    go_upto_region 4 with fail
    refine Flow.seqT (E := fun u v => Below u.heap.size u v) [(some 6, [])] (fun iQ vQ wQ => match iQ with | 0 => vQ = (.int .i64 0) | _ => True) rfl (by kernel_rfl) (Below.refl _ _) (fun _ _ _ h k => h.trans (k.mono h.size)) (fun _ _ _ _ h _ => h) ?_ ?_
    · refine ⟨?_, trivial⟩
      · intro a w' hx hu hd K hK; exact Flow.run1 rfl (Flow.r_assign rfl rfl) (hK _ _ (Below.refl _ _) rfl)
    intro vs W9 hb9 hT
    have v0 := Flow.eqn (hT 0 (by decide))
    simp only [Flow.putsT, v0, Act.put, List.setIfInBounds_toArray, List.set_cons_zero, List.set_cons_succ]
    clear hT v0
    have HB9 := Aside0.mk (below_step HB8.out hb9)
    have HCI_9 := Aside0.mk (CI.below HCI_8.out hb9)
    clear hb9
    go_wp2
    go_loopg [6] n (fun g v6 wr => ∃ i : Nat, i ≤ n ∧ Aside0 (g = n - i) ∧ v6 = .int .i64 i ∧ Aside0 (Below w.heap.size w wr) ∧ ∃ (L : KL) (hits misses : Int), Aside0 (CI wr gC gM room hits misses (2 * i) L) ∧ Aside0 (Hl l i room L))
    case atStart => exact ⟨0, Nat.zero_le _, ⟨rfl⟩, rfl, HB9, [], 0, 0, HCI_9, ⟨Hl.none_ l H8.out.1⟩⟩
    case round =>
      clear HB9 HCI_9
      obtain ⟨i, hi, HGI, rfl, HBR, L, hits, misses, HCI, HHL⟩ := hrel
      by_cases hlt : i < n
      · have hlt2 : (i : Int) < n := by omega
        obtain ⟨ad, rfl⟩ := C_some HL.out (by omega)
        obtain ⟨x, HX⟩ : ∃ q, Aside0 (l[i]? = some q) := ⟨_, ⟨List.getElem?_eq_getElem (by have := HN.out; omega)⟩⟩
        obtain ⟨Bx, cbx, hli, hcb, hcc⟩ := at38 HL.out HX.out
        have HLIx := Aside0.mk hli
        have HCBx := Aside0.mk hcb
        have HCCx := Aside0.mk hcc
        clear hli hcb hcc
        have HGx := Aside0.mk (HG.out x (List.mem_of_getElem? HX.out))
        have HDx := Aside0.mk (HMB.out.2 x (List.mem_of_getElem? HX.out))
        obtain ⟨nbx, HNBx⟩ : ∃ q, Aside0 (x.f2.length = q) := ⟨_, ⟨rfl⟩⟩
        rw [HNBx.out] at HLIx HCBx HCCx HDx
        go_upto_region 5 with fail
        refine Flow.seqT (E := fun u v => Below u.heap.size u v) [(some 18, []), (some 19, []), (some 20, [1]), (some 21, [0, 2])] (fun iQ vQ wQ => match iQ with | 0 => vQ = (.int .i64 i) | 1 => vQ = (.slice (some ad) n c) | 2 => vQ = (.int .i64 n) | 3 => vQ = (.bool true) | _ => True) rfl (by kernel_rfl) (Below.refl _ _) (fun _ _ _ h k => h.trans (k.mono h.size)) (fun _ _ _ _ h _ => h) ?_ ?_
        · refine ⟨?_, ?_, ?_, ?_, trivial⟩
          · intro a w' hx hu hd K hK; have e6 : a.tmps.getD 6 undef = (.int .i64 i) := hu 6 rfl; exact Flow.run1 rfl (Flow.r_move rfl e6) (hK _ _ (Below.refl _ _) rfl)
          · intro a w' hx hu hd K hK; have e1 : a.tmps.getD 1 undef = (.slice (some ad) n c) := hu 1 rfl; exact Flow.run1 rfl (Flow.r_move rfl e1) (hK _ _ (Below.refl _ _) rfl)
          · intro a w' hx hu hd K hK; have e19 := Flow.got (hd 1 rfl) 19 rfl; exact Flow.run1 rfl (lenL Try.underlying31 rfl e19) (hK _ _ (Below.refl _ _) rfl)
          · intro a w' hx hu hd K hK; have e18 := Flow.got (hd 0 rfl) 18 rfl; have e20 := Flow.got (hd 2 rfl) 20 rfl; exact Flow.run1 rfl (yes (lss rfl e18 e20) (decide_eq_true hlt2)) (hK _ _ (Below.refl _ _) rfl)
        intro vs W10 hb10 hT
        have v0 := Flow.eqn (hT 0 (by decide))
        have v1 := Flow.eqn (hT 1 (by decide))
        have v2 := Flow.eqn (hT 2 (by decide))
        have v3 := Flow.eqn (hT 3 (by decide))
        simp only [Flow.putsT, v0, v1, v2, v3, Act.put, List.setIfInBounds_toArray, List.set_cons_zero, List.set_cons_succ]
        clear hT v0 v1 v2 v3
        have HB10 := Aside0.mk (below_step HBR.out hb10)
        have HCI_10 := Aside0.mk (CI.below HCI.out hb10)
        clear hb10
        obtain ⟨b1, HB1⟩ : ∃ q, Aside0 ((x.f0 == 1) = q) := ⟨_, ⟨rfl⟩⟩
        go_upto_region 7 with fail
        refine Flow.seqT (E := fun u v => Below u.heap.size u v) [(some 24, []), (some 25, []), (some 26, [0, 1]), (some 27, [2]), (some 28, [3]), (some 29, [4])] (fun iQ vQ wQ => match iQ with | 0 => vQ = (.slice (some ad) n c) | 1 => vQ = (.int .i64 i) | 2 => vQ = (.pointer (some (ad.add (i * 5)))) | 3 => vQ = (.pointer (some ((ad.add (i * 5)).add 0))) | 4 => vQ = (.int .i64 x.f0) | 5 => vQ = (.bool b1) | _ => True) rfl (by kernel_rfl) (Below.refl _ _) (fun _ _ _ h k => h.trans (k.mono h.size)) (fun _ _ _ _ h _ => h) ?_ ?_
        · refine ⟨?_, ?_, ?_, ?_, ?_, ?_, trivial⟩
          · intro a w' hx hu hd K hK; have e1 : a.tmps.getD 1 undef = (.slice (some ad) n c) := hu 1 rfl; exact Flow.run1 rfl (Flow.r_move rfl e1) (hK _ _ (Below.refl _ _) rfl)
          · intro a w' hx hu hd K hK; have e6 : a.tmps.getD 6 undef = (.int .i64 i) := hu 6 rfl; exact Flow.run1 rfl (Flow.r_move rfl e6) (hK _ _ (Below.refl _ _) rfl)
          · intro a w' hx hu hd K hK; have e24 := Flow.got (hd 0 rfl) 24 rfl; have e25 := Flow.got (hd 1 rfl) 25 rfl; exact Flow.run1 rfl (ix (i := i) Try.underlying31 size38 rfl e24 e25 hlt) (hK _ _ (Below.refl _ _) rfl)
          · intro a w' hx hu hd K hK; have e26 := Flow.got (hd 2 rfl) 26 rfl; exact Flow.run1 rfl (fa rfl e26 (fad38_0 _ _)) (hK _ _ (Below.refl _ _) rfl)
          · intro a w' hx hu hd K hK; have e27 := Flow.got (hd 3 rfl) 27 rfl; exact Flow.run1 rfl (ld rfl e27 (lies_below HLIx.out (below_step HB10.out hx) 0 _ rfl) Try.underlying3 rfl) (hK _ _ (Below.refl _ _) rfl)
          · intro a w' hx hu hd K hK; have e28 := Flow.got (hd 4 rfl) 28 rfl; exact Flow.run1 rfl (is (eql rfl e28 rfl) HB1.out) (hK _ _ (Below.refl _ _) rfl)
        intro vs W11 hb11 hT
        have v0 := Flow.eqn (hT 0 (by decide))
        have v1 := Flow.eqn (hT 1 (by decide))
        have v2 := Flow.eqn (hT 2 (by decide))
        have v3 := Flow.eqn (hT 3 (by decide))
        have v4 := Flow.eqn (hT 4 (by decide))
        have v5 := Flow.eqn (hT 5 (by decide))
        simp only [Flow.putsT, v0, v1, v2, v3, v4, v5, Act.put, List.setIfInBounds_toArray, List.set_cons_zero, List.set_cons_succ]
        clear hT v0 v1 v2 v3 v4 v5
        have HB11 := Aside0.mk (below_step HB10.out hb11)
        have HCI_11 := Aside0.mk (CI.below HCI_10.out hb11)
        clear hb11
        go_upto_if 29 with fail
        go_cut [] (fun wx => Aside0 (Below w.heap.size w wx) ∧ ∃ (L : KL), Aside0 (CI wx gC gM room hits misses (2 * i + 1) L) ∧ Aside0 (Hl l (i + 1) room L))
        case first =>
          cases b1 with
          | true =>
            have hx1 : x.f0 = 1 := beq_iff_eq.1 HB1.out
            go_upto_region 8 with fail
            refine Flow.flowT_head (E := fun u v => Below u.heap.size u v) 11 [(some 30, []), (some 31, []), (some 32, []), (some 33, [1, 2]), (some 34, [3]), (some 35, [4]), (some 36, []), (some 37, []), (some 38, [6, 7]), (some 39, [8]), (some 40, [9]), (some 41, [0, 5, 10])] (fun iQ vQ wQ => match iQ with | 0 => vQ = (.pointer (some ⟨gC, 0, none⟩)) | 1 => vQ = (.slice (some ad) n c) | 2 => vQ = (.int .i64 i) | 3 => vQ = (.pointer (some (ad.add (i * 5)))) | 4 => vQ = (.pointer (some ((ad.add (i * 5)).add 1))) | 5 => vQ = (.agg #[.int .i64 x.f1.f0, .int .i64 x.f1.f1, .int .i64 x.f1.f2]) | 6 => vQ = (.slice (some ad) n c) | 7 => vQ = (.int .i64 i) | 8 => vQ = (.pointer (some (ad.add (i * 5)))) | 9 => vQ = (.pointer (some ((ad.add (i * 5)).add 4))) | 10 => vQ = (.slice Bx nbx cbx) | _ => True) rfl (by kernel_rfl) (by kernel_rfl) (by kernel_rfl) ((Below.refl _ _).drew) (fun _ _ _ h k => h.trans (k.mono h.size)) (fun _ _ _ _ h _ => h) ?_ ?_
            · refine ⟨?_, ?_, ?_, ?_, ?_, ?_, ?_, ?_, ?_, ?_, ?_, trivial⟩
              · intro a w' hx hu hd K hK; have e5 : a.tmps.getD 5 undef = (.pointer (some ⟨gC, 0, none⟩)) := hu 5 rfl; exact Flow.run1 rfl (Flow.r_move rfl e5) (hK _ _ (Below.refl _ _) rfl)
              · intro a w' hx hu hd K hK; have e1 : a.tmps.getD 1 undef = (.slice (some ad) n c) := hu 1 rfl; exact Flow.run1 rfl (Flow.r_move rfl e1) (hK _ _ (Below.refl _ _) rfl)
              · intro a w' hx hu hd K hK; have e6 : a.tmps.getD 6 undef = (.int .i64 i) := hu 6 rfl; exact Flow.run1 rfl (Flow.r_move rfl e6) (hK _ _ (Below.refl _ _) rfl)
              · intro a w' hx hu hd K hK; have e31 := Flow.got (hd 1 (by decide)) 31 rfl; have e32 := Flow.got (hd 2 (by decide)) 32 rfl; exact Flow.run1 rfl (ix (i := i) Try.underlying31 size38 rfl e31 e32 hlt) (hK _ _ (Below.refl _ _) rfl)
              · intro a w' hx hu hd K hK; have e33 := Flow.got (hd 3 (by decide)) 33 rfl; exact Flow.run1 rfl (fa rfl e33 (fad38_1 _ _)) (hK _ _ (Below.refl _ _) rfl)
              · intro a w' hx hu hd K hK; have e34 := Flow.got (hd 4 (by decide)) 34 rfl; exact Flow.run1 rfl (ldrow (c := [.int .i64 x.f1.f0, .int .i64 x.f1.f1, .int .i64 x.f1.f2]) rfl e34 (lies_sub (lies_below HLIx.out (below_step HB11.out hx)) 1 rfl) Try.underlying36 rfl size36) (hK _ _ (Below.refl _ _) rfl)
              · intro a w' hx hu hd K hK; have e1 : a.tmps.getD 1 undef = (.slice (some ad) n c) := hu 1 rfl; exact Flow.run1 rfl (Flow.r_move rfl e1) (hK _ _ (Below.refl _ _) rfl)
              · intro a w' hx hu hd K hK; have e6 : a.tmps.getD 6 undef = (.int .i64 i) := hu 6 rfl; exact Flow.run1 rfl (Flow.r_move rfl e6) (hK _ _ (Below.refl _ _) rfl)
              · intro a w' hx hu hd K hK; have e36 := Flow.got (hd 6 (by decide)) 36 rfl; have e37 := Flow.got (hd 7 (by decide)) 37 rfl; exact Flow.run1 rfl (ix (i := i) Try.underlying31 size38 rfl e36 e37 hlt) (hK _ _ (Below.refl _ _) rfl)
              · intro a w' hx hu hd K hK; have e38 := Flow.got (hd 8 (by decide)) 38 rfl; exact Flow.run1 rfl (fa rfl e38 (fad38_2 _ _)) (hK _ _ (Below.refl _ _) rfl)
              · intro a w' hx hu hd K hK; have e39 := Flow.got (hd 9 (by decide)) 39 rfl; exact Flow.run1 rfl (ld rfl e39 (lies_below HLIx.out (below_step HB11.out hx) 4 _ rfl) Try.underlying27 rfl) (hK _ _ (Below.refl _ _) rfl)
            intro vs W12 hb12 hT
            have v0 := Flow.eqn (hT 0 (by decide))
            have v1 := Flow.eqn (hT 1 (by decide))
            have v2 := Flow.eqn (hT 2 (by decide))
            have v3 := Flow.eqn (hT 3 (by decide))
            have v4 := Flow.eqn (hT 4 (by decide))
            have v5 := Flow.eqn (hT 5 (by decide))
            have v6 := Flow.eqn (hT 6 (by decide))
            have v7 := Flow.eqn (hT 7 (by decide))
            have v8 := Flow.eqn (hT 8 (by decide))
            have v9 := Flow.eqn (hT 9 (by decide))
            have v10 := Flow.eqn (hT 10 (by decide))
            simp only [Flow.putsT, v0, v1, v2, v3, v4, v5, v6, v7, v8, v9, v10, Act.put, List.setIfInBounds_toArray, List.set_cons_zero, List.set_cons_succ, List.drop_succ_cons, List.drop_zero, List.take_succ_cons, List.take_zero]
            clear hT v0 v1 v2 v3 v4 v5 v6 v7 v8 v9 v10
            have HB12 := Aside0.mk (below_step HB11.out hb12)
            have HCI_12 := Aside0.mk (CI.below HCI_11.out hb12)
            clear hb12
            refine ecall rfl rfl Try.func18 (by kernel_rfl) rfl (args := #[.pointer (some ⟨gC, 0, none⟩), .agg #[.int .i64 x.f1.f0, .int .i64 x.f1.f1, .int .i64 x.f1.f2], .slice Bx nbx cbx]) (by first | (simp only [List.map_toArray, List.map_cons, List.map_nil, Act.eval]; done) | (simp only [List.map_toArray, List.map_cons, List.map_nil, Act.eval]; rfl)) (put_i x.f1 HGx.out Bx nbx cbx x.f2 _ _ (fun w9 hkb => Kd.C_below HCCx.out (below_kb HB12.out (Nat.le_refl _) hkb HGC.out HGM.out)) HNBx.out HCBx.out (by have := HDx.out; omega) HCI_12.out (by omega) rfl) ?_
            rintro e W13 ⟨rfl, hci13, hkb13⟩
            refine ⟨_, rfl, ?_⟩
            have HB13 := Aside0.mk (below_kb HB12.out (Nat.le_refl _) hkb13 HGC.out HGM.out)
            have HCI_13 := Aside0.mk hci13
            clear hci13 hkb13
            simp only [Act.put, List.setIfInBounds_toArray, List.set_cons_zero, List.set_cons_succ]
            go_wp2_with fail
            go_meet
            exact ⟨HB13, _, HCI_13, ⟨HHL.out.put H8.out.1 HX.out hx1 (by rw [HNBx.out]; exact HDx.out)⟩⟩
          | false =>
            have hx1 : ¬ x.f0 = 1 := beq_eq_false_iff_ne.1 HB1.out
            go_wp2_with fail
            go_meet
            exact ⟨HB11, L, ⟨HCI_11.out.more (by omega)⟩, ⟨HHL.out.skip HX.out hx1⟩⟩
        case rest =>
          clear HHL
          obtain ⟨HBC, L, HCI, HHL⟩ := hcut
          go_upto_region 9 with fail
          refine Flow.seqT_head (E := fun u v => Below u.heap.size u v) 6 [(some 43, []), (some 44, []), (some 45, []), (some 46, [1, 2]), (some 47, [3]), (some 48, [4]), (some 49, [0, 5]), (some 42, [6]), (some 50, [7]), (some 51, [7]), (some 7, [8, 6, 0, 1, 2, 3, 4, 5, 6, 7, 8]), (some 8, [9, 10, 0, 1, 2, 3, 4, 5, 6, 7, 8, 9, 10])] (fun iQ vQ wQ => match iQ with | 0 => vQ = (.pointer (some ⟨gC, 0, none⟩)) | 1 => vQ = (.slice (some ad) n c) | 2 => vQ = (.int .i64 i) | 3 => vQ = (.pointer (some (ad.add (i * 5)))) | 4 => vQ = (.pointer (some ((ad.add (i * 5)).add 1))) | 5 => vQ = (.agg #[.int .i64 x.f1.f0, .int .i64 x.f1.f1, .int .i64 x.f1.f2]) | _ => True) rfl (by decide) (by kernel_rfl) (Below.refl _ _) (fun _ _ _ h k => h.trans (k.mono h.size)) (fun _ _ _ _ h _ => h) ?_ ?_
          · refine ⟨?_, ?_, ?_, ?_, ?_, ?_, trivial⟩
            · intro a w' hx hu hd K hK; have e5 : a.tmps.getD 5 undef = (.pointer (some ⟨gC, 0, none⟩)) := hu 5 rfl; exact Flow.run1 rfl (Flow.r_move rfl e5) (hK _ _ (Below.refl _ _) rfl)
            · intro a w' hx hu hd K hK; have e1 : a.tmps.getD 1 undef = (.slice (some ad) n c) := hu 1 rfl; exact Flow.run1 rfl (Flow.r_move rfl e1) (hK _ _ (Below.refl _ _) rfl)
            · intro a w' hx hu hd K hK; have e6 : a.tmps.getD 6 undef = (.int .i64 i) := hu 6 rfl; exact Flow.run1 rfl (Flow.r_move rfl e6) (hK _ _ (Below.refl _ _) rfl)
            · intro a w' hx hu hd K hK; have e44 := Flow.got (hd 1 rfl) 44 rfl; have e45 := Flow.got (hd 2 rfl) 45 rfl; exact Flow.run1 rfl (ix (i := i) Try.underlying31 size38 rfl e44 e45 hlt) (hK _ _ (Below.refl _ _) rfl)
            · intro a w' hx hu hd K hK; have e46 := Flow.got (hd 3 rfl) 46 rfl; exact Flow.run1 rfl (fa rfl e46 (fad38_1 _ _)) (hK _ _ (Below.refl _ _) rfl)
            · intro a w' hx hu hd K hK; have e47 := Flow.got (hd 4 rfl) 47 rfl; exact Flow.run1 rfl (ldrow (c := [.int .i64 x.f1.f0, .int .i64 x.f1.f1, .int .i64 x.f1.f2]) rfl e47 (lies_sub (lies_below HLIx.out (below_step HBC.out hx)) 1 rfl) Try.underlying36 rfl size36) (hK _ _ (Below.refl _ _) rfl)
          intro vs W14 hb14 hT
          have v0 := Flow.eqn (hT 0 (by decide))
          have v1 := Flow.eqn (hT 1 (by decide))
          have v2 := Flow.eqn (hT 2 (by decide))
          have v3 := Flow.eqn (hT 3 (by decide))
          have v4 := Flow.eqn (hT 4 (by decide))
          have v5 := Flow.eqn (hT 5 (by decide))
          simp only [Flow.putsT, v0, v1, v2, v3, v4, v5, Act.put, List.setIfInBounds_toArray, List.set_cons_zero, List.set_cons_succ, List.drop_succ_cons, List.drop_zero, List.take_succ_cons, List.take_zero]
          clear hT v0 v1 v2 v3 v4 v5
          have HB14 := Aside0.mk (below_step HBC.out hb14)
          have HCI_14 := Aside0.mk (CI.below HCI.out hb14)
          clear hb14
          refine ecall rfl rfl Try.func19 (by kernel_rfl) rfl (args := #[.pointer (some ⟨gC, 0, none⟩), .agg #[.int .i64 x.f1.f0, .int .i64 x.f1.f1, .int .i64 x.f1.f2]]) (by first | (simp only [List.map_toArray, List.map_cons, List.map_nil, Act.eval]; done) | (simp only [List.map_toArray, List.map_cons, List.map_nil, Act.eval]; rfl)) (get_i x.f1 HGx.out _ HCI_14.out (by omega)) ?_
          rintro e W15 ⟨vb, ob, hits2, misses2, L2, rfl, hgp15, hci15, hkb15⟩
          refine ⟨_, rfl, ?_⟩
          have HB15 := Aside0.mk (below_kb HB14.out (Nat.le_refl _) hkb15 HGC.out HGM.out)
          have HCI_15 := Aside0.mk hci15
          have HGP_15 := Aside0.mk hgp15
          clear hgp15 hci15 hkb15
          simp only [Act.put, List.setIfInBounds_toArray, List.set_cons_zero, List.set_cons_succ]
          refine Flow.seqL (E := fun u v => Below u.heap.size u v) 7 5 [(some 43, []), (some 44, []), (some 45, []), (some 46, [1, 2]), (some 47, [3]), (some 48, [4]), (some 49, [0, 5]), (some 42, [6]), (some 50, [7]), (some 51, [7]), (some 7, [8, 6, 0, 1, 2, 3, 4, 5, 6, 7, 8]), (some 8, [9, 10, 0, 1, 2, 3, 4, 5, 6, 7, 8, 9, 10])] (fun iQ vQ wQ => match iQ with | 7 => vQ = (.tuple #[vb, .bool ob]) | 8 => vQ = vb | 9 => vQ = (.bool ob) | 10 => vQ = vb | 11 => vQ = (.bool ob) | _ => True) rfl (by decide) (by kernel_rfl) (Below.refl _ _) (fun _ _ _ h k => h.trans (k.mono h.size)) (fun _ _ _ _ h _ => h) ?_ ?_
          · refine ⟨?_, ?_, ?_, ?_, ?_, trivial⟩
            · intro a w' hx hu hd K hK; have e49 : a.tmps.getD 49 undef = (.tuple #[vb, .bool ob]) := hu 49 rfl; exact Flow.run1 rfl (Flow.r_move rfl e49) (hK _ _ (Below.refl _ _) rfl)
            · intro a w' hx hu hd K hK; have e42 := Flow.got (hd 7 rfl) 42 rfl; exact Flow.run1 rfl (extr rfl e42 rfl) (hK _ _ (Below.refl _ _) rfl)
            · intro a w' hx hu hd K hK; have e42 := Flow.got (hd 7 rfl) 42 rfl; exact Flow.run1 rfl (extr rfl e42 rfl) (hK _ _ (Below.refl _ _) rfl)
            · intro a w' hx hu hd K hK; have e50 := Flow.got (hd 8 rfl) 50 rfl; exact Flow.run1 rfl (Flow.r_assign rfl e50) (hK _ _ (Below.refl _ _) rfl)
            · intro a w' hx hu hd K hK; have e51 := Flow.got (hd 9 rfl) 51 rfl; exact Flow.run1 rfl (Flow.r_assign rfl e51) (hK _ _ (Below.refl _ _) rfl)
          intro vs W16 hb16 hT
          have v7 := Flow.eqn (hT 7 (by decide) (by decide))
          have v8 := Flow.eqn (hT 8 (by decide) (by decide))
          have v9 := Flow.eqn (hT 9 (by decide) (by decide))
          have v10 := Flow.eqn (hT 10 (by decide) (by decide))
          have v11 := Flow.eqn (hT 11 (by decide) (by decide))
          simp only [Flow.putsT, v7, v8, v9, v10, v11, Act.put, List.setIfInBounds_toArray, List.set_cons_zero, List.set_cons_succ, List.drop_succ_cons, List.drop_zero, List.take_succ_cons, List.take_zero]
          clear hT v7 v8 v9 v10 v11
          have HB16 := Aside0.mk (below_step HB15.out hb16)
          have HCI_16 := Aside0.mk (CI.below HCI_15.out hb16)
          have HGP_16 := Aside0.mk (GetP.below HGP_15.out hb16)
          clear hb16
          go_upto_region 10 with fail
          refine Flow.seqT (E := fun u v => Below u.heap.size u v) [(some 9, []), (some 10, [0, 0])] (fun iQ vQ wQ => match iQ with | 0 => vQ = (.string ⟨#[]⟩) | 1 => vQ = (.bool false) | _ => True) rfl (by kernel_rfl) (Below.refl _ _) (fun _ _ _ h k => h.trans (k.mono h.size)) (fun _ _ _ _ h _ => h) ?_ ?_
          · refine ⟨?_, ?_, trivial⟩
            · intro a w' hx hu hd K hK; exact Flow.run1 rfl (Flow.r_assign rfl rfl) (hK _ _ (Below.refl _ _) rfl)
            · intro a w' hx hu hd K hK; exact Flow.run1 rfl (Flow.r_assign rfl rfl) (hK _ _ (Below.refl _ _) rfl)
          intro vs W17 hb17 hT
          have v0 := Flow.eqn (hT 0 (by decide))
          have v1 := Flow.eqn (hT 1 (by decide))
          simp only [Flow.putsT, v0, v1, Act.put, List.setIfInBounds_toArray, List.set_cons_zero, List.set_cons_succ]
          clear hT v0 v1
          have HB17 := Aside0.mk (below_step HB16.out hb17)
          have HCI_17 := Aside0.mk (CI.below HCI_16.out hb17)
          have HGP_17 := Aside0.mk (GetP.below HGP_16.out hb17)
          clear hb17
          go_upto_region 11 with fail
          refine Flow.seqT (E := fun u v => Below u.heap.size u v) [(some 11, [])] (fun iQ vQ wQ => match iQ with | 0 => vQ = (.int .i64 0) | _ => True) rfl (by kernel_rfl) (Below.refl _ _) (fun _ _ _ h k => h.trans (k.mono h.size)) (fun _ _ _ _ h _ => h) ?_ ?_
          · refine ⟨?_, trivial⟩
            · intro a w' hx hu hd K hK; exact Flow.run1 rfl (Flow.r_assign rfl rfl) (hK _ _ (Below.refl _ _) rfl)
          intro vs W18 hb18 hT
          have v0 := Flow.eqn (hT 0 (by decide))
          simp only [Flow.putsT, v0, Act.put, List.setIfInBounds_toArray, List.set_cons_zero, List.set_cons_succ]
          clear hT v0
          have HB18 := Aside0.mk (below_step HB17.out hb18)
          have HCI_18 := Aside0.mk (CI.below HCI_17.out hb18)
          have HGP_18 := Aside0.mk (GetP.below HGP_17.out hb18)
          clear hb18
          obtain ⟨i1, I1H⟩ : ∃ x, Aside0 (i + 1 = x) := ⟨_, ⟨rfl⟩⟩
          have hi1 := I1H.out
          go_wp2
          go_loopg [9, 10, 11] i1 (fun g v9 v10 v11 wq => ∃ j : Nat, j ≤ i1 ∧ Aside0 (g = i1 - j) ∧ v11 = .int .i64 j ∧ v9 = .string (lstr l j x.f1) ∧ v10 = .bool (lput l j x.f1) ∧ Aside0 (Below w.heap.size w wq) ∧ Aside0 (CI wq gC gM room hits2 misses2 (2 * i + 1 + 1) L2) ∧ Aside0 (GetP wq vb ob x.f1 L L2))
          case atStart => exact ⟨0, Nat.zero_le _, ⟨rfl⟩, rfl, by rw [(l_zero l x.f1).1], by rw [(l_zero l x.f1).2], HB18, HCI_18, HGP_18⟩
          case round =>
            clear HB18 HCI_18 HGP_18
            obtain ⟨j, hj, HGJ, rfl, rfl, rfl, HBQ, HCQ, HGQ⟩ := hrel
            obtain ⟨ls, HLS⟩ : ∃ q, Aside0 (lstr l j x.f1 = q) := ⟨_, ⟨rfl⟩⟩
            obtain ⟨lb, HLB⟩ : ∃ q, Aside0 (lput l j x.f1 = q) := ⟨_, ⟨rfl⟩⟩
            rw [HLS.out, HLB.out]
            by_cases hjt : j < i1
            · have hjt2 : (j : Int) ≤ i := by omega
              have hjn : j < n := by omega
              obtain ⟨y, HY⟩ : ∃ q, Aside0 (l[j]? = some q) := ⟨_, ⟨List.getElem?_eq_getElem (by have := HN.out; omega)⟩⟩
              obtain ⟨By, cby, hli, hcb, hcc⟩ := at38 HL.out HY.out
              have HLIy := Aside0.mk hli
              have HCBy := Aside0.mk hcb
              have HCCy := Aside0.mk hcc
              clear hli hcb hcc
              have HGy := Aside0.mk (HG.out y (List.mem_of_getElem? HY.out))
              have HDy := Aside0.mk (HMB.out.2 y (List.mem_of_getElem? HY.out))
              obtain ⟨nby, HNBy⟩ : ∃ q, Aside0 (y.f2.length = q) := ⟨_, ⟨rfl⟩⟩
              rw [HNBy.out] at HLIy HCBy HCCy HDy
              obtain ⟨j1, J1H⟩ : ∃ x, Aside0 (j + 1 = x) := ⟨_, ⟨rfl⟩⟩
              have hj1 := J1H.out
              go_upto_region 12 with fail
              refine Flow.seqT (E := fun u v => Below u.heap.size u v) [(some 52, []), (some 53, []), (some 54, [0, 1])] (fun iQ vQ wQ => match iQ with | 0 => vQ = (.int .i64 j) | 1 => vQ = (.int .i64 i) | 2 => vQ = (.bool true) | _ => True) rfl (by kernel_rfl) (Below.refl _ _) (fun _ _ _ h k => h.trans (k.mono h.size)) (fun _ _ _ _ h _ => h) ?_ ?_
              · refine ⟨?_, ?_, ?_, trivial⟩
                · intro a w' hx hu hd K hK; have e11 : a.tmps.getD 11 undef = (.int .i64 j) := hu 11 rfl; exact Flow.run1 rfl (Flow.r_move rfl e11) (hK _ _ (Below.refl _ _) rfl)
                · intro a w' hx hu hd K hK; have e6 : a.tmps.getD 6 undef = (.int .i64 i) := hu 6 rfl; exact Flow.run1 rfl (Flow.r_move rfl e6) (hK _ _ (Below.refl _ _) rfl)
                · intro a w' hx hu hd K hK; have e52 := Flow.got (hd 0 rfl) 52 rfl; have e53 := Flow.got (hd 1 rfl) 53 rfl; exact Flow.run1 rfl (yes (leq rfl e52 e53) (decide_eq_true hjt2)) (hK _ _ (Below.refl _ _) rfl)
              intro vs W19 hb19 hT
              have v0 := Flow.eqn (hT 0 (by decide))
              have v1 := Flow.eqn (hT 1 (by decide))
              have v2 := Flow.eqn (hT 2 (by decide))
              simp only [Flow.putsT, v0, v1, v2, Act.put, List.setIfInBounds_toArray, List.set_cons_zero, List.set_cons_succ]
              clear hT v0 v1 v2
              have HB19 := Aside0.mk (below_step HBQ.out hb19)
              have HCI_19 := Aside0.mk (CI.below HCQ.out hb19)
              have HGP_19 := Aside0.mk (GetP.below HGQ.out hb19)
              clear hb19
              by_cases hy1 : y.f0 = 1
              · have HY1 := Aside0.mk hy1
                clear hy1
                obtain ⟨b2, HB2⟩ : ∃ q, Aside0 (same y.f1 x.f1 = q) := ⟨_, ⟨rfl⟩⟩
                go_upto_region 14 with fail
                refine Flow.flowT (E := fun u v => Below u.heap.size u v) [(some 57, []), (some 58, []), (some 59, [0, 1]), (some 60, [2]), (some 61, [3]), (some 62, [4]), (some 63, [5]), (some 64, [6]), (some 65, [6]), (some 66, [7, 8, 6]), (some 67, [9, 6]), (some 68, [10, 6]), (some 69, [6]), (some 70, [6]), (some 71, [12, 13, 6]), (some 72, [14, 6]), (some 73, [15, 6]), (some 74, [11, 16, 6]), (some 75, [6, 17])] (fun iQ vQ wQ => match iQ with | 0 => vQ = (.slice (some ad) n c) | 1 => vQ = (.int .i64 j) | 2 => vQ = (.pointer (some (ad.add (j * 5)))) | 3 => vQ = (.pointer (some ((ad.add (j * 5)).add 0))) | 4 => vQ = (.int .i64 y.f0) | 5 => vQ = (.bool true) | 6 => vQ = (.bool true) | 7 => vQ = (.slice (some ad) n c) | 8 => vQ = (.int .i64 j) | 9 => vQ = (.pointer (some (ad.add (j * 5)))) | 10 => vQ = (.pointer (some ((ad.add (j * 5)).add 1))) | 11 => vQ = (.agg #[.int .i64 y.f1.f0, .int .i64 y.f1.f1, .int .i64 y.f1.f2]) | 12 => vQ = (.slice (some ad) n c) | 13 => vQ = (.int .i64 i) | 14 => vQ = (.pointer (some (ad.add (i * 5)))) | 15 => vQ = (.pointer (some ((ad.add (i * 5)).add 1))) | 16 => vQ = (.agg #[.int .i64 x.f1.f0, .int .i64 x.f1.f1, .int .i64 x.f1.f2]) | 17 => vQ = (.bool b2) | 18 => vQ = (.bool b2) | _ => True) rfl (by kernel_rfl) (by kernel_rfl) (by kernel_rfl) ((Below.refl _ _).drew) (fun _ _ _ h k => h.trans (k.mono h.size)) (fun _ _ _ _ h _ => h) ?_ ?_
                · refine ⟨?_, ?_, ?_, ?_, ?_, ?_, ?_, ?_, ?_, ?_, ?_, ?_, ?_, ?_, ?_, ?_, ?_, ?_, ?_, trivial⟩
                  · intro a w' hx hu hd K hK; have e1 : a.tmps.getD 1 undef = (.slice (some ad) n c) := hu 1 rfl; exact Flow.run1 rfl (Flow.r_move rfl e1) (hK _ _ (Below.refl _ _) rfl)
                  · intro a w' hx hu hd K hK; have e11 : a.tmps.getD 11 undef = (.int .i64 j) := hu 11 rfl; exact Flow.run1 rfl (Flow.r_move rfl e11) (hK _ _ (Below.refl _ _) rfl)
                  · intro a w' hx hu hd K hK; have e57 := Flow.got (hd 0 (by decide)) 57 rfl; have e58 := Flow.got (hd 1 (by decide)) 58 rfl; exact Flow.run1 rfl (ix (i := j) Try.underlying31 size38 rfl e57 e58 hjn) (hK _ _ (Below.refl _ _) rfl)
                  · intro a w' hx hu hd K hK; have e59 := Flow.got (hd 2 (by decide)) 59 rfl; exact Flow.run1 rfl (fa rfl e59 (fad38_0 _ _)) (hK _ _ (Below.refl _ _) rfl)
                  · intro a w' hx hu hd K hK; have e60 := Flow.got (hd 3 (by decide)) 60 rfl; exact Flow.run1 rfl (ld rfl e60 (lies_below HLIy.out (below_step HB19.out hx) 0 _ rfl) Try.underlying3 rfl) (hK _ _ (Below.refl _ _) rfl)
                  · intro a w' hx hu hd K hK; have e61 := Flow.got (hd 4 (by decide)) 61 rfl; exact Flow.run1 rfl (yes (eql rfl e61 rfl) (beq_iff_eq.2 HY1.out)) (hK _ _ (Below.refl _ _) rfl)
                  · intro a w' hx hu hd K hK; have e62 := Flow.got (hd 5 (by decide)) 62 rfl; exact Flow.run1 rfl (Flow.r_move rfl e62) (hK _ _ (Below.refl _ _) rfl)
                  · intro a w' hx hu hd K hK; have e1 : a.tmps.getD 1 undef = (.slice (some ad) n c) := hu 1 rfl; have e63 := Flow.got (hd 6 (by decide)) 63 rfl; exact Flow.run1 (Flow.want_of (k := 63) rfl e63) (Flow.r_move rfl e1) (hK _ _ (Below.refl _ _) rfl)
                  · intro a w' hx hu hd K hK; have e11 : a.tmps.getD 11 undef = (.int .i64 j) := hu 11 rfl; have e63 := Flow.got (hd 6 (by decide)) 63 rfl; exact Flow.run1 (Flow.want_of (k := 63) rfl e63) (Flow.r_move rfl e11) (hK _ _ (Below.refl _ _) rfl)
                  · intro a w' hx hu hd K hK; have e64 := Flow.got (hd 7 (by decide)) 64 rfl; have e65 := Flow.got (hd 8 (by decide)) 65 rfl; have e63 := Flow.got (hd 6 (by decide)) 63 rfl; exact Flow.run1 (Flow.want_of (k := 63) rfl e63) (ix (i := j) Try.underlying31 size38 rfl e64 e65 hjn) (hK _ _ (Below.refl _ _) rfl)
                  · intro a w' hx hu hd K hK; have e66 := Flow.got (hd 9 (by decide)) 66 rfl; have e63 := Flow.got (hd 6 (by decide)) 63 rfl; exact Flow.run1 (Flow.want_of (k := 63) rfl e63) (fa rfl e66 (fad38_1 _ _)) (hK _ _ (Below.refl _ _) rfl)
                  · intro a w' hx hu hd K hK; have e67 := Flow.got (hd 10 (by decide)) 67 rfl; have e63 := Flow.got (hd 6 (by decide)) 63 rfl; exact Flow.run1 (Flow.want_of (k := 63) rfl e63) (ldrow (c := [.int .i64 y.f1.f0, .int .i64 y.f1.f1, .int .i64 y.f1.f2]) rfl e67 (lies_sub (lies_below HLIy.out (below_step HB19.out hx)) 1 rfl) Try.underlying36 rfl size36) (hK _ _ (Below.refl _ _) rfl)
                  · intro a w' hx hu hd K hK; have e1 : a.tmps.getD 1 undef = (.slice (some ad) n c) := hu 1 rfl; have e63 := Flow.got (hd 6 (by decide)) 63 rfl; exact Flow.run1 (Flow.want_of (k := 63) rfl e63) (Flow.r_move rfl e1) (hK _ _ (Below.refl _ _) rfl)
                  · intro a w' hx hu hd K hK; have e6 : a.tmps.getD 6 undef = (.int .i64 i) := hu 6 rfl; have e63 := Flow.got (hd 6 (by decide)) 63 rfl; exact Flow.run1 (Flow.want_of (k := 63) rfl e63) (Flow.r_move rfl e6) (hK _ _ (Below.refl _ _) rfl)
                  · intro a w' hx hu hd K hK; have e69 := Flow.got (hd 12 (by decide)) 69 rfl; have e70 := Flow.got (hd 13 (by decide)) 70 rfl; have e63 := Flow.got (hd 6 (by decide)) 63 rfl; exact Flow.run1 (Flow.want_of (k := 63) rfl e63) (ix (i := i) Try.underlying31 size38 rfl e69 e70 hlt) (hK _ _ (Below.refl _ _) rfl)
                  · intro a w' hx hu hd K hK; have e71 := Flow.got (hd 14 (by decide)) 71 rfl; have e63 := Flow.got (hd 6 (by decide)) 63 rfl; exact Flow.run1 (Flow.want_of (k := 63) rfl e63) (fa rfl e71 (fad38_1 _ _)) (hK _ _ (Below.refl _ _) rfl)
                  · intro a w' hx hu hd K hK; have e72 := Flow.got (hd 15 (by decide)) 72 rfl; have e63 := Flow.got (hd 6 (by decide)) 63 rfl; exact Flow.run1 (Flow.want_of (k := 63) rfl e63) (ldrow (c := [.int .i64 x.f1.f0, .int .i64 x.f1.f1, .int .i64 x.f1.f2]) rfl e72 (lies_sub (lies_below HLIx.out (below_step HB19.out hx)) 1 rfl) Try.underlying36 rfl size36) (hK _ _ (Below.refl _ _) rfl)
                  · intro a w' hx hu hd K hK; have e68 := Flow.got (hd 11 (by decide)) 68 rfl; have e73 := Flow.got (hd 16 (by decide)) 73 rfl; have e63 := Flow.got (hd 6 (by decide)) 63 rfl; exact Flow.run1 (Flow.want_of (k := 63) rfl e63) (is (eq36 (k := y.f1) (j := x.f1) rfl e68 e73) HB2.out) (hK _ _ (Below.refl _ _) rfl)
                  · intro a w' hx hu hd K hK; have e63 := Flow.got (hd 6 (by decide)) 63 rfl; have e74 := Flow.got (hd 17 (by decide)) 74 rfl; exact Flow.run1 rfl (Flow.r_pick rfl e63 e74) (hK _ _ (Below.refl _ _) rfl)
                intro vs W20 hb20 hT
                have v0 := Flow.eqn (hT 0 (by decide))
                have v1 := Flow.eqn (hT 1 (by decide))
                have v2 := Flow.eqn (hT 2 (by decide))
                have v3 := Flow.eqn (hT 3 (by decide))
                have v4 := Flow.eqn (hT 4 (by decide))
                have v5 := Flow.eqn (hT 5 (by decide))
                have v6 := Flow.eqn (hT 6 (by decide))
                have v7 := Flow.eqn (hT 7 (by decide))
                have v8 := Flow.eqn (hT 8 (by decide))
                have v9 := Flow.eqn (hT 9 (by decide))
                have v10 := Flow.eqn (hT 10 (by decide))
                have v11 := Flow.eqn (hT 11 (by decide))
                have v12 := Flow.eqn (hT 12 (by decide))
                have v13 := Flow.eqn (hT 13 (by decide))
                have v14 := Flow.eqn (hT 14 (by decide))
                have v15 := Flow.eqn (hT 15 (by decide))
                have v16 := Flow.eqn (hT 16 (by decide))
                have v17 := Flow.eqn (hT 17 (by decide))
                have v18 := Flow.eqn (hT 18 (by decide))
                simp only [Flow.putsT, v0, v1, v2, v3, v4, v5, v6, v7, v8, v9, v10, v11, v12, v13, v14, v15, v16, v17, v18, Act.put, List.setIfInBounds_toArray, List.set_cons_zero, List.set_cons_succ]
                clear hT v0 v1 v2 v3 v4 v5 v6 v7 v8 v9 v10 v11 v12 v13 v14 v15 v16 v17 v18
                have HB20 := Aside0.mk (below_step HB19.out hb20)
                have HCI_20 := Aside0.mk (CI.below HCI_19.out hb20)
                have HGP_20 := Aside0.mk (GetP.below HGP_19.out hb20)
                clear hb20
                cases b2 with
                | true =>
                  go_upto_region 15 with fail
                  refine Flow.seqT (E := fun u v => Below u.heap.size u v) [(some 76, []), (some 77, []), (some 78, [0, 1]), (some 79, [2]), (some 80, [3]), (some 81, [4]), (some 9, [5, 0, 1, 2, 3, 4, 5]), (some 10, [6, 0, 1, 2, 3, 4, 5, 6])] (fun iQ vQ wQ => match iQ with | 0 => vQ = (.slice (some ad) n c) | 1 => vQ = (.int .i64 j) | 2 => vQ = (.pointer (some (ad.add (j * 5)))) | 3 => vQ = (.pointer (some ((ad.add (j * 5)).add 4))) | 4 => vQ = (.slice By nby cby) | 5 => vQ = (.string (strOfNums y.f2)) | 6 => vQ = (.string (strOfNums y.f2)) | 7 => vQ = (.bool true) | _ => True) rfl (by kernel_rfl) (Below.refl _ _) (fun _ _ _ h k => h.trans (k.mono h.size)) (fun _ _ _ _ h _ => h) ?_ ?_
                  · refine ⟨?_, ?_, ?_, ?_, ?_, ?_, ?_, ?_, trivial⟩
                    · intro a w' hx hu hd K hK; have e1 : a.tmps.getD 1 undef = (.slice (some ad) n c) := hu 1 rfl; exact Flow.run1 rfl (Flow.r_move rfl e1) (hK _ _ (Below.refl _ _) rfl)
                    · intro a w' hx hu hd K hK; have e11 : a.tmps.getD 11 undef = (.int .i64 j) := hu 11 rfl; exact Flow.run1 rfl (Flow.r_move rfl e11) (hK _ _ (Below.refl _ _) rfl)
                    · intro a w' hx hu hd K hK; have e76 := Flow.got (hd 0 rfl) 76 rfl; have e77 := Flow.got (hd 1 rfl) 77 rfl; exact Flow.run1 rfl (ix (i := j) Try.underlying31 size38 rfl e76 e77 hjn) (hK _ _ (Below.refl _ _) rfl)
                    · intro a w' hx hu hd K hK; have e78 := Flow.got (hd 2 rfl) 78 rfl; exact Flow.run1 rfl (fa rfl e78 (fad38_2 _ _)) (hK _ _ (Below.refl _ _) rfl)
                    · intro a w' hx hu hd K hK; have e79 := Flow.got (hd 3 rfl) 79 rfl; exact Flow.run1 rfl (ld rfl e79 (lies_below HLIy.out (below_step HB20.out hx) 4 _ rfl) Try.underlying27 rfl) (hK _ _ (Below.refl _ _) rfl)
                    · intro a w' hx hu hd K hK; have e80 := Flow.got (hd 4 rfl) 80 rfl; exact Flow.run1 rfl (cvs rfl e80 (Kd.C_string Try.underlying27 Try.underlying5 Try.underlying9 (Kd.C_below HCCy.out (below_step HB20.out hx)))) (hK _ _ (Below.refl _ _) rfl)
                    · intro a w' hx hu hd K hK; have e81 := Flow.got (hd 5 rfl) 81 rfl; exact Flow.run1 rfl (Flow.r_assign rfl e81) (hK _ _ (Below.refl _ _) rfl)
                    · intro a w' hx hu hd K hK; exact Flow.run1 rfl (Flow.r_assign rfl rfl) (hK _ _ (Below.refl _ _) rfl)
                  intro vs W21 hb21 hT
                  have v0 := Flow.eqn (hT 0 (by decide))
                  have v1 := Flow.eqn (hT 1 (by decide))
                  have v2 := Flow.eqn (hT 2 (by decide))
                  have v3 := Flow.eqn (hT 3 (by decide))
                  have v4 := Flow.eqn (hT 4 (by decide))
                  have v5 := Flow.eqn (hT 5 (by decide))
                  have v6 := Flow.eqn (hT 6 (by decide))
                  have v7 := Flow.eqn (hT 7 (by decide))
                  simp only [Flow.putsT, v0, v1, v2, v3, v4, v5, v6, v7, Act.put, List.setIfInBounds_toArray, List.set_cons_zero, List.set_cons_succ]
                  clear hT v0 v1 v2 v3 v4 v5 v6 v7
                  have HB21 := Aside0.mk (below_step HB20.out hb21)
                  have HCI_21 := Aside0.mk (CI.below HCI_20.out hb21)
                  have HGP_21 := Aside0.mk (GetP.below HGP_20.out hb21)
                  clear hb21
                  go_upto_region 13 with fail
                  refine Flow.seqT (E := fun u v => Below u.heap.size u v) [(some 55, []), (some 56, [0]), (some 11, [1, 0, 1])] (fun iQ vQ wQ => match iQ with | 0 => vQ = (.int .i64 j) | 1 => vQ = (.int .i64 j1) | 2 => vQ = (.int .i64 j1) | _ => True) rfl (by kernel_rfl) (Below.refl _ _) (fun _ _ _ h k => h.trans (k.mono h.size)) (fun _ _ _ _ h _ => h) ?_ ?_
                  · refine ⟨?_, ?_, ?_, trivial⟩
                    · intro a w' hx hu hd K hK; have e11 : a.tmps.getD 11 undef = (.int .i64 j) := hu 11 rfl; exact Flow.run1 rfl (Flow.r_move rfl e11) (hK _ _ (Below.refl _ _) rfl)
                    · intro a w' hx hu hd K hK; have e55 := Flow.got (hd 0 rfl) 55 rfl; exact Flow.run1 rfl (addk rfl e55 rfl (by omega) (by omega) (by omega)) (hK _ _ (Below.refl _ _) rfl)
                    · intro a w' hx hu hd K hK; have e56 := Flow.got (hd 1 rfl) 56 rfl; exact Flow.run1 rfl (Flow.r_assign rfl e56) (hK _ _ (Below.refl _ _) rfl)
                  intro vs W22 hb22 hT
                  have v0 := Flow.eqn (hT 0 (by decide))
                  have v1 := Flow.eqn (hT 1 (by decide))
                  have v2 := Flow.eqn (hT 2 (by decide))
                  simp only [Flow.putsT, v0, v1, v2, Act.put, List.setIfInBounds_toArray, List.set_cons_zero, List.set_cons_succ]
                  clear hT v0 v1 v2
                  have HB22 := Aside0.mk (below_step HB21.out hb22)
                  have HCI_22 := Aside0.mk (CI.below HCI_21.out hb22)
                  have HGP_22 := Aside0.mk (GetP.below HGP_21.out hb22)
                  clear hb22
                  have hyes := l_yes HY.out HY1.out HB2.out
                  go_wp2
                  go_roundg (i1 - (j + 1))
                  case measure => have := HGJ.out; omega
                  case rel => exact ⟨j1, by omega, ⟨by rw [← hj1]⟩, rfl, by rw [← hj1, hyes.1], by rw [← hj1, hyes.2], HB22, HCI_22, HGP_22⟩
                | false =>
                  go_upto_region 13 with fail
                  refine Flow.seqT (E := fun u v => Below u.heap.size u v) [(some 55, []), (some 56, [0]), (some 11, [1, 0, 1])] (fun iQ vQ wQ => match iQ with | 0 => vQ = (.int .i64 j) | 1 => vQ = (.int .i64 j1) | 2 => vQ = (.int .i64 j1) | _ => True) rfl (by kernel_rfl) (Below.refl _ _) (fun _ _ _ h k => h.trans (k.mono h.size)) (fun _ _ _ _ h _ => h) ?_ ?_
                  · refine ⟨?_, ?_, ?_, trivial⟩
                    · intro a w' hx hu hd K hK; have e11 : a.tmps.getD 11 undef = (.int .i64 j) := hu 11 rfl; exact Flow.run1 rfl (Flow.r_move rfl e11) (hK _ _ (Below.refl _ _) rfl)
                    · intro a w' hx hu hd K hK; have e55 := Flow.got (hd 0 rfl) 55 rfl; exact Flow.run1 rfl (addk rfl e55 rfl (by omega) (by omega) (by omega)) (hK _ _ (Below.refl _ _) rfl)
                    · intro a w' hx hu hd K hK; have e56 := Flow.got (hd 1 rfl) 56 rfl; exact Flow.run1 rfl (Flow.r_assign rfl e56) (hK _ _ (Below.refl _ _) rfl)
                  intro vs W23 hb23 hT
                  have v0 := Flow.eqn (hT 0 (by decide))
                  have v1 := Flow.eqn (hT 1 (by decide))
                  have v2 := Flow.eqn (hT 2 (by decide))
                  simp only [Flow.putsT, v0, v1, v2, Act.put, List.setIfInBounds_toArray, List.set_cons_zero, List.set_cons_succ]
                  clear hT v0 v1 v2
                  have HB23 := Aside0.mk (below_step HB20.out hb23)
                  have HCI_23 := Aside0.mk (CI.below HCI_20.out hb23)
                  have HGP_23 := Aside0.mk (GetP.below HGP_20.out hb23)
                  clear hb23
                  have hno := l_no HY.out (k := x.f1) (fun h => by rw [HB2.out] at h; cases h.2)
                  go_wp2
                  go_roundg (i1 - (j + 1))
                  case measure => have := HGJ.out; omega
                  case rel => exact ⟨j1, by omega, ⟨by rw [← hj1]⟩, rfl, by rw [← hj1, hno.1, HLS.out], by rw [← hj1, hno.2, HLB.out], HB23, HCI_23, HGP_23⟩
              · have HY1 := Aside0.mk hy1
                clear hy1
                go_upto_region 14 with fail
                refine Flow.flowT (E := fun u v => Below u.heap.size u v) [(some 57, []), (some 58, []), (some 59, [0, 1]), (some 60, [2]), (some 61, [3]), (some 62, [4]), (some 63, [5]), (some 64, [6]), (some 65, [6]), (some 66, [7, 8, 6]), (some 67, [9, 6]), (some 68, [10, 6]), (some 69, [6]), (some 70, [6]), (some 71, [12, 13, 6]), (some 72, [14, 6]), (some 73, [15, 6]), (some 74, [11, 16, 6]), (some 75, [6, 17])] (fun iQ vQ wQ => match iQ with | 0 => vQ = (.slice (some ad) n c) | 1 => vQ = (.int .i64 j) | 2 => vQ = (.pointer (some (ad.add (j * 5)))) | 3 => vQ = (.pointer (some ((ad.add (j * 5)).add 0))) | 4 => vQ = (.int .i64 y.f0) | 5 => vQ = (.bool false) | 6 => vQ = (.bool false) | 7 => vQ = undef | 8 => vQ = undef | 9 => vQ = undef | 10 => vQ = undef | 11 => vQ = undef | 12 => vQ = undef | 13 => vQ = undef | 14 => vQ = undef | 15 => vQ = undef | 16 => vQ = undef | 17 => vQ = undef | 18 => vQ = (.bool false) | _ => True) rfl (by kernel_rfl) (by kernel_rfl) (by kernel_rfl) ((Below.refl _ _).drew) (fun _ _ _ h k => h.trans (k.mono h.size)) (fun _ _ _ _ h _ => h) ?_ ?_
                · refine ⟨?_, ?_, ?_, ?_, ?_, ?_, ?_, ?_, ?_, ?_, ?_, ?_, ?_, ?_, ?_, ?_, ?_, ?_, ?_, trivial⟩
                  · intro a w' hx hu hd K hK; have e1 : a.tmps.getD 1 undef = (.slice (some ad) n c) := hu 1 rfl; exact Flow.run1 rfl (Flow.r_move rfl e1) (hK _ _ (Below.refl _ _) rfl)
                  · intro a w' hx hu hd K hK; have e11 : a.tmps.getD 11 undef = (.int .i64 j) := hu 11 rfl; exact Flow.run1 rfl (Flow.r_move rfl e11) (hK _ _ (Below.refl _ _) rfl)
                  · intro a w' hx hu hd K hK; have e57 := Flow.got (hd 0 (by decide)) 57 rfl; have e58 := Flow.got (hd 1 (by decide)) 58 rfl; exact Flow.run1 rfl (ix (i := j) Try.underlying31 size38 rfl e57 e58 hjn) (hK _ _ (Below.refl _ _) rfl)
                  · intro a w' hx hu hd K hK; have e59 := Flow.got (hd 2 (by decide)) 59 rfl; exact Flow.run1 rfl (fa rfl e59 (fad38_0 _ _)) (hK _ _ (Below.refl _ _) rfl)
                  · intro a w' hx hu hd K hK; have e60 := Flow.got (hd 3 (by decide)) 60 rfl; exact Flow.run1 rfl (ld rfl e60 (lies_below HLIy.out (below_step HB19.out hx) 0 _ rfl) Try.underlying3 rfl) (hK _ _ (Below.refl _ _) rfl)
                  · intro a w' hx hu hd K hK; have e61 := Flow.got (hd 4 (by decide)) 61 rfl; exact Flow.run1 rfl (no (eql rfl e61 rfl) (beq_eq_false_iff_ne.2 HY1.out)) (hK _ _ (Below.refl _ _) rfl)
                  · intro a w' hx hu hd K hK; have e62 := Flow.got (hd 5 (by decide)) 62 rfl; exact Flow.run1 rfl (Flow.r_move rfl e62) (hK _ _ (Below.refl _ _) rfl)
                  · intro a w' hx hu hd K hK; have e63 := Flow.got (hd 6 (by decide)) 63 rfl; exact Flow.spare (Flow.spare_of (k := 63) rfl e63 rfl) (hK _ _ (Below.refl _ _) rfl)
                  · intro a w' hx hu hd K hK; have e63 := Flow.got (hd 6 (by decide)) 63 rfl; exact Flow.spare (Flow.spare_of (k := 63) rfl e63 rfl) (hK _ _ (Below.refl _ _) rfl)
                  · intro a w' hx hu hd K hK; have e63 := Flow.got (hd 6 (by decide)) 63 rfl; exact Flow.spare (Flow.spare_of (k := 63) rfl e63 rfl) (hK _ _ (Below.refl _ _) rfl)
                  · intro a w' hx hu hd K hK; have e63 := Flow.got (hd 6 (by decide)) 63 rfl; exact Flow.spare (Flow.spare_of (k := 63) rfl e63 rfl) (hK _ _ (Below.refl _ _) rfl)
                  · intro a w' hx hu hd K hK; have e63 := Flow.got (hd 6 (by decide)) 63 rfl; exact Flow.spare (Flow.spare_of (k := 63) rfl e63 rfl) (hK _ _ (Below.refl _ _) rfl)
                  · intro a w' hx hu hd K hK; have e63 := Flow.got (hd 6 (by decide)) 63 rfl; exact Flow.spare (Flow.spare_of (k := 63) rfl e63 rfl) (hK _ _ (Below.refl _ _) rfl)
                  · intro a w' hx hu hd K hK; have e63 := Flow.got (hd 6 (by decide)) 63 rfl; exact Flow.spare (Flow.spare_of (k := 63) rfl e63 rfl) (hK _ _ (Below.refl _ _) rfl)
                  · intro a w' hx hu hd K hK; have e63 := Flow.got (hd 6 (by decide)) 63 rfl; exact Flow.spare (Flow.spare_of (k := 63) rfl e63 rfl) (hK _ _ (Below.refl _ _) rfl)
                  · intro a w' hx hu hd K hK; have e63 := Flow.got (hd 6 (by decide)) 63 rfl; exact Flow.spare (Flow.spare_of (k := 63) rfl e63 rfl) (hK _ _ (Below.refl _ _) rfl)
                  · intro a w' hx hu hd K hK; have e63 := Flow.got (hd 6 (by decide)) 63 rfl; exact Flow.spare (Flow.spare_of (k := 63) rfl e63 rfl) (hK _ _ (Below.refl _ _) rfl)
                  · intro a w' hx hu hd K hK; have e63 := Flow.got (hd 6 (by decide)) 63 rfl; exact Flow.spare (Flow.spare_of (k := 63) rfl e63 rfl) (hK _ _ (Below.refl _ _) rfl)
                  · intro a w' hx hu hd K hK; have e63 := Flow.got (hd 6 (by decide)) 63 rfl; have e74 := Flow.got (hd 17 (by decide)) 74 rfl; exact Flow.run1 rfl (Flow.r_pick rfl e63 rfl) (hK _ _ (Below.refl _ _) rfl)
                intro vs W24 hb24 hT
                have v0 := Flow.eqn (hT 0 (by decide))
                have v1 := Flow.eqn (hT 1 (by decide))
                have v2 := Flow.eqn (hT 2 (by decide))
                have v3 := Flow.eqn (hT 3 (by decide))
                have v4 := Flow.eqn (hT 4 (by decide))
                have v5 := Flow.eqn (hT 5 (by decide))
                have v6 := Flow.eqn (hT 6 (by decide))
                have v7 := Flow.eqn (hT 7 (by decide))
                have v8 := Flow.eqn (hT 8 (by decide))
                have v9 := Flow.eqn (hT 9 (by decide))
                have v10 := Flow.eqn (hT 10 (by decide))
                have v11 := Flow.eqn (hT 11 (by decide))
                have v12 := Flow.eqn (hT 12 (by decide))
                have v13 := Flow.eqn (hT 13 (by decide))
                have v14 := Flow.eqn (hT 14 (by decide))
                have v15 := Flow.eqn (hT 15 (by decide))
                have v16 := Flow.eqn (hT 16 (by decide))
                have v17 := Flow.eqn (hT 17 (by decide))
                have v18 := Flow.eqn (hT 18 (by decide))
                simp only [Flow.putsT, v0, v1, v2, v3, v4, v5, v6, v7, v8, v9, v10, v11, v12, v13, v14, v15, v16, v17, v18, Act.put, List.setIfInBounds_toArray, List.set_cons_zero, List.set_cons_succ]
                clear hT v0 v1 v2 v3 v4 v5 v6 v7 v8 v9 v10 v11 v12 v13 v14 v15 v16 v17 v18
                have HB24 := Aside0.mk (below_step HB19.out hb24)
                have HCI_24 := Aside0.mk (CI.below HCI_19.out hb24)
                have HGP_24 := Aside0.mk (GetP.below HGP_19.out hb24)
                clear hb24
                go_upto_region 13 with fail
                refine Flow.seqT (E := fun u v => Below u.heap.size u v) [(some 55, []), (some 56, [0]), (some 11, [1, 0, 1])] (fun iQ vQ wQ => match iQ with | 0 => vQ = (.int .i64 j) | 1 => vQ = (.int .i64 j1) | 2 => vQ = (.int .i64 j1) | _ => True) rfl (by kernel_rfl) (Below.refl _ _) (fun _ _ _ h k => h.trans (k.mono h.size)) (fun _ _ _ _ h _ => h) ?_ ?_
                · refine ⟨?_, ?_, ?_, trivial⟩
                  · intro a w' hx hu hd K hK; have e11 : a.tmps.getD 11 undef = (.int .i64 j) := hu 11 rfl; exact Flow.run1 rfl (Flow.r_move rfl e11) (hK _ _ (Below.refl _ _) rfl)
                  · intro a w' hx hu hd K hK; have e55 := Flow.got (hd 0 rfl) 55 rfl; exact Flow.run1 rfl (addk rfl e55 rfl (by omega) (by omega) (by omega)) (hK _ _ (Below.refl _ _) rfl)
                  · intro a w' hx hu hd K hK; have e56 := Flow.got (hd 1 rfl) 56 rfl; exact Flow.run1 rfl (Flow.r_assign rfl e56) (hK _ _ (Below.refl _ _) rfl)
                intro vs W25 hb25 hT
                have v0 := Flow.eqn (hT 0 (by decide))
                have v1 := Flow.eqn (hT 1 (by decide))
                have v2 := Flow.eqn (hT 2 (by decide))
                simp only [Flow.putsT, v0, v1, v2, Act.put, List.setIfInBounds_toArray, List.set_cons_zero, List.set_cons_succ]
                clear hT v0 v1 v2
                have HB25 := Aside0.mk (below_step HB24.out hb25)
                have HCI_25 := Aside0.mk (CI.below HCI_24.out hb25)
                have HGP_25 := Aside0.mk (GetP.below HGP_24.out hb25)
                clear hb25
                have hno := l_no HY.out (k := x.f1) (fun h => HY1.out h.1)
                go_wp2
                go_roundg (i1 - (j + 1))
                case measure => have := HGJ.out; omega
                case rel => exact ⟨j1, by omega, ⟨by rw [← hj1]⟩, rfl, by rw [← hj1, hno.1, HLS.out], by rw [← hj1, hno.2, HLB.out], HB25, HCI_25, HGP_25⟩
            · obtain rfl : j = i1 := by omega
              have hjt2 : ¬ (j : Int) ≤ i := by omega
              go_upto_region 12 with fail
              refine Flow.seqT (E := fun u v => Below u.heap.size u v) [(some 52, []), (some 53, []), (some 54, [0, 1])] (fun iQ vQ wQ => match iQ with | 0 => vQ = (.int .i64 j) | 1 => vQ = (.int .i64 i) | 2 => vQ = (.bool false) | _ => True) rfl (by kernel_rfl) (Below.refl _ _) (fun _ _ _ h k => h.trans (k.mono h.size)) (fun _ _ _ _ h _ => h) ?_ ?_
              · refine ⟨?_, ?_, ?_, trivial⟩
                · intro a w' hx hu hd K hK; have e11 : a.tmps.getD 11 undef = (.int .i64 j) := hu 11 rfl; exact Flow.run1 rfl (Flow.r_move rfl e11) (hK _ _ (Below.refl _ _) rfl)
                · intro a w' hx hu hd K hK; have e6 : a.tmps.getD 6 undef = (.int .i64 i) := hu 6 rfl; exact Flow.run1 rfl (Flow.r_move rfl e6) (hK _ _ (Below.refl _ _) rfl)
                · intro a w' hx hu hd K hK; have e52 := Flow.got (hd 0 rfl) 52 rfl; have e53 := Flow.got (hd 1 rfl) 53 rfl; exact Flow.run1 rfl (no (leq rfl e52 e53) (decide_eq_false hjt2)) (hK _ _ (Below.refl _ _) rfl)
              intro vs W26 hb26 hT
              have v0 := Flow.eqn (hT 0 (by decide))
              have v1 := Flow.eqn (hT 1 (by decide))
              have v2 := Flow.eqn (hT 2 (by decide))
              simp only [Flow.putsT, v0, v1, v2, Act.put, List.setIfInBounds_toArray, List.set_cons_zero, List.set_cons_succ]
              clear hT v0 v1 v2
              have HB26 := Aside0.mk (below_step HBQ.out hb26)
              have HCI_26 := Aside0.mk (CI.below HCQ.out hb26)
              have HGP_26 := Aside0.mk (GetP.below HGQ.out hb26)
              clear hb26
              obtain ⟨nL, HNL⟩ : ∃ q, Aside0 (L2.length = q) := ⟨_, ⟨rfl⟩⟩
              rcases HGP_26.out with ⟨rfl, hfat, hL2⟩ | ⟨d, rfl, hfat, hL2, hu8⟩
              · have HH2 : Aside0 (Hl l j room L2) := ⟨by rw [hL2, ← hi1]; exact HHL.out⟩
                have hnr : ¬ (nL : Int) > room := by have := HH2.out.len; rw [HNL.out] at this; omega
                clear hfat hL2
                go_upto_region 16 with fail
                refine Flow.seqT (E := fun u v => Below u.heap.size u v) [(some 82, []), (some 83, [0]), (some 84, [1]), (some 85, [2, 1]), (some 86, [3, 1, 1]), (some 87, [4]), (some 88, [5, 4]), (some 89, [4]), (some 90, [6, 7, 4]), (some 91, [4, 8, 1]), (some 92, [1, 9]), (some 93, [10, 4]), (some 94, [11]), (some 95, [12, 11, 11]), (some 96, [11]), (some 97, [14, 11]), (some 98, [13, 15, 11]), (some 99, [11, 16])] (fun iQ vQ wQ => match iQ with | 0 => vQ = (.bool false) | 1 => vQ = (.bool false) | 2 => vQ = undef | 3 => vQ = undef | 4 => vQ = undef | 5 => vQ = undef | 6 => vQ = undef | 7 => vQ = undef | 8 => vQ = undef | 9 => vQ = undef | 10 => vQ = (.bool false) | 11 => vQ = (.bool false) | 12 => vQ = (.pointer (some ⟨gC, 0, none⟩)) | 13 => vQ = (.int .i64 nL) | 14 => vQ = (.int .u8 room) | 15 => vQ = (.int .i64 room) | 16 => vQ = (.bool false) | 17 => vQ = (.bool false) | _ => True) rfl (by kernel_rfl) (Below.refl _ _) (fun _ _ _ h k => h.trans (k.mono h.size)) (fun _ _ _ _ h _ => h) ?_ ?_
                · refine ⟨?_, ?_, ?_, ?_, ?_, ?_, ?_, ?_, ?_, ?_, ?_, ?_, ?_, ?_, ?_, ?_, ?_, ?_, trivial⟩
                  · intro a w' hx hu hd K hK; have e8 : a.tmps.getD 8 undef = (.bool false) := hu 8 rfl; exact Flow.run1 rfl (Flow.r_move rfl e8) (hK _ _ (Below.refl _ _) rfl)
                  · intro a w' hx hu hd K hK; have e82 := Flow.got (hd 0 rfl) 82 rfl; exact Flow.run1 rfl (Flow.r_move rfl e82) (hK _ _ (Below.refl _ _) rfl)
                  · intro a w' hx hu hd K hK; have e83 := Flow.got (hd 1 rfl) 83 rfl; exact Flow.spare (Flow.spare_of (k := 83) rfl e83 rfl) (hK _ _ (Below.refl _ _) rfl)
                  · intro a w' hx hu hd K hK; have e83 := Flow.got (hd 1 rfl) 83 rfl; exact Flow.spare (Flow.spare_of (k := 83) rfl e83 rfl) (hK _ _ (Below.refl _ _) rfl)
                  · intro a w' hx hu hd K hK; have e83 := Flow.got (hd 1 rfl) 83 rfl; exact Flow.spare (Flow.spare_of (k := 83) rfl e83 rfl) (hK _ _ (Below.refl _ _) rfl)
                  · intro a w' hx hu hd K hK; have e86 := Flow.got (hd 4 rfl) 86 rfl; exact Flow.spare (Flow.spare_undef (k := 86) rfl e86) (hK _ _ (Below.refl _ _) rfl)
                  · intro a w' hx hu hd K hK; have e86 := Flow.got (hd 4 rfl) 86 rfl; exact Flow.spare (Flow.spare_undef (k := 86) rfl e86) (hK _ _ (Below.refl _ _) rfl)
                  · intro a w' hx hu hd K hK; have e86 := Flow.got (hd 4 rfl) 86 rfl; exact Flow.spare (Flow.spare_undef (k := 86) rfl e86) (hK _ _ (Below.refl _ _) rfl)
                  · intro a w' hx hu hd K hK; have e86 := Flow.got (hd 4 rfl) 86 rfl; exact Flow.spare (Flow.spare_undef (k := 86) rfl e86) (hK _ _ (Below.refl _ _) rfl)
                  · intro a w' hx hu hd K hK; have e83 := Flow.got (hd 1 rfl) 83 rfl; exact Flow.spare (Flow.spare_of (k := 83) rfl e83 rfl) (hK _ _ (Below.refl _ _) rfl)
                  · intro a w' hx hu hd K hK; have e83 := Flow.got (hd 1 rfl) 83 rfl; have e91 := Flow.got (hd 9 rfl) 91 rfl; exact Flow.run1 rfl (Flow.r_pick rfl e83 rfl) (hK _ _ (Below.refl _ _) rfl)
                  · intro a w' hx hu hd K hK; have e92 := Flow.got (hd 10 rfl) 92 rfl; exact Flow.run1 rfl (Flow.r_move rfl e92) (hK _ _ (Below.refl _ _) rfl)
                  · intro a w' hx hu hd K hK; have e5 : a.tmps.getD 5 undef = (.pointer (some ⟨gC, 0, none⟩)) := hu 5 rfl; have e93 := Flow.got (hd 11 rfl) 93 rfl; exact Flow.run1 (Flow.want_of (k := 93) rfl e93) (Flow.r_move rfl e5) (hK _ _ (Below.refl _ _) rfl)
                  · intro a w' hx hu hd K hK; have e94 := Flow.got (hd 12 rfl) 94 rfl; have e93 := Flow.got (hd 11 rfl) 93 rfl; refine Flow.want (Flow.want_of (k := 93) rfl e93) ?_; refine Flow.val_call rfl Try.func20 (by kernel_rfl) rfl (by first | (simp only [List.map_toArray, List.map_cons, List.map_nil, Act.eval, e94]; done) | (simp only [List.map_toArray, List.map_cons, List.map_nil, Act.eval, e94]; rfl)) (len_i w' (CI.below HCI_26.out hx)) ?_; rintro e w2 ⟨rfl, hb2⟩; rw [HNL.out]; exact ⟨_, rfl, hK _ _ hb2 rfl⟩
                  · intro a w' hx hu hd K hK; have e0 : a.tmps.getD 0 undef = (.int .u8 room) := hu 0 rfl; have e93 := Flow.got (hd 11 rfl) 93 rfl; exact Flow.run1 (Flow.want_of (k := 93) rfl e93) (Flow.r_move rfl e0) (hK _ _ (Below.refl _ _) rfl)
                  · intro a w' hx hu hd K hK; have e96 := Flow.got (hd 14 rfl) 96 rfl; have e93 := Flow.got (hd 11 rfl) 93 rfl; exact Flow.run1 (Flow.want_of (k := 93) rfl e93) (cv8 Try.underlying5 Try.underlying3 rfl e96 H8.out.1 H8.out.2) (hK _ _ (Below.refl _ _) rfl)
                  · intro a w' hx hu hd K hK; have e95 := Flow.got (hd 13 rfl) 95 rfl; have e97 := Flow.got (hd 15 rfl) 97 rfl; have e93 := Flow.got (hd 11 rfl) 93 rfl; exact Flow.run1 (Flow.want_of (k := 93) rfl e93) (no (gtr rfl e95 e97) (decide_eq_false hnr)) (hK _ _ (Below.refl _ _) rfl)
                  · intro a w' hx hu hd K hK; have e93 := Flow.got (hd 11 rfl) 93 rfl; have e98 := Flow.got (hd 16 rfl) 98 rfl; exact Flow.run1 rfl (Flow.r_pick rfl e93 e98) (hK _ _ (Below.refl _ _) rfl)
                intro vs W27 hb27 hT
                have v0 := Flow.eqn (hT 0 (by decide))
                have v1 := Flow.eqn (hT 1 (by decide))
                have v2 := Flow.eqn (hT 2 (by decide))
                have v3 := Flow.eqn (hT 3 (by decide))
                have v4 := Flow.eqn (hT 4 (by decide))
                have v5 := Flow.eqn (hT 5 (by decide))
                have v6 := Flow.eqn (hT 6 (by decide))
                have v7 := Flow.eqn (hT 7 (by decide))
                have v8 := Flow.eqn (hT 8 (by decide))
                have v9 := Flow.eqn (hT 9 (by decide))
                have v10 := Flow.eqn (hT 10 (by decide))
                have v11 := Flow.eqn (hT 11 (by decide))
                have v12 := Flow.eqn (hT 12 (by decide))
                have v13 := Flow.eqn (hT 13 (by decide))
                have v14 := Flow.eqn (hT 14 (by decide))
                have v15 := Flow.eqn (hT 15 (by decide))
                have v16 := Flow.eqn (hT 16 (by decide))
                have v17 := Flow.eqn (hT 17 (by decide))
                simp only [Flow.putsT, v0, v1, v2, v3, v4, v5, v6, v7, v8, v9, v10, v11, v12, v13, v14, v15, v16, v17, Act.put, List.setIfInBounds_toArray, List.set_cons_zero, List.set_cons_succ]
                clear hT v0 v1 v2 v3 v4 v5 v6 v7 v8 v9 v10 v11 v12 v13 v14 v15 v16 v17
                have HB27 := Aside0.mk (below_step HB26.out hb27)
                have HCI_27 := Aside0.mk (CI.below HCI_26.out hb27)
                clear hb27
                go_upto_region 6 with fail
                refine Flow.seqT (E := fun u v => Below u.heap.size u v) [(some 22, []), (some 23, [0]), (some 6, [1, 0, 1])] (fun iQ vQ wQ => match iQ with | 0 => vQ = (.int .i64 i) | 1 => vQ = (.int .i64 j) | 2 => vQ = (.int .i64 j) | _ => True) rfl (by kernel_rfl) (Below.refl _ _) (fun _ _ _ h k => h.trans (k.mono h.size)) (fun _ _ _ _ h _ => h) ?_ ?_
                · refine ⟨?_, ?_, ?_, trivial⟩
                  · intro a w' hx hu hd K hK; have e6 : a.tmps.getD 6 undef = (.int .i64 i) := hu 6 rfl; exact Flow.run1 rfl (Flow.r_move rfl e6) (hK _ _ (Below.refl _ _) rfl)
                  · intro a w' hx hu hd K hK; have e22 := Flow.got (hd 0 rfl) 22 rfl; exact Flow.run1 rfl (addk rfl e22 rfl (by omega) (by omega) (by omega)) (hK _ _ (Below.refl _ _) rfl)
                  · intro a w' hx hu hd K hK; have e23 := Flow.got (hd 1 rfl) 23 rfl; exact Flow.run1 rfl (Flow.r_assign rfl e23) (hK _ _ (Below.refl _ _) rfl)
                intro vs W28 hb28 hT
                have v0 := Flow.eqn (hT 0 (by decide))
                have v1 := Flow.eqn (hT 1 (by decide))
                have v2 := Flow.eqn (hT 2 (by decide))
                simp only [Flow.putsT, v0, v1, v2, Act.put, List.setIfInBounds_toArray, List.set_cons_zero, List.set_cons_succ]
                clear hT v0 v1 v2
                have HB28 := Aside0.mk (below_step HB27.out hb28)
                have HCI_28 := Aside0.mk (CI.below HCI_27.out hb28)
                clear hb28
                go_wp2
                go_roundg (n - (i + 1))
                case measure => have := HGI.out; omega
                case rel => exact ⟨j, by omega, ⟨by rw [← hi1]⟩, rfl, HB28, L2, hits2, misses2, ⟨HCI_28.out.more (by omega)⟩, HH2⟩
              · have HH2 : Aside0 (Hl l j room L2) := ⟨by rw [hL2, ← hi1]; exact HHL.out.get hfat⟩
                have hnr : ¬ (nL : Int) > room := by have := HH2.out.len; rw [HNL.out] at this; omega
                obtain ⟨hg1, hg2⟩ := l_got (HHL.out.got hfat)
                rw [hi1] at hg1 hg2
                obtain rfl : strOfNums d = ls := hg1.symm.trans HLS.out
                obtain rfl : true = lb := hg2.symm.trans HLB.out
                obtain ⟨A2, c2, rfl⟩ := hu8.slice
                have HC8 := Aside0.mk (Kd.R_reads' hu8).2.2
                clear hfat hL2 hg1 hg2 hu8
                go_upto_region 16 with fail
                refine Flow.seqT (E := fun u v => Below u.heap.size u v) [(some 82, []), (some 83, [0]), (some 84, [1]), (some 85, [2, 1]), (some 86, [3, 1, 1]), (some 87, [4]), (some 88, [5, 4]), (some 89, [4]), (some 90, [6, 7, 4]), (some 91, [4, 8, 1]), (some 92, [1, 9]), (some 93, [10, 4]), (some 94, [11]), (some 95, [12, 11, 11]), (some 96, [11]), (some 97, [14, 11]), (some 98, [13, 15, 11]), (some 99, [11, 16])] (fun iQ vQ wQ => match iQ with | 0 => vQ = (.bool true) | 1 => vQ = (.bool true) | 2 => vQ = (.bool true) | 3 => vQ = (.bool false) | 4 => vQ = (.bool false) | 5 => vQ = (.slice A2 d.length c2) | 6 => vQ = (.string (strOfNums d)) | 7 => vQ = (.string (strOfNums d)) | 8 => vQ = (.bool false) | 9 => vQ = (.bool false) | 10 => vQ = (.bool false) | 11 => vQ = (.bool false) | 12 => vQ = (.pointer (some ⟨gC, 0, none⟩)) | 13 => vQ = (.int .i64 nL) | 14 => vQ = (.int .u8 room) | 15 => vQ = (.int .i64 room) | 16 => vQ = (.bool false) | 17 => vQ = (.bool false) | _ => True) rfl (by kernel_rfl) (Below.refl _ _) (fun _ _ _ h k => h.trans (k.mono h.size)) (fun _ _ _ _ h _ => h) ?_ ?_
                · refine ⟨?_, ?_, ?_, ?_, ?_, ?_, ?_, ?_, ?_, ?_, ?_, ?_, ?_, ?_, ?_, ?_, ?_, ?_, trivial⟩
                  · intro a w' hx hu hd K hK; have e8 : a.tmps.getD 8 undef = (.bool true) := hu 8 rfl; exact Flow.run1 rfl (Flow.r_move rfl e8) (hK _ _ (Below.refl _ _) rfl)
                  · intro a w' hx hu hd K hK; have e82 := Flow.got (hd 0 rfl) 82 rfl; exact Flow.run1 rfl (Flow.r_move rfl e82) (hK _ _ (Below.refl _ _) rfl)
                  · intro a w' hx hu hd K hK; have e10 : a.tmps.getD 10 undef = (.bool true) := hu 10 rfl; have e83 := Flow.got (hd 1 rfl) 83 rfl; exact Flow.run1 (Flow.want_of (k := 83) rfl e83) (Flow.r_move rfl e10) (hK _ _ (Below.refl _ _) rfl)
                  · intro a w' hx hu hd K hK; have e84 := Flow.got (hd 2 rfl) 84 rfl; have e83 := Flow.got (hd 1 rfl) 83 rfl; exact Flow.run1 (Flow.want_of (k := 83) rfl e83) (Flow.r_not rfl e84) (hK _ _ (Below.refl _ _) rfl)
                  · intro a w' hx hu hd K hK; have e85 := Flow.got (hd 3 rfl) 85 rfl; have e83 := Flow.got (hd 1 rfl) 83 rfl; exact Flow.run1 (Flow.want_of (k := 83) rfl e83) (Flow.r_move rfl e85) (hK _ _ (Below.refl _ _) rfl)
                  · intro a w' hx hu hd K hK; have e7 : a.tmps.getD 7 undef = (.slice A2 d.length c2) := hu 7 rfl; have e86 := Flow.got (hd 4 rfl) 86 rfl; exact Flow.run1 (Flow.want_of (k := 86) rfl e86) (Flow.r_move rfl e7) (hK _ _ (Below.refl _ _) rfl)
                  · intro a w' hx hu hd K hK; have e87 := Flow.got (hd 5 rfl) 87 rfl; have e86 := Flow.got (hd 4 rfl) 86 rfl; exact Flow.run1 (Flow.want_of (k := 86) rfl e86) (cvs rfl e87 (Kd.C_string Try.underlying27 Try.underlying5 Try.underlying9 (Kd.C_below HC8.out hx))) (hK _ _ (Below.refl _ _) rfl)
                  · intro a w' hx hu hd K hK; have e9 : a.tmps.getD 9 undef = (.string (strOfNums d)) := hu 9 rfl; have e86 := Flow.got (hd 4 rfl) 86 rfl; exact Flow.run1 (Flow.want_of (k := 86) rfl e86) (Flow.r_move rfl e9) (hK _ _ (Below.refl _ _) rfl)
                  · intro a w' hx hu hd K hK; have e88 := Flow.got (hd 6 rfl) 88 rfl; have e89 := Flow.got (hd 7 rfl) 89 rfl; have e86 := Flow.got (hd 4 rfl) 86 rfl; exact Flow.run1 (Flow.want_of (k := 86) rfl e86) (sneq rfl e88 e89 (bne_self_eq_false _)) (hK _ _ (Below.refl _ _) rfl)
                  · intro a w' hx hu hd K hK; have e86 := Flow.got (hd 4 rfl) 86 rfl; have e90 := Flow.got (hd 8 rfl) 90 rfl; have e83 := Flow.got (hd 1 rfl) 83 rfl; exact Flow.run1 (Flow.want_of (k := 83) rfl e83) (Flow.r_pick rfl e86 e90) (hK _ _ (Below.refl _ _) rfl)
                  · intro a w' hx hu hd K hK; have e83 := Flow.got (hd 1 rfl) 83 rfl; have e91 := Flow.got (hd 9 rfl) 91 rfl; exact Flow.run1 rfl (Flow.r_pick rfl e83 e91) (hK _ _ (Below.refl _ _) rfl)
                  · intro a w' hx hu hd K hK; have e92 := Flow.got (hd 10 rfl) 92 rfl; exact Flow.run1 rfl (Flow.r_move rfl e92) (hK _ _ (Below.refl _ _) rfl)
                  · intro a w' hx hu hd K hK; have e5 : a.tmps.getD 5 undef = (.pointer (some ⟨gC, 0, none⟩)) := hu 5 rfl; have e93 := Flow.got (hd 11 rfl) 93 rfl; exact Flow.run1 (Flow.want_of (k := 93) rfl e93) (Flow.r_move rfl e5) (hK _ _ (Below.refl _ _) rfl)
                  · intro a w' hx hu hd K hK; have e94 := Flow.got (hd 12 rfl) 94 rfl; have e93 := Flow.got (hd 11 rfl) 93 rfl; refine Flow.want (Flow.want_of (k := 93) rfl e93) ?_; refine Flow.val_call rfl Try.func20 (by kernel_rfl) rfl (by first | (simp only [List.map_toArray, List.map_cons, List.map_nil, Act.eval, e94]; done) | (simp only [List.map_toArray, List.map_cons, List.map_nil, Act.eval, e94]; rfl)) (len_i w' (CI.below HCI_26.out hx)) ?_; rintro e w2 ⟨rfl, hb2⟩; rw [HNL.out]; exact ⟨_, rfl, hK _ _ hb2 rfl⟩
                  · intro a w' hx hu hd K hK; have e0 : a.tmps.getD 0 undef = (.int .u8 room) := hu 0 rfl; have e93 := Flow.got (hd 11 rfl) 93 rfl; exact Flow.run1 (Flow.want_of (k := 93) rfl e93) (Flow.r_move rfl e0) (hK _ _ (Below.refl _ _) rfl)
                  · intro a w' hx hu hd K hK; have e96 := Flow.got (hd 14 rfl) 96 rfl; have e93 := Flow.got (hd 11 rfl) 93 rfl; exact Flow.run1 (Flow.want_of (k := 93) rfl e93) (cv8 Try.underlying5 Try.underlying3 rfl e96 H8.out.1 H8.out.2) (hK _ _ (Below.refl _ _) rfl)
                  · intro a w' hx hu hd K hK; have e95 := Flow.got (hd 13 rfl) 95 rfl; have e97 := Flow.got (hd 15 rfl) 97 rfl; have e93 := Flow.got (hd 11 rfl) 93 rfl; exact Flow.run1 (Flow.want_of (k := 93) rfl e93) (no (gtr rfl e95 e97) (decide_eq_false hnr)) (hK _ _ (Below.refl _ _) rfl)
                  · intro a w' hx hu hd K hK; have e93 := Flow.got (hd 11 rfl) 93 rfl; have e98 := Flow.got (hd 16 rfl) 98 rfl; exact Flow.run1 rfl (Flow.r_pick rfl e93 e98) (hK _ _ (Below.refl _ _) rfl)
                intro vs W29 hb29 hT
                have v0 := Flow.eqn (hT 0 (by decide))
                have v1 := Flow.eqn (hT 1 (by decide))
                have v2 := Flow.eqn (hT 2 (by decide))
                have v3 := Flow.eqn (hT 3 (by decide))
                have v4 := Flow.eqn (hT 4 (by decide))
                have v5 := Flow.eqn (hT 5 (by decide))
                have v6 := Flow.eqn (hT 6 (by decide))
                have v7 := Flow.eqn (hT 7 (by decide))
                have v8 := Flow.eqn (hT 8 (by decide))
                have v9 := Flow.eqn (hT 9 (by decide))
                have v10 := Flow.eqn (hT 10 (by decide))
                have v11 := Flow.eqn (hT 11 (by decide))
                have v12 := Flow.eqn (hT 12 (by decide))
                have v13 := Flow.eqn (hT 13 (by decide))
                have v14 := Flow.eqn (hT 14 (by decide))
                have v15 := Flow.eqn (hT 15 (by decide))
                have v16 := Flow.eqn (hT 16 (by decide))
                have v17 := Flow.eqn (hT 17 (by decide))
                simp only [Flow.putsT, v0, v1, v2, v3, v4, v5, v6, v7, v8, v9, v10, v11, v12, v13, v14, v15, v16, v17, Act.put, List.setIfInBounds_toArray, List.set_cons_zero, List.set_cons_succ]
                clear hT v0 v1 v2 v3 v4 v5 v6 v7 v8 v9 v10 v11 v12 v13 v14 v15 v16 v17
                have HB29 := Aside0.mk (below_step HB26.out hb29)
                have HCI_29 := Aside0.mk (CI.below HCI_26.out hb29)
                clear hb29
                go_upto_region 6 with fail
                refine Flow.seqT (E := fun u v => Below u.heap.size u v) [(some 22, []), (some 23, [0]), (some 6, [1, 0, 1])] (fun iQ vQ wQ => match iQ with | 0 => vQ = (.int .i64 i) | 1 => vQ = (.int .i64 j) | 2 => vQ = (.int .i64 j) | _ => True) rfl (by kernel_rfl) (Below.refl _ _) (fun _ _ _ h k => h.trans (k.mono h.size)) (fun _ _ _ _ h _ => h) ?_ ?_
                · refine ⟨?_, ?_, ?_, trivial⟩
                  · intro a w' hx hu hd K hK; have e6 : a.tmps.getD 6 undef = (.int .i64 i) := hu 6 rfl; exact Flow.run1 rfl (Flow.r_move rfl e6) (hK _ _ (Below.refl _ _) rfl)
                  · intro a w' hx hu hd K hK; have e22 := Flow.got (hd 0 rfl) 22 rfl; exact Flow.run1 rfl (addk rfl e22 rfl (by omega) (by omega) (by omega)) (hK _ _ (Below.refl _ _) rfl)
                  · intro a w' hx hu hd K hK; have e23 := Flow.got (hd 1 rfl) 23 rfl; exact Flow.run1 rfl (Flow.r_assign rfl e23) (hK _ _ (Below.refl _ _) rfl)
                intro vs W30 hb30 hT
                have v0 := Flow.eqn (hT 0 (by decide))
                have v1 := Flow.eqn (hT 1 (by decide))
                have v2 := Flow.eqn (hT 2 (by decide))
                simp only [Flow.putsT, v0, v1, v2, Act.put, List.setIfInBounds_toArray, List.set_cons_zero, List.set_cons_succ]
                clear hT v0 v1 v2
                have HB30 := Aside0.mk (below_step HB29.out hb30)
                have HCI_30 := Aside0.mk (CI.below HCI_29.out hb30)
                clear hb30
                go_wp2
                go_roundg (n - (i + 1))
                case measure => have := HGI.out; omega
                case rel => exact ⟨j, by omega, ⟨by rw [← hi1]⟩, rfl, HB30, L2, hits2, misses2, ⟨HCI_30.out.more (by omega)⟩, HH2⟩
      · obtain rfl : i = n := by omega
        have hlt2 : ¬ ((i : Nat) : Int) < i := by omega
        go_upto_region 5 with fail
        refine Flow.seqT (E := fun u v => Below u.heap.size u v) [(some 18, []), (some 19, []), (some 20, [1]), (some 21, [0, 2])] (fun iQ vQ wQ => match iQ with | 0 => vQ = (.int .i64 i) | 1 => vQ = (.slice A i c) | 2 => vQ = (.int .i64 i) | 3 => vQ = (.bool false) | _ => True) rfl (by kernel_rfl) (Below.refl _ _) (fun _ _ _ h k => h.trans (k.mono h.size)) (fun _ _ _ _ h _ => h) ?_ ?_
        · refine ⟨?_, ?_, ?_, ?_, trivial⟩
          · intro a w' hx hu hd K hK; have e6 : a.tmps.getD 6 undef = (.int .i64 i) := hu 6 rfl; exact Flow.run1 rfl (Flow.r_move rfl e6) (hK _ _ (Below.refl _ _) rfl)
          · intro a w' hx hu hd K hK; have e1 : a.tmps.getD 1 undef = (.slice A i c) := hu 1 rfl; exact Flow.run1 rfl (Flow.r_move rfl e1) (hK _ _ (Below.refl _ _) rfl)
          · intro a w' hx hu hd K hK; have e19 := Flow.got (hd 1 rfl) 19 rfl; exact Flow.run1 rfl (lenL Try.underlying31 rfl e19) (hK _ _ (Below.refl _ _) rfl)
          · intro a w' hx hu hd K hK; have e18 := Flow.got (hd 0 rfl) 18 rfl; have e20 := Flow.got (hd 2 rfl) 20 rfl; exact Flow.run1 rfl (no (lss rfl e18 e20) (decide_eq_false hlt2)) (hK _ _ (Below.refl _ _) rfl)
        intro vs W31 hb31 hT
        have v0 := Flow.eqn (hT 0 (by decide))
        have v1 := Flow.eqn (hT 1 (by decide))
        have v2 := Flow.eqn (hT 2 (by decide))
        have v3 := Flow.eqn (hT 3 (by decide))
        simp only [Flow.putsT, v0, v1, v2, v3, Act.put, List.setIfInBounds_toArray, List.set_cons_zero, List.set_cons_succ]
        clear hT v0 v1 v2 v3
        have HB31 := Aside0.mk (below_step HBR.out hb31)
        have HCI_31 := Aside0.mk (CI.below HCI.out hb31)
        clear hb31
        go_upto_region 18 with fail
        refine Flow.seqT (E := fun u v => Below u.heap.size u v) [(some 100, []), (some 4, [0, 0, 0])] (fun iQ vQ wQ => match iQ with | 0 => vQ = (.bool true) | 1 => vQ = (.bool true) | _ => True) rfl (by kernel_rfl) (Below.refl _ _) (fun _ _ _ h k => h.trans (k.mono h.size)) (fun _ _ _ _ h _ => h) ?_ ?_
        · refine ⟨?_, ?_, trivial⟩
          · intro a w' hx hu hd K hK; refine Flow.want rfl ?_; refine Flow.val_call rfl Try.func16 (by kernel_rfl) rfl (by first | (simp only [List.map_toArray, List.map_cons, List.map_nil, Act.eval]; done) | (simp only [List.map_toArray, List.map_cons, List.map_nil, Act.eval]; rfl)) (live_c w') ?_; rintro e w2 ⟨rfl, hb2⟩; exact ⟨_, rfl, hK _ _ hb2 rfl⟩
          · intro a w' hx hu hd K hK; have e100 := Flow.got (hd 0 rfl) 100 rfl; exact Flow.run1 rfl (Flow.r_assign rfl e100) (hK _ _ (Below.refl _ _) rfl)
        intro vs W32 hb32 hT
        have v0 := Flow.eqn (hT 0 (by decide))
        have v1 := Flow.eqn (hT 1 (by decide))
        simp only [Flow.putsT, v0, v1, Act.put, List.setIfInBounds_toArray, List.set_cons_zero, List.set_cons_succ]
        clear hT v0 v1
        have HB32 := Aside0.mk (below_step HB31.out hb32)
        have HCI_32 := Aside0.mk (CI.below HCI_31.out hb32)
        clear hb32
        go_wp2_with fail
        exact bodyPost_ret (results_tmp Try.results4 _ _ _) rfl ⟨rfl, HB32.out⟩
end Go.Proofs.Ytlhmpmmblnbmbaa.Cac
