/- What a log says of one zone, as a text. -/
import Derived.Test.YtlhmpmmblnbmbaaDoorRepConf
set_option linter.unusedVariables false
set_option linter.unusedSimpArgs false
namespace Go.Proofs.YtlhmpmmblnbmbaaDoor.Rep
open Go.Lib Go.RowKit Go.Proofs.YtlhmpmmblnbmbaaDoor.Ev Go.Proofs.YtlhmpmmblnbmbaaDoor.Cells Go.Proofs.YtlhmpmmblnbmbaaDoorW.PrintWords Go.Proofs.YtlhmpmmblnbmbaaDoorW.PrintLast Go.Proofs.YtlhmpmmblnbmbaaDoorW.PrintMore
structure S84 where
  f0 : Int
  f1 : List Int
def k84 : Kd S84 := Kd.iso (Kd.pair (Kd.int .i64) (Kd.slice 5 (Kd.int .u8))) (fun x : S84 => (x.f0, x.f1))
def z84 : S84 := ⟨0, []⟩
def G84 (x : S84) : Prop := I64 x.f0
theorem k84_open {w : World} {x : S84} {cs : List Value} (h : k84.K w x cs) : ∃ A c, cs = [.int .i64 x.f0, .slice A x.f1.length c] := by
  obtain ⟨_, _, rfl, rfl, ⟨A, c, rfl, _, _⟩⟩ := h
  exact ⟨A, c, rfl⟩
theorem elem84 {w : World} {A : Option Addr} {n : Nat} {l : List S84} (h : Kd.C k84 w A n l) (i : Nat) (h1 : i < n) : ∃ ad B c, A = some ad ∧ Lies w (ad.add (i * 2)) [.int .i64 (l.getD i z84).f0, .slice B (l.getD i z84).f1.length c] := by
  obtain ⟨ad, c, hA, hc, hk, hcell⟩ := Kd.C_get h z84 (i : Int) (by omega) (by omega)
  rw [Int.toNat_natCast] at hk hcell
  obtain ⟨B, c2, rfl⟩ := k84_open hk
  refine ⟨ad, B, c2, hA, fun j u hj => ?_⟩
  have := hcell j u hj
  rw [Addr.add_add]
  exact this
def slotL (b : Bool) (s : Int) : List ByteArray := if b = true then [⟨#[110, 111, 110, 101]⟩] else [⟨#[115, 108, 111, 116]⟩, itoaB s]
def fullL (b : Bool) (s : Int) : List ByteArray := if b = true then [⟨#[102, 117, 108, 108]⟩, itoaB s] else []
def wholeL (b : Bool) : List ByteArray := if b = true then [⟨#[119, 104, 111, 108, 101]⟩] else []
def parL (l : List S84) : List ByteArray := l.flatMap fun p => [⟨#[112, 97, 114]⟩, itoaB p.f0]
def zl1 (zg : Int) : List ByteArray := [⟨#[103, 101, 110]⟩, itoaB zg]
def zl2 (zg zs : Int) (b : Bool) : List ByteArray := zl1 zg ++ slotL b zs
def zl3 (zg zs : Int) (b zf : Bool) (zw : Int) : List ByteArray := zl2 zg zs b ++ fullL zf zw
def zl4 (zg zs : Int) (b zf : Bool) (zw : Int) (zh : Bool) : List ByteArray := zl3 zg zs b zf zw ++ wholeL zh
def zlB (zg zs : Int) (zf : Bool) (zw : Int) (zh : Bool) (l : List S84) : ByteArray := wordsB (zl4 zg zs (decide (zs < 0)) zf zw zh ++ parL l)
theorem slotL_len (b : Bool) (s : Int) : (slotL b s).length ≤ 2 := by cases b <;> simp [slotL]
theorem fullL_len (b : Bool) (s : Int) : (fullL b s).length ≤ 2 := by cases b <;> simp [fullL]
theorem wholeL_len (b : Bool) : (wholeL b).length ≤ 1 := by cases b <;> simp [wholeL]
theorem zl2_len (zg zs : Int) (b : Bool) : (zl2 zg zs b).length ≤ 4 := by unfold zl2; rw [List.length_append]; have := slotL_len b zs; have : (zl1 zg).length = 2 := rfl; omega
theorem zl3_len (zg zs : Int) (b zf : Bool) (zw : Int) : (zl3 zg zs b zf zw).length ≤ 6 := by unfold zl3; rw [List.length_append]; have := zl2_len zg zs b; have := fullL_len zf zw; omega
theorem zl4_len (zg zs : Int) (b zf : Bool) (zw : Int) (zh : Bool) : (zl4 zg zs b zf zw zh).length ≤ 7 := by unfold zl4; rw [List.length_append]; have := zl3_len zg zs b zf zw; have := wholeL_len zh; omega
theorem parL_len (l : List S84) : (parL l).length = 2 * l.length := by
  unfold parL
  induction l with
  | nil => rfl
  | cons x l ih => rw [List.flatMap_cons, List.length_append, ih]; simp; omega
theorem parL_snoc (l : List S84) (k : Nat) (h : k < l.length) : parL (l.take k) ++ [⟨#[112, 97, 114]⟩, itoaB (l.getD k z84).f0] = parL (l.take (k + 1)) := by
  unfold parL
  rw [List.take_succ_eq_append_getElem h, List.flatMap_append, List.getD_eq_getElem?_getD, List.getElem?_eq_getElem h]; simp
theorem zl4_mem (zg zs : Int) (hg : I64 zg) (hs : I64 zs) (b zf : Bool) (zw : Int) (hw : I64 zw) (zh : Bool) : ∀ s ∈ zl4 zg zs b zf zw zh, s.size ≤ 21 := by
  have a1 := itoa_size zg hg
  have a2 := itoa_size zs hs
  have a3 := itoa_size zw hw
  have l1 : (⟨#[103, 101, 110]⟩ : ByteArray).size = 3 := rfl
  have l2 : (⟨#[110, 111, 110, 101]⟩ : ByteArray).size = 4 := rfl
  have l3 : (⟨#[115, 108, 111, 116]⟩ : ByteArray).size = 4 := rfl
  have l4 : (⟨#[102, 117, 108, 108]⟩ : ByteArray).size = 4 := rfl
  have l5 : (⟨#[119, 104, 111, 108, 101]⟩ : ByteArray).size = 5 := rfl
  intro s h
  unfold zl4 zl3 zl2 zl1 slotL fullL wholeL at h
  cases b <;> cases zf <;> cases zh <;> simp only [List.mem_append, List.mem_cons, List.not_mem_nil, or_false, if_true, if_false, Bool.false_eq_true, reduceCtorEq] at h <;> ((repeat' (refine Or.elim h ?_ ?_ <;> clear h <;> intro h)) <;> (subst h; omega))
theorem parL_mem (l : List S84) (hl : ∀ i, G84 (l.getD i z84)) : ∀ s ∈ parL l, s.size ≤ 21 := by
  intro s h
  unfold parL at h
  obtain ⟨p, hp, hs⟩ := List.mem_flatMap.1 h
  obtain ⟨i, hi⟩ := List.getElem?_of_mem hp
  have := hl i
  rw [List.getD_eq_getElem?_getD, hi] at this
  have a1 := itoa_size p.f0 this
  have l1 : (⟨#[112, 97, 114]⟩ : ByteArray).size = 3 := rfl
  simp only [List.mem_cons, List.not_mem_nil, or_false] at hs
  rcases hs with rfl | rfl <;> omega
theorem zlB_size (zg zs : Int) (hg : I64 zg) (hs : I64 zs) (zf : Bool) (zw : Int) (hw : I64 zw) (zh : Bool) (l : List S84) (hl : ∀ i, G84 (l.getD i z84)) : (zlB zg zs zf zw zh l).size ≤ 22 * (7 + 2 * l.length) := by
  have h := wordsB_size 21 (zl4 zg zs (decide (zs < 0)) zf zw zh ++ parL l) (fun s hs2 => (List.mem_append.1 hs2).elim (fun q => zl4_mem zg zs hg hs _ zf zw hw zh s q) (fun q => parL_mem l hl s q))
  rw [List.length_append, parL_len] at h
  have := zl4_len zg zs (decide (zs < 0)) zf zw zh
  have h2 : 22 * ((zl4 zg zs (decide (zs < 0)) zf zw zh).length + 2 * l.length) ≤ 22 * (7 + 2 * l.length) := by omega
  exact Nat.le_trans h h2
set_option maxHeartbeats 4000000 in
set_option maxRecDepth 100000 in
theorem lzone_c (zg zs : Int) (zf : Bool) (zw : Int) (zh : Bool) (l : List S84) (A : Option Addr) (c : Nat) (hg : I64 zg) (hs : I64 zs) (hw : I64 zw) (hl : ∀ i, G84 (l.getD i z84)) (hn : l.length ≤ 1000) (w : World) (hC : Kd.C k84 w A l.length l) (h : POW w) : Calls Tryd.prog 44 #[.agg #[.int .i64 zg, .int .i64 zs, .bool zf, .int .i64 zw, .bool zh, .slice A l.length c]] w fun e w' => e = .returned (.string (zlB zg zs zf zw zh l)) ∧ Below w.heap.size w w' := by
  have HZ := Aside0.mk (zlB_size zg zs hg hs zf zw hw zh l hl)
  obtain ⟨n, HN⟩ : ∃ n, Aside0 (l.length = n) := ⟨_, ⟨rfl⟩⟩
  have hn2 := hn
  rw [HN.out] at hC hn2 ⊢
  have HC0 := Aside0.mk hC
  have HPW := Aside0.mk h
  clear h hC
  go_enter Tryd.func44, Tryd.ntmps44
  go_upto_region 0 with fail
  refine wp_region_lit ?_
  refine ebox (v := (.agg #[.int .i64 zg, .int .i64 zs, .bool zf, .int .i64 zw, .bool zh, .slice A n c])) rfl rfl rfl ?_
  intro g1 hg1 W1 hk1 hb1
  have Kg1 := Aside0.mk hk1
  have HB1 := Aside0.mk hb1
  clear hb1
  have Gg1 := Aside0.mk (show w.heap.size ≤ g1 by rw [hg1]; exact Nat.le_refl _)
  clear hg1 hk1
  simp only [Act.put, List.setIfInBounds_toArray, List.set_cons_zero, List.set_cons_succ]
  refine Flow.seqL (E := fun u v => Below u.heap.size u v) 1 1 [(some 1, []), (some 2, [])] (fun iQ vQ wQ => match iQ with | 1 => vQ = (.string ⟨#[]⟩) | _ => True) rfl (by decide) (by kernel_rfl) (Below.refl _ _) (fun _ _ _ h k => h.trans (k.mono h.size)) (fun _ _ _ _ h _ => h) ?_ ?_
  · refine ⟨?_, trivial⟩
    · intro a w' hx hu hd K hK; exact Flow.run1 rfl (Flow.r_assign rfl rfl) (hK _ _ (Below.refl _ _) rfl)
  · intro vs W2 hb2 hT
    have v1 := Flow.eqn (hT 1 (by decide) (by decide))
    simp only [Flow.putsT, v1, Act.put, List.setIfInBounds_toArray, List.set_cons_zero, List.set_cons_succ, List.drop_succ_cons, List.drop_zero, List.take_succ_cons, List.take_zero]
    clear hT v1
    have HB2 := Aside0.mk (below_step HB1.out hb2)
    have Kg1_2 := Aside0.mk (blk_below Kg1.out hb2)
    clear hb2
    have HPA := Aside0.mk (HPW.out.below HB2.out)
    have HC := Aside0.mk (Kd.C_below HC0.out HB2.out)
    go_upto_region 1 with fail
    refine Flow.seqT_head (E := fun u v => Below u.heap.size u v) 4 [(some 6, []), (some 7, [0]), (some 8, [1]), (some 9, [2]), (some 3, [3, 2, 0, 1, 2, 3])] (fun iQ vQ wQ => match iQ with | 0 => vQ = (.pointer (some ⟨g1, 0, none⟩)) | 1 => vQ = (.int .i64 zg) | 2 => vQ = (.string (itoaB zg)) | 3 => SliceAt #[.string ⟨#[103, 101, 110]⟩, .string (itoaB zg)] 9 2 W2.heap.size vQ wQ | _ => True) rfl (by decide) (by kernel_rfl) (Below.refl _ _) (fun _ _ _ h k => h.trans (k.mono h.size)) (fun iQ vQ w1Q w2Q hQ hEQ => match iQ, hQ with | 0, hQ => hQ | 1, hQ => hQ | 2, hQ => hQ | 3, hQ => slice_below hQ hEQ | _ + 4, _ => trivial) ?_ ?_
    · refine ⟨?_, ?_, ?_, ?_, trivial⟩
      · intro a w' hx hu hd K hK; have e1 : a.tmps.getD 1 undef = (.pointer (some ⟨g1, 0, none⟩)) := hu 1 rfl; exact Flow.run1 rfl (fa rfl e1 (fa82_0 _ _ _)) (hK _ _ (Below.refl _ _) rfl)
      · intro a w' hx hu hd K hK; have e6 := Flow.got (hd 0 rfl) 6 rfl; exact Flow.run1 rfl (ld rfl e6 ((blk_cell (blk_below Kg1_2.out hx) 0).trans rfl) Tryd.underlying3 rfl) (hK _ _ (Below.refl _ _) rfl)
      · intro a w' hx hu hd K hK; have e7 := Flow.got (hd 1 rfl) 7 rfl; refine Flow.want rfl ?_; refine Flow.val_call rfl Tryd.func41 (by kernel_rfl) rfl (by simp only [List.map_toArray, List.map_cons, List.map_nil, Act.eval, e7]) (num_c zg hg w' (HPA.out.below hx)) ?_; rintro e w2 ⟨rfl, hb2⟩; exact ⟨_, rfl, hK _ _ hb2 (by rfl)⟩
      · intro a w' hx hu hd K hK; have e8 := Flow.got (hd 2 rfl) 8 rfl; exact Flow.run1 rfl (row2_79 rfl rfl e8) (hK _ _ (below_alloc (Below.refl _ _) _) (slice_new (hx : Below _ _ _).size))
    · intro vs W4 hb4 hT
      have v0 := Flow.eqn (hT 0 (by decide))
      have v1 := Flow.eqn (hT 1 (by decide))
      have v2 := Flow.eqn (hT 2 (by decide))
      obtain ⟨g4_3, v3, hge3, hk3⟩ : SliceAt _ _ _ _ _ _ := hT 3 (by decide)
      have Kg4_3 := Aside0.mk hk3
      have Gg4_3 := Aside0.mk hge3
      clear hk3 hge3
      simp only [Flow.putsT, v0, v1, v2, v3, Act.put, List.setIfInBounds_toArray, List.set_cons_zero, List.set_cons_succ, List.drop_succ_cons, List.drop_zero, List.take_succ_cons, List.take_zero]
      clear hT v0 v1 v2 v3
      have HB4 := Aside0.mk hb4
      clear hb4
      refine Flow.seqL (E := fun u v => Below u.heap.size u v) 4 1 [(some 6, []), (some 7, [0]), (some 8, [1]), (some 9, [2]), (some 3, [3, 2, 0, 1, 2, 3])] (fun iQ vQ wQ => match iQ with | 4 => vQ = (.slice (some ⟨g4_3, 0, none⟩) 2 2) | _ => True) rfl (by decide) (by kernel_rfl) (Below.refl _ _) (fun _ _ _ h k => h.trans (k.mono h.size)) (fun _ _ _ _ h _ => h) ?_ ?_
      · refine ⟨?_, trivial⟩
        · intro a w' hx hu hd K hK; have e9 : a.tmps.getD 9 undef = (.slice (some ⟨g4_3, 0, none⟩) 2 2) := hu 9 rfl; exact Flow.run1 rfl (Flow.r_assign rfl e9) (hK _ _ (Below.refl _ _) rfl)
      · intro vs W5 hb5 hT
        have v4 := Flow.eqn (hT 4 (by decide) (by decide))
        simp only [Flow.putsT, v4, Act.put, List.setIfInBounds_toArray, List.set_cons_zero, List.set_cons_succ, List.drop_succ_cons, List.drop_zero, List.take_succ_cons, List.take_zero]
        clear hT v4
        have HB5 := Aside0.mk (below_step HB4.out hb5)
        have Kg4_3_5 := Aside0.mk (blk_below Kg4_3.out hb5)
        clear hb5
        have HR := Aside0.mk (R_row Value.string (fun _ => rfl) (l := zl1 zg) (base := W2.heap.size) Kg4_3_5.out Gg4_3.out (show 2 ≤ maxLen by decide))
        obtain ⟨b0, Hb0⟩ : ∃ b, Aside0 (decide (zs < 0) = b) := ⟨_, ⟨rfl⟩⟩
        go_upto_region 2 with fail
        refine Flow.seqT (E := fun u v => Below u.heap.size u v) [(some 10, []), (some 11, [0]), (some 12, [1])] (fun iQ vQ wQ => match iQ with | 0 => vQ = (.pointer (some ⟨g1, 1, none⟩)) | 1 => vQ = (.int .i64 zs) | 2 => vQ = (.bool b0) | _ => True) rfl (by kernel_rfl) (Below.refl _ _) (fun _ _ _ h k => h.trans (k.mono h.size)) (fun _ _ _ _ h _ => h) ?_ ?_
        · refine ⟨?_, ?_, ?_, trivial⟩
          · intro a w' hx hu hd K hK; have e1 : a.tmps.getD 1 undef = (.pointer (some ⟨g1, 0, none⟩)) := hu 1 rfl; exact Flow.run1 rfl (fa rfl e1 (fa82_1 _ _ _)) (hK _ _ (Below.refl _ _) rfl)
          · intro a w' hx hu hd K hK; have e10 := Flow.got (hd 0 rfl) 10 rfl; exact Flow.run1 rfl (ld rfl e10 ((blk_cell (blk_below Kg1_2.out (below_step HB5.out hx)) 1).trans rfl) Tryd.underlying3 rfl) (hK _ _ (Below.refl _ _) rfl)
          · intro a w' hx hu hd K hK; have e11 := Flow.got (hd 1 rfl) 11 rfl; exact Flow.run1 rfl (is (lss rfl e11 rfl) Hb0.out) (hK _ _ (Below.refl _ _) rfl)
        · intro vs W6 hb6 hT
          have v0 := Flow.eqn (hT 0 (by decide))
          have v1 := Flow.eqn (hT 1 (by decide))
          have v2 := Flow.eqn (hT 2 (by decide))
          simp only [Flow.putsT, v0, v1, v2, Act.put, List.setIfInBounds_toArray, List.set_cons_zero, List.set_cons_succ]
          clear hT v0 v1 v2
          have HB6 := Aside0.mk (below_step HB5.out hb6)
          have HR_6 := Aside0.mk (Kd.R_below HR.out hb6)
          have Kg4_3_5_6 := Aside0.mk (blk_below Kg4_3_5.out hb6)
          clear hb6
          go_upto_if 12 with fail
          go_cut [3] (fun v wx => Aside0 (Below W2.heap.size W2 wx) ∧ Aside0 (Kd.R Kd.string 9 wx W2.heap.size (fun _ => True) v (zl2 zg zs b0)))
          case first =>
            cases b0 with
            | true =>
              go_upto_region 3 with fail
              refine Flow.seqT_head (E := fun u v => Below u.heap.size u v) 2 [(some 13, []), (some 14, []), (some 15, [0, 1]), (some 3, [2, 2, 0, 1, 2])] (fun iQ vQ wQ => match iQ with | 0 => vQ = (.slice (some ⟨g4_3, 0, none⟩) 2 2) | 1 => SliceAt #[.string ⟨#[110, 111, 110, 101]⟩] 9 1 W2.heap.size vQ wQ | _ => True) rfl (by decide) (by kernel_rfl) (Below.refl _ _) (fun _ _ _ h k => h.trans (k.mono h.size)) (fun iQ vQ w1Q w2Q hQ hEQ => match iQ, hQ with | 0, hQ => hQ | 1, hQ => slice_below hQ hEQ | _ + 2, _ => trivial) ?_ ?_
              · refine ⟨?_, ?_, trivial⟩
                · intro a w' hx hu hd K hK; have e3 : a.tmps.getD 3 undef = (.slice (some ⟨g4_3, 0, none⟩) 2 2) := hu 3 rfl; exact Flow.run1 rfl (Flow.r_move rfl e3) (hK _ _ (Below.refl _ _) rfl)
                · intro a w' hx hu hd K hK; exact Flow.run1 rfl (row1_79 rfl rfl) (hK _ _ (below_alloc (Below.refl _ _) _) (slice_new (Nat.le_trans (HB6.out).size (hx : Below _ _ _).size)))
              · intro vs W7 hb7 hT
                have v0 := Flow.eqn (hT 0 (by decide))
                obtain ⟨g7_1, v1, hge1, hk1⟩ : SliceAt _ _ _ _ _ _ := hT 1 (by decide)
                have Kg7_1 := Aside0.mk hk1
                have Gg7_1 := Aside0.mk hge1
                clear hk1 hge1
                simp only [Flow.putsT, v0, v1, Act.put, List.setIfInBounds_toArray, List.set_cons_zero, List.set_cons_succ, List.drop_succ_cons, List.drop_zero, List.take_succ_cons, List.take_zero]
                clear hT v0 v1
                have HB7 := Aside0.mk (below_step HB6.out hb7)
                have HR_7 := Aside0.mk (Kd.R_below HR_6.out hb7)
                have Kg4_3_5_6_7 := Aside0.mk (blk_below Kg4_3_5_6.out hb7)
                clear hb7
                have hl8 : (zl1 zg).length ≤ 2 := (Nat.le_refl 2)
                refine eapp Value.string ByteArray.empty (w0 := W2) (base := W2.heap.size) (ys := [⟨#[110, 111, 110, 101]⟩]) rfl rfl Tryd.underlying79 info9 rfl (by decide) rfl rfl HR_7.out Kg7_1.out HB7.out HB7.out.size ?_ ?_
                · show ((zl1 zg).length + 1) * 16 ≤ _; omega
                intro v8 W8 hr8 hb8 _
                have HR_8 := Aside0.mk hr8
                have HB8 := Aside0.mk hb8
                clear hr8 hb8
                simp only [Act.put, List.setIfInBounds_toArray, List.set_cons_zero, List.set_cons_succ]
                refine Flow.seqL (E := fun u v => Below u.heap.size u v) 3 1 [(some 13, []), (some 14, []), (some 15, [0, 1]), (some 3, [2, 2, 0, 1, 2])] (fun iQ vQ wQ => match iQ with | 3 => vQ = v8 | _ => True) rfl (by decide) (by kernel_rfl) (Below.refl _ _) (fun _ _ _ h k => h.trans (k.mono h.size)) (fun _ _ _ _ h _ => h) ?_ ?_
                · refine ⟨?_, trivial⟩
                  · intro a w' hx hu hd K hK; have e15 : a.tmps.getD 15 undef = v8 := hu 15 rfl; exact Flow.run1 rfl (Flow.r_assign rfl e15) (hK _ _ (Below.refl _ _) rfl)
                · intro vs W9 hb9 hT
                  have v3 := Flow.eqn (hT 3 (by decide) (by decide))
                  simp only [Flow.putsT, v3, Act.put, List.setIfInBounds_toArray, List.set_cons_zero, List.set_cons_succ, List.drop_succ_cons, List.drop_zero, List.take_succ_cons, List.take_zero]
                  clear hT v3
                  have HB9 := Aside0.mk (below_step HB8.out hb9)
                  have HR_9 := Aside0.mk (Kd.R_below HR_8.out hb9)
                  clear hb9
                  go_wp2_with fail
                  go_meet
                  exact ⟨HB9, HR_9⟩
            | false =>
              go_upto_region 4 with fail
              refine Flow.seqT_head (E := fun u v => Below u.heap.size u v) 5 [(some 16, []), (some 17, []), (some 18, [1]), (some 19, [2]), (some 20, [3]), (some 21, [0, 4, 3]), (some 3, [5, 5, 0, 1, 2, 3, 4, 5])] (fun iQ vQ wQ => match iQ with | 0 => vQ = (.slice (some ⟨g4_3, 0, none⟩) 2 2) | 1 => vQ = (.pointer (some ⟨g1, 1, none⟩)) | 2 => vQ = (.int .i64 zs) | 3 => vQ = (.string (itoaB zs)) | 4 => SliceAt #[.string ⟨#[115, 108, 111, 116]⟩, .string (itoaB zs)] 9 2 W2.heap.size vQ wQ | _ => True) rfl (by decide) (by kernel_rfl) (Below.refl _ _) (fun _ _ _ h k => h.trans (k.mono h.size)) (fun iQ vQ w1Q w2Q hQ hEQ => match iQ, hQ with | 0, hQ => hQ | 1, hQ => hQ | 2, hQ => hQ | 3, hQ => hQ | 4, hQ => slice_below hQ hEQ | _ + 5, _ => trivial) ?_ ?_
              · refine ⟨?_, ?_, ?_, ?_, ?_, trivial⟩
                · intro a w' hx hu hd K hK; have e3 : a.tmps.getD 3 undef = (.slice (some ⟨g4_3, 0, none⟩) 2 2) := hu 3 rfl; exact Flow.run1 rfl (Flow.r_move rfl e3) (hK _ _ (Below.refl _ _) rfl)
                · intro a w' hx hu hd K hK; have e1 : a.tmps.getD 1 undef = (.pointer (some ⟨g1, 0, none⟩)) := hu 1 rfl; exact Flow.run1 rfl (fa rfl e1 (fa82_1 _ _ _)) (hK _ _ (Below.refl _ _) rfl)
                · intro a w' hx hu hd K hK; have e17 := Flow.got (hd 1 rfl) 17 rfl; exact Flow.run1 rfl (ld rfl e17 ((blk_cell (blk_below Kg1_2.out (below_step HB6.out hx)) 1).trans rfl) Tryd.underlying3 rfl) (hK _ _ (Below.refl _ _) rfl)
                · intro a w' hx hu hd K hK; have e18 := Flow.got (hd 2 rfl) 18 rfl; refine Flow.want rfl ?_; refine Flow.val_call rfl Tryd.func41 (by kernel_rfl) rfl (by simp only [List.map_toArray, List.map_cons, List.map_nil, Act.eval, e18]) (num_c zs hs w' (HPA.out.below (below_step HB6.out hx))) ?_; rintro e w2 ⟨rfl, hb2⟩; exact ⟨_, rfl, hK _ _ hb2 (by rfl)⟩
                · intro a w' hx hu hd K hK; have e19 := Flow.got (hd 3 rfl) 19 rfl; exact Flow.run1 rfl (row2_79 rfl rfl e19) (hK _ _ (below_alloc (Below.refl _ _) _) (slice_new (Nat.le_trans (HB6.out).size (hx : Below _ _ _).size)))
              · intro vs W10 hb10 hT
                have v0 := Flow.eqn (hT 0 (by decide))
                have v1 := Flow.eqn (hT 1 (by decide))
                have v2 := Flow.eqn (hT 2 (by decide))
                have v3 := Flow.eqn (hT 3 (by decide))
                obtain ⟨g10_4, v4, hge4, hk4⟩ : SliceAt _ _ _ _ _ _ := hT 4 (by decide)
                have Kg10_4 := Aside0.mk hk4
                have Gg10_4 := Aside0.mk hge4
                clear hk4 hge4
                simp only [Flow.putsT, v0, v1, v2, v3, v4, Act.put, List.setIfInBounds_toArray, List.set_cons_zero, List.set_cons_succ, List.drop_succ_cons, List.drop_zero, List.take_succ_cons, List.take_zero]
                clear hT v0 v1 v2 v3 v4
                have HB10 := Aside0.mk (below_step HB6.out hb10)
                have HR_10 := Aside0.mk (Kd.R_below HR_6.out hb10)
                have Kg4_3_5_6_10 := Aside0.mk (blk_below Kg4_3_5_6.out hb10)
                clear hb10
                have hl11 : (zl1 zg).length ≤ 2 := (Nat.le_refl 2)
                refine eapp Value.string ByteArray.empty (w0 := W2) (base := W2.heap.size) (ys := [⟨#[115, 108, 111, 116]⟩, itoaB zs]) rfl rfl Tryd.underlying79 info9 rfl (by decide) rfl rfl HR_10.out Kg10_4.out HB10.out HB10.out.size ?_ ?_
                · show ((zl1 zg).length + 2) * 16 ≤ _; omega
                intro v11 W11 hr11 hb11 _
                have HR_11 := Aside0.mk hr11
                have HB11 := Aside0.mk hb11
                clear hr11 hb11
                simp only [Act.put, List.setIfInBounds_toArray, List.set_cons_zero, List.set_cons_succ]
                refine Flow.seqL (E := fun u v => Below u.heap.size u v) 6 1 [(some 16, []), (some 17, []), (some 18, [1]), (some 19, [2]), (some 20, [3]), (some 21, [0, 4, 3]), (some 3, [5, 5, 0, 1, 2, 3, 4, 5])] (fun iQ vQ wQ => match iQ with | 6 => vQ = v11 | _ => True) rfl (by decide) (by kernel_rfl) (Below.refl _ _) (fun _ _ _ h k => h.trans (k.mono h.size)) (fun _ _ _ _ h _ => h) ?_ ?_
                · refine ⟨?_, trivial⟩
                  · intro a w' hx hu hd K hK; have e21 : a.tmps.getD 21 undef = v11 := hu 21 rfl; exact Flow.run1 rfl (Flow.r_assign rfl e21) (hK _ _ (Below.refl _ _) rfl)
                · intro vs W12 hb12 hT
                  have v6 := Flow.eqn (hT 6 (by decide) (by decide))
                  simp only [Flow.putsT, v6, Act.put, List.setIfInBounds_toArray, List.set_cons_zero, List.set_cons_succ, List.drop_succ_cons, List.drop_zero, List.take_succ_cons, List.take_zero]
                  clear hT v6
                  have HB12 := Aside0.mk (below_step HB11.out hb12)
                  have HR_12 := Aside0.mk (Kd.R_below HR_11.out hb12)
                  clear hb12
                  go_wp2_with fail
                  go_meet
                  exact ⟨HB12, HR_12⟩
          case rest =>
            clear HR_6 HB6
            obtain ⟨HB13, HR_13⟩ := hcut
            go_upto_region 5 with fail
            refine Flow.seqT (E := fun u v => Below u.heap.size u v) [(some 22, []), (some 23, [0])] (fun iQ vQ wQ => match iQ with | 0 => vQ = (.pointer (some ⟨g1, 2, none⟩)) | 1 => vQ = (.bool zf) | _ => True) rfl (by kernel_rfl) (Below.refl _ _) (fun _ _ _ h k => h.trans (k.mono h.size)) (fun _ _ _ _ h _ => h) ?_ ?_
            · refine ⟨?_, ?_, trivial⟩
              · intro a w' hx hu hd K hK; have e1 : a.tmps.getD 1 undef = (.pointer (some ⟨g1, 0, none⟩)) := hu 1 rfl; exact Flow.run1 rfl (fa rfl e1 (fa82_2 _ _ _)) (hK _ _ (Below.refl _ _) rfl)
              · intro a w' hx hu hd K hK; have e22 := Flow.got (hd 0 rfl) 22 rfl; exact Flow.run1 rfl (ld rfl e22 ((blk_cell (blk_below Kg1_2.out (below_step HB13.out hx)) 2).trans rfl) Tryd.underlying4 rfl) (hK _ _ (Below.refl _ _) rfl)
            · intro vs W14 hb14 hT
              have v0 := Flow.eqn (hT 0 (by decide))
              have v1 := Flow.eqn (hT 1 (by decide))
              simp only [Flow.putsT, v0, v1, Act.put, List.setIfInBounds_toArray, List.set_cons_zero, List.set_cons_succ]
              clear hT v0 v1
              have HB14 := Aside0.mk (below_step HB13.out hb14)
              have HR_14 := Aside0.mk (Kd.R_below HR_13.out hb14)
              clear hb14
              go_upto_if 23 with fail
              go_cut [3] (fun v wx => Aside0 (Below W2.heap.size W2 wx) ∧ Aside0 (Kd.R Kd.string 9 wx W2.heap.size (fun _ => True) v (zl3 zg zs b0 zf zw)))
              case first =>
                cases zf with
                | true =>
                  go_upto_region 6 with fail
                  refine Flow.seqT_head (E := fun u v => Below u.heap.size u v) 5 [(some 24, []), (some 25, []), (some 26, [1]), (some 27, [2]), (some 28, [3]), (some 29, [0, 4, 3]), (some 3, [5, 5, 0, 1, 2, 3, 4, 5])] (fun iQ vQ wQ => match iQ with | 0 => vQ = u3 | 1 => vQ = (.pointer (some ⟨g1, 3, none⟩)) | 2 => vQ = (.int .i64 zw) | 3 => vQ = (.string (itoaB zw)) | 4 => SliceAt #[.string ⟨#[102, 117, 108, 108]⟩, .string (itoaB zw)] 9 2 W2.heap.size vQ wQ | _ => True) rfl (by decide) (by kernel_rfl) (Below.refl _ _) (fun _ _ _ h k => h.trans (k.mono h.size)) (fun iQ vQ w1Q w2Q hQ hEQ => match iQ, hQ with | 0, hQ => hQ | 1, hQ => hQ | 2, hQ => hQ | 3, hQ => hQ | 4, hQ => slice_below hQ hEQ | _ + 5, _ => trivial) ?_ ?_
                  · refine ⟨?_, ?_, ?_, ?_, ?_, trivial⟩
                    · intro a w' hx hu hd K hK; have e3 : a.tmps.getD 3 undef = u3 := hu 3 rfl; exact Flow.run1 rfl (Flow.r_move rfl e3) (hK _ _ (Below.refl _ _) rfl)
                    · intro a w' hx hu hd K hK; have e1 : a.tmps.getD 1 undef = (.pointer (some ⟨g1, 0, none⟩)) := hu 1 rfl; exact Flow.run1 rfl (fa rfl e1 (fa82_3 _ _ _)) (hK _ _ (Below.refl _ _) rfl)
                    · intro a w' hx hu hd K hK; have e25 := Flow.got (hd 1 rfl) 25 rfl; exact Flow.run1 rfl (ld rfl e25 ((blk_cell (blk_below Kg1_2.out (below_step HB14.out hx)) 3).trans rfl) Tryd.underlying3 rfl) (hK _ _ (Below.refl _ _) rfl)
                    · intro a w' hx hu hd K hK; have e26 := Flow.got (hd 2 rfl) 26 rfl; refine Flow.want rfl ?_; refine Flow.val_call rfl Tryd.func41 (by kernel_rfl) rfl (by simp only [List.map_toArray, List.map_cons, List.map_nil, Act.eval, e26]) (num_c zw hw w' (HPA.out.below (below_step HB14.out hx))) ?_; rintro e w2 ⟨rfl, hb2⟩; exact ⟨_, rfl, hK _ _ hb2 (by rfl)⟩
                    · intro a w' hx hu hd K hK; have e27 := Flow.got (hd 3 rfl) 27 rfl; exact Flow.run1 rfl (row2_79 rfl rfl e27) (hK _ _ (below_alloc (Below.refl _ _) _) (slice_new (Nat.le_trans (HB14.out).size (hx : Below _ _ _).size)))
                  · intro vs W15 hb15 hT
                    have v0 := Flow.eqn (hT 0 (by decide))
                    have v1 := Flow.eqn (hT 1 (by decide))
                    have v2 := Flow.eqn (hT 2 (by decide))
                    have v3 := Flow.eqn (hT 3 (by decide))
                    obtain ⟨g15_4, v4, hge4, hk4⟩ : SliceAt _ _ _ _ _ _ := hT 4 (by decide)
                    have Kg15_4 := Aside0.mk hk4
                    have Gg15_4 := Aside0.mk hge4
                    clear hk4 hge4
                    simp only [Flow.putsT, v0, v1, v2, v3, v4, Act.put, List.setIfInBounds_toArray, List.set_cons_zero, List.set_cons_succ, List.drop_succ_cons, List.drop_zero, List.take_succ_cons, List.take_zero]
                    clear hT v0 v1 v2 v3 v4
                    have HB15 := Aside0.mk (below_step HB14.out hb15)
                    have HR_15 := Aside0.mk (Kd.R_below HR_14.out hb15)
                    clear hb15
                    have hl16 : (zl2 zg zs b0).length ≤ 4 := (zl2_len _ _ _)
                    refine eapp Value.string ByteArray.empty (w0 := W2) (base := W2.heap.size) (ys := [⟨#[102, 117, 108, 108]⟩, itoaB zw]) rfl rfl Tryd.underlying79 info9 rfl (by decide) rfl rfl HR_15.out Kg15_4.out HB15.out HB15.out.size ?_ ?_
                    · show ((zl2 zg zs b0).length + 2) * 16 ≤ _; omega
                    intro v16 W16 hr16 hb16 _
                    have HR_16 := Aside0.mk hr16
                    have HB16 := Aside0.mk hb16
                    clear hr16 hb16
                    simp only [Act.put, List.setIfInBounds_toArray, List.set_cons_zero, List.set_cons_succ]
                    refine Flow.seqL (E := fun u v => Below u.heap.size u v) 6 1 [(some 24, []), (some 25, []), (some 26, [1]), (some 27, [2]), (some 28, [3]), (some 29, [0, 4, 3]), (some 3, [5, 5, 0, 1, 2, 3, 4, 5])] (fun iQ vQ wQ => match iQ with | 6 => vQ = v16 | _ => True) rfl (by decide) (by kernel_rfl) (Below.refl _ _) (fun _ _ _ h k => h.trans (k.mono h.size)) (fun _ _ _ _ h _ => h) ?_ ?_
                    · refine ⟨?_, trivial⟩
                      · intro a w' hx hu hd K hK; have e29 : a.tmps.getD 29 undef = v16 := hu 29 rfl; exact Flow.run1 rfl (Flow.r_assign rfl e29) (hK _ _ (Below.refl _ _) rfl)
                    · intro vs W17 hb17 hT
                      have v6 := Flow.eqn (hT 6 (by decide) (by decide))
                      simp only [Flow.putsT, v6, Act.put, List.setIfInBounds_toArray, List.set_cons_zero, List.set_cons_succ, List.drop_succ_cons, List.drop_zero, List.take_succ_cons, List.take_zero]
                      clear hT v6
                      have HB17 := Aside0.mk (below_step HB16.out hb17)
                      have HR_17 := Aside0.mk (Kd.R_below HR_16.out hb17)
                      clear hb17
                      go_wp2_with fail
                      go_meet
                      exact ⟨HB17, HR_17⟩
                | false =>
                  have HR_f := Aside0.mk (show Kd.R Kd.string 9 W14 W2.heap.size (fun _ => True) u3 (zl2 zg zs b0 ++ []) by rw [List.append_nil]; exact HR_14.out)
                  go_wp2_with fail
                  go_meet
                  exact ⟨HB14, HR_f⟩
              case rest =>
                clear HR_14 HB14
                obtain ⟨HB18, HR_18⟩ := hcut
                go_upto_region 7 with fail
                refine Flow.seqT (E := fun u v => Below u.heap.size u v) [(some 30, []), (some 31, [0])] (fun iQ vQ wQ => match iQ with | 0 => vQ = (.pointer (some ⟨g1, 4, none⟩)) | 1 => vQ = (.bool zh) | _ => True) rfl (by kernel_rfl) (Below.refl _ _) (fun _ _ _ h k => h.trans (k.mono h.size)) (fun _ _ _ _ h _ => h) ?_ ?_
                · refine ⟨?_, ?_, trivial⟩
                  · intro a w' hx hu hd K hK; have e1 : a.tmps.getD 1 undef = (.pointer (some ⟨g1, 0, none⟩)) := hu 1 rfl; exact Flow.run1 rfl (fa rfl e1 (fa82_4 _ _ _)) (hK _ _ (Below.refl _ _) rfl)
                  · intro a w' hx hu hd K hK; have e30 := Flow.got (hd 0 rfl) 30 rfl; exact Flow.run1 rfl (ld rfl e30 ((blk_cell (blk_below Kg1_2.out (below_step HB18.out hx)) 4).trans rfl) Tryd.underlying4 rfl) (hK _ _ (Below.refl _ _) rfl)
                · intro vs W19 hb19 hT
                  have v0 := Flow.eqn (hT 0 (by decide))
                  have v1 := Flow.eqn (hT 1 (by decide))
                  simp only [Flow.putsT, v0, v1, Act.put, List.setIfInBounds_toArray, List.set_cons_zero, List.set_cons_succ]
                  clear hT v0 v1
                  have HB19 := Aside0.mk (below_step HB18.out hb19)
                  have HR_19 := Aside0.mk (Kd.R_below HR_18.out hb19)
                  clear hb19
                  go_upto_if 31 with fail
                  go_cut [3] (fun v wx => Aside0 (Below W2.heap.size W2 wx) ∧ Aside0 (Kd.R Kd.string 9 wx W2.heap.size (fun _ => True) v (zl4 zg zs b0 zf zw zh)))
                  case first =>
                    cases zh with
                    | true =>
                      go_upto_region 8 with fail
                      refine Flow.seqT_head (E := fun u v => Below u.heap.size u v) 2 [(some 32, []), (some 33, []), (some 34, [0, 1]), (some 3, [2, 2, 0, 1, 2])] (fun iQ vQ wQ => match iQ with | 0 => vQ = u3 | 1 => SliceAt #[.string ⟨#[119, 104, 111, 108, 101]⟩] 9 1 W2.heap.size vQ wQ | _ => True) rfl (by decide) (by kernel_rfl) (Below.refl _ _) (fun _ _ _ h k => h.trans (k.mono h.size)) (fun iQ vQ w1Q w2Q hQ hEQ => match iQ, hQ with | 0, hQ => hQ | 1, hQ => slice_below hQ hEQ | _ + 2, _ => trivial) ?_ ?_
                      · refine ⟨?_, ?_, trivial⟩
                        · intro a w' hx hu hd K hK; have e3 : a.tmps.getD 3 undef = u3 := hu 3 rfl; exact Flow.run1 rfl (Flow.r_move rfl e3) (hK _ _ (Below.refl _ _) rfl)
                        · intro a w' hx hu hd K hK; exact Flow.run1 rfl (row1_79 rfl rfl) (hK _ _ (below_alloc (Below.refl _ _) _) (slice_new (Nat.le_trans (HB19.out).size (hx : Below _ _ _).size)))
                      · intro vs W20 hb20 hT
                        have v0 := Flow.eqn (hT 0 (by decide))
                        obtain ⟨g20_1, v1, hge1, hk1⟩ : SliceAt _ _ _ _ _ _ := hT 1 (by decide)
                        have Kg20_1 := Aside0.mk hk1
                        have Gg20_1 := Aside0.mk hge1
                        clear hk1 hge1
                        simp only [Flow.putsT, v0, v1, Act.put, List.setIfInBounds_toArray, List.set_cons_zero, List.set_cons_succ, List.drop_succ_cons, List.drop_zero, List.take_succ_cons, List.take_zero]
                        clear hT v0 v1
                        have HB20 := Aside0.mk (below_step HB19.out hb20)
                        have HR_20 := Aside0.mk (Kd.R_below HR_19.out hb20)
                        clear hb20
                        have hl21 : (zl3 zg zs b0 zf zw).length ≤ 6 := (zl3_len _ _ _ _ _)
                        refine eapp Value.string ByteArray.empty (w0 := W2) (base := W2.heap.size) (ys := [⟨#[119, 104, 111, 108, 101]⟩]) rfl rfl Tryd.underlying79 info9 rfl (by decide) rfl rfl HR_20.out Kg20_1.out HB20.out HB20.out.size ?_ ?_
                        · show ((zl3 zg zs b0 zf zw).length + 1) * 16 ≤ _; omega
                        intro v21 W21 hr21 hb21 _
                        have HR_21 := Aside0.mk hr21
                        have HB21 := Aside0.mk hb21
                        clear hr21 hb21
                        simp only [Act.put, List.setIfInBounds_toArray, List.set_cons_zero, List.set_cons_succ]
                        refine Flow.seqL (E := fun u v => Below u.heap.size u v) 3 1 [(some 32, []), (some 33, []), (some 34, [0, 1]), (some 3, [2, 2, 0, 1, 2])] (fun iQ vQ wQ => match iQ with | 3 => vQ = v21 | _ => True) rfl (by decide) (by kernel_rfl) (Below.refl _ _) (fun _ _ _ h k => h.trans (k.mono h.size)) (fun _ _ _ _ h _ => h) ?_ ?_
                        · refine ⟨?_, trivial⟩
                          · intro a w' hx hu hd K hK; have e34 : a.tmps.getD 34 undef = v21 := hu 34 rfl; exact Flow.run1 rfl (Flow.r_assign rfl e34) (hK _ _ (Below.refl _ _) rfl)
                        · intro vs W22 hb22 hT
                          have v3 := Flow.eqn (hT 3 (by decide) (by decide))
                          simp only [Flow.putsT, v3, Act.put, List.setIfInBounds_toArray, List.set_cons_zero, List.set_cons_succ, List.drop_succ_cons, List.drop_zero, List.take_succ_cons, List.take_zero]
                          clear hT v3
                          have HB22 := Aside0.mk (below_step HB21.out hb22)
                          have HR_22 := Aside0.mk (Kd.R_below HR_21.out hb22)
                          clear hb22
                          go_wp2_with fail
                          go_meet
                          exact ⟨HB22, HR_22⟩
                    | false =>
                      have HR_f := Aside0.mk (show Kd.R Kd.string 9 W19 W2.heap.size (fun _ => True) u3 (zl3 zg zs b0 zf zw ++ []) by rw [List.append_nil]; exact HR_19.out)
                      go_wp2_with fail
                      go_meet
                      exact ⟨HB19, HR_f⟩
                  case rest =>
                    clear HR_19 HB19
                    obtain ⟨HB23, HR_23⟩ := hcut
                    go_upto_region 9 with fail
                    refine Flow.seqT (E := fun u v => Below u.heap.size u v) [(some 35, []), (some 36, [0]), (some 37, [1]), (some 38, [])] (fun iQ vQ wQ => match iQ with | 0 => vQ = (.pointer (some ⟨g1, 5, none⟩)) | 1 => vQ = (.slice A n c) | 2 => vQ = (.int .i64 n) | 3 => vQ = (.int .i64 0) | _ => True) rfl (by kernel_rfl) (Below.refl _ _) (fun _ _ _ h k => h.trans (k.mono h.size)) (fun _ _ _ _ h _ => h) ?_ ?_
                    · refine ⟨?_, ?_, ?_, ?_, trivial⟩
                      · intro a w' hx hu hd K hK; have e1 : a.tmps.getD 1 undef = (.pointer (some ⟨g1, 0, none⟩)) := hu 1 rfl; exact Flow.run1 rfl (fa rfl e1 (fa82_5 _ _ _)) (hK _ _ (Below.refl _ _) rfl)
                      · intro a w' hx hu hd K hK; have e35 := Flow.got (hd 0 rfl) 35 rfl; exact Flow.run1 rfl (ld rfl e35 ((blk_cell (blk_below Kg1_2.out (below_step HB23.out hx)) 5).trans rfl) Tryd.underlying80 rfl) (hK _ _ (Below.refl _ _) rfl)
                      · intro a w' hx hu hd K hK; have e36 := Flow.got (hd 1 rfl) 36 rfl; exact Flow.run1 rfl (lenL Tryd.underlying80 rfl e36) (hK _ _ (Below.refl _ _) rfl)
                      · intro a w' hx hu hd K hK; exact Flow.run1 rfl (Flow.r_move rfl rfl) (hK _ _ (Below.refl _ _) rfl)
                    · intro vs W24 hb24 hT
                      have v0 := Flow.eqn (hT 0 (by decide))
                      have v1 := Flow.eqn (hT 1 (by decide))
                      have v2 := Flow.eqn (hT 2 (by decide))
                      have v3 := Flow.eqn (hT 3 (by decide))
                      simp only [Flow.putsT, v0, v1, v2, v3, Act.put, List.setIfInBounds_toArray, List.set_cons_zero, List.set_cons_succ]
                      clear hT v0 v1 v2 v3
                      have HB24 := Aside0.mk (below_step HB23.out hb24)
                      have HR_24 := Aside0.mk (Kd.R_below HR_23.out hb24)
                      clear hb24
                      go_wp2
                      go_loopg [3, 38] n (fun g v3 v38 wr => ∃ k : Nat, k ≤ n ∧ Aside0 (g = n - k) ∧ v38 = .int .i64 k ∧ Aside0 (Below W2.heap.size W2 wr) ∧ Aside0 (Kd.R Kd.string 9 wr W2.heap.size (fun _ => True) v3 (zl4 zg zs b0 zf zw zh ++ parL (l.take k))))
                      case atStart => exact ⟨0, Nat.zero_le _, ⟨rfl⟩, rfl, HB24, ⟨by rw [show parL (l.take 0) = [] from rfl, List.append_nil]; exact HR_24.out⟩⟩
                      case round =>
                        clear HR_24 HB24
                        obtain ⟨k, hk, HGK, rfl, HBR, HR⟩ := hrel
                        by_cases hlt : k < n
                        · have hlt2 : (k : Int) < n := by omega
                          obtain ⟨ad, B, c2, hA, hlies⟩ := elem84 HC.out k hlt
                          subst hA
                          obtain ⟨p, hp⟩ : ∃ p, l.getD k z84 = p := ⟨_, rfl⟩
                          have HGP := Aside0.mk (show I64 p.f0 from hp ▸ hl k)
                          rw [hp] at hlies
                          have HL := Aside0.mk hlies
                          have HSN := Aside0.mk (parL_snoc l k (by rw [HN.out]; exact hlt))
                          rw [hp] at HSN
                          clear hp hlies
                          go_upto_region 10 with fail
                          refine Flow.seqT (E := fun u v => Below u.heap.size u v) [(some 39, [])] (fun iQ vQ wQ => match iQ with | 0 => vQ = (.bool true) | _ => True) rfl (by kernel_rfl) (Below.refl _ _) (fun _ _ _ h k => h.trans (k.mono h.size)) (fun _ _ _ _ h _ => h) ?_ ?_
                          · refine ⟨?_, trivial⟩
                            · intro a w' hx hu hd K hK; have e38 : a.tmps.getD 38 undef = (.int .i64 k) := hu 38 rfl; have e37 : a.tmps.getD 37 undef = (.int .i64 n) := hu 37 rfl; exact Flow.run1 rfl (yes (lss rfl e38 e37) (decide_eq_true hlt2)) (hK _ _ (Below.refl _ _) rfl)
                          · intro vs W25 hb25 hT
                            have v0 := Flow.eqn (hT 0 (by decide))
                            simp only [Flow.putsT, v0, Act.put, List.setIfInBounds_toArray, List.set_cons_zero, List.set_cons_succ]
                            clear hT v0
                            have HB25 := Aside0.mk (below_step HBR.out hb25)
                            have HR_25 := Aside0.mk (Kd.R_below HR.out hb25)
                            clear hb25
                            go_upto_region 11 with fail
                            refine Flow.seqT_head (E := fun u v => Below u.heap.size u v) 2 [(some 40, []), (some 41, [0]), (some 5, []), (none, [2, 1, 0, 1, 2])] (fun iQ vQ wQ => match iQ with | 0 => vQ = (.pointer (some (ad.add (k * 2)))) | 1 => vQ = (.agg #[.int .i64 p.f0, .slice B p.f1.length c2]) | _ => True) rfl (by decide) (by kernel_rfl) (Below.refl _ _) (fun _ _ _ h k => h.trans (k.mono h.size)) (fun _ _ _ _ h _ => h) ?_ ?_
                            · refine ⟨?_, ?_, trivial⟩
                              · intro a w' hx hu hd K hK; have e36 : a.tmps.getD 36 undef = (.slice (some ad) n c) := hu 36 rfl; have e38 : a.tmps.getD 38 undef = (.int .i64 k) := hu 38 rfl; exact Flow.run1 rfl (ix Tryd.underlying80 size84 rfl e36 e38 hlt) (hK _ _ (Below.refl _ _) rfl)
                              · intro a w' hx hu hd K hK; have e40 := Flow.got (hd 0 rfl) 40 rfl; exact Flow.run1 rfl (ldrow rfl e40 (lies_below HL.out (below_step HB25.out hx)) Tryd.underlying84 rfl size84) (hK _ _ (Below.refl _ _) rfl)
                            · intro vs W26 hb26 hT
                              have v0 := Flow.eqn (hT 0 (by decide))
                              have v1 := Flow.eqn (hT 1 (by decide))
                              simp only [Flow.putsT, v0, v1, Act.put, List.setIfInBounds_toArray, List.set_cons_zero, List.set_cons_succ, List.drop_succ_cons, List.drop_zero, List.take_succ_cons, List.take_zero]
                              clear hT v0 v1
                              have HB26 := Aside0.mk (below_step HB25.out hb26)
                              have HR_26 := Aside0.mk (Kd.R_below HR_25.out hb26)
                              clear hb26
                              refine ealloc rfl rfl zero84_is ?_
                              intro g27 hg27 W27 hk27 hb27
                              have Kg27 := Aside0.mk hk27
                              have HB27 := Aside0.mk (below_step HB26.out hb27)
                              have HR_27 := Aside0.mk (Kd.R_below HR_26.out hb27)
                              clear hb27
                              have Gg27 := Aside0.mk (show W2.heap.size ≤ g27 by rw [hg27]; exact HB26.out.size)
                              clear hg27 hk27
                              simp only [Act.put, List.setIfInBounds_toArray, List.set_cons_zero, List.set_cons_succ]
                              refine Cells.store_whole rfl rfl 84 _ _ rfl g27 [.int .i64 p.f0, .slice B p.f1.length c2] #[.int .i64 0, .slice none 0 0] rfl rfl Kg27.out rfl size84 rfl ?_
                              intro W28 hk28 hf28 hb28
                              have HR_28 := Aside0.mk (R_far HR_27.out Kg27.out (by decide) hf28)
                              have HB28 := Aside0.mk (HB27.out.trans (hb28 _ Gg27.out))
                              have Kg27_28 := Aside0.mk hk28
                              clear hk28 hf28 hb28
                              go_upto_region 12 with fail
                              refine Flow.seqT_head (E := fun u v => Below u.heap.size u v) 5 [(some 42, []), (some 43, []), (some 44, [1]), (some 45, [2]), (some 46, [3]), (some 47, [0, 4, 3]), (some 3, [5, 5, 0, 1, 2, 3, 4, 5])] (fun iQ vQ wQ => match iQ with | 0 => vQ = u3 | 1 => vQ = (.pointer (some ⟨g27, 0, none⟩)) | 2 => vQ = (.int .i64 p.f0) | 3 => vQ = (.string (itoaB p.f0)) | 4 => SliceAt #[.string ⟨#[112, 97, 114]⟩, .string (itoaB p.f0)] 9 2 W2.heap.size vQ wQ | _ => True) rfl (by decide) (by kernel_rfl) (Below.refl _ _) (fun _ _ _ h k => h.trans (k.mono h.size)) (fun iQ vQ w1Q w2Q hQ hEQ => match iQ, hQ with | 0, hQ => hQ | 1, hQ => hQ | 2, hQ => hQ | 3, hQ => hQ | 4, hQ => slice_below hQ hEQ | _ + 5, _ => trivial) ?_ ?_
                              · refine ⟨?_, ?_, ?_, ?_, ?_, trivial⟩
                                · intro a w' hx hu hd K hK; have e3 : a.tmps.getD 3 undef = u3 := hu 3 rfl; exact Flow.run1 rfl (Flow.r_move rfl e3) (hK _ _ (Below.refl _ _) rfl)
                                · intro a w' hx hu hd K hK; have e5 : a.tmps.getD 5 undef = (.pointer (some ⟨g27, 0, none⟩)) := hu 5 rfl; exact Flow.run1 rfl (fa rfl e5 (fa84_0 _ _ _)) (hK _ _ (Below.refl _ _) rfl)
                                · intro a w' hx hu hd K hK; have e43 := Flow.got (hd 1 rfl) 43 rfl; exact Flow.run1 rfl (ld rfl e43 ((blk_cell (blk_below Kg27_28.out hx) 0).trans rfl) Tryd.underlying3 rfl) (hK _ _ (Below.refl _ _) rfl)
                                · intro a w' hx hu hd K hK; have e44 := Flow.got (hd 2 rfl) 44 rfl; refine Flow.want rfl ?_; refine Flow.val_call rfl Tryd.func41 (by kernel_rfl) rfl (by simp only [List.map_toArray, List.map_cons, List.map_nil, Act.eval, e44]) (num_c p.f0 HGP.out w' (HPA.out.below (below_step HB28.out hx))) ?_; rintro e w2 ⟨rfl, hb2⟩; exact ⟨_, rfl, hK _ _ hb2 (by rfl)⟩
                                · intro a w' hx hu hd K hK; have e45 := Flow.got (hd 3 rfl) 45 rfl; exact Flow.run1 rfl (row2_79 rfl rfl e45) (hK _ _ (below_alloc (Below.refl _ _) _) (slice_new (Nat.le_trans (HB28.out).size (hx : Below _ _ _).size)))
                              · intro vs W29 hb29 hT
                                have v0 := Flow.eqn (hT 0 (by decide))
                                have v1 := Flow.eqn (hT 1 (by decide))
                                have v2 := Flow.eqn (hT 2 (by decide))
                                have v3 := Flow.eqn (hT 3 (by decide))
                                obtain ⟨g29_4, v4, hge4, hk4⟩ : SliceAt _ _ _ _ _ _ := hT 4 (by decide)
                                have Kg29_4 := Aside0.mk hk4
                                have Gg29_4 := Aside0.mk hge4
                                clear hk4 hge4
                                simp only [Flow.putsT, v0, v1, v2, v3, v4, Act.put, List.setIfInBounds_toArray, List.set_cons_zero, List.set_cons_succ, List.drop_succ_cons, List.drop_zero, List.take_succ_cons, List.take_zero]
                                clear hT v0 v1 v2 v3 v4
                                have HB29 := Aside0.mk (below_step HB28.out hb29)
                                have HR_29 := Aside0.mk (Kd.R_below HR_28.out hb29)
                                have Kg27_28_29 := Aside0.mk (blk_below Kg27_28.out hb29)
                                clear hb29
                                have hl30 : (zl4 zg zs b0 zf zw zh ++ parL (l.take k)).length ≤ 2010 := (by rw [List.length_append, parL_len, List.length_take]; have := zl4_len zg zs b0 zf zw zh; have := HN.out; omega)
                                refine eapp Value.string ByteArray.empty (w0 := W2) (base := W2.heap.size) (ys := [⟨#[112, 97, 114]⟩, itoaB p.f0]) rfl rfl Tryd.underlying79 info9 rfl (by decide) rfl rfl HR_29.out Kg29_4.out HB29.out HB29.out.size ?_ ?_
                                · show ((zl4 zg zs b0 zf zw zh ++ parL (l.take k)).length + 2) * 16 ≤ _; omega
                                intro v30 W30 hr30 hb30 _
                                have HR_30 := Aside0.mk hr30
                                have HB30 := Aside0.mk hb30
                                clear hr30 hb30
                                simp only [Act.put, List.setIfInBounds_toArray, List.set_cons_zero, List.set_cons_succ]
                                refine Flow.seqL (E := fun u v => Below u.heap.size u v) 6 1 [(some 42, []), (some 43, []), (some 44, [1]), (some 45, [2]), (some 46, [3]), (some 47, [0, 4, 3]), (some 3, [5, 5, 0, 1, 2, 3, 4, 5])] (fun iQ vQ wQ => match iQ with | 6 => vQ = v30 | _ => True) rfl (by decide) (by kernel_rfl) (Below.refl _ _) (fun _ _ _ h k => h.trans (k.mono h.size)) (fun _ _ _ _ h _ => h) ?_ ?_
                                · refine ⟨?_, trivial⟩
                                  · intro a w' hx hu hd K hK; have e47 : a.tmps.getD 47 undef = v30 := hu 47 rfl; exact Flow.run1 rfl (Flow.r_assign rfl e47) (hK _ _ (Below.refl _ _) rfl)
                                · intro vs W31 hb31 hT
                                  have v6 := Flow.eqn (hT 6 (by decide) (by decide))
                                  simp only [Flow.putsT, v6, Act.put, List.setIfInBounds_toArray, List.set_cons_zero, List.set_cons_succ, List.drop_succ_cons, List.drop_zero, List.take_succ_cons, List.take_zero]
                                  clear hT v6
                                  have HB31 := Aside0.mk (below_step HB30.out hb31)
                                  have HR_31 := Aside0.mk (Kd.R_below HR_30.out hb31)
                                  clear hb31
                                  go_wp2
                                  go_roundg (n - (k + 1))
                                  case measure => have := HGK.out; omega
                                  case rel => exact ⟨k + 1, by omega, ⟨rfl⟩, by go_num, HB31, ⟨by rw [← HSN.out, ← List.append_assoc]; exact HR_31.out⟩⟩
                        · obtain rfl : k = n := by omega
                          have hlt2 : ¬ ((k : Nat) : Int) < k := by omega
                          go_upto_region 10 with fail
                          refine Flow.seqT (E := fun u v => Below u.heap.size u v) [(some 39, [])] (fun iQ vQ wQ => match iQ with | 0 => vQ = (.bool false) | _ => True) rfl (by kernel_rfl) (Below.refl _ _) (fun _ _ _ h k => h.trans (k.mono h.size)) (fun _ _ _ _ h _ => h) ?_ ?_
                          · refine ⟨?_, trivial⟩
                            · intro a w' hx hu hd K hK; have e38 : a.tmps.getD 38 undef = (.int .i64 k) := hu 38 rfl; have e37 : a.tmps.getD 37 undef = (.int .i64 k) := hu 37 rfl; exact Flow.run1 rfl (no (lss rfl e38 e37) (decide_eq_false hlt2)) (hK _ _ (Below.refl _ _) rfl)
                          · intro vs W32 hb32 hT
                            have v0 := Flow.eqn (hT 0 (by decide))
                            simp only [Flow.putsT, v0, Act.put, List.setIfInBounds_toArray, List.set_cons_zero, List.set_cons_succ]
                            clear hT v0
                            have HB32 := Aside0.mk (below_step HBR.out hb32)
                            have HR_32 := Aside0.mk (Kd.R_below HR.out hb32)
                            clear hb32
                            have HTL := Aside0.mk (show zl4 zg zs b0 zf zw zh ++ parL (l.take k) = zl4 zg zs (decide (zs < 0)) zf zw zh ++ parL l by rw [List.take_of_length_le (by rw [HN.out]; exact Nat.le_refl _), Hb0.out])
                            have HS := Aside0.mk (strs_R (l := zl4 zg zs (decide (zs < 0)) zf zw zh ++ parL l) (HTL.out ▸ HR_32.out) (by simp [zl4, zl3, zl2, zl1]))
                            have HZ2 := Aside0.mk (show (zlB zg zs zf zw zh l).size ≤ 50000 from Nat.le_trans HZ.out (by omega))
                            go_upto_region 14 with fail
                            refine Flow.seqT (E := fun u v => Below u.heap.size u v) [(some 49, []), (some 50, [0]), (some 2, [1, 1, 0, 1])] (fun iQ vQ wQ => match iQ with | 0 => vQ = u3 | 1 => vQ = (.string (zlB zg zs zf zw zh l)) | 2 => vQ = (.string (zlB zg zs zf zw zh l)) | _ => True) rfl (by kernel_rfl) (Below.refl _ _) (fun _ _ _ h k => h.trans (k.mono h.size)) (fun _ _ _ _ h _ => h) ?_ ?_
                            · refine ⟨?_, ?_, ?_, trivial⟩
                              · intro a w' hx hu hd K hK; have e3 : a.tmps.getD 3 undef = u3 := hu 3 rfl; exact Flow.run1 rfl (Flow.r_move rfl e3) (hK _ _ (Below.refl _ _) rfl)
                              · intro a w' hx hu hd K hK; have e49 := Flow.got (hd 0 rfl) 49 rfl; refine Flow.want rfl ?_; refine Flow.val_call rfl Tryd.func42 (by kernel_rfl) rfl (by simp only [List.map_toArray, List.map_cons, List.map_nil, Act.eval, e49]) (words_c _ _ w' (HS.out.below hx) (by rw [List.length_append, parL_len]; have := zl4_len zg zs (decide (zs < 0)) zf zw zh; omega) (Nat.le_trans HZ2.out (by decide))) ?_; rintro e w2 ⟨rfl, hb2⟩; exact ⟨_, rfl, hK _ _ hb2 (by rfl)⟩
                              · intro a w' hx hu hd K hK; have e50 := Flow.got (hd 1 rfl) 50 rfl; exact Flow.run1 rfl (Flow.r_assign rfl e50) (hK _ _ (Below.refl _ _) rfl)
                            · intro vs W33 hb33 hT
                              have v0 := Flow.eqn (hT 0 (by decide))
                              have v1 := Flow.eqn (hT 1 (by decide))
                              have v2 := Flow.eqn (hT 2 (by decide))
                              simp only [Flow.putsT, v0, v1, v2, Act.put, List.setIfInBounds_toArray, List.set_cons_zero, List.set_cons_succ]
                              clear hT v0 v1 v2
                              have HB33 := Aside0.mk (below_step HB32.out hb33)
                              have HS_33 := Aside0.mk (Strs.below HS.out hb33)
                              clear hb33
                              go_wp2
                              go_ret
                              exact ⟨rfl, (below_step HB2.out HB33.out)⟩
end Go.Proofs.YtlhmpmmblnbmbaaDoor.Rep
