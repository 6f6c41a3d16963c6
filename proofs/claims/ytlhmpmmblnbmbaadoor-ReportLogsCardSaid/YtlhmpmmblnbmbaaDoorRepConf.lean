/- Settings as a text: the program's and the document's way. -/
import Derived.Test.YtlhmpmmblnbmbaaDoorRepWords
set_option linter.unusedVariables false
set_option linter.unusedSimpArgs false
namespace Go.Proofs.YtlhmpmmblnbmbaaDoor.Rep
open Go.Lib Go.RowKit Go.Proofs.YtlhmpmmblnbmbaaDoor.Ev Go.Proofs.YtlhmpmmblnbmbaaDoor.Cells Go.Proofs.YtlhmpmmblnbmbaaDoorW.PrintWords Go.Proofs.YtlhmpmmblnbmbaaDoorW.PrintLast Go.Proofs.YtlhmpmmblnbmbaaDoorW.PrintMore
structure S34 where
  f0 : Int
  f1 : Int
  f2 : Int
  f3 : Int
  f4 : Int
  f5 : Int
  f6 : Int
  f7 : Int
  f8 : Int
  f9 : Int
  f10 : Int
def G34 (x : S34) : Prop := I64 x.f0 ∧ I64 x.f1 ∧ I64 x.f2 ∧ I64 x.f3 ∧ I64 x.f4 ∧ I64 x.f5 ∧ I64 x.f6 ∧ I64 x.f7 ∧ I64 x.f8 ∧ I64 x.f9 ∧ I64 x.f10
def c34 (x : S34) : Array Value := #[.int .i64 x.f0, .int .i64 x.f1, .int .i64 x.f2, .int .i64 x.f3, .int .i64 x.f4, .int .i64 x.f5, .int .i64 x.f6, .int .i64 x.f7, .int .i64 x.f8, .int .i64 x.f9, .int .i64 x.f10]
def names34 : List ByteArray := [⟨#[105, 100]⟩, ⟨#[109, 101, 109, 98, 101, 114, 115]⟩, ⟨#[117, 110, 105, 116]⟩, ⟨#[98, 108, 111, 99, 107]⟩, ⟨#[99, 97, 112]⟩, ⟨#[122, 111, 110, 101, 115]⟩, ⟨#[115, 112, 97, 114, 101]⟩, ⟨#[109, 101, 116, 97]⟩, ⟨#[111, 112, 101, 110]⟩, ⟨#[97, 99, 116, 105, 118, 101]⟩, ⟨#[108, 105, 109, 105, 116]⟩]
def nums34 (x : S34) : List Int := [x.f0, x.f1, x.f2, x.f3, x.f4, x.f5, x.f6, x.f7, x.f8, x.f9, x.f10]
def kvs34 (x : S34) : List ByteArray := [⟨#[105, 100]⟩ ++ ⟨#[61]⟩ ++ itoaB x.f0, ⟨#[109, 101, 109, 98, 101, 114, 115]⟩ ++ ⟨#[61]⟩ ++ itoaB x.f1, ⟨#[117, 110, 105, 116]⟩ ++ ⟨#[61]⟩ ++ itoaB x.f2, ⟨#[98, 108, 111, 99, 107]⟩ ++ ⟨#[61]⟩ ++ itoaB x.f3, ⟨#[99, 97, 112]⟩ ++ ⟨#[61]⟩ ++ itoaB x.f4, ⟨#[122, 111, 110, 101, 115]⟩ ++ ⟨#[61]⟩ ++ itoaB x.f5, ⟨#[115, 112, 97, 114, 101]⟩ ++ ⟨#[61]⟩ ++ itoaB x.f6, ⟨#[109, 101, 116, 97]⟩ ++ ⟨#[61]⟩ ++ itoaB x.f7, ⟨#[111, 112, 101, 110]⟩ ++ ⟨#[61]⟩ ++ itoaB x.f8, ⟨#[97, 99, 116, 105, 118, 101]⟩ ++ ⟨#[61]⟩ ++ itoaB x.f9, ⟨#[108, 105, 109, 105, 116]⟩ ++ ⟨#[61]⟩ ++ itoaB x.f10]
def confB (x : S34) : ByteArray := wordsB (kvs34 x)
theorem conf_eq (x : S34) : confB x = ⟨#[105, 100, 61]⟩ ++ itoaB x.f0 ++ ⟨#[32, 109, 101, 109, 98, 101, 114, 115, 61]⟩ ++ itoaB x.f1 ++ ⟨#[32, 117, 110, 105, 116, 61]⟩ ++ itoaB x.f2 ++ ⟨#[32, 98, 108, 111, 99, 107, 61]⟩ ++ itoaB x.f3 ++ ⟨#[32, 99, 97, 112, 61]⟩ ++ itoaB x.f4 ++ ⟨#[32, 122, 111, 110, 101, 115, 61]⟩ ++ itoaB x.f5 ++ ⟨#[32, 115, 112, 97, 114, 101, 61]⟩ ++ itoaB x.f6 ++ ⟨#[32, 109, 101, 116, 97, 61]⟩ ++ itoaB x.f7 ++ ⟨#[32, 111, 112, 101, 110, 61]⟩ ++ itoaB x.f8 ++ ⟨#[32, 97, 99, 116, 105, 118, 101, 61]⟩ ++ itoaB x.f9 ++ ⟨#[32, 108, 105, 109, 105, 116, 61]⟩ ++ itoaB x.f10 := by
  apply ByteArray.ext
  apply Array.toList_inj.1
  simp [confB, kvs34, wordsB, Go.Lib.join, List.intercalate, List.intersperse]
set_option maxHeartbeats 4000000 in
set_option maxRecDepth 100000 in
theorem rconf_c (x : S34) (hg : G34 x) (w : World) : Calls Tryd.prog 18 #[.agg (c34 x)] w fun e w' => e = .returned (.string (confB x)) ∧ Below w.heap.size w w' := by
  rw [conf_eq]
  unfold c34
  go_enter Tryd.func18, Tryd.ntmps18
  go_upto_region 0 with fail
  refine wp_region_lit ?_
  refine ebox (v := (.agg #[.int .i64 x.f0, .int .i64 x.f1, .int .i64 x.f2, .int .i64 x.f3, .int .i64 x.f4, .int .i64 x.f5, .int .i64 x.f6, .int .i64 x.f7, .int .i64 x.f8, .int .i64 x.f9, .int .i64 x.f10])) rfl rfl rfl ?_
  intro g1 hg1 W1 hk1 hb1
  have Kg1 := Aside0.mk hk1
  have HB1 := Aside0.mk hb1
  clear hb1
  have Gg1 := Aside0.mk (show w.heap.size ≤ g1 by rw [hg1]; exact Nat.le_refl _)
  clear hg1 hk1
  simp only [Act.put, List.setIfInBounds_toArray, List.set_cons_zero, List.set_cons_succ]
  refine Flow.seqL (E := fun u v => Below u.heap.size u v) 1 1 [(some 1, []), (some 2, [])] (fun iQ vQ wQ => match iQ with | 1 => vQ = (.string ⟨#[]⟩) | _ => True) rfl (by decide) (by kernel_rfl) (Below.refl _ _) (fun _ _ _ h k => h.trans (k.mono h.size)) (fun _ _ _ _ h _ => h) ?_ ?_
  · refine ⟨?_, trivial⟩
    · intro a w' hx hu hd K hK; exact Flow.run1 rfl (Flow.r_assign rfl rfl) (hK _ _ (Below.refl _ _) rfl)
  · intro vs W2 hb2 hT
    have v1 := Flow.eqn (hT 1 (by decide) (by decide))
    simp only [Flow.putsT, v1, Act.put, List.setIfInBounds_toArray, List.set_cons_zero, List.set_cons_succ, List.drop_succ_cons, List.drop_zero, List.take_succ_cons, List.take_zero]
    clear hT v1
    have HB2 := Aside0.mk (below_step HB1.out hb2)
    have Kg1_2 := Aside0.mk (blk_below Kg1.out hb2)
    clear hb2
    go_upto_region 1 with fail
    obtain ⟨t3_3, Ht3_3⟩ : ∃ t, Aside0 (⟨#[105, 100, 61]⟩ ++ itoaB x.f0 = t) := ⟨_, ⟨rfl⟩⟩
    have zt3_3 : t3_3.size ≤ 24 := Ht3_3.out ▸ szapp (Nat.le_refl 3) (itoa_size x.f0 hg.1) (by decide)
    obtain ⟨t3_4, Ht3_4⟩ : ∃ t, Aside0 (t3_3 ++ ⟨#[32, 109, 101, 109, 98, 101, 114, 115, 61]⟩ = t) := ⟨_, ⟨rfl⟩⟩
    have zt3_4 : t3_4.size ≤ 33 := Ht3_4.out ▸ szapp zt3_3 (Nat.le_refl 9) (by decide)
    obtain ⟨t3_8, Ht3_8⟩ : ∃ t, Aside0 (t3_4 ++ itoaB x.f1 = t) := ⟨_, ⟨rfl⟩⟩
    have zt3_8 : t3_8.size ≤ 54 := Ht3_8.out ▸ szapp zt3_4 (itoa_size x.f1 hg.2.1) (by decide)
    obtain ⟨t3_9, Ht3_9⟩ : ∃ t, Aside0 (t3_8 ++ ⟨#[32, 117, 110, 105, 116, 61]⟩ = t) := ⟨_, ⟨rfl⟩⟩
    have zt3_9 : t3_9.size ≤ 60 := Ht3_9.out ▸ szapp zt3_8 (Nat.le_refl 6) (by decide)
    obtain ⟨t3_13, Ht3_13⟩ : ∃ t, Aside0 (t3_9 ++ itoaB x.f2 = t) := ⟨_, ⟨rfl⟩⟩
    have zt3_13 : t3_13.size ≤ 81 := Ht3_13.out ▸ szapp zt3_9 (itoa_size x.f2 hg.2.2.1) (by decide)
    obtain ⟨t3_14, Ht3_14⟩ : ∃ t, Aside0 (t3_13 ++ ⟨#[32, 98, 108, 111, 99, 107, 61]⟩ = t) := ⟨_, ⟨rfl⟩⟩
    have zt3_14 : t3_14.size ≤ 88 := Ht3_14.out ▸ szapp zt3_13 (Nat.le_refl 7) (by decide)
    obtain ⟨t3_18, Ht3_18⟩ : ∃ t, Aside0 (t3_14 ++ itoaB x.f3 = t) := ⟨_, ⟨rfl⟩⟩
    have zt3_18 : t3_18.size ≤ 109 := Ht3_18.out ▸ szapp zt3_14 (itoa_size x.f3 hg.2.2.2.1) (by decide)
    obtain ⟨t3_19, Ht3_19⟩ : ∃ t, Aside0 (t3_18 ++ ⟨#[32, 99, 97, 112, 61]⟩ = t) := ⟨_, ⟨rfl⟩⟩
    have zt3_19 : t3_19.size ≤ 114 := Ht3_19.out ▸ szapp zt3_18 (Nat.le_refl 5) (by decide)
    obtain ⟨t3_23, Ht3_23⟩ : ∃ t, Aside0 (t3_19 ++ itoaB x.f4 = t) := ⟨_, ⟨rfl⟩⟩
    have zt3_23 : t3_23.size ≤ 135 := Ht3_23.out ▸ szapp zt3_19 (itoa_size x.f4 hg.2.2.2.2.1) (by decide)
    obtain ⟨t3_24, Ht3_24⟩ : ∃ t, Aside0 (t3_23 ++ ⟨#[32, 122, 111, 110, 101, 115, 61]⟩ = t) := ⟨_, ⟨rfl⟩⟩
    have zt3_24 : t3_24.size ≤ 142 := Ht3_24.out ▸ szapp zt3_23 (Nat.le_refl 7) (by decide)
    obtain ⟨t3_28, Ht3_28⟩ : ∃ t, Aside0 (t3_24 ++ itoaB x.f5 = t) := ⟨_, ⟨rfl⟩⟩
    have zt3_28 : t3_28.size ≤ 163 := Ht3_28.out ▸ szapp zt3_24 (itoa_size x.f5 hg.2.2.2.2.2.1) (by decide)
    refine Flow.flowT (E := fun u v => Below u.heap.size u v) [(some 4, []), (some 5, [0]), (some 6, [1]), (some 7, [2]), (some 8, [3]), (some 9, []), (some 10, [5]), (some 11, [6, 2]), (some 12, [4, 7]), (some 13, [8]), (some 14, []), (some 15, [10]), (some 16, [11, 7]), (some 17, [9, 12]), (some 18, [13]), (some 19, []), (some 20, [15]), (some 21, [16, 12]), (some 22, [14, 17]), (some 23, [18]), (some 24, []), (some 25, [20]), (some 26, [21, 17]), (some 27, [19, 22]), (some 28, [23]), (some 29, []), (some 30, [25]), (some 31, [26, 22]), (some 32, [24, 27]), (some 3, [28, 27, 0, 1, 2, 3, 4, 5, 6, 7, 8, 9, 10, 11, 12, 13, 14, 15, 16, 17, 18, 19, 20, 21, 22, 23, 24, 25, 26, 27, 28])] (fun iQ vQ wQ => match iQ with | 0 => vQ = (.pointer (some ⟨g1, 0, none⟩)) | 1 => vQ = (.int .i64 x.f0) | 2 => vQ = (.string (itoaB x.f0)) | 3 => vQ = (.string t3_3) | 4 => vQ = (.string t3_4) | 5 => vQ = (.pointer (some ⟨g1, 1, none⟩)) | 6 => vQ = (.int .i64 x.f1) | 7 => vQ = (.string (itoaB x.f1)) | 8 => vQ = (.string t3_8) | 9 => vQ = (.string t3_9) | 10 => vQ = (.pointer (some ⟨g1, 2, none⟩)) | 11 => vQ = (.int .i64 x.f2) | 12 => vQ = (.string (itoaB x.f2)) | 13 => vQ = (.string t3_13) | 14 => vQ = (.string t3_14) | 15 => vQ = (.pointer (some ⟨g1, 3, none⟩)) | 16 => vQ = (.int .i64 x.f3) | 17 => vQ = (.string (itoaB x.f3)) | 18 => vQ = (.string t3_18) | 19 => vQ = (.string t3_19) | 20 => vQ = (.pointer (some ⟨g1, 4, none⟩)) | 21 => vQ = (.int .i64 x.f4) | 22 => vQ = (.string (itoaB x.f4)) | 23 => vQ = (.string t3_23) | 24 => vQ = (.string t3_24) | 25 => vQ = (.pointer (some ⟨g1, 5, none⟩)) | 26 => vQ = (.int .i64 x.f5) | 27 => vQ = (.string (itoaB x.f5)) | 28 => vQ = (.string t3_28) | 29 => vQ = (.string t3_28) | _ => True) rfl (by kernel_rfl) (by kernel_rfl) (by kernel_rfl) ((Below.refl _ _).drew) (fun _ _ _ h k => h.trans (k.mono h.size)) (fun _ _ _ _ h _ => h) ?_ ?_
    · refine ⟨?_, ?_, ?_, ?_, ?_, ?_, ?_, ?_, ?_, ?_, ?_, ?_, ?_, ?_, ?_, ?_, ?_, ?_, ?_, ?_, ?_, ?_, ?_, ?_, ?_, ?_, ?_, ?_, ?_, ?_, trivial⟩
      · intro a w' hx hu hd K hK; have e1 : a.tmps.getD 1 undef = (.pointer (some ⟨g1, 0, none⟩)) := hu 1 rfl; exact Flow.run1 rfl (fa rfl e1 (fa34_0 _ _ _)) (hK _ _ (Below.refl _ _) rfl)
      · intro a w' hx hu hd K hK; have e4 := Flow.got (hd 0 (by decide)) 4 rfl; exact Flow.run1 rfl (ld rfl e4 ((blk_cell (blk_below Kg1_2.out hx) 0).trans rfl) Tryd.underlying3 rfl) (hK _ _ (Below.refl _ _) rfl)
      · intro a w' hx hu hd K hK; have e5 := Flow.got (hd 1 (by decide)) 5 rfl; refine Flow.want rfl ?_; refine Flow.val_call rfl Tryd.func38 (by kernel_rfl) rfl (by simp only [List.map_toArray, List.map_cons, List.map_nil, Act.eval, e5]) (rnum_c x.f0 hg.1 w') ?_; rintro e w2 ⟨rfl, hb2⟩; exact ⟨_, rfl, hK _ _ hb2 (by rfl)⟩
      · intro a w' hx hu hd K hK; have e6 := Flow.got (hd 2 (by decide)) 6 rfl; exact Flow.run1 rfl (Ht3_3.out ▸ cat rfl rfl e6 (Nat.le_refl 3) (itoa_size x.f0 hg.1) (by decide)) (hK _ _ (Below.refl _ _) rfl)
      · intro a w' hx hu hd K hK; have e7 := Flow.got (hd 3 (by decide)) 7 rfl; exact Flow.run1 rfl (Ht3_4.out ▸ cat rfl e7 rfl zt3_3 (Nat.le_refl 9) (by decide)) (hK _ _ (Below.refl _ _) rfl)
      · intro a w' hx hu hd K hK; have e1 : a.tmps.getD 1 undef = (.pointer (some ⟨g1, 0, none⟩)) := hu 1 rfl; exact Flow.run1 rfl (fa rfl e1 (fa34_1 _ _ _)) (hK _ _ (Below.refl _ _) rfl)
      · intro a w' hx hu hd K hK; have e9 := Flow.got (hd 5 (by decide)) 9 rfl; exact Flow.run1 rfl (ld rfl e9 ((blk_cell (blk_below Kg1_2.out hx) 1).trans rfl) Tryd.underlying3 rfl) (hK _ _ (Below.refl _ _) rfl)
      · intro a w' hx hu hd K hK; have e10 := Flow.got (hd 6 (by decide)) 10 rfl; refine Flow.want rfl ?_; refine Flow.val_call rfl Tryd.func38 (by kernel_rfl) rfl (by simp only [List.map_toArray, List.map_cons, List.map_nil, Act.eval, e10]) (rnum_c x.f1 hg.2.1 w') ?_; rintro e w2 ⟨rfl, hb2⟩; exact ⟨_, rfl, hK _ _ hb2 (by rfl)⟩
      · intro a w' hx hu hd K hK; have e8 := Flow.got (hd 4 (by decide)) 8 rfl; have e11 := Flow.got (hd 7 (by decide)) 11 rfl; exact Flow.run1 rfl (Ht3_8.out ▸ cat rfl e8 e11 zt3_4 (itoa_size x.f1 hg.2.1) (by decide)) (hK _ _ (Below.refl _ _) rfl)
      · intro a w' hx hu hd K hK; have e12 := Flow.got (hd 8 (by decide)) 12 rfl; exact Flow.run1 rfl (Ht3_9.out ▸ cat rfl e12 rfl zt3_8 (Nat.le_refl 6) (by decide)) (hK _ _ (Below.refl _ _) rfl)
      · intro a w' hx hu hd K hK; have e1 : a.tmps.getD 1 undef = (.pointer (some ⟨g1, 0, none⟩)) := hu 1 rfl; exact Flow.run1 rfl (fa rfl e1 (fa34_2 _ _ _)) (hK _ _ (Below.refl _ _) rfl)
      · intro a w' hx hu hd K hK; have e14 := Flow.got (hd 10 (by decide)) 14 rfl; exact Flow.run1 rfl (ld rfl e14 ((blk_cell (blk_below Kg1_2.out hx) 2).trans rfl) Tryd.underlying3 rfl) (hK _ _ (Below.refl _ _) rfl)
      · intro a w' hx hu hd K hK; have e15 := Flow.got (hd 11 (by decide)) 15 rfl; refine Flow.want rfl ?_; refine Flow.val_call rfl Tryd.func38 (by kernel_rfl) rfl (by simp only [List.map_toArray, List.map_cons, List.map_nil, Act.eval, e15]) (rnum_c x.f2 hg.2.2.1 w') ?_; rintro e w2 ⟨rfl, hb2⟩; exact ⟨_, rfl, hK _ _ hb2 (by rfl)⟩
      · intro a w' hx hu hd K hK; have e13 := Flow.got (hd 9 (by decide)) 13 rfl; have e16 := Flow.got (hd 12 (by decide)) 16 rfl; exact Flow.run1 rfl (Ht3_13.out ▸ cat rfl e13 e16 zt3_9 (itoa_size x.f2 hg.2.2.1) (by decide)) (hK _ _ (Below.refl _ _) rfl)
      · intro a w' hx hu hd K hK; have e17 := Flow.got (hd 13 (by decide)) 17 rfl; exact Flow.run1 rfl (Ht3_14.out ▸ cat rfl e17 rfl zt3_13 (Nat.le_refl 7) (by decide)) (hK _ _ (Below.refl _ _) rfl)
      · intro a w' hx hu hd K hK; have e1 : a.tmps.getD 1 undef = (.pointer (some ⟨g1, 0, none⟩)) := hu 1 rfl; exact Flow.run1 rfl (fa rfl e1 (fa34_3 _ _ _)) (hK _ _ (Below.refl _ _) rfl)
      · intro a w' hx hu hd K hK; have e19 := Flow.got (hd 15 (by decide)) 19 rfl; exact Flow.run1 rfl (ld rfl e19 ((blk_cell (blk_below Kg1_2.out hx) 3).trans rfl) Tryd.underlying3 rfl) (hK _ _ (Below.refl _ _) rfl)
      · intro a w' hx hu hd K hK; have e20 := Flow.got (hd 16 (by decide)) 20 rfl; refine Flow.want rfl ?_; refine Flow.val_call rfl Tryd.func38 (by kernel_rfl) rfl (by simp only [List.map_toArray, List.map_cons, List.map_nil, Act.eval, e20]) (rnum_c x.f3 hg.2.2.2.1 w') ?_; rintro e w2 ⟨rfl, hb2⟩; exact ⟨_, rfl, hK _ _ hb2 (by rfl)⟩
      · intro a w' hx hu hd K hK; have e18 := Flow.got (hd 14 (by decide)) 18 rfl; have e21 := Flow.got (hd 17 (by decide)) 21 rfl; exact Flow.run1 rfl (Ht3_18.out ▸ cat rfl e18 e21 zt3_14 (itoa_size x.f3 hg.2.2.2.1) (by decide)) (hK _ _ (Below.refl _ _) rfl)
      · intro a w' hx hu hd K hK; have e22 := Flow.got (hd 18 (by decide)) 22 rfl; exact Flow.run1 rfl (Ht3_19.out ▸ cat rfl e22 rfl zt3_18 (Nat.le_refl 5) (by decide)) (hK _ _ (Below.refl _ _) rfl)
      · intro a w' hx hu hd K hK; have e1 : a.tmps.getD 1 undef = (.pointer (some ⟨g1, 0, none⟩)) := hu 1 rfl; exact Flow.run1 rfl (fa rfl e1 (fa34_4 _ _ _)) (hK _ _ (Below.refl _ _) rfl)
      · intro a w' hx hu hd K hK; have e24 := Flow.got (hd 20 (by decide)) 24 rfl; exact Flow.run1 rfl (ld rfl e24 ((blk_cell (blk_below Kg1_2.out hx) 4).trans rfl) Tryd.underlying3 rfl) (hK _ _ (Below.refl _ _) rfl)
      · intro a w' hx hu hd K hK; have e25 := Flow.got (hd 21 (by decide)) 25 rfl; refine Flow.want rfl ?_; refine Flow.val_call rfl Tryd.func38 (by kernel_rfl) rfl (by simp only [List.map_toArray, List.map_cons, List.map_nil, Act.eval, e25]) (rnum_c x.f4 hg.2.2.2.2.1 w') ?_; rintro e w2 ⟨rfl, hb2⟩; exact ⟨_, rfl, hK _ _ hb2 (by rfl)⟩
      · intro a w' hx hu hd K hK; have e23 := Flow.got (hd 19 (by decide)) 23 rfl; have e26 := Flow.got (hd 22 (by decide)) 26 rfl; exact Flow.run1 rfl (Ht3_23.out ▸ cat rfl e23 e26 zt3_19 (itoa_size x.f4 hg.2.2.2.2.1) (by decide)) (hK _ _ (Below.refl _ _) rfl)
      · intro a w' hx hu hd K hK; have e27 := Flow.got (hd 23 (by decide)) 27 rfl; exact Flow.run1 rfl (Ht3_24.out ▸ cat rfl e27 rfl zt3_23 (Nat.le_refl 7) (by decide)) (hK _ _ (Below.refl _ _) rfl)
      · intro a w' hx hu hd K hK; have e1 : a.tmps.getD 1 undef = (.pointer (some ⟨g1, 0, none⟩)) := hu 1 rfl; exact Flow.run1 rfl (fa rfl e1 (fa34_5 _ _ _)) (hK _ _ (Below.refl _ _) rfl)
      · intro a w' hx hu hd K hK; have e29 := Flow.got (hd 25 (by decide)) 29 rfl; exact Flow.run1 rfl (ld rfl e29 ((blk_cell (blk_below Kg1_2.out hx) 5).trans rfl) Tryd.underlying3 rfl) (hK _ _ (Below.refl _ _) rfl)
      · intro a w' hx hu hd K hK; have e30 := Flow.got (hd 26 (by decide)) 30 rfl; refine Flow.want rfl ?_; refine Flow.val_call rfl Tryd.func38 (by kernel_rfl) rfl (by simp only [List.map_toArray, List.map_cons, List.map_nil, Act.eval, e30]) (rnum_c x.f5 hg.2.2.2.2.2.1 w') ?_; rintro e w2 ⟨rfl, hb2⟩; exact ⟨_, rfl, hK _ _ hb2 (by rfl)⟩
      · intro a w' hx hu hd K hK; have e28 := Flow.got (hd 24 (by decide)) 28 rfl; have e31 := Flow.got (hd 27 (by decide)) 31 rfl; exact Flow.run1 rfl (Ht3_28.out ▸ cat rfl e28 e31 zt3_24 (itoa_size x.f5 hg.2.2.2.2.2.1) (by decide)) (hK _ _ (Below.refl _ _) rfl)
      · intro a w' hx hu hd K hK; have e32 := Flow.got (hd 28 (by decide)) 32 rfl; exact Flow.run1 rfl (Flow.r_assign rfl e32) (hK _ _ (Below.refl _ _) rfl)
    · intro vs W3 hb3 hT
      have v0 := Flow.eqn (hT 0 (by decide))
      have v1 := Flow.eqn (hT 1 (by decide))
      have v2 := Flow.eqn (hT 2 (by decide))
      have v3 := Flow.eqn (hT 3 (by decide))
      have v4 := Flow.eqn (hT 4 (by decide))
      have v5 := Flow.eqn (hT 5 (by decide))
      have v6 := Flow.eqn (hT 6 (by decide))
      have v7 := Flow.eqn (hT 7 (by decide))
      have v8 := Flow.eqn (hT 8 (by decide))
      have v9 := Flow.eqn (hT 9 (by decide))
      have v10 := Flow.eqn (hT 10 (by decide))
      have v11 := Flow.eqn (hT 11 (by decide))
      have v12 := Flow.eqn (hT 12 (by decide))
      have v13 := Flow.eqn (hT 13 (by decide))
      have v14 := Flow.eqn (hT 14 (by decide))
      have v15 := Flow.eqn (hT 15 (by decide))
      have v16 := Flow.eqn (hT 16 (by decide))
      have v17 := Flow.eqn (hT 17 (by decide))
      have v18 := Flow.eqn (hT 18 (by decide))
      have v19 := Flow.eqn (hT 19 (by decide))
      have v20 := Flow.eqn (hT 20 (by decide))
      have v21 := Flow.eqn (hT 21 (by decide))
      have v22 := Flow.eqn (hT 22 (by decide))
      have v23 := Flow.eqn (hT 23 (by decide))
      have v24 := Flow.eqn (hT 24 (by decide))
      have v25 := Flow.eqn (hT 25 (by decide))
      have v26 := Flow.eqn (hT 26 (by decide))
      have v27 := Flow.eqn (hT 27 (by decide))
      have v28 := Flow.eqn (hT 28 (by decide))
      have v29 := Flow.eqn (hT 29 (by decide))
      simp only [Flow.putsT, v0, v1, v2, v3, v4, v5, v6, v7, v8, v9, v10, v11, v12, v13, v14, v15, v16, v17, v18, v19, v20, v21, v22, v23, v24, v25, v26, v27, v28, v29, Act.put, List.setIfInBounds_toArray, List.set_cons_zero, List.set_cons_succ]
      clear hT v0 v1 v2 v3 v4 v5 v6 v7 v8 v9 v10 v11 v12 v13 v14 v15 v16 v17 v18 v19 v20 v21 v22 v23 v24 v25 v26 v27 v28 v29
      have HB3 := Aside0.mk (below_step HB2.out hb3)
      have Kg1_2_3 := Aside0.mk (blk_below Kg1_2.out hb3)
      clear hb3
      go_upto_region 2 with fail
      obtain ⟨t4_1, Ht4_1⟩ : ∃ t, Aside0 (t3_28 ++ ⟨#[32, 115, 112, 97, 114, 101, 61]⟩ = t) := ⟨_, ⟨rfl⟩⟩
      have zt4_1 : t4_1.size ≤ 170 := Ht4_1.out ▸ szapp zt3_28 (Nat.le_refl 7) (by decide)
      obtain ⟨t4_5, Ht4_5⟩ : ∃ t, Aside0 (t4_1 ++ itoaB x.f6 = t) := ⟨_, ⟨rfl⟩⟩
      have zt4_5 : t4_5.size ≤ 191 := Ht4_5.out ▸ szapp zt4_1 (itoa_size x.f6 hg.2.2.2.2.2.2.1) (by decide)
      obtain ⟨t4_6, Ht4_6⟩ : ∃ t, Aside0 (t4_5 ++ ⟨#[32, 109, 101, 116, 97, 61]⟩ = t) := ⟨_, ⟨rfl⟩⟩
      have zt4_6 : t4_6.size ≤ 197 := Ht4_6.out ▸ szapp zt4_5 (Nat.le_refl 6) (by decide)
      obtain ⟨t4_10, Ht4_10⟩ : ∃ t, Aside0 (t4_6 ++ itoaB x.f7 = t) := ⟨_, ⟨rfl⟩⟩
      have zt4_10 : t4_10.size ≤ 218 := Ht4_10.out ▸ szapp zt4_6 (itoa_size x.f7 hg.2.2.2.2.2.2.2.1) (by decide)
      obtain ⟨t4_11, Ht4_11⟩ : ∃ t, Aside0 (t4_10 ++ ⟨#[32, 111, 112, 101, 110, 61]⟩ = t) := ⟨_, ⟨rfl⟩⟩
      have zt4_11 : t4_11.size ≤ 224 := Ht4_11.out ▸ szapp zt4_10 (Nat.le_refl 6) (by decide)
      obtain ⟨t4_15, Ht4_15⟩ : ∃ t, Aside0 (t4_11 ++ itoaB x.f8 = t) := ⟨_, ⟨rfl⟩⟩
      have zt4_15 : t4_15.size ≤ 245 := Ht4_15.out ▸ szapp zt4_11 (itoa_size x.f8 hg.2.2.2.2.2.2.2.2.1) (by decide)
      obtain ⟨t4_16, Ht4_16⟩ : ∃ t, Aside0 (t4_15 ++ ⟨#[32, 97, 99, 116, 105, 118, 101, 61]⟩ = t) := ⟨_, ⟨rfl⟩⟩
      have zt4_16 : t4_16.size ≤ 253 := Ht4_16.out ▸ szapp zt4_15 (Nat.le_refl 8) (by decide)
      obtain ⟨t4_20, Ht4_20⟩ : ∃ t, Aside0 (t4_16 ++ itoaB x.f9 = t) := ⟨_, ⟨rfl⟩⟩
      have zt4_20 : t4_20.size ≤ 274 := Ht4_20.out ▸ szapp zt4_16 (itoa_size x.f9 hg.2.2.2.2.2.2.2.2.2.1) (by decide)
      obtain ⟨t4_21, Ht4_21⟩ : ∃ t, Aside0 (t4_20 ++ ⟨#[32, 108, 105, 109, 105, 116, 61]⟩ = t) := ⟨_, ⟨rfl⟩⟩
      have zt4_21 : t4_21.size ≤ 281 := Ht4_21.out ▸ szapp zt4_20 (Nat.le_refl 7) (by decide)
      obtain ⟨t4_25, Ht4_25⟩ : ∃ t, Aside0 (t4_21 ++ itoaB x.f10 = t) := ⟨_, ⟨rfl⟩⟩
      have zt4_25 : t4_25.size ≤ 302 := Ht4_25.out ▸ szapp zt4_21 (itoa_size x.f10 hg.2.2.2.2.2.2.2.2.2.2) (by decide)
      refine Flow.flowT (E := fun u v => Below u.heap.size u v) [(some 33, []), (some 34, [0]), (some 35, []), (some 36, [2]), (some 37, [3]), (some 38, [1, 4]), (some 39, [5]), (some 40, []), (some 41, [7]), (some 42, [8, 4]), (some 43, [6, 9]), (some 44, [10]), (some 45, []), (some 46, [12]), (some 47, [13, 9]), (some 48, [11, 14]), (some 49, [15]), (some 50, []), (some 51, [17]), (some 52, [18, 14]), (some 53, [16, 19]), (some 54, [20]), (some 55, []), (some 56, [22]), (some 57, [23, 19]), (some 58, [21, 24]), (some 2, [25, 24, 0, 1, 2, 3, 4, 5, 6, 7, 8, 9, 10, 11, 12, 13, 14, 15, 16, 17, 18, 19, 20, 21, 22, 23, 24, 25])] (fun iQ vQ wQ => match iQ with | 0 => vQ = (.string t3_28) | 1 => vQ = (.string t4_1) | 2 => vQ = (.pointer (some ⟨g1, 6, none⟩)) | 3 => vQ = (.int .i64 x.f6) | 4 => vQ = (.string (itoaB x.f6)) | 5 => vQ = (.string t4_5) | 6 => vQ = (.string t4_6) | 7 => vQ = (.pointer (some ⟨g1, 7, none⟩)) | 8 => vQ = (.int .i64 x.f7) | 9 => vQ = (.string (itoaB x.f7)) | 10 => vQ = (.string t4_10) | 11 => vQ = (.string t4_11) | 12 => vQ = (.pointer (some ⟨g1, 8, none⟩)) | 13 => vQ = (.int .i64 x.f8) | 14 => vQ = (.string (itoaB x.f8)) | 15 => vQ = (.string t4_15) | 16 => vQ = (.string t4_16) | 17 => vQ = (.pointer (some ⟨g1, 9, none⟩)) | 18 => vQ = (.int .i64 x.f9) | 19 => vQ = (.string (itoaB x.f9)) | 20 => vQ = (.string t4_20) | 21 => vQ = (.string t4_21) | 22 => vQ = (.pointer (some ⟨g1, 10, none⟩)) | 23 => vQ = (.int .i64 x.f10) | 24 => vQ = (.string (itoaB x.f10)) | 25 => vQ = (.string t4_25) | 26 => vQ = (.string t4_25) | _ => True) rfl (by kernel_rfl) (by kernel_rfl) (by kernel_rfl) ((Below.refl _ _).drew) (fun _ _ _ h k => h.trans (k.mono h.size)) (fun _ _ _ _ h _ => h) ?_ ?_
      · refine ⟨?_, ?_, ?_, ?_, ?_, ?_, ?_, ?_, ?_, ?_, ?_, ?_, ?_, ?_, ?_, ?_, ?_, ?_, ?_, ?_, ?_, ?_, ?_, ?_, ?_, ?_, ?_, trivial⟩
        · intro a w' hx hu hd K hK; have e3 : a.tmps.getD 3 undef = (.string t3_28) := hu 3 rfl; exact Flow.run1 rfl (Flow.r_move rfl e3) (hK _ _ (Below.refl _ _) rfl)
        · intro a w' hx hu hd K hK; have e33 := Flow.got (hd 0 (by decide)) 33 rfl; exact Flow.run1 rfl (Ht4_1.out ▸ cat rfl e33 rfl zt3_28 (Nat.le_refl 7) (by decide)) (hK _ _ (Below.refl _ _) rfl)
        · intro a w' hx hu hd K hK; have e1 : a.tmps.getD 1 undef = (.pointer (some ⟨g1, 0, none⟩)) := hu 1 rfl; exact Flow.run1 rfl (fa rfl e1 (fa34_6 _ _ _)) (hK _ _ (Below.refl _ _) rfl)
        · intro a w' hx hu hd K hK; have e35 := Flow.got (hd 2 (by decide)) 35 rfl; exact Flow.run1 rfl (ld rfl e35 ((blk_cell (blk_below Kg1_2_3.out hx) 6).trans rfl) Tryd.underlying3 rfl) (hK _ _ (Below.refl _ _) rfl)
        · intro a w' hx hu hd K hK; have e36 := Flow.got (hd 3 (by decide)) 36 rfl; refine Flow.want rfl ?_; refine Flow.val_call rfl Tryd.func38 (by kernel_rfl) rfl (by simp only [List.map_toArray, List.map_cons, List.map_nil, Act.eval, e36]) (rnum_c x.f6 hg.2.2.2.2.2.2.1 w') ?_; rintro e w2 ⟨rfl, hb2⟩; exact ⟨_, rfl, hK _ _ hb2 (by rfl)⟩
        · intro a w' hx hu hd K hK; have e34 := Flow.got (hd 1 (by decide)) 34 rfl; have e37 := Flow.got (hd 4 (by decide)) 37 rfl; exact Flow.run1 rfl (Ht4_5.out ▸ cat rfl e34 e37 zt4_1 (itoa_size x.f6 hg.2.2.2.2.2.2.1) (by decide)) (hK _ _ (Below.refl _ _) rfl)
        · intro a w' hx hu hd K hK; have e38 := Flow.got (hd 5 (by decide)) 38 rfl; exact Flow.run1 rfl (Ht4_6.out ▸ cat rfl e38 rfl zt4_5 (Nat.le_refl 6) (by decide)) (hK _ _ (Below.refl _ _) rfl)
        · intro a w' hx hu hd K hK; have e1 : a.tmps.getD 1 undef = (.pointer (some ⟨g1, 0, none⟩)) := hu 1 rfl; exact Flow.run1 rfl (fa rfl e1 (fa34_7 _ _ _)) (hK _ _ (Below.refl _ _) rfl)
        · intro a w' hx hu hd K hK; have e40 := Flow.got (hd 7 (by decide)) 40 rfl; exact Flow.run1 rfl (ld rfl e40 ((blk_cell (blk_below Kg1_2_3.out hx) 7).trans rfl) Tryd.underlying3 rfl) (hK _ _ (Below.refl _ _) rfl)
        · intro a w' hx hu hd K hK; have e41 := Flow.got (hd 8 (by decide)) 41 rfl; refine Flow.want rfl ?_; refine Flow.val_call rfl Tryd.func38 (by kernel_rfl) rfl (by simp only [List.map_toArray, List.map_cons, List.map_nil, Act.eval, e41]) (rnum_c x.f7 hg.2.2.2.2.2.2.2.1 w') ?_; rintro e w2 ⟨rfl, hb2⟩; exact ⟨_, rfl, hK _ _ hb2 (by rfl)⟩
        · intro a w' hx hu hd K hK; have e39 := Flow.got (hd 6 (by decide)) 39 rfl; have e42 := Flow.got (hd 9 (by decide)) 42 rfl; exact Flow.run1 rfl (Ht4_10.out ▸ cat rfl e39 e42 zt4_6 (itoa_size x.f7 hg.2.2.2.2.2.2.2.1) (by decide)) (hK _ _ (Below.refl _ _) rfl)
        · intro a w' hx hu hd K hK; have e43 := Flow.got (hd 10 (by decide)) 43 rfl; exact Flow.run1 rfl (Ht4_11.out ▸ cat rfl e43 rfl zt4_10 (Nat.le_refl 6) (by decide)) (hK _ _ (Below.refl _ _) rfl)
        · intro a w' hx hu hd K hK; have e1 : a.tmps.getD 1 undef = (.pointer (some ⟨g1, 0, none⟩)) := hu 1 rfl; exact Flow.run1 rfl (fa rfl e1 (fa34_8 _ _ _)) (hK _ _ (Below.refl _ _) rfl)
        · intro a w' hx hu hd K hK; have e45 := Flow.got (hd 12 (by decide)) 45 rfl; exact Flow.run1 rfl (ld rfl e45 ((blk_cell (blk_below Kg1_2_3.out hx) 8).trans rfl) Tryd.underlying3 rfl) (hK _ _ (Below.refl _ _) rfl)
        · intro a w' hx hu hd K hK; have e46 := Flow.got (hd 13 (by decide)) 46 rfl; refine Flow.want rfl ?_; refine Flow.val_call rfl Tryd.func38 (by kernel_rfl) rfl (by simp only [List.map_toArray, List.map_cons, List.map_nil, Act.eval, e46]) (rnum_c x.f8 hg.2.2.2.2.2.2.2.2.1 w') ?_; rintro e w2 ⟨rfl, hb2⟩; exact ⟨_, rfl, hK _ _ hb2 (by rfl)⟩
        · intro a w' hx hu hd K hK; have e44 := Flow.got (hd 11 (by decide)) 44 rfl; have e47 := Flow.got (hd 14 (by decide)) 47 rfl; exact Flow.run1 rfl (Ht4_15.out ▸ cat rfl e44 e47 zt4_11 (itoa_size x.f8 hg.2.2.2.2.2.2.2.2.1) (by decide)) (hK _ _ (Below.refl _ _) rfl)
        · intro a w' hx hu hd K hK; have e48 := Flow.got (hd 15 (by decide)) 48 rfl; exact Flow.run1 rfl (Ht4_16.out ▸ cat rfl e48 rfl zt4_15 (Nat.le_refl 8) (by decide)) (hK _ _ (Below.refl _ _) rfl)
        · intro a w' hx hu hd K hK; have e1 : a.tmps.getD 1 undef = (.pointer (some ⟨g1, 0, none⟩)) := hu 1 rfl; exact Flow.run1 rfl (fa rfl e1 (fa34_9 _ _ _)) (hK _ _ (Below.refl _ _) rfl)
        · intro a w' hx hu hd K hK; have e50 := Flow.got (hd 17 (by decide)) 50 rfl; exact Flow.run1 rfl (ld rfl e50 ((blk_cell (blk_below Kg1_2_3.out hx) 9).trans rfl) Tryd.underlying3 rfl) (hK _ _ (Below.refl _ _) rfl)
        · intro a w' hx hu hd K hK; have e51 := Flow.got (hd 18 (by decide)) 51 rfl; refine Flow.want rfl ?_; refine Flow.val_call rfl Tryd.func38 (by kernel_rfl) rfl (by simp only [List.map_toArray, List.map_cons, List.map_nil, Act.eval, e51]) (rnum_c x.f9 hg.2.2.2.2.2.2.2.2.2.1 w') ?_; rintro e w2 ⟨rfl, hb2⟩; exact ⟨_, rfl, hK _ _ hb2 (by rfl)⟩
        · intro a w' hx hu hd K hK; have e49 := Flow.got (hd 16 (by decide)) 49 rfl; have e52 := Flow.got (hd 19 (by decide)) 52 rfl; exact Flow.run1 rfl (Ht4_20.out ▸ cat rfl e49 e52 zt4_16 (itoa_size x.f9 hg.2.2.2.2.2.2.2.2.2.1) (by decide)) (hK _ _ (Below.refl _ _) rfl)
        · intro a w' hx hu hd K hK; have e53 := Flow.got (hd 20 (by decide)) 53 rfl; exact Flow.run1 rfl (Ht4_21.out ▸ cat rfl e53 rfl zt4_20 (Nat.le_refl 7) (by decide)) (hK _ _ (Below.refl _ _) rfl)
        · intro a w' hx hu hd K hK; have e1 : a.tmps.getD 1 undef = (.pointer (some ⟨g1, 0, none⟩)) := hu 1 rfl; exact Flow.run1 rfl (fa rfl e1 (fa34_10 _ _ _)) (hK _ _ (Below.refl _ _) rfl)
        · intro a w' hx hu hd K hK; have e55 := Flow.got (hd 22 (by decide)) 55 rfl; exact Flow.run1 rfl (ld rfl e55 ((blk_cell (blk_below Kg1_2_3.out hx) 10).trans rfl) Tryd.underlying3 rfl) (hK _ _ (Below.refl _ _) rfl)
        · intro a w' hx hu hd K hK; have e56 := Flow.got (hd 23 (by decide)) 56 rfl; refine Flow.want rfl ?_; refine Flow.val_call rfl Tryd.func38 (by kernel_rfl) rfl (by simp only [List.map_toArray, List.map_cons, List.map_nil, Act.eval, e56]) (rnum_c x.f10 hg.2.2.2.2.2.2.2.2.2.2 w') ?_; rintro e w2 ⟨rfl, hb2⟩; exact ⟨_, rfl, hK _ _ hb2 (by rfl)⟩
        · intro a w' hx hu hd K hK; have e54 := Flow.got (hd 21 (by decide)) 54 rfl; have e57 := Flow.got (hd 24 (by decide)) 57 rfl; exact Flow.run1 rfl (Ht4_25.out ▸ cat rfl e54 e57 zt4_21 (itoa_size x.f10 hg.2.2.2.2.2.2.2.2.2.2) (by decide)) (hK _ _ (Below.refl _ _) rfl)
        · intro a w' hx hu hd K hK; have e58 := Flow.got (hd 25 (by decide)) 58 rfl; exact Flow.run1 rfl (Flow.r_assign rfl e58) (hK _ _ (Below.refl _ _) rfl)
      · intro vs W4 hb4 hT
        have v0 := Flow.eqn (hT 0 (by decide))
        have v1 := Flow.eqn (hT 1 (by decide))
        have v2 := Flow.eqn (hT 2 (by decide))
        have v3 := Flow.eqn (hT 3 (by decide))
        have v4 := Flow.eqn (hT 4 (by decide))
        have v5 := Flow.eqn (hT 5 (by decide))
        have v6 := Flow.eqn (hT 6 (by decide))
        have v7 := Flow.eqn (hT 7 (by decide))
        have v8 := Flow.eqn (hT 8 (by decide))
        have v9 := Flow.eqn (hT 9 (by decide))
        have v10 := Flow.eqn (hT 10 (by decide))
        have v11 := Flow.eqn (hT 11 (by decide))
        have v12 := Flow.eqn (hT 12 (by decide))
        have v13 := Flow.eqn (hT 13 (by decide))
        have v14 := Flow.eqn (hT 14 (by decide))
        have v15 := Flow.eqn (hT 15 (by decide))
        have v16 := Flow.eqn (hT 16 (by decide))
        have v17 := Flow.eqn (hT 17 (by decide))
        have v18 := Flow.eqn (hT 18 (by decide))
        have v19 := Flow.eqn (hT 19 (by decide))
        have v20 := Flow.eqn (hT 20 (by decide))
        have v21 := Flow.eqn (hT 21 (by decide))
        have v22 := Flow.eqn (hT 22 (by decide))
        have v23 := Flow.eqn (hT 23 (by decide))
        have v24 := Flow.eqn (hT 24 (by decide))
        have v25 := Flow.eqn (hT 25 (by decide))
        have v26 := Flow.eqn (hT 26 (by decide))
        simp only [Flow.putsT, v0, v1, v2, v3, v4, v5, v6, v7, v8, v9, v10, v11, v12, v13, v14, v15, v16, v17, v18, v19, v20, v21, v22, v23, v24, v25, v26, Act.put, List.setIfInBounds_toArray, List.set_cons_zero, List.set_cons_succ]
        clear hT v0 v1 v2 v3 v4 v5 v6 v7 v8 v9 v10 v11 v12 v13 v14 v15 v16 v17 v18 v19 v20 v21 v22 v23 v24 v25 v26
        have HB4 := Aside0.mk (below_step HB3.out hb4)
        have Kg1_2_3_4 := Aside0.mk (blk_below Kg1_2_3.out hb4)
        clear hb4
        go_wp2
        go_ret
        exact ⟨by simp only [← Ht4_25.out, ← Ht4_21.out, ← Ht4_20.out, ← Ht4_16.out, ← Ht4_15.out, ← Ht4_11.out, ← Ht4_10.out, ← Ht4_6.out, ← Ht4_5.out, ← Ht4_1.out, ← Ht3_28.out, ← Ht3_24.out, ← Ht3_23.out, ← Ht3_19.out, ← Ht3_18.out, ← Ht3_14.out, ← Ht3_13.out, ← Ht3_9.out, ← Ht3_8.out, ← Ht3_4.out, ← Ht3_3.out]; rfl, HB4.out⟩
theorem g34 (x : S34) (hg : G34 x) (k : Nat) : I64 ((nums34 x).getD k 0) := by
  obtain ⟨h0, h1, h2, h3, h4, h5, h6, h7, h8, h9, h10⟩ := hg
  match k with
  | 0 => exact h0
  | 1 => exact h1
  | 2 => exact h2
  | 3 => exact h3
  | 4 => exact h4
  | 5 => exact h5
  | 6 => exact h6
  | 7 => exact h7
  | 8 => exact h8
  | 9 => exact h9
  | 10 => exact h10
  | n + 11 => show I64 0; unfold I64; omega
theorem names34_size (k : Nat) : (names34.getD k ByteArray.empty).size ≤ 7 := by
  match k with
  | 0 => exact (by decide)
  | 1 => exact (by decide)
  | 2 => exact (by decide)
  | 3 => exact (by decide)
  | 4 => exact (by decide)
  | 5 => exact (by decide)
  | 6 => exact (by decide)
  | 7 => exact (by decide)
  | 8 => exact (by decide)
  | 9 => exact (by decide)
  | 10 => exact (by decide)
  | _ + 11 => exact Nat.zero_le _
theorem kv34 (x : S34) (k : Nat) (h : k < 11) : names34.getD k ByteArray.empty ++ ⟨#[61]⟩ ++ itoaB ((nums34 x).getD k 0) = (kvs34 x).getD k ByteArray.empty := by
  match k, h with
  | 0, _ => rfl
  | 1, _ => rfl
  | 2, _ => rfl
  | 3, _ => rfl
  | 4, _ => rfl
  | 5, _ => rfl
  | 6, _ => rfl
  | 7, _ => rfl
  | 8, _ => rfl
  | 9, _ => rfl
  | 10, _ => rfl
theorem kv34_size (x : S34) (hg : G34 x) (k : Nat) (h : k < 11) : ((kvs34 x).getD k ByteArray.empty).size ≤ 29 := by
  rw [← kv34 x k h]
  exact szapp (szapp (names34_size k) (Nat.le_refl 1) (Nat.le_refl 8)) (itoa_size _ (g34 x hg k)) (by decide)
theorem take_snoc34 (x : S34) (k : Nat) (h : k < 11) : (kvs34 x).take k ++ [names34.getD k ByteArray.empty ++ ⟨#[61]⟩ ++ itoaB ((nums34 x).getD k 0)] = (kvs34 x).take (k + 1) := by
  have hl : k < (kvs34 x).length := h
  rw [kv34 x k h, List.take_succ_eq_append_getElem hl, List.getD_eq_getElem?_getD, List.getElem?_eq_getElem hl]; rfl
theorem conf_size (x : S34) (hg : G34 x) : (confB x).size ≤ 330 := by
  refine wordsB_size 29 (kvs34 x) (fun s hs => ?_)
  obtain ⟨k, hk⟩ := List.getElem?_of_mem hs
  have hl : k < 11 := (List.getElem?_eq_some_iff.1 hk).1
  have := kv34_size x hg k hl
  rw [List.getD_eq_getElem?_getD, hk] at this
  exact this
set_option maxHeartbeats 4000000 in
set_option maxRecDepth 100000 in
theorem conf_c (x : S34) (hg : G34 x) (w : World) (h : POW w) : Calls Tryd.prog 17 #[.agg (c34 x)] w fun e w' => e = .returned (.string (confB x)) ∧ Below w.heap.size w w' := by
  unfold c34
  have HPW := Aside0.mk h
  clear h
  go_enter Tryd.func17, Tryd.ntmps17
  go_upto_region 0 with fail
  refine wp_region_lit ?_
  refine ebox (v := (.agg #[.int .i64 x.f0, .int .i64 x.f1, .int .i64 x.f2, .int .i64 x.f3, .int .i64 x.f4, .int .i64 x.f5, .int .i64 x.f6, .int .i64 x.f7, .int .i64 x.f8, .int .i64 x.f9, .int .i64 x.f10])) rfl rfl rfl ?_
  intro g1 hg1 W1 hk1 hb1
  have Kg1 := Aside0.mk hk1
  have HB1 := Aside0.mk hb1
  clear hb1
  have Gg1 := Aside0.mk (show w.heap.size ≤ g1 by rw [hg1]; exact Nat.le_refl _)
  clear hg1 hk1
  simp only [Act.put, List.setIfInBounds_toArray, List.set_cons_zero, List.set_cons_succ]
  refine Flow.seqL (E := fun u v => Below u.heap.size u v) 1 1 [(some 1, []), (some 2, [])] (fun iQ vQ wQ => match iQ with | 1 => vQ = (.string ⟨#[]⟩) | _ => True) rfl (by decide) (by kernel_rfl) (Below.refl _ _) (fun _ _ _ h k => h.trans (k.mono h.size)) (fun _ _ _ _ h _ => h) ?_ ?_
  · refine ⟨?_, trivial⟩
    · intro a w' hx hu hd K hK; exact Flow.run1 rfl (Flow.r_assign rfl rfl) (hK _ _ (Below.refl _ _) rfl)
  · intro vs W2 hb2 hT
    have v1 := Flow.eqn (hT 1 (by decide) (by decide))
    simp only [Flow.putsT, v1, Act.put, List.setIfInBounds_toArray, List.set_cons_zero, List.set_cons_succ, List.drop_succ_cons, List.drop_zero, List.take_succ_cons, List.take_zero]
    clear hT v1
    have HB2 := Aside0.mk (below_step HB1.out hb2)
    have Kg1_2 := Aside0.mk (blk_below Kg1.out hb2)
    clear hb2
    go_upto_region 1 with fail
    refine Flow.seqT_head (E := fun u v => Below u.heap.size u v) 1 [(some 7, []), (some 3, [0, 0])] (fun iQ vQ wQ => match iQ with | 0 => SliceAt #[.string ⟨#[105, 100]⟩, .string ⟨#[109, 101, 109, 98, 101, 114, 115]⟩, .string ⟨#[117, 110, 105, 116]⟩, .string ⟨#[98, 108, 111, 99, 107]⟩, .string ⟨#[99, 97, 112]⟩, .string ⟨#[122, 111, 110, 101, 115]⟩, .string ⟨#[115, 112, 97, 114, 101]⟩, .string ⟨#[109, 101, 116, 97]⟩, .string ⟨#[111, 112, 101, 110]⟩, .string ⟨#[97, 99, 116, 105, 118, 101]⟩, .string ⟨#[108, 105, 109, 105, 116]⟩] 9 11 w.heap.size vQ wQ | _ => True) rfl (by decide) (by kernel_rfl) (Below.refl _ _) (fun _ _ _ h k => h.trans (k.mono h.size)) (fun iQ vQ w1Q w2Q hQ hEQ => match iQ, hQ with | 0, hQ => slice_below hQ hEQ | _ + 1, _ => trivial) ?_ ?_
    · refine ⟨?_, trivial⟩
      · intro a w' hx hu hd K hK; exact Flow.run1 rfl (row11_79 rfl rfl rfl rfl rfl rfl rfl rfl rfl rfl rfl rfl) (hK _ _ (below_alloc (Below.refl _ _) _) (slice_new (Nat.le_trans (HB2.out).size (hx : Below _ _ _).size)))
    · intro vs W3 hb3 hT
      obtain ⟨g3_0, v0, hge0, hk0⟩ : SliceAt _ _ _ _ _ _ := hT 0 (by decide)
      have Kg3_0 := Aside0.mk hk0
      have Gg3_0 := Aside0.mk hge0
      clear hk0 hge0
      simp only [Flow.putsT, v0, Act.put, List.setIfInBounds_toArray, List.set_cons_zero, List.set_cons_succ, List.drop_succ_cons, List.drop_zero, List.take_succ_cons, List.take_zero]
      clear hT v0
      have HB3 := Aside0.mk (below_step HB2.out hb3)
      have Kg1_2_3 := Aside0.mk (blk_below Kg1_2.out hb3)
      clear hb3
      refine Flow.seqL (E := fun u v => Below u.heap.size u v) 1 1 [(some 7, []), (some 3, [0, 0])] (fun iQ vQ wQ => match iQ with | 1 => vQ = (.slice (some ⟨g3_0, 0, none⟩) 11 11) | _ => True) rfl (by decide) (by kernel_rfl) (Below.refl _ _) (fun _ _ _ h k => h.trans (k.mono h.size)) (fun _ _ _ _ h _ => h) ?_ ?_
      · refine ⟨?_, trivial⟩
        · intro a w' hx hu hd K hK; have e7 : a.tmps.getD 7 undef = (.slice (some ⟨g3_0, 0, none⟩) 11 11) := hu 7 rfl; exact Flow.run1 rfl (Flow.r_assign rfl e7) (hK _ _ (Below.refl _ _) rfl)
      · intro vs W4 hb4 hT
        have v1 := Flow.eqn (hT 1 (by decide) (by decide))
        simp only [Flow.putsT, v1, Act.put, List.setIfInBounds_toArray, List.set_cons_zero, List.set_cons_succ, List.drop_succ_cons, List.drop_zero, List.take_succ_cons, List.take_zero]
        clear hT v1
        have HB4 := Aside0.mk (below_step HB3.out hb4)
        have Kg1_2_3_4 := Aside0.mk (blk_below Kg1_2_3.out hb4)
        have Kg3_0_4 := Aside0.mk (blk_below Kg3_0.out hb4)
        clear hb4
        go_upto_region 2 with fail
        refine Flow.seqT (E := fun u v => Below u.heap.size u v) [(some 4, [])] (fun iQ vQ wQ => match iQ with | 0 => vQ = (.slice none 0 0) | _ => True) rfl (by kernel_rfl) (Below.refl _ _) (fun _ _ _ h k => h.trans (k.mono h.size)) (fun _ _ _ _ h _ => h) ?_ ?_
        · refine ⟨?_, trivial⟩
          · intro a w' hx hu hd K hK; exact Flow.run1 rfl (Flow.r_assign rfl rfl) (hK _ _ (Below.refl _ _) rfl)
        · intro vs W5 hb5 hT
          have v0 := Flow.eqn (hT 0 (by decide))
          simp only [Flow.putsT, v0, Act.put, List.setIfInBounds_toArray, List.set_cons_zero, List.set_cons_succ]
          clear hT v0
          have HB5 := Aside0.mk (below_step HB4.out hb5)
          have Kg1_2_3_4_5 := Aside0.mk (blk_below Kg1_2_3_4.out hb5)
          have Kg3_0_4_5 := Aside0.mk (blk_below Kg3_0_4.out hb5)
          clear hb5
          go_upto_region 3 with fail
          refine Flow.seqT_head (E := fun u v => Below u.heap.size u v) 23 [(some 8, []), (some 9, [0]), (some 10, []), (some 11, [2]), (some 12, []), (some 13, [4]), (some 14, []), (some 15, [6]), (some 16, []), (some 17, [8]), (some 18, []), (some 19, [10]), (some 20, []), (some 21, [12]), (some 22, []), (some 23, [14]), (some 24, []), (some 25, [16]), (some 26, []), (some 27, [18]), (some 28, []), (some 29, [20]), (some 30, [1, 3, 5, 7, 9, 11, 13, 15, 17, 19, 21]), (some 31, [22]), (some 32, [])] (fun iQ vQ wQ => match iQ with | 0 => vQ = (.pointer (some ⟨g1, 0, none⟩)) | 1 => vQ = (.int .i64 x.f0) | 2 => vQ = (.pointer (some ⟨g1, 1, none⟩)) | 3 => vQ = (.int .i64 x.f1) | 4 => vQ = (.pointer (some ⟨g1, 2, none⟩)) | 5 => vQ = (.int .i64 x.f2) | 6 => vQ = (.pointer (some ⟨g1, 3, none⟩)) | 7 => vQ = (.int .i64 x.f3) | 8 => vQ = (.pointer (some ⟨g1, 4, none⟩)) | 9 => vQ = (.int .i64 x.f4) | 10 => vQ = (.pointer (some ⟨g1, 5, none⟩)) | 11 => vQ = (.int .i64 x.f5) | 12 => vQ = (.pointer (some ⟨g1, 6, none⟩)) | 13 => vQ = (.int .i64 x.f6) | 14 => vQ = (.pointer (some ⟨g1, 7, none⟩)) | 15 => vQ = (.int .i64 x.f7) | 16 => vQ = (.pointer (some ⟨g1, 8, none⟩)) | 17 => vQ = (.int .i64 x.f8) | 18 => vQ = (.pointer (some ⟨g1, 9, none⟩)) | 19 => vQ = (.int .i64 x.f9) | 20 => vQ = (.pointer (some ⟨g1, 10, none⟩)) | 21 => vQ = (.int .i64 x.f10) | 22 => SliceAt #[.int .i64 x.f0, .int .i64 x.f1, .int .i64 x.f2, .int .i64 x.f3, .int .i64 x.f4, .int .i64 x.f5, .int .i64 x.f6, .int .i64 x.f7, .int .i64 x.f8, .int .i64 x.f9, .int .i64 x.f10] 3 11 w.heap.size vQ wQ | _ => True) rfl (by decide) (by kernel_rfl) (Below.refl _ _) (fun _ _ _ h k => h.trans (k.mono h.size)) (fun iQ vQ w1Q w2Q hQ hEQ => match iQ, hQ with | 0, hQ => hQ | 1, hQ => hQ | 2, hQ => hQ | 3, hQ => hQ | 4, hQ => hQ | 5, hQ => hQ | 6, hQ => hQ | 7, hQ => hQ | 8, hQ => hQ | 9, hQ => hQ | 10, hQ => hQ | 11, hQ => hQ | 12, hQ => hQ | 13, hQ => hQ | 14, hQ => hQ | 15, hQ => hQ | 16, hQ => hQ | 17, hQ => hQ | 18, hQ => hQ | 19, hQ => hQ | 20, hQ => hQ | 21, hQ => hQ | 22, hQ => slice_below hQ hEQ | _ + 23, _ => trivial) ?_ ?_
          · refine ⟨?_, ?_, ?_, ?_, ?_, ?_, ?_, ?_, ?_, ?_, ?_, ?_, ?_, ?_, ?_, ?_, ?_, ?_, ?_, ?_, ?_, ?_, ?_, trivial⟩
            · intro a w' hx hu hd K hK; have e1 : a.tmps.getD 1 undef = (.pointer (some ⟨g1, 0, none⟩)) := hu 1 rfl; exact Flow.run1 rfl (fa rfl e1 (fa34_0 _ _ _)) (hK _ _ (Below.refl _ _) rfl)
            · intro a w' hx hu hd K hK; have e8 := Flow.got (hd 0 rfl) 8 rfl; exact Flow.run1 rfl (ld rfl e8 ((blk_cell (blk_below Kg1_2_3_4_5.out hx) 0).trans rfl) Tryd.underlying3 rfl) (hK _ _ (Below.refl _ _) rfl)
            · intro a w' hx hu hd K hK; have e1 : a.tmps.getD 1 undef = (.pointer (some ⟨g1, 0, none⟩)) := hu 1 rfl; exact Flow.run1 rfl (fa rfl e1 (fa34_1 _ _ _)) (hK _ _ (Below.refl _ _) rfl)
            · intro a w' hx hu hd K hK; have e10 := Flow.got (hd 2 rfl) 10 rfl; exact Flow.run1 rfl (ld rfl e10 ((blk_cell (blk_below Kg1_2_3_4_5.out hx) 1).trans rfl) Tryd.underlying3 rfl) (hK _ _ (Below.refl _ _) rfl)
            · intro a w' hx hu hd K hK; have e1 : a.tmps.getD 1 undef = (.pointer (some ⟨g1, 0, none⟩)) := hu 1 rfl; exact Flow.run1 rfl (fa rfl e1 (fa34_2 _ _ _)) (hK _ _ (Below.refl _ _) rfl)
            · intro a w' hx hu hd K hK; have e12 := Flow.got (hd 4 rfl) 12 rfl; exact Flow.run1 rfl (ld rfl e12 ((blk_cell (blk_below Kg1_2_3_4_5.out hx) 2).trans rfl) Tryd.underlying3 rfl) (hK _ _ (Below.refl _ _) rfl)
            · intro a w' hx hu hd K hK; have e1 : a.tmps.getD 1 undef = (.pointer (some ⟨g1, 0, none⟩)) := hu 1 rfl; exact Flow.run1 rfl (fa rfl e1 (fa34_3 _ _ _)) (hK _ _ (Below.refl _ _) rfl)
            · intro a w' hx hu hd K hK; have e14 := Flow.got (hd 6 rfl) 14 rfl; exact Flow.run1 rfl (ld rfl e14 ((blk_cell (blk_below Kg1_2_3_4_5.out hx) 3).trans rfl) Tryd.underlying3 rfl) (hK _ _ (Below.refl _ _) rfl)
            · intro a w' hx hu hd K hK; have e1 : a.tmps.getD 1 undef = (.pointer (some ⟨g1, 0, none⟩)) := hu 1 rfl; exact Flow.run1 rfl (fa rfl e1 (fa34_4 _ _ _)) (hK _ _ (Below.refl _ _) rfl)
            · intro a w' hx hu hd K hK; have e16 := Flow.got (hd 8 rfl) 16 rfl; exact Flow.run1 rfl (ld rfl e16 ((blk_cell (blk_below Kg1_2_3_4_5.out hx) 4).trans rfl) Tryd.underlying3 rfl) (hK _ _ (Below.refl _ _) rfl)
            · intro a w' hx hu hd K hK; have e1 : a.tmps.getD 1 undef = (.pointer (some ⟨g1, 0, none⟩)) := hu 1 rfl; exact Flow.run1 rfl (fa rfl e1 (fa34_5 _ _ _)) (hK _ _ (Below.refl _ _) rfl)
            · intro a w' hx hu hd K hK; have e18 := Flow.got (hd 10 rfl) 18 rfl; exact Flow.run1 rfl (ld rfl e18 ((blk_cell (blk_below Kg1_2_3_4_5.out hx) 5).trans rfl) Tryd.underlying3 rfl) (hK _ _ (Below.refl _ _) rfl)
            · intro a w' hx hu hd K hK; have e1 : a.tmps.getD 1 undef = (.pointer (some ⟨g1, 0, none⟩)) := hu 1 rfl; exact Flow.run1 rfl (fa rfl e1 (fa34_6 _ _ _)) (hK _ _ (Below.refl _ _) rfl)
            · intro a w' hx hu hd K hK; have e20 := Flow.got (hd 12 rfl) 20 rfl; exact Flow.run1 rfl (ld rfl e20 ((blk_cell (blk_below Kg1_2_3_4_5.out hx) 6).trans rfl) Tryd.underlying3 rfl) (hK _ _ (Below.refl _ _) rfl)
            · intro a w' hx hu hd K hK; have e1 : a.tmps.getD 1 undef = (.pointer (some ⟨g1, 0, none⟩)) := hu 1 rfl; exact Flow.run1 rfl (fa rfl e1 (fa34_7 _ _ _)) (hK _ _ (Below.refl _ _) rfl)
            · intro a w' hx hu hd K hK; have e22 := Flow.got (hd 14 rfl) 22 rfl; exact Flow.run1 rfl (ld rfl e22 ((blk_cell (blk_below Kg1_2_3_4_5.out hx) 7).trans rfl) Tryd.underlying3 rfl) (hK _ _ (Below.refl _ _) rfl)
            · intro a w' hx hu hd K hK; have e1 : a.tmps.getD 1 undef = (.pointer (some ⟨g1, 0, none⟩)) := hu 1 rfl; exact Flow.run1 rfl (fa rfl e1 (fa34_8 _ _ _)) (hK _ _ (Below.refl _ _) rfl)
            · intro a w' hx hu hd K hK; have e24 := Flow.got (hd 16 rfl) 24 rfl; exact Flow.run1 rfl (ld rfl e24 ((blk_cell (blk_below Kg1_2_3_4_5.out hx) 8).trans rfl) Tryd.underlying3 rfl) (hK _ _ (Below.refl _ _) rfl)
            · intro a w' hx hu hd K hK; have e1 : a.tmps.getD 1 undef = (.pointer (some ⟨g1, 0, none⟩)) := hu 1 rfl; exact Flow.run1 rfl (fa rfl e1 (fa34_9 _ _ _)) (hK _ _ (Below.refl _ _) rfl)
            · intro a w' hx hu hd K hK; have e26 := Flow.got (hd 18 rfl) 26 rfl; exact Flow.run1 rfl (ld rfl e26 ((blk_cell (blk_below Kg1_2_3_4_5.out hx) 9).trans rfl) Tryd.underlying3 rfl) (hK _ _ (Below.refl _ _) rfl)
            · intro a w' hx hu hd K hK; have e1 : a.tmps.getD 1 undef = (.pointer (some ⟨g1, 0, none⟩)) := hu 1 rfl; exact Flow.run1 rfl (fa rfl e1 (fa34_10 _ _ _)) (hK _ _ (Below.refl _ _) rfl)
            · intro a w' hx hu hd K hK; have e28 := Flow.got (hd 20 rfl) 28 rfl; exact Flow.run1 rfl (ld rfl e28 ((blk_cell (blk_below Kg1_2_3_4_5.out hx) 10).trans rfl) Tryd.underlying3 rfl) (hK _ _ (Below.refl _ _) rfl)
            · intro a w' hx hu hd K hK; have e9 := Flow.got (hd 1 rfl) 9 rfl; have e11 := Flow.got (hd 3 rfl) 11 rfl; have e13 := Flow.got (hd 5 rfl) 13 rfl; have e15 := Flow.got (hd 7 rfl) 15 rfl; have e17 := Flow.got (hd 9 rfl) 17 rfl; have e19 := Flow.got (hd 11 rfl) 19 rfl; have e21 := Flow.got (hd 13 rfl) 21 rfl; have e23 := Flow.got (hd 15 rfl) 23 rfl; have e25 := Flow.got (hd 17 rfl) 25 rfl; have e27 := Flow.got (hd 19 rfl) 27 rfl; have e29 := Flow.got (hd 21 rfl) 29 rfl; exact Flow.run1 rfl (row11_35 rfl e9 e11 e13 e15 e17 e19 e21 e23 e25 e27 e29) (hK _ _ (below_alloc (Below.refl _ _) _) (slice_new (Nat.le_trans (HB5.out).size (hx : Below _ _ _).size)))
          · intro vs W6 hb6 hT
            have v0 := Flow.eqn (hT 0 (by decide))
            have v1 := Flow.eqn (hT 1 (by decide))
            have v2 := Flow.eqn (hT 2 (by decide))
            have v3 := Flow.eqn (hT 3 (by decide))
            have v4 := Flow.eqn (hT 4 (by decide))
            have v5 := Flow.eqn (hT 5 (by decide))
            have v6 := Flow.eqn (hT 6 (by decide))
            have v7 := Flow.eqn (hT 7 (by decide))
            have v8 := Flow.eqn (hT 8 (by decide))
            have v9 := Flow.eqn (hT 9 (by decide))
            have v10 := Flow.eqn (hT 10 (by decide))
            have v11 := Flow.eqn (hT 11 (by decide))
            have v12 := Flow.eqn (hT 12 (by decide))
            have v13 := Flow.eqn (hT 13 (by decide))
            have v14 := Flow.eqn (hT 14 (by decide))
            have v15 := Flow.eqn (hT 15 (by decide))
            have v16 := Flow.eqn (hT 16 (by decide))
            have v17 := Flow.eqn (hT 17 (by decide))
            have v18 := Flow.eqn (hT 18 (by decide))
            have v19 := Flow.eqn (hT 19 (by decide))
            have v20 := Flow.eqn (hT 20 (by decide))
            have v21 := Flow.eqn (hT 21 (by decide))
            obtain ⟨g6_22, v22, hge22, hk22⟩ : SliceAt _ _ _ _ _ _ := hT 22 (by decide)
            have Kg6_22 := Aside0.mk hk22
            have Gg6_22 := Aside0.mk hge22
            clear hk22 hge22
            simp only [Flow.putsT, v0, v1, v2, v3, v4, v5, v6, v7, v8, v9, v10, v11, v12, v13, v14, v15, v16, v17, v18, v19, v20, v21, v22, Act.put, List.setIfInBounds_toArray, List.set_cons_zero, List.set_cons_succ, List.drop_succ_cons, List.drop_zero, List.take_succ_cons, List.take_zero]
            clear hT v0 v1 v2 v3 v4 v5 v6 v7 v8 v9 v10 v11 v12 v13 v14 v15 v16 v17 v18 v19 v20 v21 v22
            have HB6 := Aside0.mk (below_step HB5.out hb6)
            have Kg1_2_3_4_5_6 := Aside0.mk (blk_below Kg1_2_3_4_5.out hb6)
            have Kg3_0_4_5_6 := Aside0.mk (blk_below Kg3_0_4_5.out hb6)
            clear hb6
            refine Flow.seqL (E := fun u v => Below u.heap.size u v) 23 2 [(some 8, []), (some 9, [0]), (some 10, []), (some 11, [2]), (some 12, []), (some 13, [4]), (some 14, []), (some 15, [6]), (some 16, []), (some 17, [8]), (some 18, []), (some 19, [10]), (some 20, []), (some 21, [12]), (some 22, []), (some 23, [14]), (some 24, []), (some 25, [16]), (some 26, []), (some 27, [18]), (some 28, []), (some 29, [20]), (some 30, [1, 3, 5, 7, 9, 11, 13, 15, 17, 19, 21]), (some 31, [22]), (some 32, [])] (fun iQ vQ wQ => match iQ with | 23 => vQ = (.int .i64 11) | 24 => vQ = (.int .i64 0) | _ => True) rfl (by decide) (by kernel_rfl) (Below.refl _ _) (fun _ _ _ h k => h.trans (k.mono h.size)) (fun _ _ _ _ h _ => h) ?_ ?_
            · refine ⟨?_, ?_, trivial⟩
              · intro a w' hx hu hd K hK; have e30 : a.tmps.getD 30 undef = (.slice (some ⟨g6_22, 0, none⟩) 11 11) := hu 30 rfl; exact Flow.run1 rfl (lenL Tryd.underlying35 rfl e30) (hK _ _ (Below.refl _ _) rfl)
              · intro a w' hx hu hd K hK; exact Flow.run1 rfl (Flow.r_move rfl rfl) (hK _ _ (Below.refl _ _) rfl)
            · intro vs W7 hb7 hT
              have v23 := Flow.eqn (hT 23 (by decide) (by decide))
              have v24 := Flow.eqn (hT 24 (by decide) (by decide))
              simp only [Flow.putsT, v23, v24, Act.put, List.setIfInBounds_toArray, List.set_cons_zero, List.set_cons_succ, List.drop_succ_cons, List.drop_zero, List.take_succ_cons, List.take_zero]
              clear hT v23 v24
              have HB7 := Aside0.mk (below_step HB6.out hb7)
              have Kg1_2_3_4_5_6_7 := Aside0.mk (blk_below Kg1_2_3_4_5_6.out hb7)
              have Kg3_0_4_5_6_7 := Aside0.mk (blk_below Kg3_0_4_5_6.out hb7)
              have Kg6_22_7 := Aside0.mk (blk_below Kg6_22.out hb7)
              clear hb7
              have KN := Aside0.mk (show W7.heap[g3_0]? = some (.cells (names34.map Value.string).toArray 9 (0, 0)) from Kg3_0_4_5_6_7.out)
              have KI := Aside0.mk (show W7.heap[g6_22]? = some (.cells ((nums34 x).map (Value.int .i64)).toArray 3 (0, 0)) from Kg6_22_7.out)
              have HPA := Aside0.mk (HPW.out.below HB7.out)
              clear Kg1_2_3_4_5_6_7 Kg3_0_4_5_6_7 Kg6_22_7
              go_wp2
              go_loopg [4, 32] 11 (fun g v4 v32 wr => ∃ k : Nat, k ≤ 11 ∧ Aside0 (g = 11 - k) ∧ v32 = .int .i64 k ∧ Aside0 (Below W7.heap.size W7 wr) ∧ Aside0 (Kd.R Kd.string 9 wr W7.heap.size (fun _ => True) v4 ((kvs34 x).take k)))
              case atStart => exact ⟨0, Nat.zero_le _, ⟨rfl⟩, rfl, ⟨Below.refl _ _⟩, ⟨Kd.R_nil _ _ _ _ _⟩⟩
              case round =>
                obtain ⟨k, hk, HGK, rfl, HBR, HR⟩ := hrel
                by_cases hlt : k < 11
                · have hlt2 : (k : Int) < 11 := by omega
                  go_upto_region 4 with fail
                  refine Flow.seqT (E := fun u v => Below u.heap.size u v) [(some 33, [])] (fun iQ vQ wQ => match iQ with | 0 => vQ = (.bool true) | _ => True) rfl (by kernel_rfl) (Below.refl _ _) (fun _ _ _ h k => h.trans (k.mono h.size)) (fun _ _ _ _ h _ => h) ?_ ?_
                  · refine ⟨?_, trivial⟩
                    · intro a w' hx hu hd K hK; have e32 : a.tmps.getD 32 undef = (.int .i64 k) := hu 32 rfl; have e31 : a.tmps.getD 31 undef = (.int .i64 11) := hu 31 rfl; exact Flow.run1 rfl (yes (lss rfl e32 e31) (decide_eq_true hlt2)) (hK _ _ (Below.refl _ _) rfl)
                  · intro vs W8 hb8 hT
                    have v0 := Flow.eqn (hT 0 (by decide))
                    simp only [Flow.putsT, v0, Act.put, List.setIfInBounds_toArray, List.set_cons_zero, List.set_cons_succ]
                    clear hT v0
                    have HB8 := Aside0.mk (below_step HBR.out hb8)
                    have HR_8 := Aside0.mk (Kd.R_below HR.out hb8)
                    clear hb8
                    go_upto_region 5 with fail
                    refine Flow.seqT (E := fun u v => Below u.heap.size u v) [(some 34, []), (some 35, []), (some 36, [1]), (some 5, [0, 0, 1, 2]), (some 6, [2, 3, 0, 1, 2, 3])] (fun iQ vQ wQ => match iQ with | 0 => vQ = (.int .i64 k) | 1 => vQ = (.pointer (some ⟨g6_22, k, none⟩)) | 2 => vQ = (.int .i64 ((nums34 x).getD k 0)) | 3 => vQ = (.int .i64 k) | 4 => vQ = (.int .i64 ((nums34 x).getD k 0)) | _ => True) rfl (by kernel_rfl) (Below.refl _ _) (fun _ _ _ h k => h.trans (k.mono h.size)) (fun _ _ _ _ h _ => h) ?_ ?_
                    · refine ⟨?_, ?_, ?_, ?_, ?_, trivial⟩
                      · intro a w' hx hu hd K hK; have e32 : a.tmps.getD 32 undef = (.int .i64 k) := hu 32 rfl; exact Flow.run1 rfl (Flow.r_move rfl e32) (hK _ _ (Below.refl _ _) rfl)
                      · intro a w' hx hu hd K hK; have e30 : a.tmps.getD 30 undef = (.slice (some ⟨g6_22, 0, none⟩) 11 11) := hu 30 rfl; have e32 : a.tmps.getD 32 undef = (.int .i64 k) := hu 32 rfl; exact Flow.run1 rfl (ixr Tryd.underlying35 size3 rfl e30 e32 hlt) (hK _ _ (Below.refl _ _) rfl)
                      · intro a w' hx hu hd K hK; have e35 := Flow.got (hd 1 rfl) 35 rfl; exact Flow.run1 rfl (ld rfl e35 (row_cell (Value.int .i64) 0 (blk_below KI.out (below_step HB8.out hx)) hlt) Tryd.underlying3 rfl) (hK _ _ (Below.refl _ _) rfl)
                      · intro a w' hx hu hd K hK; have e34 := Flow.got (hd 0 rfl) 34 rfl; exact Flow.run1 rfl (Flow.r_assign rfl e34) (hK _ _ (Below.refl _ _) rfl)
                      · intro a w' hx hu hd K hK; have e36 := Flow.got (hd 2 rfl) 36 rfl; exact Flow.run1 rfl (Flow.r_assign rfl e36) (hK _ _ (Below.refl _ _) rfl)
                    · intro vs W9 hb9 hT
                      have v0 := Flow.eqn (hT 0 (by decide))
                      have v1 := Flow.eqn (hT 1 (by decide))
                      have v2 := Flow.eqn (hT 2 (by decide))
                      have v3 := Flow.eqn (hT 3 (by decide))
                      have v4 := Flow.eqn (hT 4 (by decide))
                      simp only [Flow.putsT, v0, v1, v2, v3, v4, Act.put, List.setIfInBounds_toArray, List.set_cons_zero, List.set_cons_succ]
                      clear hT v0 v1 v2 v3 v4
                      have HB9 := Aside0.mk (below_step HB8.out hb9)
                      have HR_9 := Aside0.mk (Kd.R_below HR_8.out hb9)
                      clear hb9
                      go_upto_region 6 with fail
                      obtain ⟨t10_5, Ht10_5⟩ : ∃ t, Aside0 (names34.getD k ByteArray.empty ++ ⟨#[61]⟩ = t) := ⟨_, ⟨rfl⟩⟩
                      have zt10_5 : t10_5.size ≤ 8 := Ht10_5.out ▸ szapp (names34_size k) (Nat.le_refl 1) (by decide)
                      obtain ⟨t10_8, Ht10_8⟩ : ∃ t, Aside0 (t10_5 ++ (itoaB ((nums34 x).getD k 0)) = t) := ⟨_, ⟨rfl⟩⟩
                      have zt10_8 : t10_8.size ≤ 29 := Ht10_8.out ▸ szapp zt10_5 (itoa_size _ (g34 x hg k)) (by decide)
                      refine Flow.flowT_head (E := fun u v => Below u.heap.size u v) 10 [(some 37, []), (some 38, []), (some 39, []), (some 40, [1, 2]), (some 41, [3]), (some 42, [4]), (some 43, []), (some 44, [6]), (some 45, [5, 7]), (some 46, [8]), (some 47, [0, 9, 7]), (some 4, [10, 10, 0, 1, 2, 3, 4, 5, 6, 7, 8, 9, 10])] (fun iQ vQ wQ => match iQ with | 0 => vQ = u4 | 1 => vQ = (.slice (some ⟨g3_0, 0, none⟩) 11 11) | 2 => vQ = (.int .i64 k) | 3 => vQ = (.pointer (some ⟨g3_0, k, none⟩)) | 4 => vQ = (.string (names34.getD k ByteArray.empty)) | 5 => vQ = (.string t10_5) | 6 => vQ = (.int .i64 ((nums34 x).getD k 0)) | 7 => vQ = (.string (itoaB ((nums34 x).getD k 0))) | 8 => vQ = (.string t10_8) | 9 => SliceAt #[.string t10_8] 9 1 W7.heap.size vQ wQ | _ => True) rfl (by kernel_rfl) (by kernel_rfl) (by kernel_rfl) ((Below.refl _ _).drew) (fun _ _ _ h k => h.trans (k.mono h.size)) (fun iQ vQ w1Q w2Q hQ hEQ => match iQ, hQ with | 0, hQ => hQ | 1, hQ => hQ | 2, hQ => hQ | 3, hQ => hQ | 4, hQ => hQ | 5, hQ => hQ | 6, hQ => hQ | 7, hQ => hQ | 8, hQ => hQ | 9, hQ => slice_below hQ hEQ | _ + 10, _ => trivial) ?_ ?_
                      · refine ⟨?_, ?_, ?_, ?_, ?_, ?_, ?_, ?_, ?_, ?_, trivial⟩
                        · intro a w' hx hu hd K hK; have e4 : a.tmps.getD 4 undef = u4 := hu 4 rfl; exact Flow.run1 rfl (Flow.r_move rfl e4) (hK _ _ (Below.refl _ _) rfl)
                        · intro a w' hx hu hd K hK; have e3 : a.tmps.getD 3 undef = (.slice (some ⟨g3_0, 0, none⟩) 11 11) := hu 3 rfl; exact Flow.run1 rfl (Flow.r_move rfl e3) (hK _ _ (Below.refl _ _) rfl)
                        · intro a w' hx hu hd K hK; have e5 : a.tmps.getD 5 undef = (.int .i64 k) := hu 5 rfl; exact Flow.run1 rfl (Flow.r_move rfl e5) (hK _ _ (Below.refl _ _) rfl)
                        · intro a w' hx hu hd K hK; have e38 := Flow.got (hd 1 (by decide)) 38 rfl; have e39 := Flow.got (hd 2 (by decide)) 39 rfl; exact Flow.run1 rfl (ixr Tryd.underlying79 size9 rfl e38 e39 hlt) (hK _ _ (Below.refl _ _) rfl)
                        · intro a w' hx hu hd K hK; have e40 := Flow.got (hd 3 (by decide)) 40 rfl; exact Flow.run1 rfl (ld rfl e40 (row_cell Value.string ByteArray.empty (blk_below KN.out (below_step HB9.out hx)) hlt) Tryd.underlying9 rfl) (hK _ _ (Below.refl _ _) rfl)
                        · intro a w' hx hu hd K hK; have e41 := Flow.got (hd 4 (by decide)) 41 rfl; exact Flow.run1 rfl (Ht10_5.out ▸ cat rfl e41 rfl (names34_size k) (Nat.le_refl 1) (by decide)) (hK _ _ (Below.refl _ _) rfl)
                        · intro a w' hx hu hd K hK; have e6 : a.tmps.getD 6 undef = (.int .i64 ((nums34 x).getD k 0)) := hu 6 rfl; exact Flow.run1 rfl (Flow.r_move rfl e6) (hK _ _ (Below.refl _ _) rfl)
                        · intro a w' hx hu hd K hK; have e43 := Flow.got (hd 6 (by decide)) 43 rfl; refine Flow.want rfl ?_; refine Flow.val_call rfl Tryd.func41 (by kernel_rfl) rfl (by simp only [List.map_toArray, List.map_cons, List.map_nil, Act.eval, e43]) (num_c ((nums34 x).getD k 0) (g34 x hg k) w' (HPA.out.below (below_step HB9.out hx))) ?_; rintro e w2 ⟨rfl, hb2⟩; exact ⟨_, rfl, hK _ _ hb2 (by rfl)⟩
                        · intro a w' hx hu hd K hK; have e42 := Flow.got (hd 5 (by decide)) 42 rfl; have e44 := Flow.got (hd 7 (by decide)) 44 rfl; exact Flow.run1 rfl (Ht10_8.out ▸ cat rfl e42 e44 zt10_5 (itoa_size _ (g34 x hg k)) (by decide)) (hK _ _ (Below.refl _ _) rfl)
                        · intro a w' hx hu hd K hK; have e45 := Flow.got (hd 8 (by decide)) 45 rfl; exact Flow.run1 rfl (row1_79 rfl e45) (hK _ _ (below_alloc (Below.refl _ _) _) (slice_new (Nat.le_trans (HB9.out).size (hx : Below _ _ _).size)))
                      · intro vs W10 hb10 hT
                        have v0 := Flow.eqn (hT 0 (by decide))
                        have v1 := Flow.eqn (hT 1 (by decide))
                        have v2 := Flow.eqn (hT 2 (by decide))
                        have v3 := Flow.eqn (hT 3 (by decide))
                        have v4 := Flow.eqn (hT 4 (by decide))
                        have v5 := Flow.eqn (hT 5 (by decide))
                        have v6 := Flow.eqn (hT 6 (by decide))
                        have v7 := Flow.eqn (hT 7 (by decide))
                        have v8 := Flow.eqn (hT 8 (by decide))
                        obtain ⟨g10_9, v9, hge9, hk9⟩ : SliceAt _ _ _ _ _ _ := hT 9 (by decide)
                        have Kg10_9 := Aside0.mk hk9
                        have Gg10_9 := Aside0.mk hge9
                        clear hk9 hge9
                        simp only [Flow.putsT, v0, v1, v2, v3, v4, v5, v6, v7, v8, v9, Act.put, List.setIfInBounds_toArray, List.set_cons_zero, List.set_cons_succ, List.drop_succ_cons, List.drop_zero, List.take_succ_cons, List.take_zero]
                        clear hT v0 v1 v2 v3 v4 v5 v6 v7 v8 v9
                        have HB10 := Aside0.mk (below_step HB9.out hb10)
                        have HR_10 := Aside0.mk (Kd.R_below HR_9.out hb10)
                        clear hb10
                        have hl11 : ((kvs34 x).take k).length ≤ 11 := (by rw [List.length_take]; omega)
                        refine eapp Value.string ByteArray.empty (w0 := W7) (base := W7.heap.size) (ys := [t10_8]) rfl rfl Tryd.underlying79 info9 rfl (by decide) rfl rfl HR_10.out Kg10_9.out HB10.out HB10.out.size ?_ ?_
                        · show (((kvs34 x).take k).length + 1) * 16 ≤ _; omega
                        intro v11 W11 hr11 hb11 _
                        have HR_11 := Aside0.mk hr11
                        have HB11 := Aside0.mk hb11
                        clear hr11 hb11
                        simp only [Act.put, List.setIfInBounds_toArray, List.set_cons_zero, List.set_cons_succ]
                        refine Flow.seqL (E := fun u v => Below u.heap.size u v) 11 1 [(some 37, []), (some 38, []), (some 39, []), (some 40, [1, 2]), (some 41, [3]), (some 42, [4]), (some 43, []), (some 44, [6]), (some 45, [5, 7]), (some 46, [8]), (some 47, [0, 9, 7]), (some 4, [10, 10, 0, 1, 2, 3, 4, 5, 6, 7, 8, 9, 10])] (fun iQ vQ wQ => match iQ with | 11 => vQ = v11 | _ => True) rfl (by decide) (by kernel_rfl) (Below.refl _ _) (fun _ _ _ h k => h.trans (k.mono h.size)) (fun _ _ _ _ h _ => h) ?_ ?_
                        · refine ⟨?_, trivial⟩
                          · intro a w' hx hu hd K hK; have e47 : a.tmps.getD 47 undef = v11 := hu 47 rfl; exact Flow.run1 rfl (Flow.r_assign rfl e47) (hK _ _ (Below.refl _ _) rfl)
                        · intro vs W12 hb12 hT
                          have v11 := Flow.eqn (hT 11 (by decide) (by decide))
                          simp only [Flow.putsT, v11, Act.put, List.setIfInBounds_toArray, List.set_cons_zero, List.set_cons_succ, List.drop_succ_cons, List.drop_zero, List.take_succ_cons, List.take_zero]
                          clear hT v11
                          have HB12 := Aside0.mk (below_step HB11.out hb12)
                          have HR_12 := Aside0.mk (Kd.R_below HR_11.out hb12)
                          clear hb12
                          go_wp2
                          go_roundg (11 - (k + 1))
                          case measure => have := HGK.out; omega
                          case rel => exact ⟨k + 1, by omega, ⟨rfl⟩, by go_num, HB12, ⟨by rw [← take_snoc34 x k hlt]; simp only [Ht10_5.out, Ht10_8.out]; exact HR_12.out⟩⟩
                · obtain rfl : k = 11 := by omega
                  have hlt2 : ¬ ((11 : Nat) : Int) < 11 := by omega
                  go_upto_region 4 with fail
                  refine Flow.seqT (E := fun u v => Below u.heap.size u v) [(some 33, [])] (fun iQ vQ wQ => match iQ with | 0 => vQ = (.bool false) | _ => True) rfl (by kernel_rfl) (Below.refl _ _) (fun _ _ _ h k => h.trans (k.mono h.size)) (fun _ _ _ _ h _ => h) ?_ ?_
                  · refine ⟨?_, trivial⟩
                    · intro a w' hx hu hd K hK; have e32 : a.tmps.getD 32 undef = (.int .i64 (11 : Nat)) := hu 32 rfl; have e31 : a.tmps.getD 31 undef = (.int .i64 11) := hu 31 rfl; exact Flow.run1 rfl (no (lss rfl e32 e31) (decide_eq_false hlt2)) (hK _ _ (Below.refl _ _) rfl)
                  · intro vs W13 hb13 hT
                    have v0 := Flow.eqn (hT 0 (by decide))
                    simp only [Flow.putsT, v0, Act.put, List.setIfInBounds_toArray, List.set_cons_zero, List.set_cons_succ]
                    clear hT v0
                    have HB13 := Aside0.mk (below_step HBR.out hb13)
                    have HR_13 := Aside0.mk (Kd.R_below HR.out hb13)
                    clear hb13
                    have HS := Aside0.mk (strs_R (l := kvs34 x) HR_13.out (by simp [kvs34]))
                    have HZ := Aside0.mk (conf_size x hg)
                    go_upto_region 8 with fail
                    refine Flow.seqT (E := fun u v => Below u.heap.size u v) [(some 49, []), (some 50, [0]), (some 2, [1, 1, 0, 1])] (fun iQ vQ wQ => match iQ with | 0 => vQ = u4 | 1 => vQ = (.string (confB x)) | 2 => vQ = (.string (confB x)) | _ => True) rfl (by kernel_rfl) (Below.refl _ _) (fun _ _ _ h k => h.trans (k.mono h.size)) (fun _ _ _ _ h _ => h) ?_ ?_
                    · refine ⟨?_, ?_, ?_, trivial⟩
                      · intro a w' hx hu hd K hK; have e4 : a.tmps.getD 4 undef = u4 := hu 4 rfl; exact Flow.run1 rfl (Flow.r_move rfl e4) (hK _ _ (Below.refl _ _) rfl)
                      · intro a w' hx hu hd K hK; have e49 := Flow.got (hd 0 rfl) 49 rfl; refine Flow.want rfl ?_; refine Flow.val_call rfl Tryd.func42 (by kernel_rfl) rfl (by simp only [List.map_toArray, List.map_cons, List.map_nil, Act.eval, e49]) (words_c (kvs34 x) _ w' (HS.out.below hx) (by simp [kvs34]) (Nat.le_trans HZ.out (by decide))) ?_; rintro e w2 ⟨rfl, hb2⟩; exact ⟨_, rfl, hK _ _ hb2 (by rfl)⟩
                      · intro a w' hx hu hd K hK; have e50 := Flow.got (hd 1 rfl) 50 rfl; exact Flow.run1 rfl (Flow.r_assign rfl e50) (hK _ _ (Below.refl _ _) rfl)
                    · intro vs W14 hb14 hT
                      have v0 := Flow.eqn (hT 0 (by decide))
                      have v1 := Flow.eqn (hT 1 (by decide))
                      have v2 := Flow.eqn (hT 2 (by decide))
                      simp only [Flow.putsT, v0, v1, v2, Act.put, List.setIfInBounds_toArray, List.set_cons_zero, List.set_cons_succ]
                      clear hT v0 v1 v2
                      have HB14 := Aside0.mk (below_step HB13.out hb14)
                      have HS_14 := Aside0.mk (Strs.below HS.out hb14)
                      clear hb14
                      go_wp2
                      go_ret
                      exact ⟨rfl, (below_step HB7.out HB14.out)⟩
end Go.Proofs.YtlhmpmmblnbmbaaDoor.Rep
