/- A zone as a text: the program's and the document's way. -/
import Derived.Test.YtlhmpmmblnbmbaaDoorRepOps
namespace Go.Proofs.YtlhmpmmblnbmbaaDoor.Rep
open Go.Lib Go.RowKit Go.Proofs.YtlhmpmmblnbmbaaDoor.Cells Go.Proofs.YtlhmpmmblnbmbaaDoorW.PrintWords Go.Proofs.YtlhmpmmblnbmbaaDoorW.PrintLast Go.Proofs.YtlhmpmmblnbmbaaDoorW.PrintMore
theorem itoa_size (n : Int) (h : I64 n) : (itoaB n).size ≤ 21 := Go.Lib.itoa_length_le n h.1 h.2
theorem state_size (n : Int) : (stateB n).size ≤ 6 := by
  unfold stateB nameB
  split
  · decide
  · obtain ⟨k, hk⟩ : ∃ k, n.toNat = k := ⟨_, rfl⟩
    rw [hk]
    rcases k with _ | _ | _ | _ | k
    · decide
    · decide
    · decide
    · decide
    · rw [List.getD_eq_getElem?_getD, List.getElem?_eq_none (by simp [stateL])]; decide
theorem words4 (a b c d : ByteArray) : wordsB [a, b, c, d] = a ++ ⟨#[32]⟩ ++ b ++ ⟨#[32]⟩ ++ c ++ ⟨#[32]⟩ ++ d := by
  apply ByteArray.ext
  apply Array.toList_inj.1
  simp [wordsB, Go.Lib.join, List.intercalate, List.intersperse]
def zoneB (z sa sb sc : Int) : ByteArray := itoaB z ++ ⟨#[58, 32]⟩ ++ wordsB [stateB sa, itoaB sb, ⟨#[103, 101, 110]⟩, itoaB sc]
set_option maxHeartbeats 4000000 in
set_option maxRecDepth 100000 in
theorem zone_c (z sa sb sc : Int) (hz : I64 z) (hb : I64 sb) (hc : I64 sc) (w : World) (h : POW w) : Calls Tryd.prog 11 #[.int .i64 z, .agg #[.int .i64 sa, .int .i64 sb, .int .i64 sc]] w fun e w' => e = .returned (.string (zoneB z sa sb sc)) ∧ Below w.heap.size w w' := by
  have hu := Tryd.underlying24
  have hz1 := itoa_size z hz
  have hb1 := itoa_size sb hb
  have hc1 := itoa_size sc hc
  have ha1 := state_size sa
  have h2 : (⟨#[58, 32]⟩ : ByteArray).size = 2 := rfl
  have h4 : (wordsB [stateB sa, itoaB sb, ⟨#[103, 101, 110]⟩, itoaB sc]).size ≤ 60 := by rw [words4]; simp only [ByteArray.size_append]; have : (⟨#[32]⟩ : ByteArray).size = 1 := rfl; have : (⟨#[103, 101, 110]⟩ : ByteArray).size = 3 := rfl; omega
  have HPW := Aside0.mk (h.below (below_alloc (Below.refl _ _) (.cells #[.int .i64 sa, .int .i64 sb, .int .i64 sc] 24 (0, 0))))
  have KB := Aside0.mk (blk_new w (.cells #[.int .i64 sa, .int .i64 sb, .int .i64 sc] 24 (0, 0)))
  clear h
  go_enter Tryd.func11, Tryd.ntmps11
  go_upto_region 1 with fail
  refine Flow.flowT (E := fun u v => Below u.heap.size u v) [(some 5, []), (some 6, [0]), (some 7, [1]), (some 8, []), (some 9, [3]), (some 10, [4, 1]), (some 11, []), (some 12, [6]), (some 13, [7, 5]), (some 14, []), (some 15, [9]), (some 16, [10, 8]), (some 17, [5, 8, 11]), (some 18, [12, 11]), (some 19, [2, 13]), (some 4, [14, 13, 0, 1, 2, 3, 4, 5, 6, 7, 8, 9, 10, 11, 12, 13, 14])] (fun iQ vQ wQ => match iQ with | 0 => vQ = (.int .i64 z) | 1 => vQ = (.string (itoaB z)) | 2 => vQ = (.string (itoaB z ++ ⟨#[58, 32]⟩)) | 3 => vQ = (.pointer (some ⟨w.heap.size, 0, none⟩)) | 4 => vQ = (.int .i64 sa) | 5 => vQ = (.string (stateB sa)) | 6 => vQ = (.pointer (some ⟨w.heap.size, 1, none⟩)) | 7 => vQ = (.int .i64 sb) | 8 => vQ = (.string (itoaB sb)) | 9 => vQ = (.pointer (some ⟨w.heap.size, 2, none⟩)) | 10 => vQ = (.int .i64 sc) | 11 => vQ = (.string (itoaB sc)) | 12 => Strs wQ vQ [stateB sa, itoaB sb, ⟨#[103, 101, 110]⟩, itoaB sc] | 13 => vQ = (.string (wordsB [stateB sa, itoaB sb, ⟨#[103, 101, 110]⟩, itoaB sc])) | 14 => vQ = (.string (itoaB z ++ ⟨#[58, 32]⟩ ++ wordsB [stateB sa, itoaB sb, ⟨#[103, 101, 110]⟩, itoaB sc])) | 15 => vQ = (.string (itoaB z ++ ⟨#[58, 32]⟩ ++ wordsB [stateB sa, itoaB sb, ⟨#[103, 101, 110]⟩, itoaB sc])) | _ => True) rfl (by kernel_rfl) (by kernel_rfl) (by kernel_rfl) ((Below.refl _ _).drew) (fun _ _ _ h k => h.trans (k.mono h.size)) (fun iQ vQ w1Q w2Q hQ hEQ => match iQ, hQ with | 0, hQ => hQ | 1, hQ => hQ | 2, hQ => hQ | 3, hQ => hQ | 4, hQ => hQ | 5, hQ => hQ | 6, hQ => hQ | 7, hQ => hQ | 8, hQ => hQ | 9, hQ => hQ | 10, hQ => hQ | 11, hQ => hQ | 12, hQ => Strs.below hQ hEQ | 13, hQ => hQ | 14, hQ => hQ | 15, hQ => hQ | _ + 16, _ => trivial) ?_ ?_
  · refine ⟨?_, ?_, ?_, ?_, ?_, ?_, ?_, ?_, ?_, ?_, ?_, ?_, ?_, ?_, ?_, ?_, trivial⟩
    · intro a w' hx hu hd K hK
      have e0 : a.tmps.getD 0 undef = (.int .i64 z) := hu 0 rfl
      refine Flow.want rfl ?_
      exact Flow.val_move rfl e0 (hK _ _ (Below.refl _ _) rfl)
    · intro a w' hx hu hd K hK
      have e5 : a.tmps.getD 5 undef = (.int .i64 z) := by obtain ⟨_, t, q⟩ := hd 0 (by decide); exact (q 5 rfl).trans t
      refine Flow.want rfl ?_
      refine Flow.val_call rfl Tryd.func41 (by kernel_rfl) rfl (by simp only [List.map_toArray, List.map_cons, List.map_nil, Act.eval, e5]) (num_c z hz w' (HPW.out.below hx)) ?_
      rintro e w2 ⟨rfl, hb2⟩
      exact ⟨_, rfl, hK _ _ hb2 (by rfl)⟩
    · intro a w' hx hu hd K hK
      have e6 : a.tmps.getD 6 undef = (.string (itoaB z)) := by obtain ⟨_, t, q⟩ := hd 1 (by decide); exact (q 6 rfl).trans t
      refine Flow.want rfl ?_
      exact Flow.val_run (cat_one rfl e6 rfl (by (try simp only [ByteArray.size_append]); omega)) (hK _ _ (Below.refl _ _) rfl)
    · intro a w' hx hu hd K hK
      have e3 : a.tmps.getD 3 undef = (.pointer (some ⟨w.heap.size, 0, none⟩)) := hu 3 rfl
      refine Flow.want rfl ?_
      exact Flow.val_run (addr_one rfl e3 (fun u => addr24 _ 0 (by decide) u)) (hK _ _ (Below.refl _ _) rfl)
    · intro a w' hx hu hd K hK
      have e8 : a.tmps.getD 8 undef = (.pointer (some ⟨w.heap.size, 0, none⟩)) := by obtain ⟨_, t, q⟩ := hd 3 (by decide); exact (q 8 rfl).trans t
      refine Flow.want rfl ?_
      exact Flow.val_run (load_one rfl e8 ((blk_cell (blk_below KB.out hx) 0).trans rfl) Tryd.underlying3 rfl) (hK _ _ (Below.refl _ _) rfl)
    · intro a w' hx hu hd K hK
      have e9 : a.tmps.getD 9 undef = (.int .i64 sa) := by obtain ⟨_, t, q⟩ := hd 4 (by decide); exact (q 9 rfl).trans t
      refine Flow.want rfl ?_
      refine Flow.val_call rfl Tryd.func14 (by kernel_rfl) rfl (by simp only [List.map_toArray, List.map_cons, List.map_nil, Act.eval, e9]) (state_c sa w') ?_
      rintro e w2 ⟨rfl, hb2⟩
      exact ⟨_, rfl, hK _ _ hb2 (by rfl)⟩
    · intro a w' hx hu hd K hK
      have e3 : a.tmps.getD 3 undef = (.pointer (some ⟨w.heap.size, 0, none⟩)) := hu 3 rfl
      refine Flow.want rfl ?_
      exact Flow.val_run (addr_one rfl e3 (fun u => addr24 _ 1 (by decide) u)) (hK _ _ (Below.refl _ _) rfl)
    · intro a w' hx hu hd K hK
      have e11 : a.tmps.getD 11 undef = (.pointer (some ⟨w.heap.size, 1, none⟩)) := by obtain ⟨_, t, q⟩ := hd 6 (by decide); exact (q 11 rfl).trans t
      refine Flow.want rfl ?_
      exact Flow.val_run (load_one rfl e11 ((blk_cell (blk_below KB.out hx) 1).trans rfl) Tryd.underlying3 rfl) (hK _ _ (Below.refl _ _) rfl)
    · intro a w' hx hu hd K hK
      have e12 : a.tmps.getD 12 undef = (.int .i64 sb) := by obtain ⟨_, t, q⟩ := hd 7 (by decide); exact (q 12 rfl).trans t
      refine Flow.want rfl ?_
      refine Flow.val_call rfl Tryd.func41 (by kernel_rfl) rfl (by simp only [List.map_toArray, List.map_cons, List.map_nil, Act.eval, e12]) (num_c sb hb w' (HPW.out.below hx)) ?_
      rintro e w2 ⟨rfl, hb2⟩
      exact ⟨_, rfl, hK _ _ hb2 (by rfl)⟩
    · intro a w' hx hu hd K hK
      have e3 : a.tmps.getD 3 undef = (.pointer (some ⟨w.heap.size, 0, none⟩)) := hu 3 rfl
      refine Flow.want rfl ?_
      exact Flow.val_run (addr_one rfl e3 (fun u => addr24 _ 2 (by decide) u)) (hK _ _ (Below.refl _ _) rfl)
    · intro a w' hx hu hd K hK
      have e14 : a.tmps.getD 14 undef = (.pointer (some ⟨w.heap.size, 2, none⟩)) := by obtain ⟨_, t, q⟩ := hd 9 (by decide); exact (q 14 rfl).trans t
      refine Flow.want rfl ?_
      exact Flow.val_run (load_one rfl e14 ((blk_cell (blk_below KB.out hx) 2).trans rfl) Tryd.underlying3 rfl) (hK _ _ (Below.refl _ _) rfl)
    · intro a w' hx hu hd K hK
      have e15 : a.tmps.getD 15 undef = (.int .i64 sc) := by obtain ⟨_, t, q⟩ := hd 10 (by decide); exact (q 15 rfl).trans t
      refine Flow.want rfl ?_
      refine Flow.val_call rfl Tryd.func41 (by kernel_rfl) rfl (by simp only [List.map_toArray, List.map_cons, List.map_nil, Act.eval, e15]) (num_c sc hc w' (HPW.out.below hx)) ?_
      rintro e w2 ⟨rfl, hb2⟩
      exact ⟨_, rfl, hK _ _ hb2 (by rfl)⟩
    · intro a w' hx hu hd K hK
      have e10 : a.tmps.getD 10 undef = (.string (stateB sa)) := by obtain ⟨_, t, q⟩ := hd 5 (by decide); exact (q 10 rfl).trans t
      have e13 : a.tmps.getD 13 undef = (.string (itoaB sb)) := by obtain ⟨_, t, q⟩ := hd 8 (by decide); exact (q 13 rfl).trans t
      have e16 : a.tmps.getD 16 undef = (.string (itoaB sc)) := by obtain ⟨_, t, q⟩ := hd 11 (by decide); exact (q 16 rfl).trans t
      refine Flow.want rfl ?_
      exact Flow.val_run (row_four rfl e10 e13 rfl e16) (hK _ _ (below_alloc (Below.refl _ _) _) (strs_new (blk_new _ _)))
    · intro a w' hx hu hd K hK
      obtain ⟨v17, p17, q17⟩ := hd 12 (by decide)
      have e17 : a.tmps.getD 17 undef = v17 := q17 17 rfl
      refine Flow.want rfl ?_
      refine Flow.val_call rfl Tryd.func42 (by kernel_rfl) rfl (by simp only [List.map_toArray, List.map_cons, List.map_nil, Act.eval, e17]) (words_c [stateB sa, itoaB sb, ⟨#[103, 101, 110]⟩, itoaB sc] _ w' p17 (by simp) (by rw [words4]; simp only [ByteArray.size_append]; have : (⟨#[32]⟩ : ByteArray).size = 1 := rfl; have : (⟨#[103, 101, 110]⟩ : ByteArray).size = 3 := rfl; omega)) ?_
      rintro e w2 ⟨rfl, hb2⟩
      exact ⟨_, rfl, hK _ _ hb2 (by rfl)⟩
    · intro a w' hx hu hd K hK
      have e7 : a.tmps.getD 7 undef = (.string (itoaB z ++ ⟨#[58, 32]⟩)) := by obtain ⟨_, t, q⟩ := hd 2 (by decide); exact (q 7 rfl).trans t
      have e18 : a.tmps.getD 18 undef = (.string (wordsB [stateB sa, itoaB sb, ⟨#[103, 101, 110]⟩, itoaB sc])) := by obtain ⟨_, t, q⟩ := hd 13 (by decide); exact (q 18 rfl).trans t
      refine Flow.want rfl ?_
      exact Flow.val_run (cat_one rfl e7 e18 (by (try simp only [ByteArray.size_append]); omega)) (hK _ _ (Below.refl _ _) rfl)
    · intro a w' hx hu hd K hK
      have e19 : a.tmps.getD 19 undef = (.string (itoaB z ++ ⟨#[58, 32]⟩ ++ wordsB [stateB sa, itoaB sb, ⟨#[103, 101, 110]⟩, itoaB sc])) := by obtain ⟨_, t, q⟩ := hd 14 (by decide); exact (q 19 rfl).trans t
      refine Flow.want rfl ?_
      exact Flow.val_assign rfl e19 (hK _ _ (Below.refl _ _) rfl)
  · intro vs w' hb hT
    have v0 : vs 0 = (.int .i64 z) := hT 0 (by decide)
    have v1 : vs 1 = (.string (itoaB z)) := hT 1 (by decide)
    have v2 : vs 2 = (.string (itoaB z ++ ⟨#[58, 32]⟩)) := hT 2 (by decide)
    have v3 : vs 3 = (.pointer (some ⟨w.heap.size, 0, none⟩)) := hT 3 (by decide)
    have v4 : vs 4 = (.int .i64 sa) := hT 4 (by decide)
    have v5 : vs 5 = (.string (stateB sa)) := hT 5 (by decide)
    have v6 : vs 6 = (.pointer (some ⟨w.heap.size, 1, none⟩)) := hT 6 (by decide)
    have v7 : vs 7 = (.int .i64 sb) := hT 7 (by decide)
    have v8 : vs 8 = (.string (itoaB sb)) := hT 8 (by decide)
    have v9 : vs 9 = (.pointer (some ⟨w.heap.size, 2, none⟩)) := hT 9 (by decide)
    have v10 : vs 10 = (.int .i64 sc) := hT 10 (by decide)
    have v11 : vs 11 = (.string (itoaB sc)) := hT 11 (by decide)
    have v13 : vs 13 = (.string (wordsB [stateB sa, itoaB sb, ⟨#[103, 101, 110]⟩, itoaB sc])) := hT 13 (by decide)
    have v14 : vs 14 = (.string (itoaB z ++ ⟨#[58, 32]⟩ ++ wordsB [stateB sa, itoaB sb, ⟨#[103, 101, 110]⟩, itoaB sc])) := hT 14 (by decide)
    have v15 : vs 15 = (.string (itoaB z ++ ⟨#[58, 32]⟩ ++ wordsB [stateB sa, itoaB sb, ⟨#[103, 101, 110]⟩, itoaB sc])) := hT 15 (by decide)
    simp only [Flow.putsT, v0, v1, v2, v3, v4, v5, v6, v7, v8, v9, v10, v11, v13, v14, v15, Act.put, List.setIfInBounds_toArray, List.set_cons_zero, List.set_cons_succ]
    clear hT v0 v1 v2 v3 v4 v5 v6 v7 v8 v9 v10 v11 v13 v14 v15
    go_wp2
    go_ret
    exact ⟨rfl, (below_alloc (Below.refl _ _) _).trans (hb.mono (by simp))⟩
theorem zone_eq (z sa sb sc : Int) : zoneB z sa sb sc = itoaB z ++ ⟨#[58, 32]⟩ ++ stateB sa ++ ⟨#[32]⟩ ++ itoaB sb ++ ⟨#[32, 103, 101, 110, 32]⟩ ++ itoaB sc := by
  unfold zoneB
  rw [words4]
  apply ByteArray.ext
  apply Array.toList_inj.1
  simp
set_option maxHeartbeats 4000000 in
set_option maxRecDepth 100000 in
theorem rstate_c (n : Int) (w : World) : Calls Tryd.prog 15 #[.int .i64 n] w fun e w' => e = .returned (.string (stateB n)) ∧ Below w.heap.size w w' := by
  have hu := Tryd.underlying79
  by_cases h0 : n < 0
  · have hd : decide (n < 0) = true := decide_eq_true h0
    have HR := Aside0.mk (show stateB n = ⟨#[63]⟩ by unfold stateB nameB; rw [if_pos h0])
    go_enter Tryd.func15, Tryd.ntmps15
    go_wp2
    go_ret
    exact ⟨by rw [HR.out]; rfl, Below.refl _ _⟩
  · have hd : decide (n < 0) = false := decide_eq_false h0
    by_cases h1 : n > 3
    · have hd1 : decide (n > 3) = true := decide_eq_true h1
      have hd2 : decide (3 < n) = true := decide_eq_true h1
      have HR := Aside0.mk (show stateB n = ⟨#[63]⟩ by unfold stateB nameB; rw [if_neg h0, List.getD_eq_getElem?_getD, List.getElem?_eq_none (by simp [stateL]; omega)]; rfl)
      go_enter Tryd.func15, Tryd.ntmps15
      go_wp2
      go_ret
      exact ⟨by rw [HR.out]; rfl, Below.refl _ _⟩
    · have hd1 : decide (n > 3) = false := decide_eq_false h1
      have hd2 : decide (3 < n) = false := decide_eq_false h1
      obtain ⟨j, rfl⟩ : ∃ j : Nat, n = j := ⟨n.toNat, by omega⟩
      have hj : j < stateL.length := by simp [stateL]; omega
      have HR := Aside0.mk (show stateL[j]? = some (stateB (j : Int)) by unfold stateB nameB; rw [if_neg h0, Int.toNat_natCast, List.getD_eq_getElem?_getD, List.getElem?_eq_getElem hj]; rfl)
      clear hj
      go_enter Tryd.func15, Tryd.ntmps15
      go_wp2_with (first | ((with_reducible refine gate_dst (N := 9) rfl ?_); refine Cells.slice_event ?hg (N := 9) ?hd (n := 4) (cs := (stateL.map Value.string).toArray) (t := 9) ?hr ?_; (case hd => rfl); (case hg => rfl); (case hr => first | (go_simp; done) | (go_simp; rfl)); intro gb hgb wb kb hbb; have hcj : wb.cell? ⟨gb, j, none⟩ = some (.string (stateB (j : Int))) := (blk_cell kb j).trans (by simp [HR.out]); have HB := Aside0.mk hbb; clear hgb kb hbb))
      go_ret
      exact ⟨rfl, HB.out⟩
set_option maxHeartbeats 4000000 in
set_option maxRecDepth 100000 in
theorem rzone_c (z sa sb sc : Int) (hz : I64 z) (hb : I64 sb) (hc : I64 sc) (w : World) : Calls Tryd.prog 9 #[.int .i64 z, .agg #[.int .i64 sa, .int .i64 sb, .int .i64 sc]] w fun e w' => e = .returned (.string (zoneB z sa sb sc)) ∧ Below w.heap.size w w' := by
  rw [zone_eq]
  have hu := Tryd.underlying24
  have hz1 := itoa_size z hz
  have hb1 := itoa_size sb hb
  have hc1 := itoa_size sc hc
  have ha1 := state_size sa
  have h2 : (⟨#[58, 32]⟩ : ByteArray).size = 2 := rfl
  have h3 : (⟨#[32]⟩ : ByteArray).size = 1 := rfl
  have h5 : (⟨#[32, 103, 101, 110, 32]⟩ : ByteArray).size = 5 := rfl
  have KB := Aside0.mk (blk_new w (.cells #[.int .i64 sa, .int .i64 sb, .int .i64 sc] 24 (0, 0)))
  go_enter Tryd.func9, Tryd.ntmps9
  go_upto_region 1 with fail
  refine Flow.flowT (E := fun u v => Below u.heap.size u v) [(some 5, []), (some 6, [0]), (some 7, [1]), (some 8, []), (some 9, [3]), (some 10, [4, 1]), (some 11, [2, 5]), (some 12, [6]), (some 13, []), (some 14, [8]), (some 15, [9, 5]), (some 16, [7, 10]), (some 17, [11]), (some 18, []), (some 19, [13]), (some 20, [14, 10]), (some 21, [12, 15]), (some 4, [16, 15, 0, 1, 2, 3, 4, 5, 6, 7, 8, 9, 10, 11, 12, 13, 14, 15, 16])] (fun iQ vQ wQ => match iQ with | 0 => vQ = (.int .i64 z) | 1 => vQ = (.string (itoaB z)) | 2 => vQ = (.string (itoaB z ++ ⟨#[58, 32]⟩)) | 3 => vQ = (.pointer (some ⟨w.heap.size, 0, none⟩)) | 4 => vQ = (.int .i64 sa) | 5 => vQ = (.string (stateB sa)) | 6 => vQ = (.string (itoaB z ++ ⟨#[58, 32]⟩ ++ stateB sa)) | 7 => vQ = (.string (itoaB z ++ ⟨#[58, 32]⟩ ++ stateB sa ++ ⟨#[32]⟩)) | 8 => vQ = (.pointer (some ⟨w.heap.size, 1, none⟩)) | 9 => vQ = (.int .i64 sb) | 10 => vQ = (.string (itoaB sb)) | 11 => vQ = (.string (itoaB z ++ ⟨#[58, 32]⟩ ++ stateB sa ++ ⟨#[32]⟩ ++ itoaB sb)) | 12 => vQ = (.string (itoaB z ++ ⟨#[58, 32]⟩ ++ stateB sa ++ ⟨#[32]⟩ ++ itoaB sb ++ ⟨#[32, 103, 101, 110, 32]⟩)) | 13 => vQ = (.pointer (some ⟨w.heap.size, 2, none⟩)) | 14 => vQ = (.int .i64 sc) | 15 => vQ = (.string (itoaB sc)) | 16 => vQ = (.string (itoaB z ++ ⟨#[58, 32]⟩ ++ stateB sa ++ ⟨#[32]⟩ ++ itoaB sb ++ ⟨#[32, 103, 101, 110, 32]⟩ ++ itoaB sc)) | 17 => vQ = (.string (itoaB z ++ ⟨#[58, 32]⟩ ++ stateB sa ++ ⟨#[32]⟩ ++ itoaB sb ++ ⟨#[32, 103, 101, 110, 32]⟩ ++ itoaB sc)) | _ => True) rfl (by kernel_rfl) (by kernel_rfl) (by kernel_rfl) ((Below.refl _ _).drew) (fun _ _ _ h k => h.trans (k.mono h.size)) (fun _ _ _ _ h _ => h) ?_ ?_
  · refine ⟨?_, ?_, ?_, ?_, ?_, ?_, ?_, ?_, ?_, ?_, ?_, ?_, ?_, ?_, ?_, ?_, ?_, ?_, trivial⟩
    · intro a w' hx hu hd K hK
      have e0 : a.tmps.getD 0 undef = (.int .i64 z) := hu 0 rfl
      refine Flow.want rfl ?_
      exact Flow.val_move rfl e0 (hK _ _ (Below.refl _ _) rfl)
    · intro a w' hx hu hd K hK
      have e5 : a.tmps.getD 5 undef = (.int .i64 z) := by obtain ⟨_, t, q⟩ := hd 0 (by decide); exact (q 5 rfl).trans t
      refine Flow.want rfl ?_
      refine Flow.val_call rfl Tryd.func38 (by kernel_rfl) rfl (by simp only [List.map_toArray, List.map_cons, List.map_nil, Act.eval, e5]) (rnum_c z hz w') ?_
      rintro e w2 ⟨rfl, hb2⟩
      exact ⟨_, rfl, hK _ _ hb2 (by rfl)⟩
    · intro a w' hx hu hd K hK
      have e6 : a.tmps.getD 6 undef = (.string (itoaB z)) := by obtain ⟨_, t, q⟩ := hd 1 (by decide); exact (q 6 rfl).trans t
      refine Flow.want rfl ?_
      exact Flow.val_run (cat_one rfl e6 rfl (by (try simp only [ByteArray.size_append]); omega)) (hK _ _ (Below.refl _ _) rfl)
    · intro a w' hx hu hd K hK
      have e3 : a.tmps.getD 3 undef = (.pointer (some ⟨w.heap.size, 0, none⟩)) := hu 3 rfl
      refine Flow.want rfl ?_
      exact Flow.val_run (addr_one rfl e3 (fun u => addr24 _ 0 (by decide) u)) (hK _ _ (Below.refl _ _) rfl)
    · intro a w' hx hu hd K hK
      have e8 : a.tmps.getD 8 undef = (.pointer (some ⟨w.heap.size, 0, none⟩)) := by obtain ⟨_, t, q⟩ := hd 3 (by decide); exact (q 8 rfl).trans t
      refine Flow.want rfl ?_
      exact Flow.val_run (load_one rfl e8 ((blk_cell (blk_below KB.out hx) 0).trans rfl) Tryd.underlying3 rfl) (hK _ _ (Below.refl _ _) rfl)
    · intro a w' hx hu hd K hK
      have e9 : a.tmps.getD 9 undef = (.int .i64 sa) := by obtain ⟨_, t, q⟩ := hd 4 (by decide); exact (q 9 rfl).trans t
      refine Flow.want rfl ?_
      refine Flow.val_call rfl Tryd.func15 (by kernel_rfl) rfl (by simp only [List.map_toArray, List.map_cons, List.map_nil, Act.eval, e9]) (rstate_c sa w') ?_
      rintro e w2 ⟨rfl, hb2⟩
      exact ⟨_, rfl, hK _ _ hb2 (by rfl)⟩
    · intro a w' hx hu hd K hK
      have e7 : a.tmps.getD 7 undef = (.string (itoaB z ++ ⟨#[58, 32]⟩)) := by obtain ⟨_, t, q⟩ := hd 2 (by decide); exact (q 7 rfl).trans t
      have e10 : a.tmps.getD 10 undef = (.string (stateB sa)) := by obtain ⟨_, t, q⟩ := hd 5 (by decide); exact (q 10 rfl).trans t
      refine Flow.want rfl ?_
      exact Flow.val_run (cat_one rfl e7 e10 (by (try simp only [ByteArray.size_append]); omega)) (hK _ _ (Below.refl _ _) rfl)
    · intro a w' hx hu hd K hK
      have e11 : a.tmps.getD 11 undef = (.string (itoaB z ++ ⟨#[58, 32]⟩ ++ stateB sa)) := by obtain ⟨_, t, q⟩ := hd 6 (by decide); exact (q 11 rfl).trans t
      refine Flow.want rfl ?_
      exact Flow.val_run (cat_one rfl e11 rfl (by (try simp only [ByteArray.size_append]); omega)) (hK _ _ (Below.refl _ _) rfl)
    · intro a w' hx hu hd K hK
      have e3 : a.tmps.getD 3 undef = (.pointer (some ⟨w.heap.size, 0, none⟩)) := hu 3 rfl
      refine Flow.want rfl ?_
      exact Flow.val_run (addr_one rfl e3 (fun u => addr24 _ 1 (by decide) u)) (hK _ _ (Below.refl _ _) rfl)
    · intro a w' hx hu hd K hK
      have e13 : a.tmps.getD 13 undef = (.pointer (some ⟨w.heap.size, 1, none⟩)) := by obtain ⟨_, t, q⟩ := hd 8 (by decide); exact (q 13 rfl).trans t
      refine Flow.want rfl ?_
      exact Flow.val_run (load_one rfl e13 ((blk_cell (blk_below KB.out hx) 1).trans rfl) Tryd.underlying3 rfl) (hK _ _ (Below.refl _ _) rfl)
    · intro a w' hx hu hd K hK
      have e14 : a.tmps.getD 14 undef = (.int .i64 sb) := by obtain ⟨_, t, q⟩ := hd 9 (by decide); exact (q 14 rfl).trans t
      refine Flow.want rfl ?_
      refine Flow.val_call rfl Tryd.func38 (by kernel_rfl) rfl (by simp only [List.map_toArray, List.map_cons, List.map_nil, Act.eval, e14]) (rnum_c sb hb w') ?_
      rintro e w2 ⟨rfl, hb2⟩
      exact ⟨_, rfl, hK _ _ hb2 (by rfl)⟩
    · intro a w' hx hu hd K hK
      have e12 : a.tmps.getD 12 undef = (.string (itoaB z ++ ⟨#[58, 32]⟩ ++ stateB sa ++ ⟨#[32]⟩)) := by obtain ⟨_, t, q⟩ := hd 7 (by decide); exact (q 12 rfl).trans t
      have e15 : a.tmps.getD 15 undef = (.string (itoaB sb)) := by obtain ⟨_, t, q⟩ := hd 10 (by decide); exact (q 15 rfl).trans t
      refine Flow.want rfl ?_
      exact Flow.val_run (cat_one rfl e12 e15 (by (try simp only [ByteArray.size_append]); omega)) (hK _ _ (Below.refl _ _) rfl)
    · intro a w' hx hu hd K hK
      have e16 : a.tmps.getD 16 undef = (.string (itoaB z ++ ⟨#[58, 32]⟩ ++ stateB sa ++ ⟨#[32]⟩ ++ itoaB sb)) := by obtain ⟨_, t, q⟩ := hd 11 (by decide); exact (q 16 rfl).trans t
      refine Flow.want rfl ?_
      exact Flow.val_run (cat_one rfl e16 rfl (by (try simp only [ByteArray.size_append]); omega)) (hK _ _ (Below.refl _ _) rfl)
    · intro a w' hx hu hd K hK
      have e3 : a.tmps.getD 3 undef = (.pointer (some ⟨w.heap.size, 0, none⟩)) := hu 3 rfl
      refine Flow.want rfl ?_
      exact Flow.val_run (addr_one rfl e3 (fun u => addr24 _ 2 (by decide) u)) (hK _ _ (Below.refl _ _) rfl)
    · intro a w' hx hu hd K hK
      have e18 : a.tmps.getD 18 undef = (.pointer (some ⟨w.heap.size, 2, none⟩)) := by obtain ⟨_, t, q⟩ := hd 13 (by decide); exact (q 18 rfl).trans t
      refine Flow.want rfl ?_
      exact Flow.val_run (load_one rfl e18 ((blk_cell (blk_below KB.out hx) 2).trans rfl) Tryd.underlying3 rfl) (hK _ _ (Below.refl _ _) rfl)
    · intro a w' hx hu hd K hK
      have e19 : a.tmps.getD 19 undef = (.int .i64 sc) := by obtain ⟨_, t, q⟩ := hd 14 (by decide); exact (q 19 rfl).trans t
      refine Flow.want rfl ?_
      refine Flow.val_call rfl Tryd.func38 (by kernel_rfl) rfl (by simp only [List.map_toArray, List.map_cons, List.map_nil, Act.eval, e19]) (rnum_c sc hc w') ?_
      rintro e w2 ⟨rfl, hb2⟩
      exact ⟨_, rfl, hK _ _ hb2 (by rfl)⟩
    · intro a w' hx hu hd K hK
      have e17 : a.tmps.getD 17 undef = (.string (itoaB z ++ ⟨#[58, 32]⟩ ++ stateB sa ++ ⟨#[32]⟩ ++ itoaB sb ++ ⟨#[32, 103, 101, 110, 32]⟩)) := by obtain ⟨_, t, q⟩ := hd 12 (by decide); exact (q 17 rfl).trans t
      have e20 : a.tmps.getD 20 undef = (.string (itoaB sc)) := by obtain ⟨_, t, q⟩ := hd 15 (by decide); exact (q 20 rfl).trans t
      refine Flow.want rfl ?_
      exact Flow.val_run (cat_one rfl e17 e20 (by (try simp only [ByteArray.size_append]); omega)) (hK _ _ (Below.refl _ _) rfl)
    · intro a w' hx hu hd K hK
      have e21 : a.tmps.getD 21 undef = (.string (itoaB z ++ ⟨#[58, 32]⟩ ++ stateB sa ++ ⟨#[32]⟩ ++ itoaB sb ++ ⟨#[32, 103, 101, 110, 32]⟩ ++ itoaB sc)) := by obtain ⟨_, t, q⟩ := hd 16 (by decide); exact (q 21 rfl).trans t
      refine Flow.want rfl ?_
      exact Flow.val_assign rfl e21 (hK _ _ (Below.refl _ _) rfl)
  · intro vs w' hb hT
    have v0 : vs 0 = (.int .i64 z) := hT 0 (by decide)
    have v1 : vs 1 = (.string (itoaB z)) := hT 1 (by decide)
    have v2 : vs 2 = (.string (itoaB z ++ ⟨#[58, 32]⟩)) := hT 2 (by decide)
    have v3 : vs 3 = (.pointer (some ⟨w.heap.size, 0, none⟩)) := hT 3 (by decide)
    have v4 : vs 4 = (.int .i64 sa) := hT 4 (by decide)
    have v5 : vs 5 = (.string (stateB sa)) := hT 5 (by decide)
    have v6 : vs 6 = (.string (itoaB z ++ ⟨#[58, 32]⟩ ++ stateB sa)) := hT 6 (by decide)
    have v7 : vs 7 = (.string (itoaB z ++ ⟨#[58, 32]⟩ ++ stateB sa ++ ⟨#[32]⟩)) := hT 7 (by decide)
    have v8 : vs 8 = (.pointer (some ⟨w.heap.size, 1, none⟩)) := hT 8 (by decide)
    have v9 : vs 9 = (.int .i64 sb) := hT 9 (by decide)
    have v10 : vs 10 = (.string (itoaB sb)) := hT 10 (by decide)
    have v11 : vs 11 = (.string (itoaB z ++ ⟨#[58, 32]⟩ ++ stateB sa ++ ⟨#[32]⟩ ++ itoaB sb)) := hT 11 (by decide)
    have v12 : vs 12 = (.string (itoaB z ++ ⟨#[58, 32]⟩ ++ stateB sa ++ ⟨#[32]⟩ ++ itoaB sb ++ ⟨#[32, 103, 101, 110, 32]⟩)) := hT 12 (by decide)
    have v13 : vs 13 = (.pointer (some ⟨w.heap.size, 2, none⟩)) := hT 13 (by decide)
    have v14 : vs 14 = (.int .i64 sc) := hT 14 (by decide)
    have v15 : vs 15 = (.string (itoaB sc)) := hT 15 (by decide)
    have v16 : vs 16 = (.string (itoaB z ++ ⟨#[58, 32]⟩ ++ stateB sa ++ ⟨#[32]⟩ ++ itoaB sb ++ ⟨#[32, 103, 101, 110, 32]⟩ ++ itoaB sc)) := hT 16 (by decide)
    have v17 : vs 17 = (.string (itoaB z ++ ⟨#[58, 32]⟩ ++ stateB sa ++ ⟨#[32]⟩ ++ itoaB sb ++ ⟨#[32, 103, 101, 110, 32]⟩ ++ itoaB sc)) := hT 17 (by decide)
    simp only [Flow.putsT, v0, v1, v2, v3, v4, v5, v6, v7, v8, v9, v10, v11, v12, v13, v14, v15, v16, v17, Act.put, List.setIfInBounds_toArray, List.set_cons_zero, List.set_cons_succ]
    clear hT v0 v1 v2 v3 v4 v5 v6 v7 v8 v9 v10 v11 v12 v13 v14 v15 v16 v17
    go_wp2
    go_ret
    exact ⟨rfl, (below_alloc (Below.refl _ _) _).trans (hb.mono (by simp))⟩
end Go.Proofs.YtlhmpmmblnbmbaaDoor.Rep
