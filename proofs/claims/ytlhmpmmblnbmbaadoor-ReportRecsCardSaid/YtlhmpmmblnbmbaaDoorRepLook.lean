/- A look as a text: the program's and the document's way. -/
import Derived.Test.YtlhmpmmblnbmbaaDoorRepZone
namespace Go.Proofs.YtlhmpmmblnbmbaaDoor.Rep
open Go.Lib Go.RowKit Go.Proofs.YtlhmpmmblnbmbaaDoor.Cells Go.Proofs.YtlhmpmmblnbmbaaDoorW.PrintWords Go.Proofs.YtlhmpmmblnbmbaaDoorW.PrintLast Go.Proofs.YtlhmpmmblnbmbaaDoorW.PrintMore
theorem addr26 (g i : Nat) (hi : i < 3) (w : World) : (Instr.fieldAt 26 (.pointer (some ⟨g, 0, none⟩)) i).run Tryd.prog w = .ok (.pointer (some ⟨g, i, none⟩)) w := by
  have hu := Tryd.underlying26
  rcases i with _ | _ | _ | i
  · go_simp
  · go_simp
  · go_simp
  · omega
def lookB (x y : Int) (d : Bool) : ByteArray := if d = true then itoaB x ++ ⟨#[47]⟩ ++ itoaB y ++ ⟨#[33]⟩ else itoaB x ++ ⟨#[47]⟩ ++ itoaB y
set_option maxHeartbeats 4000000 in
set_option maxRecDepth 100000 in
theorem look_c (sx sy : Int) (sd : Bool) (hx0 : I64 sx) (hy0 : I64 sy) (w : World) (h : POW w) : Calls Tryd.prog 12 #[.agg #[.int .i64 sx, .int .i64 sy, .bool sd]] w fun e w' => e = .returned (.string (lookB sx sy sd)) ∧ Below w.heap.size w w' := by
  have hu := Tryd.underlying26
  have hx1 := itoa_size sx hx0
  have hy1 := itoa_size sy hy0
  have h3 : (⟨#[47]⟩ : ByteArray).size = 1 := rfl
  have h4 : (⟨#[33]⟩ : ByteArray).size = 1 := rfl
  have HPW := Aside0.mk (h.below (below_alloc (Below.refl _ _) (.cells #[.int .i64 sx, .int .i64 sy, .bool sd] 26 (0, 0))))
  have KB := Aside0.mk (blk_new w (.cells #[.int .i64 sx, .int .i64 sy, .bool sd] 26 (0, 0)))
  clear h
  go_enter Tryd.func12, Tryd.ntmps12
  go_upto_region 1 with fail
  refine Flow.flowT (E := fun u v => Below u.heap.size u v) [(some 4, []), (some 5, [0]), (some 6, [1]), (some 7, [2]), (some 8, []), (some 9, [4]), (some 10, [5, 2]), (some 11, [3, 6]), (some 3, [7, 6, 0, 1, 2, 3, 4, 5, 6, 7])] (fun iQ vQ wQ => match iQ with | 0 => vQ = (.pointer (some ⟨w.heap.size, 0, none⟩)) | 1 => vQ = (.int .i64 sx) | 2 => vQ = (.string (itoaB sx)) | 3 => vQ = (.string (itoaB sx ++ ⟨#[47]⟩)) | 4 => vQ = (.pointer (some ⟨w.heap.size, 1, none⟩)) | 5 => vQ = (.int .i64 sy) | 6 => vQ = (.string (itoaB sy)) | 7 => vQ = (.string (itoaB sx ++ ⟨#[47]⟩ ++ itoaB sy)) | 8 => vQ = (.string (itoaB sx ++ ⟨#[47]⟩ ++ itoaB sy)) | _ => True) rfl (by kernel_rfl) (by kernel_rfl) (by kernel_rfl) ((Below.refl _ _).drew) (fun _ _ _ h k => h.trans (k.mono h.size)) (fun _ _ _ _ h _ => h) ?_ ?_
  · refine ⟨?_, ?_, ?_, ?_, ?_, ?_, ?_, ?_, ?_, trivial⟩
    · intro a w' hx hu hd K hK
      have e1 : a.tmps.getD 1 undef = (.pointer (some ⟨w.heap.size, 0, none⟩)) := hu 1 rfl
      refine Flow.want rfl ?_
      exact Flow.val_run (addr_one rfl e1 (fun u => addr26 _ 0 (by decide) u)) (hK _ _ (Below.refl _ _) rfl)
    · intro a w' hx hu hd K hK
      have e4 : a.tmps.getD 4 undef = (.pointer (some ⟨w.heap.size, 0, none⟩)) := by obtain ⟨_, t, q⟩ := hd 0 (by decide); exact (q 4 rfl).trans t
      refine Flow.want rfl ?_
      exact Flow.val_run (load_one rfl e4 ((blk_cell (blk_below KB.out hx) 0).trans rfl) Tryd.underlying3 rfl) (hK _ _ (Below.refl _ _) rfl)
    · intro a w' hx hu hd K hK
      have e5 : a.tmps.getD 5 undef = (.int .i64 sx) := by obtain ⟨_, t, q⟩ := hd 1 (by decide); exact (q 5 rfl).trans t
      refine Flow.want rfl ?_
      refine Flow.val_call rfl Tryd.func41 (by kernel_rfl) rfl (by simp only [List.map_toArray, List.map_cons, List.map_nil, Act.eval, e5]) (num_c sx hx0 w' (HPW.out.below hx)) ?_
      rintro e w2 ⟨rfl, hb2⟩
      exact ⟨_, rfl, hK _ _ hb2 (by rfl)⟩
    · intro a w' hx hu hd K hK
      have e6 : a.tmps.getD 6 undef = (.string (itoaB sx)) := by obtain ⟨_, t, q⟩ := hd 2 (by decide); exact (q 6 rfl).trans t
      refine Flow.want rfl ?_
      exact Flow.val_run (cat_one rfl e6 rfl (by (try simp only [ByteArray.size_append]); omega)) (hK _ _ (Below.refl _ _) rfl)
    · intro a w' hx hu hd K hK
      have e1 : a.tmps.getD 1 undef = (.pointer (some ⟨w.heap.size, 0, none⟩)) := hu 1 rfl
      refine Flow.want rfl ?_
      exact Flow.val_run (addr_one rfl e1 (fun u => addr26 _ 1 (by decide) u)) (hK _ _ (Below.refl _ _) rfl)
    · intro a w' hx hu hd K hK
      have e8 : a.tmps.getD 8 undef = (.pointer (some ⟨w.heap.size, 1, none⟩)) := by obtain ⟨_, t, q⟩ := hd 4 (by decide); exact (q 8 rfl).trans t
      refine Flow.want rfl ?_
      exact Flow.val_run (load_one rfl e8 ((blk_cell (blk_below KB.out hx) 1).trans rfl) Tryd.underlying3 rfl) (hK _ _ (Below.refl _ _) rfl)
    · intro a w' hx hu hd K hK
      have e9 : a.tmps.getD 9 undef = (.int .i64 sy) := by obtain ⟨_, t, q⟩ := hd 5 (by decide); exact (q 9 rfl).trans t
      refine Flow.want rfl ?_
      refine Flow.val_call rfl Tryd.func41 (by kernel_rfl) rfl (by simp only [List.map_toArray, List.map_cons, List.map_nil, Act.eval, e9]) (num_c sy hy0 w' (HPW.out.below hx)) ?_
      rintro e w2 ⟨rfl, hb2⟩
      exact ⟨_, rfl, hK _ _ hb2 (by rfl)⟩
    · intro a w' hx hu hd K hK
      have e7 : a.tmps.getD 7 undef = (.string (itoaB sx ++ ⟨#[47]⟩)) := by obtain ⟨_, t, q⟩ := hd 3 (by decide); exact (q 7 rfl).trans t
      have e10 : a.tmps.getD 10 undef = (.string (itoaB sy)) := by obtain ⟨_, t, q⟩ := hd 6 (by decide); exact (q 10 rfl).trans t
      refine Flow.want rfl ?_
      exact Flow.val_run (cat_one rfl e7 e10 (by (try simp only [ByteArray.size_append]); omega)) (hK _ _ (Below.refl _ _) rfl)
    · intro a w' hx hu hd K hK
      have e11 : a.tmps.getD 11 undef = (.string (itoaB sx ++ ⟨#[47]⟩ ++ itoaB sy)) := by obtain ⟨_, t, q⟩ := hd 7 (by decide); exact (q 11 rfl).trans t
      refine Flow.want rfl ?_
      exact Flow.val_assign rfl e11 (hK _ _ (Below.refl _ _) rfl)
  · intro vs w' hb hT
    have v0 : vs 0 = (.pointer (some ⟨w.heap.size, 0, none⟩)) := hT 0 (by decide)
    have v1 : vs 1 = (.int .i64 sx) := hT 1 (by decide)
    have v2 : vs 2 = (.string (itoaB sx)) := hT 2 (by decide)
    have v3 : vs 3 = (.string (itoaB sx ++ ⟨#[47]⟩)) := hT 3 (by decide)
    have v4 : vs 4 = (.pointer (some ⟨w.heap.size, 1, none⟩)) := hT 4 (by decide)
    have v5 : vs 5 = (.int .i64 sy) := hT 5 (by decide)
    have v6 : vs 6 = (.string (itoaB sy)) := hT 6 (by decide)
    have v7 : vs 7 = (.string (itoaB sx ++ ⟨#[47]⟩ ++ itoaB sy)) := hT 7 (by decide)
    have v8 : vs 8 = (.string (itoaB sx ++ ⟨#[47]⟩ ++ itoaB sy)) := hT 8 (by decide)
    simp only [Flow.putsT, v0, v1, v2, v3, v4, v5, v6, v7, v8, Act.put, List.setIfInBounds_toArray, List.set_cons_zero, List.set_cons_succ]
    clear hT v0 v1 v2 v3 v4 v5 v6 v7 v8
    have hsd := (blk_cell (blk_below KB.out hb) 2).trans (show _ = some (Value.bool sd) from rfl)
    have hcs : (itoaB sx ++ ⟨#[47]⟩ ++ itoaB sy).size + (⟨#[33]⟩ : ByteArray).size ≤ 9223372036854775807 := by simp only [ByteArray.size_append]; omega
    have HB := Aside0.mk ((below_alloc (Below.refl w.heap.size w) (.cells #[.int .i64 sx, .int .i64 sy, .bool sd] 26 (0, 0))).trans (hb.mono (by simp)))
    obtain ⟨t, ht⟩ : ∃ t, itoaB sx ++ ⟨#[47]⟩ ++ itoaB sy = t := ⟨_, rfl⟩
    rw [ht] at hcs ⊢
    have hc2 : (9223372036854775807 < t.size + (⟨#[33]⟩ : ByteArray).size) = False := eq_false (by omega)
    have hc3 : (9223372036854775807 < t.size + 1) = False := eq_false (by omega)
    have HT := Aside0.mk (show lookB sx sy sd = if sd = true then t ++ ⟨#[33]⟩ else t by unfold lookB; rw [ht])
    clear ht hb KB
    cases sd with
    | true =>
      go_wp2
      go_ret
      exact ⟨by rw [HT.out]; rfl, HB.out⟩
    | false =>
      go_wp2
      go_ret
      exact ⟨by rw [HT.out]; rfl, HB.out⟩
set_option maxHeartbeats 4000000 in
set_option maxRecDepth 100000 in
theorem rlook_c (sx sy : Int) (sd : Bool) (hx0 : I64 sx) (hy0 : I64 sy) (w : World) (h : POW w) : Calls Tryd.prog 13 #[.agg #[.int .i64 sx, .int .i64 sy, .bool sd]] w fun e w' => e = .returned (.string (lookB sx sy sd)) ∧ Below w.heap.size w w' := by
  have hu := Tryd.underlying26
  have hx1 := itoa_size sx hx0
  have hy1 := itoa_size sy hy0
  have h3 : (⟨#[47]⟩ : ByteArray).size = 1 := rfl
  have h4 : (⟨#[33]⟩ : ByteArray).size = 1 := rfl
  have HPW := Aside0.mk (h.below (below_alloc (Below.refl _ _) (.cells #[.int .i64 sx, .int .i64 sy, .bool sd] 26 (0, 0))))
  have KB := Aside0.mk (blk_new w (.cells #[.int .i64 sx, .int .i64 sy, .bool sd] 26 (0, 0)))
  clear h
  go_enter Tryd.func13, Tryd.ntmps13
  go_upto_region 1 with fail
  refine Flow.flowT (E := fun u v => Below u.heap.size u v) [(some 4, []), (some 5, [0]), (some 6, [1]), (some 7, [2]), (some 8, []), (some 9, [4]), (some 10, [5, 2]), (some 11, [3, 6]), (some 3, [7, 6, 0, 1, 2, 3, 4, 5, 6, 7])] (fun iQ vQ wQ => match iQ with | 0 => vQ = (.pointer (some ⟨w.heap.size, 0, none⟩)) | 1 => vQ = (.int .i64 sx) | 2 => vQ = (.string (itoaB sx)) | 3 => vQ = (.string (itoaB sx ++ ⟨#[47]⟩)) | 4 => vQ = (.pointer (some ⟨w.heap.size, 1, none⟩)) | 5 => vQ = (.int .i64 sy) | 6 => vQ = (.string (itoaB sy)) | 7 => vQ = (.string (itoaB sx ++ ⟨#[47]⟩ ++ itoaB sy)) | 8 => vQ = (.string (itoaB sx ++ ⟨#[47]⟩ ++ itoaB sy)) | _ => True) rfl (by kernel_rfl) (by kernel_rfl) (by kernel_rfl) ((Below.refl _ _).drew) (fun _ _ _ h k => h.trans (k.mono h.size)) (fun _ _ _ _ h _ => h) ?_ ?_
  · refine ⟨?_, ?_, ?_, ?_, ?_, ?_, ?_, ?_, ?_, trivial⟩
    · intro a w' hx hu hd K hK
      have e1 : a.tmps.getD 1 undef = (.pointer (some ⟨w.heap.size, 0, none⟩)) := hu 1 rfl
      refine Flow.want rfl ?_
      exact Flow.val_run (addr_one rfl e1 (fun u => addr26 _ 0 (by decide) u)) (hK _ _ (Below.refl _ _) rfl)
    · intro a w' hx hu hd K hK
      have e4 : a.tmps.getD 4 undef = (.pointer (some ⟨w.heap.size, 0, none⟩)) := by obtain ⟨_, t, q⟩ := hd 0 (by decide); exact (q 4 rfl).trans t
      refine Flow.want rfl ?_
      exact Flow.val_run (load_one rfl e4 ((blk_cell (blk_below KB.out hx) 0).trans rfl) Tryd.underlying3 rfl) (hK _ _ (Below.refl _ _) rfl)
    · intro a w' hx hu hd K hK
      have e5 : a.tmps.getD 5 undef = (.int .i64 sx) := by obtain ⟨_, t, q⟩ := hd 1 (by decide); exact (q 5 rfl).trans t
      refine Flow.want rfl ?_
      refine Flow.val_call rfl Tryd.func38 (by kernel_rfl) rfl (by simp only [List.map_toArray, List.map_cons, List.map_nil, Act.eval, e5]) (rnum_c sx hx0 w') ?_
      rintro e w2 ⟨rfl, hb2⟩
      exact ⟨_, rfl, hK _ _ hb2 (by rfl)⟩
    · intro a w' hx hu hd K hK
      have e6 : a.tmps.getD 6 undef = (.string (itoaB sx)) := by obtain ⟨_, t, q⟩ := hd 2 (by decide); exact (q 6 rfl).trans t
      refine Flow.want rfl ?_
      exact Flow.val_run (cat_one rfl e6 rfl (by (try simp only [ByteArray.size_append]); omega)) (hK _ _ (Below.refl _ _) rfl)
    · intro a w' hx hu hd K hK
      have e1 : a.tmps.getD 1 undef = (.pointer (some ⟨w.heap.size, 0, none⟩)) := hu 1 rfl
      refine Flow.want rfl ?_
      exact Flow.val_run (addr_one rfl e1 (fun u => addr26 _ 1 (by decide) u)) (hK _ _ (Below.refl _ _) rfl)
    · intro a w' hx hu hd K hK
      have e8 : a.tmps.getD 8 undef = (.pointer (some ⟨w.heap.size, 1, none⟩)) := by obtain ⟨_, t, q⟩ := hd 4 (by decide); exact (q 8 rfl).trans t
      refine Flow.want rfl ?_
      exact Flow.val_run (load_one rfl e8 ((blk_cell (blk_below KB.out hx) 1).trans rfl) Tryd.underlying3 rfl) (hK _ _ (Below.refl _ _) rfl)
    · intro a w' hx hu hd K hK
      have e9 : a.tmps.getD 9 undef = (.int .i64 sy) := by obtain ⟨_, t, q⟩ := hd 5 (by decide); exact (q 9 rfl).trans t
      refine Flow.want rfl ?_
      refine Flow.val_call rfl Tryd.func38 (by kernel_rfl) rfl (by simp only [List.map_toArray, List.map_cons, List.map_nil, Act.eval, e9]) (rnum_c sy hy0 w') ?_
      rintro e w2 ⟨rfl, hb2⟩
      exact ⟨_, rfl, hK _ _ hb2 (by rfl)⟩
    · intro a w' hx hu hd K hK
      have e7 : a.tmps.getD 7 undef = (.string (itoaB sx ++ ⟨#[47]⟩)) := by obtain ⟨_, t, q⟩ := hd 3 (by decide); exact (q 7 rfl).trans t
      have e10 : a.tmps.getD 10 undef = (.string (itoaB sy)) := by obtain ⟨_, t, q⟩ := hd 6 (by decide); exact (q 10 rfl).trans t
      refine Flow.want rfl ?_
      exact Flow.val_run (cat_one rfl e7 e10 (by (try simp only [ByteArray.size_append]); omega)) (hK _ _ (Below.refl _ _) rfl)
    · intro a w' hx hu hd K hK
      have e11 : a.tmps.getD 11 undef = (.string (itoaB sx ++ ⟨#[47]⟩ ++ itoaB sy)) := by obtain ⟨_, t, q⟩ := hd 7 (by decide); exact (q 11 rfl).trans t
      refine Flow.want rfl ?_
      exact Flow.val_assign rfl e11 (hK _ _ (Below.refl _ _) rfl)
  · intro vs w' hb hT
    have v0 : vs 0 = (.pointer (some ⟨w.heap.size, 0, none⟩)) := hT 0 (by decide)
    have v1 : vs 1 = (.int .i64 sx) := hT 1 (by decide)
    have v2 : vs 2 = (.string (itoaB sx)) := hT 2 (by decide)
    have v3 : vs 3 = (.string (itoaB sx ++ ⟨#[47]⟩)) := hT 3 (by decide)
    have v4 : vs 4 = (.pointer (some ⟨w.heap.size, 1, none⟩)) := hT 4 (by decide)
    have v5 : vs 5 = (.int .i64 sy) := hT 5 (by decide)
    have v6 : vs 6 = (.string (itoaB sy)) := hT 6 (by decide)
    have v7 : vs 7 = (.string (itoaB sx ++ ⟨#[47]⟩ ++ itoaB sy)) := hT 7 (by decide)
    have v8 : vs 8 = (.string (itoaB sx ++ ⟨#[47]⟩ ++ itoaB sy)) := hT 8 (by decide)
    simp only [Flow.putsT, v0, v1, v2, v3, v4, v5, v6, v7, v8, Act.put, List.setIfInBounds_toArray, List.set_cons_zero, List.set_cons_succ]
    clear hT v0 v1 v2 v3 v4 v5 v6 v7 v8
    have hsd := (blk_cell (blk_below KB.out hb) 2).trans (show _ = some (Value.bool sd) from rfl)
    have hcs : (itoaB sx ++ ⟨#[47]⟩ ++ itoaB sy).size + (⟨#[33]⟩ : ByteArray).size ≤ 9223372036854775807 := by simp only [ByteArray.size_append]; omega
    have HB := Aside0.mk ((below_alloc (Below.refl w.heap.size w) (.cells #[.int .i64 sx, .int .i64 sy, .bool sd] 26 (0, 0))).trans (hb.mono (by simp)))
    obtain ⟨t, ht⟩ : ∃ t, itoaB sx ++ ⟨#[47]⟩ ++ itoaB sy = t := ⟨_, rfl⟩
    rw [ht] at hcs ⊢
    have hc2 : (9223372036854775807 < t.size + (⟨#[33]⟩ : ByteArray).size) = False := eq_false (by omega)
    have hc3 : (9223372036854775807 < t.size + 1) = False := eq_false (by omega)
    have HT := Aside0.mk (show lookB sx sy sd = if sd = true then t ++ ⟨#[33]⟩ else t by unfold lookB; rw [ht])
    clear ht hb KB
    cases sd with
    | true =>
      go_wp2
      go_ret
      exact ⟨by rw [HT.out]; rfl, HB.out⟩
    | false =>
      go_wp2
      go_ret
      exact ⟨by rw [HT.out]; rfl, HB.out⟩
end Go.Proofs.YtlhmpmmblnbmbaaDoor.Rep
