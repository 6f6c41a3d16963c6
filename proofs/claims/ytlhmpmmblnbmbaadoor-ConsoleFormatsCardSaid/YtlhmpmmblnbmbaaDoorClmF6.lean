/- Own work and lines of the print, as much as consoleFormats_holds needs: part 6. -/
import Derived.Test.YtlhmpmmblnbmbaaDoorClmF5
set_option linter.unusedVariables false
set_option linter.unusedSimpArgs false
namespace Go.Proofs.YtlhmpmmblnbmbaaDoor.Con
open Go.Lib Go.RowKit Go.Proofs.YtlhmpmmblnbmbaaDoor.Ev Go.Proofs.YtlhmpmmblnbmbaaDoor.Ke Go.Proofs.YtlhmpmmblnbmbaaDoor.Cells Go.Proofs.YtlhmpmmblnbmbaaDoor.PConsoleParses Go.Proofs.YtlhmpmmblnbmbaaDoorW.PrintWords Go.Proofs.YtlhmpmmblnbmbaaDoorW.PrintLast Go.Proofs.YtlhmpmmblnbmbaaDoorW.PrintMore WordsPlain NumberPlain
open Go.Proofs.YtlhmpmmblnbmbaaDoor.Rep (POW I64 itoaB itoa_size wordsB wordsB_one wordsB_snoc wordsB_size hexB hexB_size B8 rnum_c rhex_c)
theorem fl56_4 {c0 c1 c2 c3 c4 c5 c6 c7 c8 c9 : Value} (w : World) : (Instr.field 56 (.agg #[c0, c1, c2, c3, c4, c5, c6, c7, c8, c9]) 4).run Tryd.prog w = .ok (c9) w := by kernel_rfl
/-- What a step must be, in bounds. -/
structure GA (x : A10) : Prop where
 zone : I64 x.zone
 at_ : I64 x.at_
 n : I64 x.n
 m : I64 x.m
 k : I64 x.k
 data : B8 x.data
 keep : B8 x.keep
theorem i64_0 : I64 0 := by unfold I64; omega
theorem GA.num {x : A10} (h : GA x) (j : Nat) : I64 (n3 x j) := by
 unfold n3 num3
 obtain ⟨h1, h2, h3, h4, h5, _, _⟩ := h
 split <;> (split; rotate_left; split) <;> first | assumption | exact i64_0
def numsL (x : A10) (k : Nat) : List ByteArray := (List.range k).map fun j => itoaB (n3 x j)
theorem numsL_succ (x : A10) (k : Nat) : numsL x (k + 1) = numsL x k ++ [itoaB (n3 x k)] := by
 unfold numsL
 rw [List.range_succ, List.map_append]; rfl
/-- The bytes as a word. -/
def hexW (b : List Int) : ByteArray := if b.length = 0 then ⟨#[45]⟩ else hexB b
/-- The words of a step's line. -/
def fmtL (x : A10) (i mn : Nat) (bb : Bool) : List ByteArray := wd i :: numsL x mn ++ (if bb = true then [hexW (if i = 0 then x.data else x.keep)] else []) ++ (if i = 0 ∧ x.fua = true then [⟨#[102, 117, 97]⟩] else [])
theorem n3_at (x : A10) {k : Nat} (h : k < 3) : (#[.int .i64 (n3 x 0), .int .i64 (n3 x 1), .int .i64 (n3 x 2)] : Array Value)[0 + k]? = some (.int .i64 (n3 x k)) := by
 match k, h with
 | 0, _ => rfl
 | 1, _ => rfl
 | 2, _ => rfl
theorem wd_size (i : Nat) (h : i < 15) : (wd i).size ≤ 10 := (show ∀ i : Fin 15, (wd i).size ≤ 10 by decide +kernel) ⟨i, h⟩
theorem numsL_size (x : A10) (hg : GA x) (i k : Nat) (hi : i < 15) (hk : k ≤ 3) : (wordsB (wd i :: numsL x k)).size ≤ 100 := by
 have h := wordsB_size 21 (wd i :: numsL x k) (fun s hs => by
  rcases List.mem_cons.1 hs with rfl | hs
  ·exact Nat.le_trans (wd_size i hi) (by decide)
  ·obtain ⟨j, _, rfl⟩ := List.mem_map.1 hs
   exact itoa_size _ (hg.num j))
 have hl : (wd i :: numsL x k).length ≤ 4 := by unfold numsL; simp; omega
 have : (21 + 1) * (wd i :: numsL x k).length ≤ 22 * 4 := Nat.mul_le_mul_left _ hl
 omega
theorem nums_step (x : A10) (i k : Nat) : wordsB (wd i :: numsL x k) ++ ⟨#[32]⟩ ++ itoaB (n3 x k) = wordsB (wd i :: numsL x (k + 1)) := by
 rw [numsL_succ, ← wordsB_snoc]; rfl
theorem bytes_kind {i : Nat} (hi : i < 15) (h : (frm i).2.2.2.isSome = true) (h0 : ¬ i = 0) : (frm i).1 = 3 ∧ (frm i).2.1 = 0 := (show ∀ i : Fin 15, (frm i).2.2.2.isSome = true → ¬ i.val = 0 → (frm i).1 = 3 ∧ (frm i).2.1 = 0 by decide +kernel) ⟨i, hi⟩ h h0
theorem fld {P : Program} {o : Oper} {a : Act} {w : World} {x : Operand} {T i : Nat} {cs : Array Value} {v : Value} (ho : o.op = .field T x i) (hx : a.eval x = .agg cs) (hr : (Instr.field T (.agg cs) i).run P w = .ok v w) : (execOp a.eval o).run P w = .ok (.value v) w := by
 unfold execOp
 simp only [ho, hx, Sem.run_bind, hr, Result.andThen_ok, Sem.run_pure]
theorem z2 (a : ByteArray) : a ++ ⟨#[32]⟩ ++ ⟨#[45]⟩ = a ++ ⟨#[32, 45]⟩ := by rw [ByteArray.append_assoc]; rfl
theorem f2 (a : ByteArray) : a ++ ⟨#[32]⟩ ++ ⟨#[102, 117, 97]⟩ = a ++ ⟨#[32, 102, 117, 97]⟩ := by rw [ByteArray.append_assoc]; rfl
theorem hexn {A : Option Addr} {c n : Nat} {l : List Int} {w : World} {R : Ending → World → Prop} (hn : l.length = n) (h : Calls Tryd.prog 26 #[.slice A l.length c] w R) : Calls Tryd.prog 26 #[.slice A n c] w R := hn ▸ h
theorem fmt_n {x : A10} {i k : Nat} (hz : ¬ i = 0) : wordsB (fmtL x i k false) = wordsB (wd i :: numsL x k) := by
 unfold fmtL
 rw [if_neg (by decide), if_neg (fun h => hz h.1), List.append_nil, List.append_nil]
theorem fmt_b {x : A10} {i k : Nat} {t : ByteArray} (hz : ¬ i = 0) (ht : hexW x.keep = t) : wordsB (fmtL x i k true) = wordsB (wd i :: numsL x k) ++ ⟨#[32]⟩ ++ t := by
 unfold fmtL
 rw [if_pos rfl, if_neg hz, if_neg (fun h => hz h.1), List.append_nil, ht, wordsB_snoc]
theorem fmt_0f {x : A10} {i k : Nat} {t : ByteArray} (hz : i = 0) (hf : x.fua = false) (ht : hexW x.data = t) : wordsB (fmtL x i k true) = wordsB (wd i :: numsL x k) ++ ⟨#[32]⟩ ++ t := by
 unfold fmtL
 rw [if_pos rfl, if_pos hz, if_neg (fun h => by rw [hf] at h; cases h.2), List.append_nil, ht, wordsB_snoc]
theorem fmt_0t {x : A10} {i k : Nat} {t : ByteArray} (hz : i = 0) (hf : x.fua = true) (ht : hexW x.data = t) : wordsB (fmtL x i k true) = wordsB (wd i :: numsL x k) ++ ⟨#[32]⟩ ++ t ++ ⟨#[32]⟩ ++ ⟨#[102, 117, 97]⟩ := by
 unfold fmtL
 rw [if_pos rfl, if_pos hz, if_pos ⟨hz, hf⟩, ht]
 rw [List.cons_append, wordsB_snoc, ← List.cons_append, wordsB_snoc]
set_option maxHeartbeats 4000000 in
set_option maxRecDepth 100000 in
theorem rformat_c (x : A10) (hg : GA x) (Ad Ak : Option Addr) (nd cd nk ck : Nat) (hnd : x.data.length = nd) (hnk : x.keep.length = nk) (hd1 : nd ≤ 1000) (hk1 : nk ≤ 1000) {i mn : Nat} {bb : Bool} (hidx : idxI x = (i : Int)) (hi : i < 15) (h1 : (frm i).2.2.1.length = mn) (h2 : (frm i).2.2.2.isSome = bb) (w : World) (hCd : (Kd.int .u8).C w Ad nd x.data) (hCk : (Kd.int .u8).C w Ak nk x.keep) : Calls Tryd.prog 35 #[.agg #[.int .i64 x.kind, .int .i64 x.cmd, .int .i64 x.zone, .int .i64 x.at_, .int .i64 x.n, .slice Ad nd cd, .bool x.fua, .int .i64 x.m, .int .i64 x.k, .slice Ak nk ck]] w fun e w' => e = .returned (.string (wordsB (fmtL x i mn bb))) ∧ Below w.heap.size w w' := by
 have HIX := Aside0.mk hidx
 have HI := Aside0.mk hi
 have HM := Aside0.mk h1
 have HBB := Aside0.mk h2
 have hm3 : mn ≤ 3 := h1 ▸ (frm_small ⟨i, hi⟩).1
 have HG := Aside0.mk hg
 have HND := Aside0.mk hnd
 have HNK := Aside0.mk hnk
 have HD1 := Aside0.mk hd1
 have HKK1 := Aside0.mk hk1
 have HCD := Aside0.mk hCd
 have HCK := Aside0.mk hCk
 clear hidx hi h1 h2 hg hnd hnk hd1 hk1 hCd hCk
 obtain ⟨kd, HKD⟩ : ∃ q, Aside0 ((frm i).1 = q) := ⟨_, ⟨rfl⟩⟩
 obtain ⟨cm, HCM⟩ : ∃ q, Aside0 ((frm i).2.1 = q) := ⟨_, ⟨rfl⟩⟩
 go_enter Tryd.func35, Tryd.ntmps35
 go_upto_region 0 with fail
 refine wp_region_lit ?_
 refine ebox (v := (.agg #[.int .i64 x.kind, .int .i64 x.cmd, .int .i64 x.zone, .int .i64 x.at_, .int .i64 x.n, .slice Ad nd cd, .bool x.fua, .int .i64 x.m, .int .i64 x.k, .slice Ak nk ck])) rfl rfl rfl ?_
 intro g1 hg1 W1 hk1 hb1
 have Kg1 := Aside0.mk hk1
 have HB1 := Aside0.mk (hb1)
 clear hb1
 have Gg1 := Aside0.mk (show w.heap.size ≤ g1 by rw [hg1]; exact Nat.le_refl _)
 clear hg1 hk1
 simp only [Act.put, List.setIfInBounds_toArray, List.set_cons_zero, List.set_cons_succ]
 refine Flow.seqL (E := fun u v => Below u.heap.size u v) 1 1 [(some 1, []), (some 2, [])] (fun iQ vQ wQ => match iQ with | 1 => vQ = (.string ⟨#[]⟩) | _ => True) rfl (by decide) (by kernel_rfl) (Below.refl _ _) (fun _ _ _ h k => h.trans (k.mono h.size)) (fun _ _ _ _ h _ => h) ?_ ?_
 ·refine ⟨?_, trivial⟩
  ·intro a w' hx hu hd K hK; exact Flow.run1 rfl (Flow.r_assign rfl rfl) (hK _ _ (Below.refl _ _) rfl)
 intro vs W2 hb2 hT
 have v1 := Flow.eqn (hT 1 (by decide) (by decide))
 simp only [Flow.putsT, v1, Act.put, List.setIfInBounds_toArray, List.set_cons_zero, List.set_cons_succ, List.drop_succ_cons, List.drop_zero, List.take_succ_cons, List.take_zero]
 clear hT v1
 have HB2 := Aside0.mk (below_step HB1.out hb2)
 have Kg1_2 := Aside0.mk (blk_below Kg1.out hb2)
 clear hb2
 go_upto_region 1 with fail
 refine Flow.seqT (E := fun u v => Below u.heap.size u v) [(some 12, []), (some 13, [0]), (some 3, [1, 1, 0, 1])] (fun iQ vQ wQ => match iQ with | 0 => vQ = (.agg #[.int .i64 x.kind, .int .i64 x.cmd, .int .i64 x.zone, .int .i64 x.at_, .int .i64 x.n, .slice Ad nd cd, .bool x.fua, .int .i64 x.m, .int .i64 x.k, .slice Ak nk ck]) | 1 => vQ = (.int .i64 i) | 2 => vQ = (.int .i64 i) | _ => True) rfl (by kernel_rfl) (Below.refl _ _) (fun _ _ _ h k => h.trans (k.mono h.size)) (fun _ _ _ _ h _ => h) ?_ ?_
 ·refine ⟨?_, ?_, ?_, trivial⟩
  ·intro a w' hx hu hd K hK; have e1 : a.tmps.getD 1 undef = (.pointer (some ⟨g1, 0, none⟩)) := hu 1 rfl; exact Flow.run1 rfl (ldrow rfl e1 (lies_block (blk_below Kg1_2.out hx)) Tryd.underlying56 rfl size56) (hK _ _ (Below.refl _ _) rfl)
  ·intro a w' hx hu hd K hK; have e12 := Flow.got (hd 0 rfl) 12 rfl; refine Flow.want rfl ?_; refine Flow.val_call rfl Tryd.func58 (by kernel_rfl) rfl (by simp only [List.map_toArray, List.map_cons, List.map_nil, Act.eval, e12] <;> rfl) (rindex_c x Ad Ak nd cd nk ck w') ?_; rintro e w2 ⟨rfl, hb2⟩; rw [HIX.out]; exact ⟨_, rfl, hK _ _ hb2 rfl⟩
  ·intro a w' hx hu hd K hK; have e13 := Flow.got (hd 1 rfl) 13 rfl; exact Flow.run1 rfl (Flow.r_assign rfl e13) (hK _ _ (Below.refl _ _) rfl)
 intro vs W3 hb3 hT
 have v0 := Flow.eqn (hT 0 (by decide))
 have v1 := Flow.eqn (hT 1 (by decide))
 have v2 := Flow.eqn (hT 2 (by decide))
 simp only [Flow.putsT, v0, v1, v2, Act.put, List.setIfInBounds_toArray, List.set_cons_zero, List.set_cons_succ]
 clear hT v0 v1 v2
 have HB3 := Aside0.mk (below_step HB2.out hb3)
 have Kg1_2_3 := Aside0.mk (blk_below Kg1_2.out hb3)
 clear hb3
 go_upto_region 2 with fail
 refine Flow.seqT (E := fun u v => Below u.heap.size u v) [(some 14, []), (some 15, [0])] (fun iQ vQ wQ => match iQ with | 0 => vQ = (.int .i64 i) | 1 => vQ = (.bool false) | _ => True) rfl (by kernel_rfl) (Below.refl _ _) (fun _ _ _ h k => h.trans (k.mono h.size)) (fun _ _ _ _ h _ => h) ?_ ?_
 ·refine ⟨?_, ?_, trivial⟩
  ·intro a w' hx hu hd K hK; have e3 : a.tmps.getD 3 undef = (.int .i64 i) := hu 3 rfl; exact Flow.run1 rfl (Flow.r_move rfl e3) (hK _ _ (Below.refl _ _) rfl)
  ·intro a w' hx hu hd K hK; have e14 := Flow.got (hd 0 rfl) 14 rfl; exact Flow.run1 rfl (no (lss rfl e14 rfl) (decide_eq_false (by omega))) (hK _ _ (Below.refl _ _) rfl)
 intro vs W4 hb4 hT
 have v0 := Flow.eqn (hT 0 (by decide))
 have v1 := Flow.eqn (hT 1 (by decide))
 simp only [Flow.putsT, v0, v1, Act.put, List.setIfInBounds_toArray, List.set_cons_zero, List.set_cons_succ]
 clear hT v0 v1
 have HB4 := Aside0.mk (below_step HB3.out hb4)
 have Kg1_2_3_4 := Aside0.mk (blk_below Kg1_2_3.out hb4)
 clear hb4
 go_upto_region 4 with fail
 refine Flow.seqT (E := fun u v => Below u.heap.size u v) [(some 17, []), (some 18, [0]), (some 16, [1]), (some 19, [2]), (some 20, [2]), (some 21, [2]), (some 22, [2]), (some 23, [2]), (some 4, [3, 1, 0, 1, 2, 3]), (some 5, [4, 8, 0, 1, 2, 3, 4, 8]), (some 6, [5, 9, 0, 1, 2, 3, 4, 5, 8, 9]), (some 7, [6, 10, 0, 1, 2, 3, 4, 5, 6, 8, 9, 10]), (some 8, [7, 11, 0, 1, 2, 3, 4, 5, 6, 7, 8, 9, 10, 11])] (fun iQ vQ wQ => match iQ with | 0 => vQ = (.int .i64 i) | 1 => vQ = (.tuple #[.string (wd i), .int .i64 mn, .bool bb, .int .i64 kd, .int .i64 cm]) | 2 => vQ = (.tuple #[.string (wd i), .int .i64 mn, .bool bb, .int .i64 kd, .int .i64 cm]) | 3 => vQ = (.string (wd i)) | 4 => vQ = (.int .i64 mn) | 5 => vQ = (.bool bb) | 6 => vQ = (.int .i64 kd) | 7 => vQ = (.int .i64 cm) | 8 => vQ = (.string (wd i)) | 9 => vQ = (.int .i64 mn) | 10 => vQ = (.bool bb) | 11 => vQ = (.int .i64 kd) | 12 => vQ = (.int .i64 cm) | _ => True) rfl (by kernel_rfl) (Below.refl _ _) (fun _ _ _ h k => h.trans (k.mono h.size)) (fun _ _ _ _ h _ => h) ?_ ?_
 ·refine ⟨?_, ?_, ?_, ?_, ?_, ?_, ?_, ?_, ?_, ?_, ?_, ?_, ?_, trivial⟩
  ·intro a w' hx hu hd K hK; have e3 : a.tmps.getD 3 undef = (.int .i64 i) := hu 3 rfl; exact Flow.run1 rfl (Flow.r_move rfl e3) (hK _ _ (Below.refl _ _) rfl)
  ·intro a w' hx hu hd K hK; have e17 := Flow.got (hd 0 rfl) 17 rfl; refine Flow.want rfl ?_; refine Flow.val_call rfl Tryd.func50 (by kernel_rfl) rfl (by simp only [List.map_toArray, List.map_cons, List.map_nil, Act.eval, e17] <;> rfl) (rword_c HI.out HM.out HBB.out HKD.out HCM.out w') ?_; rintro e w2 ⟨rfl, hb2⟩; exact ⟨_, rfl, hK _ _ hb2 (by rfl)⟩
  ·intro a w' hx hu hd K hK; have e18 := Flow.got (hd 1 rfl) 18 rfl; exact Flow.run1 rfl (Flow.r_move rfl e18) (hK _ _ (Below.refl _ _) rfl)
  ·intro a w' hx hu hd K hK; have e16 := Flow.got (hd 2 rfl) 16 rfl; exact Flow.run1 rfl (extr rfl e16 rfl) (hK _ _ (Below.refl _ _) rfl)
  ·intro a w' hx hu hd K hK; have e16 := Flow.got (hd 2 rfl) 16 rfl; exact Flow.run1 rfl (extr rfl e16 rfl) (hK _ _ (Below.refl _ _) rfl)
  ·intro a w' hx hu hd K hK; have e16 := Flow.got (hd 2 rfl) 16 rfl; exact Flow.run1 rfl (extr rfl e16 rfl) (hK _ _ (Below.refl _ _) rfl)
  ·intro a w' hx hu hd K hK; have e16 := Flow.got (hd 2 rfl) 16 rfl; exact Flow.run1 rfl (extr rfl e16 rfl) (hK _ _ (Below.refl _ _) rfl)
  ·intro a w' hx hu hd K hK; have e16 := Flow.got (hd 2 rfl) 16 rfl; exact Flow.run1 rfl (extr rfl e16 rfl) (hK _ _ (Below.refl _ _) rfl)
  ·intro a w' hx hu hd K hK; have e19 := Flow.got (hd 3 rfl) 19 rfl; exact Flow.run1 rfl (Flow.r_assign rfl e19) (hK _ _ (Below.refl _ _) rfl)
  ·intro a w' hx hu hd K hK; have e20 := Flow.got (hd 4 rfl) 20 rfl; exact Flow.run1 rfl (Flow.r_assign rfl e20) (hK _ _ (Below.refl _ _) rfl)
  ·intro a w' hx hu hd K hK; have e21 := Flow.got (hd 5 rfl) 21 rfl; exact Flow.run1 rfl (Flow.r_assign rfl e21) (hK _ _ (Below.refl _ _) rfl)
  ·intro a w' hx hu hd K hK; have e22 := Flow.got (hd 6 rfl) 22 rfl; exact Flow.run1 rfl (Flow.r_assign rfl e22) (hK _ _ (Below.refl _ _) rfl)
  ·intro a w' hx hu hd K hK; have e23 := Flow.got (hd 7 rfl) 23 rfl; exact Flow.run1 rfl (Flow.r_assign rfl e23) (hK _ _ (Below.refl _ _) rfl)
 intro vs W5 hb5 hT
 have v0 := Flow.eqn (hT 0 (by decide))
 have v1 := Flow.eqn (hT 1 (by decide))
 have v2 := Flow.eqn (hT 2 (by decide))
 have v3 := Flow.eqn (hT 3 (by decide))
 have v4 := Flow.eqn (hT 4 (by decide))
 have v5 := Flow.eqn (hT 5 (by decide))
 have v6 := Flow.eqn (hT 6 (by decide))
 have v7 := Flow.eqn (hT 7 (by decide))
 have v8 := Flow.eqn (hT 8 (by decide))
 have v9 := Flow.eqn (hT 9 (by decide))
 have v10 := Flow.eqn (hT 10 (by decide))
 have v11 := Flow.eqn (hT 11 (by decide))
 have v12 := Flow.eqn (hT 12 (by decide))
 simp only [Flow.putsT, v0, v1, v2, v3, v4, v5, v6, v7, v8, v9, v10, v11, v12, Act.put, List.setIfInBounds_toArray, List.set_cons_zero, List.set_cons_succ]
 clear hT v0 v1 v2 v3 v4 v5 v6 v7 v8 v9 v10 v11 v12
 have HB5 := Aside0.mk (below_step HB4.out hb5)
 have Kg1_2_3_4_5 := Aside0.mk (blk_below Kg1_2_3_4.out hb5)
 clear hb5
 go_upto_region 5 with fail
 refine Flow.seqT_head (E := fun u v => Below u.heap.size u v) 2 [(some 24, []), (some 25, [0]), (some 9, []), (none, [2, 1, 1, 0, 1, 2])] (fun iQ vQ wQ => match iQ with | 0 => vQ = (.agg #[.int .i64 x.kind, .int .i64 x.cmd, .int .i64 x.zone, .int .i64 x.at_, .int .i64 x.n, .slice Ad nd cd, .bool x.fua, .int .i64 x.m, .int .i64 x.k, .slice Ak nk ck]) | 1 => vQ = (.agg #[.int .i64 (n3 x 0), .int .i64 (n3 x 1), .int .i64 (n3 x 2)]) | _ => True) rfl (by decide) (by kernel_rfl) (Below.refl _ _) (fun _ _ _ h k => h.trans (k.mono h.size)) (fun _ _ _ _ h _ => h) ?_ ?_
 ·refine ⟨?_, ?_, trivial⟩
  ·intro a w' hx hu hd K hK; have e1 : a.tmps.getD 1 undef = (.pointer (some ⟨g1, 0, none⟩)) := hu 1 rfl; exact Flow.run1 rfl (ldrow rfl e1 (lies_block (blk_below Kg1_2_3_4_5.out hx)) Tryd.underlying56 rfl size56) (hK _ _ (Below.refl _ _) rfl)
  ·intro a w' hx hu hd K hK; have e24 := Flow.got (hd 0 rfl) 24 rfl; refine Flow.want rfl ?_; refine Flow.val_call rfl Tryd.func59 (by kernel_rfl) rfl (by simp only [List.map_toArray, List.map_cons, List.map_nil, Act.eval, e24] <;> rfl) (rnumbers_c x Ad Ak nd cd nk ck w') ?_; rintro e w2 ⟨rfl, hb2⟩; exact ⟨_, rfl, hK _ _ hb2 (by rfl)⟩
 intro vs W6 hb6 hT
 have v0 := Flow.eqn (hT 0 (by decide))
 have v1 := Flow.eqn (hT 1 (by decide))
 simp only [Flow.putsT, v0, v1, Act.put, List.setIfInBounds_toArray, List.set_cons_zero, List.set_cons_succ, List.drop_succ_cons, List.drop_zero, List.take_succ_cons, List.take_zero]
 clear hT v0 v1
 have HB6 := Aside0.mk (below_step HB5.out hb6)
 have Kg1_2_3_4_5_6 := Aside0.mk (blk_below Kg1_2_3_4_5.out hb6)
 clear hb6
 refine ealloc rfl rfl zero104_is ?_
 intro g7 hg7 W7 hk7 hb7
 have Kg7 := Aside0.mk hk7
 have Ng7_g1 := Aside0.mk (show g1 ≠ g7 by have := (Array.getElem?_eq_some_iff.1 Kg1_2_3_4_5_6.out).1; omega)
 have Ng1_g7 := Aside0.mk (Ne.symm Ng7_g1.out)
 have HB7 := Aside0.mk (below_step HB6.out hb7)
 have Kg1_2_3_4_5_6_7 := Aside0.mk (blk_below Kg1_2_3_4_5_6.out hb7)
 clear hb7
 have Gg7 := Aside0.mk (show w.heap.size ≤ g7 by rw [hg7]; exact HB6.out.size)
 clear hg7 hk7
 simp only [Act.put, List.setIfInBounds_toArray, List.set_cons_zero, List.set_cons_succ]
 refine Cells.store_whole rfl rfl 104 _ _ rfl g7 [.int .i64 (n3 x 0), .int .i64 (n3 x 1), .int .i64 (n3 x 2)] #[.int .i64 0, .int .i64 0, .int .i64 0] rfl rfl Kg7.out rfl size104 rfl ?_
 intro W8 hk8 hf8 hb8
 have HB8 := Aside0.mk (HB7.out.trans (hb8 _ Gg7.out))
 have Kg1_2_3_4_5_6_7_8 := Aside0.mk ((hf8 _ Ng7_g1.out).trans Kg1_2_3_4_5_6_7.out)
 have Kg7_8 := Aside0.mk hk8
 clear hk8 hf8 hb8
 go_upto_region 6 with fail
 refine Flow.seqT (E := fun u v => Below u.heap.size u v) [(some 10, [])] (fun iQ vQ wQ => match iQ with | 0 => vQ = (.int .i64 0) | _ => True) rfl (by kernel_rfl) (Below.refl _ _) (fun _ _ _ h k => h.trans (k.mono h.size)) (fun _ _ _ _ h _ => h) ?_ ?_
 ·refine ⟨?_, trivial⟩
  ·intro a w' hx hu hd K hK; exact Flow.run1 rfl (Flow.r_assign rfl rfl) (hK _ _ (Below.refl _ _) rfl)
 intro vs W9 hb9 hT
 have v0 := Flow.eqn (hT 0 (by decide))
 simp only [Flow.putsT, v0, Act.put, List.setIfInBounds_toArray, List.set_cons_zero, List.set_cons_succ]
 clear hT v0
 have HB9 := Aside0.mk (below_step HB8.out hb9)
 have Kg1_2_3_4_5_6_7_8_9 := Aside0.mk (blk_below Kg1_2_3_4_5_6_7_8.out hb9)
 have Kg7_8_9 := Aside0.mk (blk_below Kg7_8.out hb9)
 clear hb9
 go_wp2
 go_loopg [4, 10] mn (fun g v4 v10 wr => ∃ k : Nat, k ≤ mn ∧ Aside0 (g = mn - k) ∧ v10 = .int .i64 k ∧ v4 = .string (wordsB (wd i :: numsL x k)) ∧ Aside0 (Below w.heap.size w wr) ∧ Aside0 (wr.heap[g7]? = some (.cells #[.int .i64 (n3 x 0), .int .i64 (n3 x 1), .int .i64 (n3 x 2)] 104 (0, 0))) ∧ Aside0 (wr.heap[g1]? = some (.cells #[.int .i64 x.kind, .int .i64 x.cmd, .int .i64 x.zone, .int .i64 x.at_, .int .i64 x.n, .slice Ad nd cd, .bool x.fua, .int .i64 x.m, .int .i64 x.k, .slice Ak nk ck] 56 (0, 0))))
 case atStart => exact ⟨0, Nat.zero_le _, ⟨rfl⟩, rfl, by rw [show numsL x 0 = [] from rfl, wordsB_one], HB9, Kg7_8_9, Kg1_2_3_4_5_6_7_8_9⟩
 case round =>
  clear HB9 Kg7_8_9 Kg1_2_3_4_5_6_7_8_9
  obtain ⟨k, hk, HGK, rfl, rfl, HBR, KA, K1⟩ := hrel
  obtain ⟨s0, HS0⟩ : ∃ q, Aside0 (wordsB (wd i :: numsL x k) = q) := ⟨_, ⟨rfl⟩⟩
  have zs0 : s0.size ≤ 100 := HS0.out ▸ numsL_size x HG.out i k HI.out (by omega)
  rw [HS0.out]
  by_cases hlt : k < mn
  ·have hlt2 : (k : Int) < mn := by omega
   go_upto_region 7 with fail
   refine Flow.seqT (E := fun u v => Below u.heap.size u v) [(some 26, []), (some 27, []), (some 28, [0, 1])] (fun iQ vQ wQ => match iQ with | 0 => vQ = (.int .i64 k) | 1 => vQ = (.int .i64 mn) | 2 => vQ = (.bool true) | _ => True) rfl (by kernel_rfl) (Below.refl _ _) (fun _ _ _ h k => h.trans (k.mono h.size)) (fun _ _ _ _ h _ => h) ?_ ?_
   ·refine ⟨?_, ?_, ?_, trivial⟩
    ·intro a w' hx hu hd K hK; have e10 : a.tmps.getD 10 undef = (.int .i64 k) := hu 10 rfl; exact Flow.run1 rfl (Flow.r_move rfl e10) (hK _ _ (Below.refl _ _) rfl)
    ·intro a w' hx hu hd K hK; have e5 : a.tmps.getD 5 undef = (.int .i64 mn) := hu 5 rfl; exact Flow.run1 rfl (Flow.r_move rfl e5) (hK _ _ (Below.refl _ _) rfl)
    ·intro a w' hx hu hd K hK; have e26 := Flow.got (hd 0 rfl) 26 rfl; have e27 := Flow.got (hd 1 rfl) 27 rfl; exact Flow.run1 rfl (yes (lss rfl e26 e27) (decide_eq_true hlt2)) (hK _ _ (Below.refl _ _) rfl)
   intro vs W10 hb10 hT
   have v0 := Flow.eqn (hT 0 (by decide))
   have v1 := Flow.eqn (hT 1 (by decide))
   have v2 := Flow.eqn (hT 2 (by decide))
   simp only [Flow.putsT, v0, v1, v2, Act.put, List.setIfInBounds_toArray, List.set_cons_zero, List.set_cons_succ]
   clear hT v0 v1 v2
   have HB10 := Aside0.mk (below_step HBR.out hb10)
   have KA_10 := Aside0.mk (blk_below KA.out hb10)
   have K1_10 := Aside0.mk (blk_below K1.out hb10)
   clear hb10
   go_upto_region 9 with fail
   obtain ⟨t11_1, Ht11_1⟩ : ∃ tQ, Aside0 (s0 ++ ⟨#[32]⟩ = tQ) := ⟨_, ⟨rfl⟩⟩
   have zt11_1 : t11_1.size ≤ 101 := Ht11_1.out ▸ szapp zs0 (Nat.le_refl 1) (by decide)
   obtain ⟨t11_6, Ht11_6⟩ : ∃ tQ, Aside0 (t11_1 ++ (itoaB (n3 x k)) = tQ) := ⟨_, ⟨rfl⟩⟩
   have zt11_6 : t11_6.size ≤ 122 := Ht11_6.out ▸ szapp zt11_1 (itoa_size _ (HG.out.num k)) (by decide)
   refine Flow.seqT (E := fun u v => Below u.heap.size u v) [(some 31, []), (some 32, [0]), (some 33, []), (some 34, [2]), (some 35, [3]), (some 36, [4]), (some 37, [1, 5]), (some 4, [6, 5, 0, 1, 2, 3, 4, 5, 6])] (fun iQ vQ wQ => match iQ with | 0 => vQ = (.string s0) | 1 => vQ = (.string t11_1) | 2 => vQ = (.int .i64 k) | 3 => vQ = (.pointer (some ⟨g7, 0 + k, none⟩)) | 4 => vQ = (.int .i64 (n3 x k)) | 5 => vQ = (.string (itoaB (n3 x k))) | 6 => vQ = (.string t11_6) | 7 => vQ = (.string t11_6) | _ => True) rfl (by kernel_rfl) (Below.refl _ _) (fun _ _ _ h k => h.trans (k.mono h.size)) (fun _ _ _ _ h _ => h) ?_ ?_
   ·refine ⟨?_, ?_, ?_, ?_, ?_, ?_, ?_, ?_, trivial⟩
    ·intro a w' hx hu hd K hK; have e4 : a.tmps.getD 4 undef = (.string s0) := hu 4 rfl; exact Flow.run1 rfl (Flow.r_move rfl e4) (hK _ _ (Below.refl _ _) rfl)
    ·intro a w' hx hu hd K hK; have e31 := Flow.got (hd 0 rfl) 31 rfl; exact Flow.run1 rfl (Ht11_1.out ▸ cat rfl e31 rfl zs0 (Nat.le_refl 1) (by decide)) (hK _ _ (Below.refl _ _) rfl)
    ·intro a w' hx hu hd K hK; have e10 : a.tmps.getD 10 undef = (.int .i64 k) := hu 10 rfl; exact Flow.run1 rfl (Flow.r_move rfl e10) (hK _ _ (Below.refl _ _) rfl)
    ·intro a w' hx hu hd K hK; have e9 : a.tmps.getD 9 undef = (.pointer (some ⟨g7, 0, none⟩)) := hu 9 rfl; have e33 := Flow.got (hd 2 rfl) 33 rfl; exact Flow.run1 rfl (ixa (i := k) arr104_u arr104_l arr104_e size3 rfl e9 e33 (by omega)) (hK _ _ (Below.refl _ _) rfl)
    ·intro a w' hx hu hd K hK; have e34 := Flow.got (hd 3 rfl) 34 rfl; exact Flow.run1 rfl (ld rfl e34 ((blk_cell (blk_below KA_10.out hx) (0 + k)).trans (n3_at x (by omega))) Tryd.underlying3 rfl) (hK _ _ (Below.refl _ _) rfl)
    ·intro a w' hx hu hd K hK; have e35 := Flow.got (hd 4 rfl) 35 rfl; refine Flow.want rfl ?_; refine Flow.val_call rfl Tryd.func38 (by kernel_rfl) rfl (by simp only [List.map_toArray, List.map_cons, List.map_nil, Act.eval, e35] <;> rfl) (rnum_c (n3 x k) (HG.out.num k) w') ?_; rintro e w2 ⟨rfl, hb2⟩; exact ⟨_, rfl, hK _ _ hb2 (by rfl)⟩
    ·intro a w' hx hu hd K hK; have e32 := Flow.got (hd 1 rfl) 32 rfl; have e36 := Flow.got (hd 5 rfl) 36 rfl; exact Flow.run1 rfl (Ht11_6.out ▸ cat rfl e32 e36 zt11_1 (itoa_size _ (HG.out.num k)) (by decide)) (hK _ _ (Below.refl _ _) rfl)
    ·intro a w' hx hu hd K hK; have e37 := Flow.got (hd 6 rfl) 37 rfl; exact Flow.run1 rfl (Flow.r_assign rfl e37) (hK _ _ (Below.refl _ _) rfl)
   intro vs W11 hb11 hT
   have v0 := Flow.eqn (hT 0 (by decide))
   have v1 := Flow.eqn (hT 1 (by decide))
   have v2 := Flow.eqn (hT 2 (by decide))
   have v3 := Flow.eqn (hT 3 (by decide))
   have v4 := Flow.eqn (hT 4 (by decide))
   have v5 := Flow.eqn (hT 5 (by decide))
   have v6 := Flow.eqn (hT 6 (by decide))
   have v7 := Flow.eqn (hT 7 (by decide))
   simp only [Flow.putsT, v0, v1, v2, v3, v4, v5, v6, v7, Act.put, List.setIfInBounds_toArray, List.set_cons_zero, List.set_cons_succ]
   clear hT v0 v1 v2 v3 v4 v5 v6 v7
   have HB11 := Aside0.mk (below_step HB10.out hb11)
   have KA_10_11 := Aside0.mk (blk_below KA_10.out hb11)
   have K1_10_11 := Aside0.mk (blk_below K1_10.out hb11)
   clear hb11
   obtain ⟨k1, K1H⟩ : ∃ q, Aside0 (k + 1 = q) := ⟨_, ⟨rfl⟩⟩
   have hk1 := K1H.out
   go_upto_region 8 with fail
   refine Flow.seqT (E := fun u v => Below u.heap.size u v) [(some 29, []), (some 30, [0]), (some 10, [1, 0, 1])] (fun iQ vQ wQ => match iQ with | 0 => vQ = (.int .i64 k) | 1 => vQ = (.int .i64 k1) | 2 => vQ = (.int .i64 k1) | _ => True) rfl (by kernel_rfl) (Below.refl _ _) (fun _ _ _ h k => h.trans (k.mono h.size)) (fun _ _ _ _ h _ => h) ?_ ?_
   ·refine ⟨?_, ?_, ?_, trivial⟩
    ·intro a w' hx hu hd K hK; have e10 : a.tmps.getD 10 undef = (.int .i64 k) := hu 10 rfl; exact Flow.run1 rfl (Flow.r_move rfl e10) (hK _ _ (Below.refl _ _) rfl)
    ·intro a w' hx hu hd K hK; have e29 := Flow.got (hd 0 rfl) 29 rfl; exact Flow.run1 rfl (addk rfl e29 rfl (by omega) (by omega) (by omega)) (hK _ _ (Below.refl _ _) rfl)
    ·intro a w' hx hu hd K hK; have e30 := Flow.got (hd 1 rfl) 30 rfl; exact Flow.run1 rfl (Flow.r_assign rfl e30) (hK _ _ (Below.refl _ _) rfl)
   intro vs W12 hb12 hT
   have v0 := Flow.eqn (hT 0 (by decide))
   have v1 := Flow.eqn (hT 1 (by decide))
   have v2 := Flow.eqn (hT 2 (by decide))
   simp only [Flow.putsT, v0, v1, v2, Act.put, List.setIfInBounds_toArray, List.set_cons_zero, List.set_cons_succ]
   clear hT v0 v1 v2
   have HB12 := Aside0.mk (below_step HB11.out hb12)
   have KA_10_11_12 := Aside0.mk (blk_below KA_10_11.out hb12)
   have K1_10_11_12 := Aside0.mk (blk_below K1_10_11.out hb12)
   clear hb12
   go_wp2
   go_roundg (mn - (k + 1))
   case measure => have := HGK.out; omega
   case rel => exact ⟨k1, by omega, ⟨by omega⟩, rfl, by rw [← hk1, ← nums_step, HS0.out]; simp only [Ht11_1.out, Ht11_6.out], HB12, KA_10_11_12, K1_10_11_12⟩
  ·obtain rfl : k = mn := by omega
   have hlt2 : ¬ ((k : Nat) : Int) < k := by omega
   go_upto_region 7 with fail
   refine Flow.seqT (E := fun u v => Below u.heap.size u v) [(some 26, []), (some 27, []), (some 28, [0, 1])] (fun iQ vQ wQ => match iQ with | 0 => vQ = (.int .i64 k) | 1 => vQ = (.int .i64 k) | 2 => vQ = (.bool false) | _ => True) rfl (by kernel_rfl) (Below.refl _ _) (fun _ _ _ h k => h.trans (k.mono h.size)) (fun _ _ _ _ h _ => h) ?_ ?_
   ·refine ⟨?_, ?_, ?_, trivial⟩
    ·intro a w' hx hu hd K hK; have e10 : a.tmps.getD 10 undef = (.int .i64 k) := hu 10 rfl; exact Flow.run1 rfl (Flow.r_move rfl e10) (hK _ _ (Below.refl _ _) rfl)
    ·intro a w' hx hu hd K hK; have e5 : a.tmps.getD 5 undef = (.int .i64 k) := hu 5 rfl; exact Flow.run1 rfl (Flow.r_move rfl e5) (hK _ _ (Below.refl _ _) rfl)
    ·intro a w' hx hu hd K hK; have e26 := Flow.got (hd 0 rfl) 26 rfl; have e27 := Flow.got (hd 1 rfl) 27 rfl; exact Flow.run1 rfl (no (lss rfl e26 e27) (decide_eq_false hlt2)) (hK _ _ (Below.refl _ _) rfl)
   intro vs W13 hb13 hT
   have v0 := Flow.eqn (hT 0 (by decide))
   have v1 := Flow.eqn (hT 1 (by decide))
   have v2 := Flow.eqn (hT 2 (by decide))
   simp only [Flow.putsT, v0, v1, v2, Act.put, List.setIfInBounds_toArray, List.set_cons_zero, List.set_cons_succ]
   clear hT v0 v1 v2
   have HB13 := Aside0.mk (below_step HBR.out hb13)
   have KA_13 := Aside0.mk (blk_below KA.out hb13)
   have K1_13 := Aside0.mk (blk_below K1.out hb13)
   clear hb13
   go_upto_region 10 with fail
   refine Flow.seqT (E := fun u v => Below u.heap.size u v) [(some 38, [])] (fun iQ vQ wQ => match iQ with | 0 => vQ = (.bool bb) | _ => True) rfl (by kernel_rfl) (Below.refl _ _) (fun _ _ _ h k => h.trans (k.mono h.size)) (fun _ _ _ _ h _ => h) ?_ ?_
   ·refine ⟨?_, trivial⟩
    ·intro a w' hx hu hd K hK; have e6 : a.tmps.getD 6 undef = (.bool bb) := hu 6 rfl; exact Flow.run1 rfl (Flow.r_move rfl e6) (hK _ _ (Below.refl _ _) rfl)
   intro vs W14 hb14 hT
   have v0 := Flow.eqn (hT 0 (by decide))
   simp only [Flow.putsT, v0, Act.put, List.setIfInBounds_toArray, List.set_cons_zero, List.set_cons_succ]
   clear hT v0
   have HB14 := Aside0.mk (below_step HB13.out hb14)
   have KA_13_14 := Aside0.mk (blk_below KA_13.out hb14)
   have K1_13_14 := Aside0.mk (blk_below K1_13.out hb14)
   clear hb14
   by_cases hz : i = 0
   ·have HZ := Aside0.mk hz
    clear hz
    obtain rfl : bb = true := by rw [← HBB.out, HZ.out]; rfl
    obtain rfl : kd = 0 := by rw [← HKD.out, HZ.out]; rfl
    obtain rfl : cm = 0 := by rw [← HCM.out, HZ.out]; rfl
    have HFF := Aside0.mk (show fillC 0 0 (decide (i = 0) && x.fua) (mz x k 0) (mz x k 1) (mz x k 2) (bP i true (.slice Ad nd cd) (.slice Ak nk ck)) = [.int .i64 0, .int .i64 0, .int .i64 (mz x k 0), .int .i64 (mz x k 1), .int .i64 (mz x k 2), .slice Ad nd cd, .bool x.fua, .int .i64 0, .int .i64 0, .slice none 0 0] by rw [HZ.out]; rfl)
    go_upto_region 11 with fail
    refine Flow.seqT (E := fun u v => Below u.heap.size u v) [(some 39, []), (some 40, [0]), (some 41, [1]), (some 11, [2, 1, 0, 1, 2])] (fun iQ vQ wQ => match iQ with | 0 => vQ = (.agg #[.int .i64 x.kind, .int .i64 x.cmd, .int .i64 x.zone, .int .i64 x.at_, .int .i64 x.n, .slice Ad nd cd, .bool x.fua, .int .i64 x.m, .int .i64 x.k, .slice Ak nk ck]) | 1 => vQ = (.agg #[.int .i64 0, .int .i64 0, .int .i64 (mz x k 0), .int .i64 (mz x k 1), .int .i64 (mz x k 2), .slice Ad nd cd, .bool x.fua, .int .i64 0, .int .i64 0, .slice none 0 0]) | 2 => vQ = (.slice none 0 0) | 3 => vQ = (.slice none 0 0) | _ => True) rfl (by kernel_rfl) (Below.refl _ _) (fun _ _ _ h k => h.trans (k.mono h.size)) (fun _ _ _ _ h _ => h) ?_ ?_
    ·refine ⟨?_, ?_, ?_, ?_, trivial⟩
     ·intro a w' hx hu hd K hK; have e1 : a.tmps.getD 1 undef = (.pointer (some ⟨g1, 0, none⟩)) := hu 1 rfl; exact Flow.run1 rfl (ldrow rfl e1 (lies_block (blk_below K1_13_14.out hx)) Tryd.underlying56 rfl size56) (hK _ _ (Below.refl _ _) rfl)
     ·intro a w' hx hu hd K hK; have e39 := Flow.got (hd 0 rfl) 39 rfl; refine Flow.want rfl ?_; refine Flow.val_call rfl Tryd.func36 (by kernel_rfl) rfl (by simp only [List.map_toArray, List.map_cons, List.map_nil, Act.eval, e39] <;> rfl) (rplain_c x Ad Ak nd cd nk ck HIX.out HI.out HM.out HBB.out HKD.out HCM.out HFF.out w') ?_; rintro e w2 ⟨rfl, hb2⟩; exact ⟨_, rfl, hK _ _ hb2 (by rfl)⟩
     ·intro a w' hx hu hd K hK; have e40 := Flow.got (hd 1 rfl) 40 rfl; exact Flow.run1 rfl (fld rfl e40 (fl56_4 _)) (hK _ _ (Below.refl _ _) rfl)
     ·intro a w' hx hu hd K hK; have e41 := Flow.got (hd 2 rfl) 41 rfl; exact Flow.run1 rfl (Flow.r_assign rfl e41) (hK _ _ (Below.refl _ _) rfl)
    intro vs W15 hb15 hT
    have v0 := Flow.eqn (hT 0 (by decide))
    have v1 := Flow.eqn (hT 1 (by decide))
    have v2 := Flow.eqn (hT 2 (by decide))
    have v3 := Flow.eqn (hT 3 (by decide))
    simp only [Flow.putsT, v0, v1, v2, v3, Act.put, List.setIfInBounds_toArray, List.set_cons_zero, List.set_cons_succ]
    clear hT v0 v1 v2 v3
    have HB15 := Aside0.mk (below_step HB14.out hb15)
    have KA_13_14_15 := Aside0.mk (blk_below KA_13_14.out hb15)
    have K1_13_14_15 := Aside0.mk (blk_below K1_13_14.out hb15)
    clear hb15
    go_upto_region 12 with fail
    refine Flow.seqT (E := fun u v => Below u.heap.size u v) [(some 42, []), (some 43, [0])] (fun iQ vQ wQ => match iQ with | 0 => vQ = (.int .i64 i) | 1 => vQ = (.bool true) | _ => True) rfl (by kernel_rfl) (Below.refl _ _) (fun _ _ _ h k => h.trans (k.mono h.size)) (fun _ _ _ _ h _ => h) ?_ ?_
    ·refine ⟨?_, ?_, trivial⟩
     ·intro a w' hx hu hd K hK; have e3 : a.tmps.getD 3 undef = (.int .i64 i) := hu 3 rfl; exact Flow.run1 rfl (Flow.r_move rfl e3) (hK _ _ (Below.refl _ _) rfl)
     ·intro a w' hx hu hd K hK; have e42 := Flow.got (hd 0 rfl) 42 rfl; exact Flow.run1 rfl (yes (eql rfl e42 rfl) (beq_iff_eq.2 (by have := HZ.out; omega))) (hK _ _ (Below.refl _ _) rfl)
    intro vs W16 hb16 hT
    have v0 := Flow.eqn (hT 0 (by decide))
    have v1 := Flow.eqn (hT 1 (by decide))
    simp only [Flow.putsT, v0, v1, Act.put, List.setIfInBounds_toArray, List.set_cons_zero, List.set_cons_succ]
    clear hT v0 v1
    have HB16 := Aside0.mk (below_step HB15.out hb16)
    have KA_13_14_15_16 := Aside0.mk (blk_below KA_13_14_15.out hb16)
    have K1_13_14_15_16 := Aside0.mk (blk_below K1_13_14_15.out hb16)
    clear hb16
    go_upto_region 13 with fail
    refine Flow.seqT (E := fun u v => Below u.heap.size u v) [(some 44, []), (some 45, [0]), (some 46, [1]), (some 11, [2, 0, 1, 2])] (fun iQ vQ wQ => match iQ with | 0 => vQ = (.pointer (some ⟨g1, 1, none⟩)) | 1 => vQ = (.pointer (some ⟨g1, 5, none⟩)) | 2 => vQ = (.slice Ad nd cd) | 3 => vQ = (.slice Ad nd cd) | _ => True) rfl (by kernel_rfl) (Below.refl _ _) (fun _ _ _ h k => h.trans (k.mono h.size)) (fun _ _ _ _ h _ => h) ?_ ?_
    ·refine ⟨?_, ?_, ?_, ?_, trivial⟩
     ·intro a w' hx hu hd K hK; have e1 : a.tmps.getD 1 undef = (.pointer (some ⟨g1, 0, none⟩)) := hu 1 rfl; exact Flow.run1 rfl (fa rfl e1 (fa56_1 _ _ _)) (hK _ _ (Below.refl _ _) rfl)
     ·intro a w' hx hu hd K hK; have e44 := Flow.got (hd 0 rfl) 44 rfl; exact Flow.run1 rfl (fa rfl e44 (fa54_4 _ _ _)) (hK _ _ (Below.refl _ _) rfl)
     ·intro a w' hx hu hd K hK; have e45 := Flow.got (hd 1 rfl) 45 rfl; exact Flow.run1 rfl (ld rfl e45 ((blk_cell (blk_below K1_13_14_15_16.out hx) 5).trans rfl) Tryd.underlying43 rfl) (hK _ _ (Below.refl _ _) rfl)
     ·intro a w' hx hu hd K hK; have e46 := Flow.got (hd 2 rfl) 46 rfl; exact Flow.run1 rfl (Flow.r_assign rfl e46) (hK _ _ (Below.refl _ _) rfl)
    intro vs W17 hb17 hT
    have v0 := Flow.eqn (hT 0 (by decide))
    have v1 := Flow.eqn (hT 1 (by decide))
    have v2 := Flow.eqn (hT 2 (by decide))
    have v3 := Flow.eqn (hT 3 (by decide))
    simp only [Flow.putsT, v0, v1, v2, v3, Act.put, List.setIfInBounds_toArray, List.set_cons_zero, List.set_cons_succ]
    clear hT v0 v1 v2 v3
    have HB17 := Aside0.mk (below_step HB16.out hb17)
    have KA_13_14_15_16_17 := Aside0.mk (blk_below KA_13_14_15_16.out hb17)
    have K1_13_14_15_16_17 := Aside0.mk (blk_below K1_13_14_15_16.out hb17)
    clear hb17
    by_cases hz0 : (nd : Int) = 0
    ·have HZ0 := Aside0.mk hz0
     clear hz0
     go_upto_region 14 with fail
     refine Flow.seqT (E := fun u v => Below u.heap.size u v) [(some 47, []), (some 48, [0]), (some 49, [1])] (fun iQ vQ wQ => match iQ with | 0 => vQ = (.slice Ad nd cd) | 1 => vQ = (.int .i64 nd) | 2 => vQ = (.bool true) | _ => True) rfl (by kernel_rfl) (Below.refl _ _) (fun _ _ _ h k => h.trans (k.mono h.size)) (fun _ _ _ _ h _ => h) ?_ ?_
     ·refine ⟨?_, ?_, ?_, trivial⟩
      ·intro a w' hx hu hd K hK; have e11 : a.tmps.getD 11 undef = (.slice Ad nd cd) := hu 11 rfl; exact Flow.run1 rfl (Flow.r_move rfl e11) (hK _ _ (Below.refl _ _) rfl)
      ·intro a w' hx hu hd K hK; have e47 := Flow.got (hd 0 rfl) 47 rfl; exact Flow.run1 rfl (lenL Tryd.underlying43 rfl e47) (hK _ _ (Below.refl _ _) rfl)
      ·intro a w' hx hu hd K hK; have e48 := Flow.got (hd 1 rfl) 48 rfl; exact Flow.run1 rfl (yes (eql rfl e48 rfl) (beq_iff_eq.2 HZ0.out)) (hK _ _ (Below.refl _ _) rfl)
     intro vs W18 hb18 hT
     have v0 := Flow.eqn (hT 0 (by decide))
     have v1 := Flow.eqn (hT 1 (by decide))
     have v2 := Flow.eqn (hT 2 (by decide))
     simp only [Flow.putsT, v0, v1, v2, Act.put, List.setIfInBounds_toArray, List.set_cons_zero, List.set_cons_succ]
     clear hT v0 v1 v2
     have HB18 := Aside0.mk (below_step HB17.out hb18)
     have KA_13_14_15_16_17_18 := Aside0.mk (blk_below KA_13_14_15_16_17.out hb18)
     have K1_13_14_15_16_17_18 := Aside0.mk (blk_below K1_13_14_15_16_17.out hb18)
     clear hb18
     have HHW : Aside0 (hexW x.data = ⟨#[45]⟩) := ⟨if_pos (by rw [HND.out]; have := HZ0.out; omega)⟩
     go_upto_region 15 with fail
     obtain ⟨t19_1, Ht19_1⟩ : ∃ tQ, Aside0 (s0 ++ ⟨#[32, 45]⟩ = tQ) := ⟨_, ⟨rfl⟩⟩
     have zt19_1 : t19_1.size ≤ 102 := Ht19_1.out ▸ szapp zs0 (Nat.le_refl 2) (by decide)
     refine Flow.seqT (E := fun u v => Below u.heap.size u v) [(some 50, []), (some 51, [0]), (some 4, [1, 0, 1])] (fun iQ vQ wQ => match iQ with | 0 => vQ = (.string s0) | 1 => vQ = (.string t19_1) | 2 => vQ = (.string t19_1) | _ => True) rfl (by kernel_rfl) (Below.refl _ _) (fun _ _ _ h k => h.trans (k.mono h.size)) (fun _ _ _ _ h _ => h) ?_ ?_
     ·refine ⟨?_, ?_, ?_, trivial⟩
      ·intro a w' hx hu hd K hK; have e4 : a.tmps.getD 4 undef = (.string s0) := hu 4 rfl; exact Flow.run1 rfl (Flow.r_move rfl e4) (hK _ _ (Below.refl _ _) rfl)
      ·intro a w' hx hu hd K hK; have e50 := Flow.got (hd 0 rfl) 50 rfl; exact Flow.run1 rfl (Ht19_1.out ▸ cat rfl e50 rfl zs0 (Nat.le_refl 2) (by decide)) (hK _ _ (Below.refl _ _) rfl)
      ·intro a w' hx hu hd K hK; have e51 := Flow.got (hd 1 rfl) 51 rfl; exact Flow.run1 rfl (Flow.r_assign rfl e51) (hK _ _ (Below.refl _ _) rfl)
     intro vs W19 hb19 hT
     have v0 := Flow.eqn (hT 0 (by decide))
     have v1 := Flow.eqn (hT 1 (by decide))
     have v2 := Flow.eqn (hT 2 (by decide))
     simp only [Flow.putsT, v0, v1, v2, Act.put, List.setIfInBounds_toArray, List.set_cons_zero, List.set_cons_succ]
     clear hT v0 v1 v2
     have HB19 := Aside0.mk (below_step HB18.out hb19)
     have KA_13_14_15_16_17_18_19 := Aside0.mk (blk_below KA_13_14_15_16_17_18.out hb19)
     have K1_13_14_15_16_17_18_19 := Aside0.mk (blk_below K1_13_14_15_16_17_18.out hb19)
     clear hb19
     obtain ⟨fu, HFU⟩ : ∃ q, Aside0 (x.fua = q) := ⟨_, ⟨rfl⟩⟩
     rw [HFU.out] at K1_13_14_15_16_17_18_19
     cases fu with
     | true =>
      go_upto_region 17 with fail
      refine Flow.seqT (E := fun u v => Below u.heap.size u v) [(some 57, []), (some 58, [0]), (some 59, [1]), (some 60, [2]), (some 61, [3, 2]), (some 62, [4, 2]), (some 63, [2, 5])] (fun iQ vQ wQ => match iQ with | 0 => vQ = (.int .i64 i) | 1 => vQ = (.bool true) | 2 => vQ = (.bool true) | 3 => vQ = (.pointer (some ⟨g1, 1, none⟩)) | 4 => vQ = (.pointer (some ⟨g1, 6, none⟩)) | 5 => vQ = (.bool true) | 6 => vQ = (.bool true) | _ => True) rfl (by kernel_rfl) (Below.refl _ _) (fun _ _ _ h k => h.trans (k.mono h.size)) (fun _ _ _ _ h _ => h) ?_ ?_
      ·refine ⟨?_, ?_, ?_, ?_, ?_, ?_, ?_, trivial⟩
       ·intro a w' hx hu hd K hK; have e3 : a.tmps.getD 3 undef = (.int .i64 i) := hu 3 rfl; exact Flow.run1 rfl (Flow.r_move rfl e3) (hK _ _ (Below.refl _ _) rfl)
       ·intro a w' hx hu hd K hK; have e57 := Flow.got (hd 0 rfl) 57 rfl; exact Flow.run1 rfl (yes (eql rfl e57 rfl) (beq_iff_eq.2 (by have := HZ.out; omega))) (hK _ _ (Below.refl _ _) rfl)
       ·intro a w' hx hu hd K hK; have e58 := Flow.got (hd 1 rfl) 58 rfl; exact Flow.run1 rfl (Flow.r_move rfl e58) (hK _ _ (Below.refl _ _) rfl)
       ·intro a w' hx hu hd K hK; have e1 : a.tmps.getD 1 undef = (.pointer (some ⟨g1, 0, none⟩)) := hu 1 rfl; have e59 := Flow.got (hd 2 rfl) 59 rfl; exact Flow.run1 (Flow.want_of (k := 59) rfl e59) (fa rfl e1 (fa56_1 _ _ _)) (hK _ _ (Below.refl _ _) rfl)
       ·intro a w' hx hu hd K hK; have e60 := Flow.got (hd 3 rfl) 60 rfl; have e59 := Flow.got (hd 2 rfl) 59 rfl; exact Flow.run1 (Flow.want_of (k := 59) rfl e59) (fa rfl e60 (fa54_5 _ _ _)) (hK _ _ (Below.refl _ _) rfl)
       ·intro a w' hx hu hd K hK; have e61 := Flow.got (hd 4 rfl) 61 rfl; have e59 := Flow.got (hd 2 rfl) 59 rfl; exact Flow.run1 (Flow.want_of (k := 59) rfl e59) (ld rfl e61 ((blk_cell (blk_below K1_13_14_15_16_17_18_19.out hx) 6).trans rfl) Tryd.underlying4 rfl) (hK _ _ (Below.refl _ _) rfl)
       ·intro a w' hx hu hd K hK; have e59 := Flow.got (hd 2 rfl) 59 rfl; have e62 := Flow.got (hd 5 rfl) 62 rfl; exact Flow.run1 rfl (Flow.r_pick rfl e59 e62) (hK _ _ (Below.refl _ _) rfl)
      intro vs W20 hb20 hT
      have v0 := Flow.eqn (hT 0 (by decide))
      have v1 := Flow.eqn (hT 1 (by decide))
      have v2 := Flow.eqn (hT 2 (by decide))
      have v3 := Flow.eqn (hT 3 (by decide))
      have v4 := Flow.eqn (hT 4 (by decide))
      have v5 := Flow.eqn (hT 5 (by decide))
      have v6 := Flow.eqn (hT 6 (by decide))
      simp only [Flow.putsT, v0, v1, v2, v3, v4, v5, v6, Act.put, List.setIfInBounds_toArray, List.set_cons_zero, List.set_cons_succ]
      clear hT v0 v1 v2 v3 v4 v5 v6
      have HB20 := Aside0.mk (below_step HB19.out hb20)
      have KA_13_14_15_16_17_18_19_20 := Aside0.mk (blk_below KA_13_14_15_16_17_18_19.out hb20)
      have K1_13_14_15_16_17_18_19_20 := Aside0.mk (blk_below K1_13_14_15_16_17_18_19.out hb20)
      clear hb20
      go_upto_region 18 with fail
      obtain ⟨t21_1, Ht21_1⟩ : ∃ tQ, Aside0 (t19_1 ++ ⟨#[32, 102, 117, 97]⟩ = tQ) := ⟨_, ⟨rfl⟩⟩
      have zt21_1 : t21_1.size ≤ 106 := Ht21_1.out ▸ szapp zt19_1 (Nat.le_refl 4) (by decide)
      refine Flow.seqT (E := fun u v => Below u.heap.size u v) [(some 64, []), (some 65, [0]), (some 4, [1, 0, 1])] (fun iQ vQ wQ => match iQ with | 0 => vQ = (.string t19_1) | 1 => vQ = (.string t21_1) | 2 => vQ = (.string t21_1) | _ => True) rfl (by kernel_rfl) (Below.refl _ _) (fun _ _ _ h k => h.trans (k.mono h.size)) (fun _ _ _ _ h _ => h) ?_ ?_
      ·refine ⟨?_, ?_, ?_, trivial⟩
       ·intro a w' hx hu hd K hK; have e4 : a.tmps.getD 4 undef = (.string t19_1) := hu 4 rfl; exact Flow.run1 rfl (Flow.r_move rfl e4) (hK _ _ (Below.refl _ _) rfl)
       ·intro a w' hx hu hd K hK; have e64 := Flow.got (hd 0 rfl) 64 rfl; exact Flow.run1 rfl (Ht21_1.out ▸ cat rfl e64 rfl zt19_1 (Nat.le_refl 4) (by decide)) (hK _ _ (Below.refl _ _) rfl)
       ·intro a w' hx hu hd K hK; have e65 := Flow.got (hd 1 rfl) 65 rfl; exact Flow.run1 rfl (Flow.r_assign rfl e65) (hK _ _ (Below.refl _ _) rfl)
      intro vs W21 hb21 hT
      have v0 := Flow.eqn (hT 0 (by decide))
      have v1 := Flow.eqn (hT 1 (by decide))
      have v2 := Flow.eqn (hT 2 (by decide))
      simp only [Flow.putsT, v0, v1, v2, Act.put, List.setIfInBounds_toArray, List.set_cons_zero, List.set_cons_succ]
      clear hT v0 v1 v2
      have HB21 := Aside0.mk (below_step HB20.out hb21)
      have KA_13_14_15_16_17_18_19_20_21 := Aside0.mk (blk_below KA_13_14_15_16_17_18_19_20.out hb21)
      have K1_13_14_15_16_17_18_19_20_21 := Aside0.mk (blk_below K1_13_14_15_16_17_18_19_20.out hb21)
      clear hb21
      go_upto_region 19 with fail
      refine Flow.seqT (E := fun u v => Below u.heap.size u v) [(some 66, []), (some 2, [0, 0])] (fun iQ vQ wQ => match iQ with | 0 => vQ = (.string t21_1) | 1 => vQ = (.string t21_1) | _ => True) rfl (by kernel_rfl) (Below.refl _ _) (fun _ _ _ h k => h.trans (k.mono h.size)) (fun _ _ _ _ h _ => h) ?_ ?_
      ·refine ⟨?_, ?_, trivial⟩
       ·intro a w' hx hu hd K hK; have e4 : a.tmps.getD 4 undef = (.string t21_1) := hu 4 rfl; exact Flow.run1 rfl (Flow.r_move rfl e4) (hK _ _ (Below.refl _ _) rfl)
       ·intro a w' hx hu hd K hK; have e66 := Flow.got (hd 0 rfl) 66 rfl; exact Flow.run1 rfl (Flow.r_assign rfl e66) (hK _ _ (Below.refl _ _) rfl)
      intro vs W22 hb22 hT
      have v0 := Flow.eqn (hT 0 (by decide))
      have v1 := Flow.eqn (hT 1 (by decide))
      simp only [Flow.putsT, v0, v1, Act.put, List.setIfInBounds_toArray, List.set_cons_zero, List.set_cons_succ]
      clear hT v0 v1
      have HB22 := Aside0.mk (below_step HB21.out hb22)
      have KA_13_14_15_16_17_18_19_20_21_22 := Aside0.mk (blk_below KA_13_14_15_16_17_18_19_20_21.out hb22)
      have K1_13_14_15_16_17_18_19_20_21_22 := Aside0.mk (blk_below K1_13_14_15_16_17_18_19_20_21.out hb22)
      clear hb22
      go_wp2_with fail
      exact bodyPost_ret (results_tmp Tryd.results35 _ _ _) rfl ⟨by rw [fmt_0t HZ.out HFU.out HHW.out, z2, f2, HS0.out]; simp only [Ht19_1.out, Ht21_1.out]; rfl, HB22.out⟩
     | false =>
      go_upto_region 17 with fail
      refine Flow.seqT (E := fun u v => Below u.heap.size u v) [(some 57, []), (some 58, [0]), (some 59, [1]), (some 60, [2]), (some 61, [3, 2]), (some 62, [4, 2]), (some 63, [2, 5])] (fun iQ vQ wQ => match iQ with | 0 => vQ = (.int .i64 i) | 1 => vQ = (.bool true) | 2 => vQ = (.bool true) | 3 => vQ = (.pointer (some ⟨g1, 1, none⟩)) | 4 => vQ = (.pointer (some ⟨g1, 6, none⟩)) | 5 => vQ = (.bool false) | 6 => vQ = (.bool false) | _ => True) rfl (by kernel_rfl) (Below.refl _ _) (fun _ _ _ h k => h.trans (k.mono h.size)) (fun _ _ _ _ h _ => h) ?_ ?_
      ·refine ⟨?_, ?_, ?_, ?_, ?_, ?_, ?_, trivial⟩
       ·intro a w' hx hu hd K hK; have e3 : a.tmps.getD 3 undef = (.int .i64 i) := hu 3 rfl; exact Flow.run1 rfl (Flow.r_move rfl e3) (hK _ _ (Below.refl _ _) rfl)
       ·intro a w' hx hu hd K hK; have e57 := Flow.got (hd 0 rfl) 57 rfl; exact Flow.run1 rfl (yes (eql rfl e57 rfl) (beq_iff_eq.2 (by have := HZ.out; omega))) (hK _ _ (Below.refl _ _) rfl)
       ·intro a w' hx hu hd K hK; have e58 := Flow.got (hd 1 rfl) 58 rfl; exact Flow.run1 rfl (Flow.r_move rfl e58) (hK _ _ (Below.refl _ _) rfl)
       ·intro a w' hx hu hd K hK; have e1 : a.tmps.getD 1 undef = (.pointer (some ⟨g1, 0, none⟩)) := hu 1 rfl; have e59 := Flow.got (hd 2 rfl) 59 rfl; exact Flow.run1 (Flow.want_of (k := 59) rfl e59) (fa rfl e1 (fa56_1 _ _ _)) (hK _ _ (Below.refl _ _) rfl)
       ·intro a w' hx hu hd K hK; have e60 := Flow.got (hd 3 rfl) 60 rfl; have e59 := Flow.got (hd 2 rfl) 59 rfl; exact Flow.run1 (Flow.want_of (k := 59) rfl e59) (fa rfl e60 (fa54_5 _ _ _)) (hK _ _ (Below.refl _ _) rfl)
       ·intro a w' hx hu hd K hK; have e61 := Flow.got (hd 4 rfl) 61 rfl; have e59 := Flow.got (hd 2 rfl) 59 rfl; exact Flow.run1 (Flow.want_of (k := 59) rfl e59) (ld rfl e61 ((blk_cell (blk_below K1_13_14_15_16_17_18_19.out hx) 6).trans rfl) Tryd.underlying4 rfl) (hK _ _ (Below.refl _ _) rfl)
       ·intro a w' hx hu hd K hK; have e59 := Flow.got (hd 2 rfl) 59 rfl; have e62 := Flow.got (hd 5 rfl) 62 rfl; exact Flow.run1 rfl (Flow.r_pick rfl e59 e62) (hK _ _ (Below.refl _ _) rfl)
      intro vs W23 hb23 hT
      have v0 := Flow.eqn (hT 0 (by decide))
      have v1 := Flow.eqn (hT 1 (by decide))
      have v2 := Flow.eqn (hT 2 (by decide))
      have v3 := Flow.eqn (hT 3 (by decide))
      have v4 := Flow.eqn (hT 4 (by decide))
      have v5 := Flow.eqn (hT 5 (by decide))
      have v6 := Flow.eqn (hT 6 (by decide))
      simp only [Flow.putsT, v0, v1, v2, v3, v4, v5, v6, Act.put, List.setIfInBounds_toArray, List.set_cons_zero, List.set_cons_succ]
      clear hT v0 v1 v2 v3 v4 v5 v6
      have HB23 := Aside0.mk (below_step HB19.out hb23)
      have KA_13_14_15_16_17_18_19_23 := Aside0.mk (blk_below KA_13_14_15_16_17_18_19.out hb23)
      have K1_13_14_15_16_17_18_19_23 := Aside0.mk (blk_below K1_13_14_15_16_17_18_19.out hb23)
      clear hb23
      go_upto_region 19 with fail
      refine Flow.seqT (E := fun u v => Below u.heap.size u v) [(some 66, []), (some 2, [0, 0])] (fun iQ vQ wQ => match iQ with | 0 => vQ = (.string t19_1) | 1 => vQ = (.string t19_1) | _ => True) rfl (by kernel_rfl) (Below.refl _ _) (fun _ _ _ h k => h.trans (k.mono h.size)) (fun _ _ _ _ h _ => h) ?_ ?_
      ·refine ⟨?_, ?_, trivial⟩
       ·intro a w' hx hu hd K hK; have e4 : a.tmps.getD 4 undef = (.string t19_1) := hu 4 rfl; exact Flow.run1 rfl (Flow.r_move rfl e4) (hK _ _ (Below.refl _ _) rfl)
       ·intro a w' hx hu hd K hK; have e66 := Flow.got (hd 0 rfl) 66 rfl; exact Flow.run1 rfl (Flow.r_assign rfl e66) (hK _ _ (Below.refl _ _) rfl)
      intro vs W24 hb24 hT
      have v0 := Flow.eqn (hT 0 (by decide))
      have v1 := Flow.eqn (hT 1 (by decide))
      simp only [Flow.putsT, v0, v1, Act.put, List.setIfInBounds_toArray, List.set_cons_zero, List.set_cons_succ]
      clear hT v0 v1
      have HB24 := Aside0.mk (below_step HB23.out hb24)
      have KA_13_14_15_16_17_18_19_23_24 := Aside0.mk (blk_below KA_13_14_15_16_17_18_19_23.out hb24)
      have K1_13_14_15_16_17_18_19_23_24 := Aside0.mk (blk_below K1_13_14_15_16_17_18_19_23.out hb24)
      clear hb24
      go_wp2_with fail
      exact bodyPost_ret (results_tmp Tryd.results35 _ _ _) rfl ⟨by rw [fmt_0f HZ.out HFU.out HHW.out, z2, HS0.out]; simp only [Ht19_1.out]; rfl, HB24.out⟩
    ·have HZ0 := Aside0.mk hz0
     clear hz0
     go_upto_region 14 with fail
     refine Flow.seqT (E := fun u v => Below u.heap.size u v) [(some 47, []), (some 48, [0]), (some 49, [1])] (fun iQ vQ wQ => match iQ with | 0 => vQ = (.slice Ad nd cd) | 1 => vQ = (.int .i64 nd) | 2 => vQ = (.bool false) | _ => True) rfl (by kernel_rfl) (Below.refl _ _) (fun _ _ _ h k => h.trans (k.mono h.size)) (fun _ _ _ _ h _ => h) ?_ ?_
     ·refine ⟨?_, ?_, ?_, trivial⟩
      ·intro a w' hx hu hd K hK; have e11 : a.tmps.getD 11 undef = (.slice Ad nd cd) := hu 11 rfl; exact Flow.run1 rfl (Flow.r_move rfl e11) (hK _ _ (Below.refl _ _) rfl)
      ·intro a w' hx hu hd K hK; have e47 := Flow.got (hd 0 rfl) 47 rfl; exact Flow.run1 rfl (lenL Tryd.underlying43 rfl e47) (hK _ _ (Below.refl _ _) rfl)
      ·intro a w' hx hu hd K hK; have e48 := Flow.got (hd 1 rfl) 48 rfl; exact Flow.run1 rfl (no (eql rfl e48 rfl) (beq_eq_false_iff_ne.2 HZ0.out)) (hK _ _ (Below.refl _ _) rfl)
     intro vs W25 hb25 hT
     have v0 := Flow.eqn (hT 0 (by decide))
     have v1 := Flow.eqn (hT 1 (by decide))
     have v2 := Flow.eqn (hT 2 (by decide))
     simp only [Flow.putsT, v0, v1, v2, Act.put, List.setIfInBounds_toArray, List.set_cons_zero, List.set_cons_succ]
     clear hT v0 v1 v2
     have HB25 := Aside0.mk (below_step HB17.out hb25)
     have KA_13_14_15_16_17_25 := Aside0.mk (blk_below KA_13_14_15_16_17.out hb25)
     have K1_13_14_15_16_17_25 := Aside0.mk (blk_below K1_13_14_15_16_17.out hb25)
     clear hb25
     have HHW : Aside0 (hexW x.data = hexB x.data) := ⟨if_neg (by rw [HND.out]; have := HZ0.out; omega)⟩
     have hzz : (hexB x.data).size ≤ 2000 := by rw [hexB_size, HND.out]; have := HD1.out; omega
     go_upto_region 16 with fail
     obtain ⟨t26_1, Ht26_1⟩ : ∃ tQ, Aside0 (s0 ++ ⟨#[32]⟩ = tQ) := ⟨_, ⟨rfl⟩⟩
     have zt26_1 : t26_1.size ≤ 101 := Ht26_1.out ▸ szapp zs0 (Nat.le_refl 1) (by decide)
     obtain ⟨t26_4, Ht26_4⟩ : ∃ tQ, Aside0 (t26_1 ++ hexB x.data = tQ) := ⟨_, ⟨rfl⟩⟩
     have zt26_4 : t26_4.size ≤ 2101 := Ht26_4.out ▸ szapp zt26_1 hzz (by decide)
     refine Flow.seqT (E := fun u v => Below u.heap.size u v) [(some 52, []), (some 53, [0]), (some 54, []), (some 55, [2]), (some 56, [1, 3]), (some 4, [4, 3, 0, 1, 2, 3, 4])] (fun iQ vQ wQ => match iQ with | 0 => vQ = (.string s0) | 1 => vQ = (.string t26_1) | 2 => vQ = (.slice Ad nd cd) | 3 => vQ = (.string (hexB x.data)) | 4 => vQ = (.string t26_4) | 5 => vQ = (.string t26_4) | _ => True) rfl (by kernel_rfl) (Below.refl _ _) (fun _ _ _ h k => h.trans (k.mono h.size)) (fun _ _ _ _ h _ => h) ?_ ?_
     ·refine ⟨?_, ?_, ?_, ?_, ?_, ?_, trivial⟩
      ·intro a w' hx hu hd K hK; have e4 : a.tmps.getD 4 undef = (.string s0) := hu 4 rfl; exact Flow.run1 rfl (Flow.r_move rfl e4) (hK _ _ (Below.refl _ _) rfl)
      ·intro a w' hx hu hd K hK; have e52 := Flow.got (hd 0 rfl) 52 rfl; exact Flow.run1 rfl (Ht26_1.out ▸ cat rfl e52 rfl zs0 (Nat.le_refl 1) (by decide)) (hK _ _ (Below.refl _ _) rfl)
      ·intro a w' hx hu hd K hK; have e11 : a.tmps.getD 11 undef = (.slice Ad nd cd) := hu 11 rfl; exact Flow.run1 rfl (Flow.r_move rfl e11) (hK _ _ (Below.refl _ _) rfl)
      ·intro a w' hx hu hd K hK; have e54 := Flow.got (hd 2 rfl) 54 rfl; refine Flow.want rfl ?_; refine Flow.val_call rfl Tryd.func26 (by kernel_rfl) rfl (by simp only [List.map_toArray, List.map_cons, List.map_nil, Act.eval, e54] <;> rfl) (hexn HND.out (rhex_c x.data Ad cd HG.out.data (by rw [HND.out]; have := HD1.out; omega) w' (HND.out.symm ▸ Kd.C_below HCD.out (below_step HB25.out hx)))) ?_; rintro e w2 ⟨rfl, hb2⟩; exact ⟨_, rfl, hK _ _ hb2 (by rfl)⟩
      ·intro a w' hx hu hd K hK; have e53 := Flow.got (hd 1 rfl) 53 rfl; have e55 := Flow.got (hd 3 rfl) 55 rfl; exact Flow.run1 rfl (Ht26_4.out ▸ cat rfl e53 e55 zt26_1 hzz (by decide)) (hK _ _ (Below.refl _ _) rfl)
      ·intro a w' hx hu hd K hK; have e56 := Flow.got (hd 4 rfl) 56 rfl; exact Flow.run1 rfl (Flow.r_assign rfl e56) (hK _ _ (Below.refl _ _) rfl)
     intro vs W26 hb26 hT
     have v0 := Flow.eqn (hT 0 (by decide))
     have v1 := Flow.eqn (hT 1 (by decide))
     have v2 := Flow.eqn (hT 2 (by decide))
     have v3 := Flow.eqn (hT 3 (by decide))
     have v4 := Flow.eqn (hT 4 (by decide))
     have v5 := Flow.eqn (hT 5 (by decide))
     simp only [Flow.putsT, v0, v1, v2, v3, v4, v5, Act.put, List.setIfInBounds_toArray, List.set_cons_zero, List.set_cons_succ]
     clear hT v0 v1 v2 v3 v4 v5
     have HB26 := Aside0.mk (below_step HB25.out hb26)
     have KA_13_14_15_16_17_25_26 := Aside0.mk (blk_below KA_13_14_15_16_17_25.out hb26)
     have K1_13_14_15_16_17_25_26 := Aside0.mk (blk_below K1_13_14_15_16_17_25.out hb26)
     clear hb26
     obtain ⟨fu, HFU⟩ : ∃ q, Aside0 (x.fua = q) := ⟨_, ⟨rfl⟩⟩
     rw [HFU.out] at K1_13_14_15_16_17_25_26
     cases fu with
     | true =>
      go_upto_region 17 with fail
      refine Flow.seqT (E := fun u v => Below u.heap.size u v) [(some 57, []), (some 58, [0]), (some 59, [1]), (some 60, [2]), (some 61, [3, 2]), (some 62, [4, 2]), (some 63, [2, 5])] (fun iQ vQ wQ => match iQ with | 0 => vQ = (.int .i64 i) | 1 => vQ = (.bool true) | 2 => vQ = (.bool true) | 3 => vQ = (.pointer (some ⟨g1, 1, none⟩)) | 4 => vQ = (.pointer (some ⟨g1, 6, none⟩)) | 5 => vQ = (.bool true) | 6 => vQ = (.bool true) | _ => True) rfl (by kernel_rfl) (Below.refl _ _) (fun _ _ _ h k => h.trans (k.mono h.size)) (fun _ _ _ _ h _ => h) ?_ ?_
      ·refine ⟨?_, ?_, ?_, ?_, ?_, ?_, ?_, trivial⟩
       ·intro a w' hx hu hd K hK; have e3 : a.tmps.getD 3 undef = (.int .i64 i) := hu 3 rfl; exact Flow.run1 rfl (Flow.r_move rfl e3) (hK _ _ (Below.refl _ _) rfl)
       ·intro a w' hx hu hd K hK; have e57 := Flow.got (hd 0 rfl) 57 rfl; exact Flow.run1 rfl (yes (eql rfl e57 rfl) (beq_iff_eq.2 (by have := HZ.out; omega))) (hK _ _ (Below.refl _ _) rfl)
       ·intro a w' hx hu hd K hK; have e58 := Flow.got (hd 1 rfl) 58 rfl; exact Flow.run1 rfl (Flow.r_move rfl e58) (hK _ _ (Below.refl _ _) rfl)
       ·intro a w' hx hu hd K hK; have e1 : a.tmps.getD 1 undef = (.pointer (some ⟨g1, 0, none⟩)) := hu 1 rfl; have e59 := Flow.got (hd 2 rfl) 59 rfl; exact Flow.run1 (Flow.want_of (k := 59) rfl e59) (fa rfl e1 (fa56_1 _ _ _)) (hK _ _ (Below.refl _ _) rfl)
       ·intro a w' hx hu hd K hK; have e60 := Flow.got (hd 3 rfl) 60 rfl; have e59 := Flow.got (hd 2 rfl) 59 rfl; exact Flow.run1 (Flow.want_of (k := 59) rfl e59) (fa rfl e60 (fa54_5 _ _ _)) (hK _ _ (Below.refl _ _) rfl)
       ·intro a w' hx hu hd K hK; have e61 := Flow.got (hd 4 rfl) 61 rfl; have e59 := Flow.got (hd 2 rfl) 59 rfl; exact Flow.run1 (Flow.want_of (k := 59) rfl e59) (ld rfl e61 ((blk_cell (blk_below K1_13_14_15_16_17_25_26.out hx) 6).trans rfl) Tryd.underlying4 rfl) (hK _ _ (Below.refl _ _) rfl)
       ·intro a w' hx hu hd K hK; have e59 := Flow.got (hd 2 rfl) 59 rfl; have e62 := Flow.got (hd 5 rfl) 62 rfl; exact Flow.run1 rfl (Flow.r_pick rfl e59 e62) (hK _ _ (Below.refl _ _) rfl)
      intro vs W27 hb27 hT
      have v0 := Flow.eqn (hT 0 (by decide))
      have v1 := Flow.eqn (hT 1 (by decide))
      have v2 := Flow.eqn (hT 2 (by decide))
      have v3 := Flow.eqn (hT 3 (by decide))
      have v4 := Flow.eqn (hT 4 (by decide))
      have v5 := Flow.eqn (hT 5 (by decide))
      have v6 := Flow.eqn (hT 6 (by decide))
      simp only [Flow.putsT, v0, v1, v2, v3, v4, v5, v6, Act.put, List.setIfInBounds_toArray, List.set_cons_zero, List.set_cons_succ]
      clear hT v0 v1 v2 v3 v4 v5 v6
      have HB27 := Aside0.mk (below_step HB26.out hb27)
      have KA_13_14_15_16_17_25_26_27 := Aside0.mk (blk_below KA_13_14_15_16_17_25_26.out hb27)
      have K1_13_14_15_16_17_25_26_27 := Aside0.mk (blk_below K1_13_14_15_16_17_25_26.out hb27)
      clear hb27
      go_upto_region 18 with fail
      obtain ⟨t28_1, Ht28_1⟩ : ∃ tQ, Aside0 (t26_4 ++ ⟨#[32, 102, 117, 97]⟩ = tQ) := ⟨_, ⟨rfl⟩⟩
      have zt28_1 : t28_1.size ≤ 2105 := Ht28_1.out ▸ szapp zt26_4 (Nat.le_refl 4) (by decide)
      refine Flow.seqT (E := fun u v => Below u.heap.size u v) [(some 64, []), (some 65, [0]), (some 4, [1, 0, 1])] (fun iQ vQ wQ => match iQ with | 0 => vQ = (.string t26_4) | 1 => vQ = (.string t28_1) | 2 => vQ = (.string t28_1) | _ => True) rfl (by kernel_rfl) (Below.refl _ _) (fun _ _ _ h k => h.trans (k.mono h.size)) (fun _ _ _ _ h _ => h) ?_ ?_
      ·refine ⟨?_, ?_, ?_, trivial⟩
       ·intro a w' hx hu hd K hK; have e4 : a.tmps.getD 4 undef = (.string t26_4) := hu 4 rfl; exact Flow.run1 rfl (Flow.r_move rfl e4) (hK _ _ (Below.refl _ _) rfl)
       ·intro a w' hx hu hd K hK; have e64 := Flow.got (hd 0 rfl) 64 rfl; exact Flow.run1 rfl (Ht28_1.out ▸ cat rfl e64 rfl zt26_4 (Nat.le_refl 4) (by decide)) (hK _ _ (Below.refl _ _) rfl)
       ·intro a w' hx hu hd K hK; have e65 := Flow.got (hd 1 rfl) 65 rfl; exact Flow.run1 rfl (Flow.r_assign rfl e65) (hK _ _ (Below.refl _ _) rfl)
      intro vs W28 hb28 hT
      have v0 := Flow.eqn (hT 0 (by decide))
      have v1 := Flow.eqn (hT 1 (by decide))
      have v2 := Flow.eqn (hT 2 (by decide))
      simp only [Flow.putsT, v0, v1, v2, Act.put, List.setIfInBounds_toArray, List.set_cons_zero, List.set_cons_succ]
      clear hT v0 v1 v2
      have HB28 := Aside0.mk (below_step HB27.out hb28)
      have KA_13_14_15_16_17_25_26_27_28 := Aside0.mk (blk_below KA_13_14_15_16_17_25_26_27.out hb28)
      have K1_13_14_15_16_17_25_26_27_28 := Aside0.mk (blk_below K1_13_14_15_16_17_25_26_27.out hb28)
      clear hb28
      go_upto_region 19 with fail
      refine Flow.seqT (E := fun u v => Below u.heap.size u v) [(some 66, []), (some 2, [0, 0])] (fun iQ vQ wQ => match iQ with | 0 => vQ = (.string t28_1) | 1 => vQ = (.string t28_1) | _ => True) rfl (by kernel_rfl) (Below.refl _ _) (fun _ _ _ h k => h.trans (k.mono h.size)) (fun _ _ _ _ h _ => h) ?_ ?_
      ·refine ⟨?_, ?_, trivial⟩
       ·intro a w' hx hu hd K hK; have e4 : a.tmps.getD 4 undef = (.string t28_1) := hu 4 rfl; exact Flow.run1 rfl (Flow.r_move rfl e4) (hK _ _ (Below.refl _ _) rfl)
       ·intro a w' hx hu hd K hK; have e66 := Flow.got (hd 0 rfl) 66 rfl; exact Flow.run1 rfl (Flow.r_assign rfl e66) (hK _ _ (Below.refl _ _) rfl)
      intro vs W29 hb29 hT
      have v0 := Flow.eqn (hT 0 (by decide))
      have v1 := Flow.eqn (hT 1 (by decide))
      simp only [Flow.putsT, v0, v1, Act.put, List.setIfInBounds_toArray, List.set_cons_zero, List.set_cons_succ]
      clear hT v0 v1
      have HB29 := Aside0.mk (below_step HB28.out hb29)
      have KA_13_14_15_16_17_25_26_27_28_29 := Aside0.mk (blk_below KA_13_14_15_16_17_25_26_27_28.out hb29)
      have K1_13_14_15_16_17_25_26_27_28_29 := Aside0.mk (blk_below K1_13_14_15_16_17_25_26_27_28.out hb29)
      clear hb29
      go_wp2_with fail
      exact bodyPost_ret (results_tmp Tryd.results35 _ _ _) rfl ⟨by rw [fmt_0t HZ.out HFU.out HHW.out, f2, HS0.out]; simp only [Ht26_1.out, Ht26_4.out, Ht28_1.out]; rfl, HB29.out⟩
     | false =>
      go_upto_region 17 with fail
      refine Flow.seqT (E := fun u v => Below u.heap.size u v) [(some 57, []), (some 58, [0]), (some 59, [1]), (some 60, [2]), (some 61, [3, 2]), (some 62, [4, 2]), (some 63, [2, 5])] (fun iQ vQ wQ => match iQ with | 0 => vQ = (.int .i64 i) | 1 => vQ = (.bool true) | 2 => vQ = (.bool true) | 3 => vQ = (.pointer (some ⟨g1, 1, none⟩)) | 4 => vQ = (.pointer (some ⟨g1, 6, none⟩)) | 5 => vQ = (.bool false) | 6 => vQ = (.bool false) | _ => True) rfl (by kernel_rfl) (Below.refl _ _) (fun _ _ _ h k => h.trans (k.mono h.size)) (fun _ _ _ _ h _ => h) ?_ ?_
      ·refine ⟨?_, ?_, ?_, ?_, ?_, ?_, ?_, trivial⟩
       ·intro a w' hx hu hd K hK; have e3 : a.tmps.getD 3 undef = (.int .i64 i) := hu 3 rfl; exact Flow.run1 rfl (Flow.r_move rfl e3) (hK _ _ (Below.refl _ _) rfl)
       ·intro a w' hx hu hd K hK; have e57 := Flow.got (hd 0 rfl) 57 rfl; exact Flow.run1 rfl (yes (eql rfl e57 rfl) (beq_iff_eq.2 (by have := HZ.out; omega))) (hK _ _ (Below.refl _ _) rfl)
       ·intro a w' hx hu hd K hK; have e58 := Flow.got (hd 1 rfl) 58 rfl; exact Flow.run1 rfl (Flow.r_move rfl e58) (hK _ _ (Below.refl _ _) rfl)
       ·intro a w' hx hu hd K hK; have e1 : a.tmps.getD 1 undef = (.pointer (some ⟨g1, 0, none⟩)) := hu 1 rfl; have e59 := Flow.got (hd 2 rfl) 59 rfl; exact Flow.run1 (Flow.want_of (k := 59) rfl e59) (fa rfl e1 (fa56_1 _ _ _)) (hK _ _ (Below.refl _ _) rfl)
       ·intro a w' hx hu hd K hK; have e60 := Flow.got (hd 3 rfl) 60 rfl; have e59 := Flow.got (hd 2 rfl) 59 rfl; exact Flow.run1 (Flow.want_of (k := 59) rfl e59) (fa rfl e60 (fa54_5 _ _ _)) (hK _ _ (Below.refl _ _) rfl)
       ·intro a w' hx hu hd K hK; have e61 := Flow.got (hd 4 rfl) 61 rfl; have e59 := Flow.got (hd 2 rfl) 59 rfl; exact Flow.run1 (Flow.want_of (k := 59) rfl e59) (ld rfl e61 ((blk_cell (blk_below K1_13_14_15_16_17_25_26.out hx) 6).trans rfl) Tryd.underlying4 rfl) (hK _ _ (Below.refl _ _) rfl)
       ·intro a w' hx hu hd K hK; have e59 := Flow.got (hd 2 rfl) 59 rfl; have e62 := Flow.got (hd 5 rfl) 62 rfl; exact Flow.run1 rfl (Flow.r_pick rfl e59 e62) (hK _ _ (Below.refl _ _) rfl)
      intro vs W30 hb30 hT
      have v0 := Flow.eqn (hT 0 (by decide))
      have v1 := Flow.eqn (hT 1 (by decide))
      have v2 := Flow.eqn (hT 2 (by decide))
      have v3 := Flow.eqn (hT 3 (by decide))
      have v4 := Flow.eqn (hT 4 (by decide))
      have v5 := Flow.eqn (hT 5 (by decide))
      have v6 := Flow.eqn (hT 6 (by decide))
      simp only [Flow.putsT, v0, v1, v2, v3, v4, v5, v6, Act.put, List.setIfInBounds_toArray, List.set_cons_zero, List.set_cons_succ]
      clear hT v0 v1 v2 v3 v4 v5 v6
      have HB30 := Aside0.mk (below_step HB26.out hb30)
      have KA_13_14_15_16_17_25_26_30 := Aside0.mk (blk_below KA_13_14_15_16_17_25_26.out hb30)
      have K1_13_14_15_16_17_25_26_30 := Aside0.mk (blk_below K1_13_14_15_16_17_25_26.out hb30)
      clear hb30
      go_upto_region 19 with fail
      refine Flow.seqT (E := fun u v => Below u.heap.size u v) [(some 66, []), (some 2, [0, 0])] (fun iQ vQ wQ => match iQ with | 0 => vQ = (.string t26_4) | 1 => vQ = (.string t26_4) | _ => True) rfl (by kernel_rfl) (Below.refl _ _) (fun _ _ _ h k => h.trans (k.mono h.size)) (fun _ _ _ _ h _ => h) ?_ ?_
      ·refine ⟨?_, ?_, trivial⟩
       ·intro a w' hx hu hd K hK; have e4 : a.tmps.getD 4 undef = (.string t26_4) := hu 4 rfl; exact Flow.run1 rfl (Flow.r_move rfl e4) (hK _ _ (Below.refl _ _) rfl)
       ·intro a w' hx hu hd K hK; have e66 := Flow.got (hd 0 rfl) 66 rfl; exact Flow.run1 rfl (Flow.r_assign rfl e66) (hK _ _ (Below.refl _ _) rfl)
      intro vs W31 hb31 hT
      have v0 := Flow.eqn (hT 0 (by decide))
      have v1 := Flow.eqn (hT 1 (by decide))
      simp only [Flow.putsT, v0, v1, Act.put, List.setIfInBounds_toArray, List.set_cons_zero, List.set_cons_succ]
      clear hT v0 v1
      have HB31 := Aside0.mk (below_step HB30.out hb31)
      have KA_13_14_15_16_17_25_26_30_31 := Aside0.mk (blk_below KA_13_14_15_16_17_25_26_30.out hb31)
      have K1_13_14_15_16_17_25_26_30_31 := Aside0.mk (blk_below K1_13_14_15_16_17_25_26_30.out hb31)
      clear hb31
      go_wp2_with fail
      exact bodyPost_ret (results_tmp Tryd.results35 _ _ _) rfl ⟨by rw [fmt_0f HZ.out HFU.out HHW.out, HS0.out]; simp only [Ht26_1.out, Ht26_4.out]; rfl, HB31.out⟩
   ·have HZ := Aside0.mk hz
    clear hz
    cases bb with
    | false =>
     go_upto_region 17 with fail
     refine Flow.seqT (E := fun u v => Below u.heap.size u v) [(some 57, []), (some 58, [0]), (some 59, [1]), (some 60, [2]), (some 61, [3, 2]), (some 62, [4, 2]), (some 63, [2, 5])] (fun iQ vQ wQ => match iQ with | 0 => vQ = (.int .i64 i) | 1 => vQ = (.bool false) | 2 => vQ = (.bool false) | 3 => vQ = undef | 4 => vQ = undef | 5 => vQ = undef | 6 => vQ = (.bool false) | _ => True) rfl (by kernel_rfl) (Below.refl _ _) (fun _ _ _ h k => h.trans (k.mono h.size)) (fun _ _ _ _ h _ => h) ?_ ?_
     ·refine ⟨?_, ?_, ?_, ?_, ?_, ?_, ?_, trivial⟩
      ·intro a w' hx hu hd K hK; have e3 : a.tmps.getD 3 undef = (.int .i64 i) := hu 3 rfl; exact Flow.run1 rfl (Flow.r_move rfl e3) (hK _ _ (Below.refl _ _) rfl)
      ·intro a w' hx hu hd K hK; have e57 := Flow.got (hd 0 rfl) 57 rfl; exact Flow.run1 rfl (no (eql rfl e57 rfl) (beq_eq_false_iff_ne.2 (by have := HZ.out; omega))) (hK _ _ (Below.refl _ _) rfl)
      ·intro a w' hx hu hd K hK; have e58 := Flow.got (hd 1 rfl) 58 rfl; exact Flow.run1 rfl (Flow.r_move rfl e58) (hK _ _ (Below.refl _ _) rfl)
      ·intro a w' hx hu hd K hK; have e59 := Flow.got (hd 2 rfl) 59 rfl; exact Flow.spare (Flow.spare_of (k := 59) rfl e59 rfl) (hK _ _ (Below.refl _ _) rfl)
      ·intro a w' hx hu hd K hK; have e59 := Flow.got (hd 2 rfl) 59 rfl; exact Flow.spare (Flow.spare_of (k := 59) rfl e59 rfl) (hK _ _ (Below.refl _ _) rfl)
      ·intro a w' hx hu hd K hK; have e59 := Flow.got (hd 2 rfl) 59 rfl; exact Flow.spare (Flow.spare_of (k := 59) rfl e59 rfl) (hK _ _ (Below.refl _ _) rfl)
      ·intro a w' hx hu hd K hK; have e59 := Flow.got (hd 2 rfl) 59 rfl; have e62 := Flow.got (hd 5 rfl) 62 rfl; exact Flow.run1 rfl (Flow.r_pick rfl e59 rfl) (hK _ _ (Below.refl _ _) rfl)
     intro vs W32 hb32 hT
     have v0 := Flow.eqn (hT 0 (by decide))
     have v1 := Flow.eqn (hT 1 (by decide))
     have v2 := Flow.eqn (hT 2 (by decide))
     have v3 := Flow.eqn (hT 3 (by decide))
     have v4 := Flow.eqn (hT 4 (by decide))
     have v5 := Flow.eqn (hT 5 (by decide))
     have v6 := Flow.eqn (hT 6 (by decide))
     simp only [Flow.putsT, v0, v1, v2, v3, v4, v5, v6, Act.put, List.setIfInBounds_toArray, List.set_cons_zero, List.set_cons_succ]
     clear hT v0 v1 v2 v3 v4 v5 v6
     have HB32 := Aside0.mk (below_step HB14.out hb32)
     have KA_13_14_32 := Aside0.mk (blk_below KA_13_14.out hb32)
     have K1_13_14_32 := Aside0.mk (blk_below K1_13_14.out hb32)
     clear hb32
     go_upto_region 19 with fail
     refine Flow.seqT (E := fun u v => Below u.heap.size u v) [(some 66, []), (some 2, [0, 0])] (fun iQ vQ wQ => match iQ with | 0 => vQ = (.string s0) | 1 => vQ = (.string s0) | _ => True) rfl (by kernel_rfl) (Below.refl _ _) (fun _ _ _ h k => h.trans (k.mono h.size)) (fun _ _ _ _ h _ => h) ?_ ?_
     ·refine ⟨?_, ?_, trivial⟩
      ·intro a w' hx hu hd K hK; have e4 : a.tmps.getD 4 undef = (.string s0) := hu 4 rfl; exact Flow.run1 rfl (Flow.r_move rfl e4) (hK _ _ (Below.refl _ _) rfl)
      ·intro a w' hx hu hd K hK; have e66 := Flow.got (hd 0 rfl) 66 rfl; exact Flow.run1 rfl (Flow.r_assign rfl e66) (hK _ _ (Below.refl _ _) rfl)
     intro vs W33 hb33 hT
     have v0 := Flow.eqn (hT 0 (by decide))
     have v1 := Flow.eqn (hT 1 (by decide))
     simp only [Flow.putsT, v0, v1, Act.put, List.setIfInBounds_toArray, List.set_cons_zero, List.set_cons_succ]
     clear hT v0 v1
     have HB33 := Aside0.mk (below_step HB32.out hb33)
     have KA_13_14_32_33 := Aside0.mk (blk_below KA_13_14_32.out hb33)
     have K1_13_14_32_33 := Aside0.mk (blk_below K1_13_14_32.out hb33)
     clear hb33
     go_wp2_with fail
     exact bodyPost_ret (results_tmp Tryd.results35 _ _ _) rfl ⟨by rw [fmt_n HZ.out, HS0.out]; rfl, HB33.out⟩
    | true =>
     obtain ⟨rfl, rfl⟩ : kd = 3 ∧ cm = 0 := by rw [← HKD.out, ← HCM.out]; exact bytes_kind HI.out HBB.out HZ.out
     have HFF := Aside0.mk (show fillC 3 0 (decide (i = 0) && x.fua) (mz x k 0) (mz x k 1) (mz x k 2) (bP i true (.slice Ad nd cd) (.slice Ak nk ck)) = [.int .i64 3, .int .i64 0, .int .i64 0, .int .i64 0, .int .i64 0, .slice none 0 0, .bool false, .int .i64 (mz x k 0), .int .i64 (mz x k 1), .slice Ak nk ck] by unfold bP; rw [if_pos rfl, if_neg HZ.out, decide_eq_false HZ.out]; rfl)
     go_upto_region 11 with fail
     refine Flow.seqT (E := fun u v => Below u.heap.size u v) [(some 39, []), (some 40, [0]), (some 41, [1]), (some 11, [2, 1, 0, 1, 2])] (fun iQ vQ wQ => match iQ with | 0 => vQ = (.agg #[.int .i64 x.kind, .int .i64 x.cmd, .int .i64 x.zone, .int .i64 x.at_, .int .i64 x.n, .slice Ad nd cd, .bool x.fua, .int .i64 x.m, .int .i64 x.k, .slice Ak nk ck]) | 1 => vQ = (.agg #[.int .i64 3, .int .i64 0, .int .i64 0, .int .i64 0, .int .i64 0, .slice none 0 0, .bool false, .int .i64 (mz x k 0), .int .i64 (mz x k 1), .slice Ak nk ck]) | 2 => vQ = (.slice Ak nk ck) | 3 => vQ = (.slice Ak nk ck) | _ => True) rfl (by kernel_rfl) (Below.refl _ _) (fun _ _ _ h k => h.trans (k.mono h.size)) (fun _ _ _ _ h _ => h) ?_ ?_
     ·refine ⟨?_, ?_, ?_, ?_, trivial⟩
      ·intro a w' hx hu hd K hK; have e1 : a.tmps.getD 1 undef = (.pointer (some ⟨g1, 0, none⟩)) := hu 1 rfl; exact Flow.run1 rfl (ldrow rfl e1 (lies_block (blk_below K1_13_14.out hx)) Tryd.underlying56 rfl size56) (hK _ _ (Below.refl _ _) rfl)
      ·intro a w' hx hu hd K hK; have e39 := Flow.got (hd 0 rfl) 39 rfl; refine Flow.want rfl ?_; refine Flow.val_call rfl Tryd.func36 (by kernel_rfl) rfl (by simp only [List.map_toArray, List.map_cons, List.map_nil, Act.eval, e39] <;> rfl) (rplain_c x Ad Ak nd cd nk ck HIX.out HI.out HM.out HBB.out HKD.out HCM.out HFF.out w') ?_; rintro e w2 ⟨rfl, hb2⟩; exact ⟨_, rfl, hK _ _ hb2 (by rfl)⟩
      ·intro a w' hx hu hd K hK; have e40 := Flow.got (hd 1 rfl) 40 rfl; exact Flow.run1 rfl (fld rfl e40 (fl56_4 _)) (hK _ _ (Below.refl _ _) rfl)
      ·intro a w' hx hu hd K hK; have e41 := Flow.got (hd 2 rfl) 41 rfl; exact Flow.run1 rfl (Flow.r_assign rfl e41) (hK _ _ (Below.refl _ _) rfl)
     intro vs W34 hb34 hT
     have v0 := Flow.eqn (hT 0 (by decide))
     have v1 := Flow.eqn (hT 1 (by decide))
     have v2 := Flow.eqn (hT 2 (by decide))
     have v3 := Flow.eqn (hT 3 (by decide))
     simp only [Flow.putsT, v0, v1, v2, v3, Act.put, List.setIfInBounds_toArray, List.set_cons_zero, List.set_cons_succ]
     clear hT v0 v1 v2 v3
     have HB34 := Aside0.mk (below_step HB14.out hb34)
     have KA_13_14_34 := Aside0.mk (blk_below KA_13_14.out hb34)
     have K1_13_14_34 := Aside0.mk (blk_below K1_13_14.out hb34)
     clear hb34
     go_upto_region 12 with fail
     refine Flow.seqT (E := fun u v => Below u.heap.size u v) [(some 42, []), (some 43, [0])] (fun iQ vQ wQ => match iQ with | 0 => vQ = (.int .i64 i) | 1 => vQ = (.bool false) | _ => True) rfl (by kernel_rfl) (Below.refl _ _) (fun _ _ _ h k => h.trans (k.mono h.size)) (fun _ _ _ _ h _ => h) ?_ ?_
     ·refine ⟨?_, ?_, trivial⟩
      ·intro a w' hx hu hd K hK; have e3 : a.tmps.getD 3 undef = (.int .i64 i) := hu 3 rfl; exact Flow.run1 rfl (Flow.r_move rfl e3) (hK _ _ (Below.refl _ _) rfl)
      ·intro a w' hx hu hd K hK; have e42 := Flow.got (hd 0 rfl) 42 rfl; exact Flow.run1 rfl (no (eql rfl e42 rfl) (beq_eq_false_iff_ne.2 (by have := HZ.out; omega))) (hK _ _ (Below.refl _ _) rfl)
     intro vs W35 hb35 hT
     have v0 := Flow.eqn (hT 0 (by decide))
     have v1 := Flow.eqn (hT 1 (by decide))
     simp only [Flow.putsT, v0, v1, Act.put, List.setIfInBounds_toArray, List.set_cons_zero, List.set_cons_succ]
     clear hT v0 v1
     have HB35 := Aside0.mk (below_step HB34.out hb35)
     have KA_13_14_34_35 := Aside0.mk (blk_below KA_13_14_34.out hb35)
     have K1_13_14_34_35 := Aside0.mk (blk_below K1_13_14_34.out hb35)
     clear hb35
     by_cases hz0 : (nk : Int) = 0
     ·have HZ0 := Aside0.mk hz0
      clear hz0
      go_upto_region 14 with fail
      refine Flow.seqT (E := fun u v => Below u.heap.size u v) [(some 47, []), (some 48, [0]), (some 49, [1])] (fun iQ vQ wQ => match iQ with | 0 => vQ = (.slice Ak nk ck) | 1 => vQ = (.int .i64 nk) | 2 => vQ = (.bool true) | _ => True) rfl (by kernel_rfl) (Below.refl _ _) (fun _ _ _ h k => h.trans (k.mono h.size)) (fun _ _ _ _ h _ => h) ?_ ?_
      ·refine ⟨?_, ?_, ?_, trivial⟩
       ·intro a w' hx hu hd K hK; have e11 : a.tmps.getD 11 undef = (.slice Ak nk ck) := hu 11 rfl; exact Flow.run1 rfl (Flow.r_move rfl e11) (hK _ _ (Below.refl _ _) rfl)
       ·intro a w' hx hu hd K hK; have e47 := Flow.got (hd 0 rfl) 47 rfl; exact Flow.run1 rfl (lenL Tryd.underlying43 rfl e47) (hK _ _ (Below.refl _ _) rfl)
       ·intro a w' hx hu hd K hK; have e48 := Flow.got (hd 1 rfl) 48 rfl; exact Flow.run1 rfl (yes (eql rfl e48 rfl) (beq_iff_eq.2 HZ0.out)) (hK _ _ (Below.refl _ _) rfl)
      intro vs W36 hb36 hT
      have v0 := Flow.eqn (hT 0 (by decide))
      have v1 := Flow.eqn (hT 1 (by decide))
      have v2 := Flow.eqn (hT 2 (by decide))
      simp only [Flow.putsT, v0, v1, v2, Act.put, List.setIfInBounds_toArray, List.set_cons_zero, List.set_cons_succ]
      clear hT v0 v1 v2
      have HB36 := Aside0.mk (below_step HB35.out hb36)
      have KA_13_14_34_35_36 := Aside0.mk (blk_below KA_13_14_34_35.out hb36)
      have K1_13_14_34_35_36 := Aside0.mk (blk_below K1_13_14_34_35.out hb36)
      clear hb36
      have HHW : Aside0 (hexW x.keep = ⟨#[45]⟩) := ⟨if_pos (by rw [HNK.out]; have := HZ0.out; omega)⟩
      go_upto_region 15 with fail
      obtain ⟨t37_1, Ht37_1⟩ : ∃ tQ, Aside0 (s0 ++ ⟨#[32, 45]⟩ = tQ) := ⟨_, ⟨rfl⟩⟩
      have zt37_1 : t37_1.size ≤ 102 := Ht37_1.out ▸ szapp zs0 (Nat.le_refl 2) (by decide)
      refine Flow.seqT (E := fun u v => Below u.heap.size u v) [(some 50, []), (some 51, [0]), (some 4, [1, 0, 1])] (fun iQ vQ wQ => match iQ with | 0 => vQ = (.string s0) | 1 => vQ = (.string t37_1) | 2 => vQ = (.string t37_1) | _ => True) rfl (by kernel_rfl) (Below.refl _ _) (fun _ _ _ h k => h.trans (k.mono h.size)) (fun _ _ _ _ h _ => h) ?_ ?_
      ·refine ⟨?_, ?_, ?_, trivial⟩
       ·intro a w' hx hu hd K hK; have e4 : a.tmps.getD 4 undef = (.string s0) := hu 4 rfl; exact Flow.run1 rfl (Flow.r_move rfl e4) (hK _ _ (Below.refl _ _) rfl)
       ·intro a w' hx hu hd K hK; have e50 := Flow.got (hd 0 rfl) 50 rfl; exact Flow.run1 rfl (Ht37_1.out ▸ cat rfl e50 rfl zs0 (Nat.le_refl 2) (by decide)) (hK _ _ (Below.refl _ _) rfl)
       ·intro a w' hx hu hd K hK; have e51 := Flow.got (hd 1 rfl) 51 rfl; exact Flow.run1 rfl (Flow.r_assign rfl e51) (hK _ _ (Below.refl _ _) rfl)
      intro vs W37 hb37 hT
      have v0 := Flow.eqn (hT 0 (by decide))
      have v1 := Flow.eqn (hT 1 (by decide))
      have v2 := Flow.eqn (hT 2 (by decide))
      simp only [Flow.putsT, v0, v1, v2, Act.put, List.setIfInBounds_toArray, List.set_cons_zero, List.set_cons_succ]
      clear hT v0 v1 v2
      have HB37 := Aside0.mk (below_step HB36.out hb37)
      have KA_13_14_34_35_36_37 := Aside0.mk (blk_below KA_13_14_34_35_36.out hb37)
      have K1_13_14_34_35_36_37 := Aside0.mk (blk_below K1_13_14_34_35_36.out hb37)
      clear hb37
      go_upto_region 17 with fail
      refine Flow.seqT (E := fun u v => Below u.heap.size u v) [(some 57, []), (some 58, [0]), (some 59, [1]), (some 60, [2]), (some 61, [3, 2]), (some 62, [4, 2]), (some 63, [2, 5])] (fun iQ vQ wQ => match iQ with | 0 => vQ = (.int .i64 i) | 1 => vQ = (.bool false) | 2 => vQ = (.bool false) | 3 => vQ = undef | 4 => vQ = undef | 5 => vQ = undef | 6 => vQ = (.bool false) | _ => True) rfl (by kernel_rfl) (Below.refl _ _) (fun _ _ _ h k => h.trans (k.mono h.size)) (fun _ _ _ _ h _ => h) ?_ ?_
      ·refine ⟨?_, ?_, ?_, ?_, ?_, ?_, ?_, trivial⟩
       ·intro a w' hx hu hd K hK; have e3 : a.tmps.getD 3 undef = (.int .i64 i) := hu 3 rfl; exact Flow.run1 rfl (Flow.r_move rfl e3) (hK _ _ (Below.refl _ _) rfl)
       ·intro a w' hx hu hd K hK; have e57 := Flow.got (hd 0 rfl) 57 rfl; exact Flow.run1 rfl (no (eql rfl e57 rfl) (beq_eq_false_iff_ne.2 (by have := HZ.out; omega))) (hK _ _ (Below.refl _ _) rfl)
       ·intro a w' hx hu hd K hK; have e58 := Flow.got (hd 1 rfl) 58 rfl; exact Flow.run1 rfl (Flow.r_move rfl e58) (hK _ _ (Below.refl _ _) rfl)
       ·intro a w' hx hu hd K hK; have e59 := Flow.got (hd 2 rfl) 59 rfl; exact Flow.spare (Flow.spare_of (k := 59) rfl e59 rfl) (hK _ _ (Below.refl _ _) rfl)
       ·intro a w' hx hu hd K hK; have e59 := Flow.got (hd 2 rfl) 59 rfl; exact Flow.spare (Flow.spare_of (k := 59) rfl e59 rfl) (hK _ _ (Below.refl _ _) rfl)
       ·intro a w' hx hu hd K hK; have e59 := Flow.got (hd 2 rfl) 59 rfl; exact Flow.spare (Flow.spare_of (k := 59) rfl e59 rfl) (hK _ _ (Below.refl _ _) rfl)
       ·intro a w' hx hu hd K hK; have e59 := Flow.got (hd 2 rfl) 59 rfl; have e62 := Flow.got (hd 5 rfl) 62 rfl; exact Flow.run1 rfl (Flow.r_pick rfl e59 rfl) (hK _ _ (Below.refl _ _) rfl)
      intro vs W38 hb38 hT
      have v0 := Flow.eqn (hT 0 (by decide))
      have v1 := Flow.eqn (hT 1 (by decide))
      have v2 := Flow.eqn (hT 2 (by decide))
      have v3 := Flow.eqn (hT 3 (by decide))
      have v4 := Flow.eqn (hT 4 (by decide))
      have v5 := Flow.eqn (hT 5 (by decide))
      have v6 := Flow.eqn (hT 6 (by decide))
      simp only [Flow.putsT, v0, v1, v2, v3, v4, v5, v6, Act.put, List.setIfInBounds_toArray, List.set_cons_zero, List.set_cons_succ]
      clear hT v0 v1 v2 v3 v4 v5 v6
      have HB38 := Aside0.mk (below_step HB37.out hb38)
      have KA_13_14_34_35_36_37_38 := Aside0.mk (blk_below KA_13_14_34_35_36_37.out hb38)
      have K1_13_14_34_35_36_37_38 := Aside0.mk (blk_below K1_13_14_34_35_36_37.out hb38)
      clear hb38
      go_upto_region 19 with fail
      refine Flow.seqT (E := fun u v => Below u.heap.size u v) [(some 66, []), (some 2, [0, 0])] (fun iQ vQ wQ => match iQ with | 0 => vQ = (.string t37_1) | 1 => vQ = (.string t37_1) | _ => True) rfl (by kernel_rfl) (Below.refl _ _) (fun _ _ _ h k => h.trans (k.mono h.size)) (fun _ _ _ _ h _ => h) ?_ ?_
      ·refine ⟨?_, ?_, trivial⟩
       ·intro a w' hx hu hd K hK; have e4 : a.tmps.getD 4 undef = (.string t37_1) := hu 4 rfl; exact Flow.run1 rfl (Flow.r_move rfl e4) (hK _ _ (Below.refl _ _) rfl)
       ·intro a w' hx hu hd K hK; have e66 := Flow.got (hd 0 rfl) 66 rfl; exact Flow.run1 rfl (Flow.r_assign rfl e66) (hK _ _ (Below.refl _ _) rfl)
      intro vs W39 hb39 hT
      have v0 := Flow.eqn (hT 0 (by decide))
      have v1 := Flow.eqn (hT 1 (by decide))
      simp only [Flow.putsT, v0, v1, Act.put, List.setIfInBounds_toArray, List.set_cons_zero, List.set_cons_succ]
      clear hT v0 v1
      have HB39 := Aside0.mk (below_step HB38.out hb39)
      have KA_13_14_34_35_36_37_38_39 := Aside0.mk (blk_below KA_13_14_34_35_36_37_38.out hb39)
      have K1_13_14_34_35_36_37_38_39 := Aside0.mk (blk_below K1_13_14_34_35_36_37_38.out hb39)
      clear hb39
      go_wp2_with fail
      exact bodyPost_ret (results_tmp Tryd.results35 _ _ _) rfl ⟨by rw [fmt_b HZ.out HHW.out, z2, HS0.out]; simp only [Ht37_1.out]; rfl, HB39.out⟩
     ·have HZ0 := Aside0.mk hz0
      clear hz0
      go_upto_region 14 with fail
      refine Flow.seqT (E := fun u v => Below u.heap.size u v) [(some 47, []), (some 48, [0]), (some 49, [1])] (fun iQ vQ wQ => match iQ with | 0 => vQ = (.slice Ak nk ck) | 1 => vQ = (.int .i64 nk) | 2 => vQ = (.bool false) | _ => True) rfl (by kernel_rfl) (Below.refl _ _) (fun _ _ _ h k => h.trans (k.mono h.size)) (fun _ _ _ _ h _ => h) ?_ ?_
      ·refine ⟨?_, ?_, ?_, trivial⟩
       ·intro a w' hx hu hd K hK; have e11 : a.tmps.getD 11 undef = (.slice Ak nk ck) := hu 11 rfl; exact Flow.run1 rfl (Flow.r_move rfl e11) (hK _ _ (Below.refl _ _) rfl)
       ·intro a w' hx hu hd K hK; have e47 := Flow.got (hd 0 rfl) 47 rfl; exact Flow.run1 rfl (lenL Tryd.underlying43 rfl e47) (hK _ _ (Below.refl _ _) rfl)
       ·intro a w' hx hu hd K hK; have e48 := Flow.got (hd 1 rfl) 48 rfl; exact Flow.run1 rfl (no (eql rfl e48 rfl) (beq_eq_false_iff_ne.2 HZ0.out)) (hK _ _ (Below.refl _ _) rfl)
      intro vs W40 hb40 hT
      have v0 := Flow.eqn (hT 0 (by decide))
      have v1 := Flow.eqn (hT 1 (by decide))
      have v2 := Flow.eqn (hT 2 (by decide))
      simp only [Flow.putsT, v0, v1, v2, Act.put, List.setIfInBounds_toArray, List.set_cons_zero, List.set_cons_succ]
      clear hT v0 v1 v2
      have HB40 := Aside0.mk (below_step HB35.out hb40)
      have KA_13_14_34_35_40 := Aside0.mk (blk_below KA_13_14_34_35.out hb40)
      have K1_13_14_34_35_40 := Aside0.mk (blk_below K1_13_14_34_35.out hb40)
      clear hb40
      have HHW : Aside0 (hexW x.keep = hexB x.keep) := ⟨if_neg (by rw [HNK.out]; have := HZ0.out; omega)⟩
      have hzz : (hexB x.keep).size ≤ 2000 := by rw [hexB_size, HNK.out]; have := HKK1.out; omega
      go_upto_region 16 with fail
      obtain ⟨t41_1, Ht41_1⟩ : ∃ tQ, Aside0 (s0 ++ ⟨#[32]⟩ = tQ) := ⟨_, ⟨rfl⟩⟩
      have zt41_1 : t41_1.size ≤ 101 := Ht41_1.out ▸ szapp zs0 (Nat.le_refl 1) (by decide)
      obtain ⟨t41_4, Ht41_4⟩ : ∃ tQ, Aside0 (t41_1 ++ hexB x.keep = tQ) := ⟨_, ⟨rfl⟩⟩
      have zt41_4 : t41_4.size ≤ 2101 := Ht41_4.out ▸ szapp zt41_1 hzz (by decide)
      refine Flow.seqT (E := fun u v => Below u.heap.size u v) [(some 52, []), (some 53, [0]), (some 54, []), (some 55, [2]), (some 56, [1, 3]), (some 4, [4, 3, 0, 1, 2, 3, 4])] (fun iQ vQ wQ => match iQ with | 0 => vQ = (.string s0) | 1 => vQ = (.string t41_1) | 2 => vQ = (.slice Ak nk ck) | 3 => vQ = (.string (hexB x.keep)) | 4 => vQ = (.string t41_4) | 5 => vQ = (.string t41_4) | _ => True) rfl (by kernel_rfl) (Below.refl _ _) (fun _ _ _ h k => h.trans (k.mono h.size)) (fun _ _ _ _ h _ => h) ?_ ?_
      ·refine ⟨?_, ?_, ?_, ?_, ?_, ?_, trivial⟩
       ·intro a w' hx hu hd K hK; have e4 : a.tmps.getD 4 undef = (.string s0) := hu 4 rfl; exact Flow.run1 rfl (Flow.r_move rfl e4) (hK _ _ (Below.refl _ _) rfl)
       ·intro a w' hx hu hd K hK; have e52 := Flow.got (hd 0 rfl) 52 rfl; exact Flow.run1 rfl (Ht41_1.out ▸ cat rfl e52 rfl zs0 (Nat.le_refl 1) (by decide)) (hK _ _ (Below.refl _ _) rfl)
       ·intro a w' hx hu hd K hK; have e11 : a.tmps.getD 11 undef = (.slice Ak nk ck) := hu 11 rfl; exact Flow.run1 rfl (Flow.r_move rfl e11) (hK _ _ (Below.refl _ _) rfl)
       ·intro a w' hx hu hd K hK; have e54 := Flow.got (hd 2 rfl) 54 rfl; refine Flow.want rfl ?_; refine Flow.val_call rfl Tryd.func26 (by kernel_rfl) rfl (by simp only [List.map_toArray, List.map_cons, List.map_nil, Act.eval, e54] <;> rfl) (hexn HNK.out (rhex_c x.keep Ak ck HG.out.keep (by rw [HNK.out]; have := HKK1.out; omega) w' (HNK.out.symm ▸ Kd.C_below HCK.out (below_step HB40.out hx)))) ?_; rintro e w2 ⟨rfl, hb2⟩; exact ⟨_, rfl, hK _ _ hb2 (by rfl)⟩
       ·intro a w' hx hu hd K hK; have e53 := Flow.got (hd 1 rfl) 53 rfl; have e55 := Flow.got (hd 3 rfl) 55 rfl; exact Flow.run1 rfl (Ht41_4.out ▸ cat rfl e53 e55 zt41_1 hzz (by decide)) (hK _ _ (Below.refl _ _) rfl)
       ·intro a w' hx hu hd K hK; have e56 := Flow.got (hd 4 rfl) 56 rfl; exact Flow.run1 rfl (Flow.r_assign rfl e56) (hK _ _ (Below.refl _ _) rfl)
      intro vs W41 hb41 hT
      have v0 := Flow.eqn (hT 0 (by decide))
      have v1 := Flow.eqn (hT 1 (by decide))
      have v2 := Flow.eqn (hT 2 (by decide))
      have v3 := Flow.eqn (hT 3 (by decide))
      have v4 := Flow.eqn (hT 4 (by decide))
      have v5 := Flow.eqn (hT 5 (by decide))
      simp only [Flow.putsT, v0, v1, v2, v3, v4, v5, Act.put, List.setIfInBounds_toArray, List.set_cons_zero, List.set_cons_succ]
      clear hT v0 v1 v2 v3 v4 v5
      have HB41 := Aside0.mk (below_step HB40.out hb41)
      have KA_13_14_34_35_40_41 := Aside0.mk (blk_below KA_13_14_34_35_40.out hb41)
      have K1_13_14_34_35_40_41 := Aside0.mk (blk_below K1_13_14_34_35_40.out hb41)
      clear hb41
      go_upto_region 17 with fail
      refine Flow.seqT (E := fun u v => Below u.heap.size u v) [(some 57, []), (some 58, [0]), (some 59, [1]), (some 60, [2]), (some 61, [3, 2]), (some 62, [4, 2]), (some 63, [2, 5])] (fun iQ vQ wQ => match iQ with | 0 => vQ = (.int .i64 i) | 1 => vQ = (.bool false) | 2 => vQ = (.bool false) | 3 => vQ = undef | 4 => vQ = undef | 5 => vQ = undef | 6 => vQ = (.bool false) | _ => True) rfl (by kernel_rfl) (Below.refl _ _) (fun _ _ _ h k => h.trans (k.mono h.size)) (fun _ _ _ _ h _ => h) ?_ ?_
      ·refine ⟨?_, ?_, ?_, ?_, ?_, ?_, ?_, trivial⟩
       ·intro a w' hx hu hd K hK; have e3 : a.tmps.getD 3 undef = (.int .i64 i) := hu 3 rfl; exact Flow.run1 rfl (Flow.r_move rfl e3) (hK _ _ (Below.refl _ _) rfl)
       ·intro a w' hx hu hd K hK; have e57 := Flow.got (hd 0 rfl) 57 rfl; exact Flow.run1 rfl (no (eql rfl e57 rfl) (beq_eq_false_iff_ne.2 (by have := HZ.out; omega))) (hK _ _ (Below.refl _ _) rfl)
       ·intro a w' hx hu hd K hK; have e58 := Flow.got (hd 1 rfl) 58 rfl; exact Flow.run1 rfl (Flow.r_move rfl e58) (hK _ _ (Below.refl _ _) rfl)
       ·intro a w' hx hu hd K hK; have e59 := Flow.got (hd 2 rfl) 59 rfl; exact Flow.spare (Flow.spare_of (k := 59) rfl e59 rfl) (hK _ _ (Below.refl _ _) rfl)
       ·intro a w' hx hu hd K hK; have e59 := Flow.got (hd 2 rfl) 59 rfl; exact Flow.spare (Flow.spare_of (k := 59) rfl e59 rfl) (hK _ _ (Below.refl _ _) rfl)
       ·intro a w' hx hu hd K hK; have e59 := Flow.got (hd 2 rfl) 59 rfl; exact Flow.spare (Flow.spare_of (k := 59) rfl e59 rfl) (hK _ _ (Below.refl _ _) rfl)
       ·intro a w' hx hu hd K hK; have e59 := Flow.got (hd 2 rfl) 59 rfl; have e62 := Flow.got (hd 5 rfl) 62 rfl; exact Flow.run1 rfl (Flow.r_pick rfl e59 rfl) (hK _ _ (Below.refl _ _) rfl)
      intro vs W42 hb42 hT
      have v0 := Flow.eqn (hT 0 (by decide))
      have v1 := Flow.eqn (hT 1 (by decide))
      have v2 := Flow.eqn (hT 2 (by decide))
      have v3 := Flow.eqn (hT 3 (by decide))
      have v4 := Flow.eqn (hT 4 (by decide))
      have v5 := Flow.eqn (hT 5 (by decide))
      have v6 := Flow.eqn (hT 6 (by decide))
      simp only [Flow.putsT, v0, v1, v2, v3, v4, v5, v6, Act.put, List.setIfInBounds_toArray, List.set_cons_zero, List.set_cons_succ]
      clear hT v0 v1 v2 v3 v4 v5 v6
      have HB42 := Aside0.mk (below_step HB41.out hb42)
      have KA_13_14_34_35_40_41_42 := Aside0.mk (blk_below KA_13_14_34_35_40_41.out hb42)
      have K1_13_14_34_35_40_41_42 := Aside0.mk (blk_below K1_13_14_34_35_40_41.out hb42)
      clear hb42
      go_upto_region 19 with fail
      refine Flow.seqT (E := fun u v => Below u.heap.size u v) [(some 66, []), (some 2, [0, 0])] (fun iQ vQ wQ => match iQ with | 0 => vQ = (.string t41_4) | 1 => vQ = (.string t41_4) | _ => True) rfl (by kernel_rfl) (Below.refl _ _) (fun _ _ _ h k => h.trans (k.mono h.size)) (fun _ _ _ _ h _ => h) ?_ ?_
      ·refine ⟨?_, ?_, trivial⟩
       ·intro a w' hx hu hd K hK; have e4 : a.tmps.getD 4 undef = (.string t41_4) := hu 4 rfl; exact Flow.run1 rfl (Flow.r_move rfl e4) (hK _ _ (Below.refl _ _) rfl)
       ·intro a w' hx hu hd K hK; have e66 := Flow.got (hd 0 rfl) 66 rfl; exact Flow.run1 rfl (Flow.r_assign rfl e66) (hK _ _ (Below.refl _ _) rfl)
      intro vs W43 hb43 hT
      have v0 := Flow.eqn (hT 0 (by decide))
      have v1 := Flow.eqn (hT 1 (by decide))
      simp only [Flow.putsT, v0, v1, Act.put, List.setIfInBounds_toArray, List.set_cons_zero, List.set_cons_succ]
      clear hT v0 v1
      have HB43 := Aside0.mk (below_step HB42.out hb43)
      have KA_13_14_34_35_40_41_42_43 := Aside0.mk (blk_below KA_13_14_34_35_40_41_42.out hb43)
      have K1_13_14_34_35_40_41_42_43 := Aside0.mk (blk_below K1_13_14_34_35_40_41_42.out hb43)
      clear hb43
      go_wp2_with fail
      exact bodyPost_ret (results_tmp Tryd.results35 _ _ _) rfl ⟨by rw [fmt_b HZ.out HHW.out, HS0.out]; simp only [Ht41_1.out, Ht41_4.out]; rfl, HB43.out⟩
set_option maxHeartbeats 4000000 in
set_option maxRecDepth 100000 in
theorem rformat_none (x : A10) (Ad Ak : Option Addr) (nd cd nk ck : Nat) (hidx : idxI x = -1) (w : World) : Calls Tryd.prog 35 #[.agg #[.int .i64 x.kind, .int .i64 x.cmd, .int .i64 x.zone, .int .i64 x.at_, .int .i64 x.n, .slice Ad nd cd, .bool x.fua, .int .i64 x.m, .int .i64 x.k, .slice Ak nk ck]] w fun e w' => e = .returned (.string ⟨#[]⟩) ∧ Below w.heap.size w w' := by
 have HIX := Aside0.mk hidx
 clear hidx
 go_enter Tryd.func35, Tryd.ntmps35
 go_upto_region 0 with fail
 refine wp_region_lit ?_
 refine ebox (v := (.agg #[.int .i64 x.kind, .int .i64 x.cmd, .int .i64 x.zone, .int .i64 x.at_, .int .i64 x.n, .slice Ad nd cd, .bool x.fua, .int .i64 x.m, .int .i64 x.k, .slice Ak nk ck])) rfl rfl rfl ?_
 intro g1 hg1 W1 hk1 hb1
 have Kg1 := Aside0.mk hk1
 have HB1 := Aside0.mk (hb1)
 clear hb1
 have Gg1 := Aside0.mk (show w.heap.size ≤ g1 by rw [hg1]; exact Nat.le_refl _)
 clear hg1 hk1
 simp only [Act.put, List.setIfInBounds_toArray, List.set_cons_zero, List.set_cons_succ]
 refine Flow.seqL (E := fun u v => Below u.heap.size u v) 1 1 [(some 1, []), (some 2, [])] (fun iQ vQ wQ => match iQ with | 1 => vQ = (.string ⟨#[]⟩) | _ => True) rfl (by decide) (by kernel_rfl) (Below.refl _ _) (fun _ _ _ h k => h.trans (k.mono h.size)) (fun _ _ _ _ h _ => h) ?_ ?_
 ·refine ⟨?_, trivial⟩
  ·intro a w' hx hu hd K hK; exact Flow.run1 rfl (Flow.r_assign rfl rfl) (hK _ _ (Below.refl _ _) rfl)
 intro vs W2 hb2 hT
 have v1 := Flow.eqn (hT 1 (by decide) (by decide))
 simp only [Flow.putsT, v1, Act.put, List.setIfInBounds_toArray, List.set_cons_zero, List.set_cons_succ, List.drop_succ_cons, List.drop_zero, List.take_succ_cons, List.take_zero]
 clear hT v1
 have HB2 := Aside0.mk (below_step HB1.out hb2)
 have Kg1_2 := Aside0.mk (blk_below Kg1.out hb2)
 clear hb2
 go_upto_region 1 with fail
 refine Flow.seqT (E := fun u v => Below u.heap.size u v) [(some 12, []), (some 13, [0]), (some 3, [1, 1, 0, 1])] (fun iQ vQ wQ => match iQ with | 0 => vQ = (.agg #[.int .i64 x.kind, .int .i64 x.cmd, .int .i64 x.zone, .int .i64 x.at_, .int .i64 x.n, .slice Ad nd cd, .bool x.fua, .int .i64 x.m, .int .i64 x.k, .slice Ak nk ck]) | 1 => vQ = (.int .i64 (-1)) | 2 => vQ = (.int .i64 (-1)) | _ => True) rfl (by kernel_rfl) (Below.refl _ _) (fun _ _ _ h k => h.trans (k.mono h.size)) (fun _ _ _ _ h _ => h) ?_ ?_
 ·refine ⟨?_, ?_, ?_, trivial⟩
  ·intro a w' hx hu hd K hK; have e1 : a.tmps.getD 1 undef = (.pointer (some ⟨g1, 0, none⟩)) := hu 1 rfl; exact Flow.run1 rfl (ldrow rfl e1 (lies_block (blk_below Kg1_2.out hx)) Tryd.underlying56 rfl size56) (hK _ _ (Below.refl _ _) rfl)
  ·intro a w' hx hu hd K hK; have e12 := Flow.got (hd 0 rfl) 12 rfl; refine Flow.want rfl ?_; refine Flow.val_call rfl Tryd.func58 (by kernel_rfl) rfl (by simp only [List.map_toArray, List.map_cons, List.map_nil, Act.eval, e12] <;> rfl) (rindex_c x Ad Ak nd cd nk ck w') ?_; rintro e w2 ⟨rfl, hb2⟩; rw [HIX.out]; exact ⟨_, rfl, hK _ _ hb2 rfl⟩
  ·intro a w' hx hu hd K hK; have e13 := Flow.got (hd 1 rfl) 13 rfl; exact Flow.run1 rfl (Flow.r_assign rfl e13) (hK _ _ (Below.refl _ _) rfl)
 intro vs W3 hb3 hT
 have v0 := Flow.eqn (hT 0 (by decide))
 have v1 := Flow.eqn (hT 1 (by decide))
 have v2 := Flow.eqn (hT 2 (by decide))
 simp only [Flow.putsT, v0, v1, v2, Act.put, List.setIfInBounds_toArray, List.set_cons_zero, List.set_cons_succ]
 clear hT v0 v1 v2
 have HB3 := Aside0.mk (below_step HB2.out hb3)
 have Kg1_2_3 := Aside0.mk (blk_below Kg1_2.out hb3)
 clear hb3
 go_upto_region 2 with fail
 refine Flow.seqT (E := fun u v => Below u.heap.size u v) [(some 14, []), (some 15, [0])] (fun iQ vQ wQ => match iQ with | 0 => vQ = (.int .i64 (-1)) | 1 => vQ = (.bool true) | _ => True) rfl (by kernel_rfl) (Below.refl _ _) (fun _ _ _ h k => h.trans (k.mono h.size)) (fun _ _ _ _ h _ => h) ?_ ?_
 ·refine ⟨?_, ?_, trivial⟩
  ·intro a w' hx hu hd K hK; have e3 : a.tmps.getD 3 undef = (.int .i64 (-1)) := hu 3 rfl; exact Flow.run1 rfl (Flow.r_move rfl e3) (hK _ _ (Below.refl _ _) rfl)
  ·intro a w' hx hu hd K hK; have e14 := Flow.got (hd 0 rfl) 14 rfl; exact Flow.run1 rfl (yes (lss rfl e14 rfl) (decide_eq_true (by decide))) (hK _ _ (Below.refl _ _) rfl)
 intro vs W4 hb4 hT
 have v0 := Flow.eqn (hT 0 (by decide))
 have v1 := Flow.eqn (hT 1 (by decide))
 simp only [Flow.putsT, v0, v1, Act.put, List.setIfInBounds_toArray, List.set_cons_zero, List.set_cons_succ]
 clear hT v0 v1
 have HB4 := Aside0.mk (below_step HB3.out hb4)
 have Kg1_2_3_4 := Aside0.mk (blk_below Kg1_2_3.out hb4)
 clear hb4
 go_upto_region 3 with fail
 refine Flow.seqT (E := fun u v => Below u.heap.size u v) [(some 2, [])] (fun iQ vQ wQ => match iQ with | 0 => vQ = (.string ⟨#[]⟩) | _ => True) rfl (by kernel_rfl) (Below.refl _ _) (fun _ _ _ h k => h.trans (k.mono h.size)) (fun _ _ _ _ h _ => h) ?_ ?_
 ·refine ⟨?_, trivial⟩
  ·intro a w' hx hu hd K hK; exact Flow.run1 rfl (Flow.r_assign rfl rfl) (hK _ _ (Below.refl _ _) rfl)
 intro vs W5 hb5 hT
 have v0 := Flow.eqn (hT 0 (by decide))
 simp only [Flow.putsT, v0, Act.put, List.setIfInBounds_toArray, List.set_cons_zero, List.set_cons_succ]
 clear hT v0
 have HB5 := Aside0.mk (below_step HB4.out hb5)
 have Kg1_2_3_4_5 := Aside0.mk (blk_below Kg1_2_3_4.out hb5)
 clear hb5
 go_wp2_with fail
 exact bodyPost_ret (results_tmp Tryd.results35 _ _ _) rfl ⟨rfl, HB5.out⟩
end Go.Proofs.YtlhmpmmblnbmbaaDoor.Con
set_option linter.unusedVariables false
set_option linter.unusedSimpArgs false
namespace Go.Proofs.YtlhmpmmblnbmbaaDoor.Con
open Go.Lib Go.RowKit Go.Proofs.YtlhmpmmblnbmbaaDoor.Ev Go.Proofs.YtlhmpmmblnbmbaaDoor.Ke Go.Proofs.YtlhmpmmblnbmbaaDoor.Cells Go.Proofs.YtlhmpmmblnbmbaaDoor.PConsoleParses Go.Proofs.YtlhmpmmblnbmbaaDoorW.PrintWords Go.Proofs.YtlhmpmmblnbmbaaDoorW.PrintLast Go.Proofs.YtlhmpmmblnbmbaaDoorW.PrintMore WordsPlain NumberPlain
open Go.Proofs.YtlhmpmmblnbmbaaDoor.Rep (I64 itoaB wordsB wordsB_one wordsB_snoc hexB)
theorem by_left (s t : ByteArray) {p : Nat} (h : p < s.size) : by_ (s ++ t) p = by_ s p := by
 rw [by_get (s ++ t) p (by rw [ByteArray.size_append]; omega), by_get s p h]
 congr 1
 exact ByteArray.getElem_append_left h
theorem by_right (s t : ByteArray) {p : Nat} (h : p < t.size) : by_ (s ++ t) (s.size + p) = by_ t p := by
 rw [by_get (s ++ t) (s.size + p) (by rw [ByteArray.size_append]; omega), by_get t p h]
 congr 1
 rw [ByteArray.getElem_append_right (by omega)]
 congr 1
 omega
theorem ex_left (s t : ByteArray) {a b : Nat} (h : b ≤ s.size) : (s ++ t).extract a b = s.extract a b := by
 have hl : b ≤ s.data.toList.length := h
 apply ByteArray.ext
 apply Array.toList_inj.1
 simp only [ByteArray.data_extract, ByteArray.data_append, Array.toList_extract, Array.toList_append, List.extract_eq_take_drop]
 by_cases hab : a ≤ b
 ·rw [List.drop_append_of_le_length (by omega), List.take_append_of_le_length (by rw [List.length_drop]; omega)]
 ·rw [show b - a = 0 by omega, List.take_zero, List.take_zero]
theorem ex_right (s t : ByteArray) : (s ++ t).extract s.size (s ++ t).size = t := by
 apply ByteArray.ext
 apply Array.toList_inj.1
 simp [ByteArray.data_extract, ByteArray.data_append]
 rw [List.drop_eq_nil_of_le (show s.data.toList.length ≤ s.size from Nat.le_refl _), List.take_nil, List.nil_append]
 exact List.take_of_length_le (show t.data.toList.length ≤ t.size from Nat.le_refl _)
theorem scan_ext (s t : ByteArray) : ∀ p, p ≤ s.size → scan (s ++ t) p = scan s p
 | 0, _ => rfl
 | p + 1, h => by
  have ih := scan_ext s t p (by omega)
  unfold scan
  simp only []
  rw [ih, by_left s t (by omega), ex_left s t (by omega)]
/-- A word: not empty, without a blank. -/
def Wd (x : ByteArray) : Prop := 0 < x.size ∧ ∀ i, i < x.size → by_ x i ≠ 32
theorem words_end {s : ByteArray} (h : (scan s s.size).1 ≥ 0) : words s = (scan s s.size).2 ++ [s.extract (scan s s.size).1.toNat s.size] := by
 unfold words
 simp only []
 rw [if_pos h]
theorem words_snoc {s y : ByteArray} {L : List ByteArray} (h0 : (scan s s.size).1 ≥ 0) (hw : words s = L) (hy : Wd y) : (scan (s ++ ⟨#[32]⟩ ++ y) (s ++ ⟨#[32]⟩ ++ y).size).1 ≥ 0 ∧ words (s ++ ⟨#[32]⟩ ++ y) = L ++ [y] := by
 obtain ⟨hy0, hyn⟩ := hy
 have hsz : (s ++ ⟨#[32]⟩).size = s.size + 1 := by rw [ByteArray.size_append]; rfl
 have e1 : scan (s ++ ⟨#[32]⟩ ++ y) s.size = scan s s.size := by
  rw [scan_ext _ _ _ (by omega), scan_ext _ _ _ (Nat.le_refl _)]
 have hb : by_ (s ++ ⟨#[32]⟩ ++ y) s.size = 32 := by
  rw [by_left _ _ (by omega)]
  exact by_right s ⟨#[32]⟩ (p := 0) (by decide)
 have e2 := scan_blank _ _ hb
 rw [e1, if_pos h0, ByteArray.append_assoc, ex_left s _ (Nat.le_refl _), ← ByteArray.append_assoc, ← words_end h0, hw] at e2
 have e3 := scan_skip (s ++ ⟨#[32]⟩ ++ y) (s.size + 1) y.size hy0 (fun i h1 h2 => by
  have h3 := by_right (s ++ ⟨#[32]⟩) y (p := i - (s.size + 1)) (by omega)
  rw [hsz, show s.size + 1 + (i - (s.size + 1)) = i by omega] at h3
  rw [h3]; exact hyn _ (by omega))
 rw [e2, if_pos (show (-1 : Int) < 0 by decide)] at e3
 have hz : (s ++ ⟨#[32]⟩ ++ y).size = s.size + 1 + y.size := by rw [ByteArray.size_append, hsz]
 have e4 : scan (s ++ ⟨#[32]⟩ ++ y) (s ++ ⟨#[32]⟩ ++ y).size = (((s.size + 1 : Nat) : Int), L) := by rw [hz]; exact e3
 have hge : (scan (s ++ ⟨#[32]⟩ ++ y) (s ++ ⟨#[32]⟩ ++ y).size).1 ≥ 0 := by rw [e4]; exact Int.natCast_nonneg _
 refine ⟨hge, ?_⟩
 rw [words_end hge, e4]
 show L ++ [(s ++ ⟨#[32]⟩ ++ y).extract (s.size + 1) _] = _
 rw [← hsz, ex_right]
theorem words_one {x : ByteArray} (hx : Wd x) : (scan x x.size).1 ≥ 0 ∧ words x = [x] := by
 obtain ⟨h0, hn⟩ := hx
 have e := scan_skip x 0 x.size h0 (fun i _ h2 => hn i (by omega))
 rw [Nat.zero_add] at e
 have e2 : scan x x.size = (((0 : Nat) : Int), []) := by rw [e]; rfl
 have hge : (scan x x.size).1 ≥ 0 := by rw [e2]; decide
 refine ⟨hge, ?_⟩
 rw [words_end hge, e2]
 show [] ++ [x.extract 0 x.size] = [x]
 rw [ByteArray.extract_zero_size]; rfl
/-- The words of words with blanks between are they. -/
theorem words_wordsB (x : ByteArray) (hx : Wd x) : ∀ n (L : List ByteArray), L.length = n → (∀ y ∈ L, Wd y) → (scan (wordsB (x :: L)) (wordsB (x :: L)).size).1 ≥ 0 ∧ words (wordsB (x :: L)) = x :: L
 | 0, L, hn, _ => by
  obtain rfl := List.length_eq_zero_iff.1 hn
  rw [wordsB_one]; exact words_one hx
 | n + 1, L, hn, hL => by
  rcases List.eq_nil_or_concat L with rfl | ⟨l, y, rfl⟩
  ·simp at hn
  ·rw [List.concat_eq_append] at hn hL ⊢
   obtain ⟨h1, h2⟩ := words_wordsB x hx n l (by simpa using hn) (fun z hz => hL z (List.mem_append_left _ hz))
   have := words_snoc h1 h2 (hL y (by simp))
   rw [show x :: (l ++ [y]) = x :: l ++ [y] from rfl, wordsB_snoc]
   exact this
end Go.Proofs.YtlhmpmmblnbmbaaDoor.Con
set_option linter.unusedVariables false
set_option linter.unusedSimpArgs false
namespace Go.Proofs.YtlhmpmmblnbmbaaDoor.Con
open Go.Lib Go.RowKit Go.Proofs.YtlhmpmmblnbmbaaDoor.Ev Go.Proofs.YtlhmpmmblnbmbaaDoor.Ke Go.Proofs.YtlhmpmmblnbmbaaDoor.Cells Go.Proofs.YtlhmpmmblnbmbaaDoor.PConsoleParses Go.Proofs.YtlhmpmmblnbmbaaDoorW.PrintWords Go.Proofs.YtlhmpmmblnbmbaaDoorW.PrintLast Go.Proofs.YtlhmpmmblnbmbaaDoorW.PrintMore WordsPlain NumberPlain
open Go.Proofs.YtlhmpmmblnbmbaaDoor.Rep (I64 itoaB wordsB wordsB_one wordsB_snoc hexB)
def DD (u : Nat) : ByteArray := ⟨(Go.Lib.decDigits u).toArray⟩
theorem DD_one {u : Nat} (h : u < 10) : DD u = ⟨#[UInt8.ofNat (48 + u)]⟩ := by
 unfold DD
 rw [Go.Lib.decDigits_one h]
theorem DD_snoc {u : Nat} (h : ¬ u < 10) : DD u = DD (u / 10) ++ ⟨#[UInt8.ofNat (48 + u % 10)]⟩ := by
 apply ByteArray.ext
 apply Array.toList_inj.1
 unfold DD
 rw [Go.Lib.decDigits, dif_neg h]
 simp
theorem alld_ext (s t : ByteArray) : ∀ p, p ≤ s.size → alld (s ++ t) p = alld s p
 | 0, _ => rfl
 | p + 1, h => by
  unfold alld
  rw [alld_ext s t p (by omega), by_left s t (by omega)]
theorem digs_ext (s t : ByteArray) : ∀ p, p ≤ s.size → digs (s ++ t) p = digs s p
 | 0, _ => rfl
 | p + 1, h => by
  unfold digs
  rw [digs_ext s t p (by omega), by_left s t (by omega)]
theorem dg_by {k : Nat} (h : k < 10) : by_ ⟨#[UInt8.ofNat (48 + k)]⟩ 0 = 48 + k := (show ∀ k : Fin 10, by_ ⟨#[UInt8.ofNat (48 + k.val)]⟩ 0 = 48 + k.val by decide +kernel) ⟨k, h⟩
/-- Digits, the number again, how many, the first. -/
theorem dd (u : Nat) : alld (DD u) (DD u).size = true ∧ digs (DD u) (DD u).size = u ∧ 0 < (DD u).size ∧ 48 ≤ by_ (DD u) 0 ∧ by_ (DD u) 0 ≤ 57 ∧ (by_ (DD u) 0 = 48 → u = 0) := by
 induction u using Nat.strongRecOn with
 | _ u ih =>
  by_cases h : u < 10
  ·have hb := dg_by h
   rw [DD_one h]
   refine ⟨?_, ?_, Nat.zero_lt_one, by rw [hb]; omega, by rw [hb]; omega, fun e => by rw [hb] at e; omega⟩
   ·show (true && isd (by_ _ 0)) = true
    rw [hb, Bool.true_and, isd_iff]; omega
   ·show 10 * (0 : Int) + ((by_ _ 0 : Nat) - 48) = u
    rw [hb]; omega
  ·obtain ⟨h1, h2, h3, h4, h5, h6⟩ := ih (u / 10) (by omega)
   have hb := dg_by (k := u % 10) (by omega)
   rw [DD_snoc h]
   obtain ⟨s, hs⟩ : ∃ q, DD (u / 10) = q := ⟨_, rfl⟩
   rw [hs] at h1 h2 h3 h4 h5 h6 ⊢
   obtain ⟨t, ht⟩ : ∃ q, (⟨#[UInt8.ofNat (48 + u % 10)]⟩ : ByteArray) = q := ⟨_, rfl⟩
   have hts : t.size = 1 := by rw [← ht]; rfl
   rw [ht] at hb ⊢
   have hz : (s ++ t).size = s.size + 1 := by rw [ByteArray.size_append, hts]
   have hr := by_right s t (p := 0) (by omega)
   rw [Nat.add_zero, hb] at hr
   rw [by_left s t (by omega), hz]
   refine ⟨?_, ?_, by omega, h4, h5, fun e => by have := h6 e; omega⟩
   ·unfold alld
    rw [alld_ext s t _ (Nat.le_refl _), h1, hr, Bool.true_and, isd_iff]; omega
   ·unfold digs
    rw [digs_ext s t _ (Nat.le_refl _), h2, hr]; omega
theorem dd_size : ∀ (k u : Nat), u < 10 ^ (k + 1) → (DD u).size ≤ k + 1
 | 0, u, h => by rw [DD_one (by simpa using h)]; exact Nat.le_refl _
 | k + 1, u, h => by
  by_cases h1 : u < 10
  ·rw [DD_one h1]; show 1 ≤ _; omega
  ·have := dd_size k (u / 10) (by rw [Nat.pow_succ] at h; omega)
   rw [DD_snoc h1, ByteArray.size_append]
   show _ + 1 ≤ _; omega
theorem itoaB_pos {n : Int} (h : ¬ n < 0) : itoaB n = DD n.toNat := by
 unfold itoaB DD Go.Lib.itoa
 rw [if_neg h]
theorem itoaB_neg {n : Int} (h : n < 0) : itoaB n = ⟨#[45]⟩ ++ DD n.natAbs := by
 apply ByteArray.ext
 apply Array.toList_inj.1
 unfold itoaB DD Go.Lib.itoa
 rw [if_pos h]
 simp
/-- A numeral is read as its number, if it has no more than twelve digits. -/
theorem numb_itoa (n : Int) (h : -999999999999 ≤ n ∧ n ≤ 999999999999) : numb (itoaB n) = (n, true) := by
 by_cases hn : n < 0
 ·obtain ⟨h1, h2, h3, h4, h5, h6⟩ := dd n.natAbs
  have hz := dd_size 11 n.natAbs (by omega)
  have hs : itoaB n = ⟨#[45]⟩ ++ DD n.natAbs := itoaB_neg hn
  obtain ⟨d, hd⟩ : ∃ q, DD n.natAbs = q := ⟨_, rfl⟩
  rw [hd] at h1 h2 h3 h4 h5 h6 hz hs
  rw [hs]
  have hm : minus (⟨#[45]⟩ ++ d) = true := by
   unfold minus
   rw [by_left ⟨#[45]⟩ d (p := 0) (by decide), ByteArray.size_append]
   simp only [Bool.and_eq_true, decide_eq_true_eq]
   exact ⟨by omega, by decide⟩
  have hr : rest (⟨#[45]⟩ ++ d) = d := by
   unfold rest
   rw [if_pos hm]
   exact ex_right ⟨#[45]⟩ d
  have hb : bad (⟨#[45]⟩ ++ d) = false := by
   unfold bad
   rw [hr]
   have e1 : decide (d.size < 1) = false := decide_eq_false (by omega)
   have e2 : decide (d.size > 12) = false := decide_eq_false (by omega)
   have e3 : (by_ d 0 == 48) = false := beq_eq_false_iff_ne.2 (fun e => by have := h6 e; omega)
   rw [e1, e2, e3]; rfl
  unfold numb
  rw [hb, hr, hm, h1, h2]
  simp only [if_true, if_false, Bool.false_eq_true]
  rw [show (-((n.natAbs : Nat) : Int)) = n by omega]
 ·obtain ⟨h1, h2, h3, h4, h5, h6⟩ := dd n.toNat
  have hz := dd_size 11 n.toNat (by omega)
  rw [itoaB_pos hn]
  obtain ⟨d, hd⟩ : ∃ q, DD n.toNat = q := ⟨_, rfl⟩
  have hone : n.toNat = 0 → d.size = 1 := fun e => by rw [← hd, e, DD_one (by decide)]; rfl
  rw [hd] at h1 h2 h3 h4 h5 h6 hz ⊢
  have hm : minus d = false := by
   unfold minus
   have : (by_ d 0 == 45) = false := beq_eq_false_iff_ne.2 (by omega)
   rw [this, Bool.and_false]
  have hr : rest d = d := by
   unfold rest
   rw [if_neg (by rw [hm]; decide)]
  have hb : bad d = false := by
   unfold bad
   rw [hr, hm]
   have e1 : decide (d.size < 1) = false := decide_eq_false (by omega)
   have e2 : decide (d.size > 12) = false := decide_eq_false (by omega)
   rw [e1, e2, Bool.or_false, Bool.or_false, Bool.false_or]
   by_cases h0 : by_ d 0 = 48
   ·have := hone (h6 h0)
    rw [this]; simp
   ·rw [beq_eq_false_iff_ne.2 h0]; rfl
  unfold numb
  rw [hb, hr, hm, h1, h2]
  simp only [if_true, if_false, Bool.false_eq_true]
  rw [show ((n.toNat : Nat) : Int) = n by omega]
theorem alld_by (d : ByteArray) : ∀ p, alld d p = true → ∀ i, i < p → 48 ≤ by_ d i ∧ by_ d i ≤ 57
 | 0, _, i, h => absurd h (Nat.not_lt_zero i)
 | p + 1, h, i, hi => by
  unfold alld at h
  rw [Bool.and_eq_true, isd_iff] at h
  rcases Nat.lt_succ_iff_lt_or_eq.1 hi with hi | rfl
  ·exact alld_by d p h.1 i hi
  ·exact h.2
theorem wd_itoa (n : Int) : Wd (itoaB n) := by
 by_cases hn : n < 0
 ·obtain ⟨h1, h2, h3, h4, h5, h6⟩ := dd n.natAbs
  rw [itoaB_neg hn]
  refine ⟨by rw [ByteArray.size_append]; omega, fun i hi => ?_⟩
  rw [ByteArray.size_append] at hi
  cases i with
  | zero => rw [by_left ⟨#[45]⟩ _ (p := 0) (by decide)]; decide
  | succ i =>
   have e := by_right ⟨#[45]⟩ (DD n.natAbs) (p := i) (by have h9 : (⟨#[45]⟩ : ByteArray).size = 1 := rfl; omega)
   have h9 : (⟨#[45]⟩ : ByteArray).size = 1 := rfl
   rw [h9, Nat.add_comm 1 i] at e
   rw [e]
   have := alld_by _ _ h1 i (by omega)
   omega
 ·obtain ⟨h1, h2, h3, h4, h5, h6⟩ := dd n.toNat
  rw [itoaB_pos hn]
  exact ⟨h3, fun i hi => by have := alld_by _ _ h1 i hi; omega⟩
end Go.Proofs.YtlhmpmmblnbmbaaDoor.Con
set_option linter.unusedVariables false
set_option linter.unusedSimpArgs false
namespace Go.Proofs.YtlhmpmmblnbmbaaDoor.Con
open Go.Lib Go.RowKit Go.Proofs.YtlhmpmmblnbmbaaDoor.Ev Go.Proofs.YtlhmpmmblnbmbaaDoor.Ke Go.Proofs.YtlhmpmmblnbmbaaDoor.Cells Go.Proofs.YtlhmpmmblnbmbaaDoor.PConsoleParses Go.Proofs.YtlhmpmmblnbmbaaDoorW.PrintWords Go.Proofs.YtlhmpmmblnbmbaaDoorW.PrintLast Go.Proofs.YtlhmpmmblnbmbaaDoorW.PrintMore WordsPlain NumberPlain
open Go.Proofs.YtlhmpmmblnbmbaaDoor.Rep (I64 itoaB wordsB wordsB_one wordsB_snoc hexB hexB_size hexN hexN_len HD B8)
theorem bt_str {xs : List Int} (h : ∀ x ∈ xs, 0 ≤ x ∧ x ≤ 255) {i : Nat} {x : Int} (hi : xs[i]? = some x) : bt (strOfNums xs) (i : Int) = x := by
 obtain ⟨hl, rfl⟩ := List.getElem?_eq_some_iff.1 hi
 have hb := h _ (List.getElem_mem hl)
 have hs : ((i : Int)).toNat < (strOfNums xs).size := by rw [strOfNums_size]; simpa using hl
 rw [← bt_at _ _ hs]
 show (((xs.map fun n => UInt8.ofNat n.toNat).toArray[((i : Int)).toNat]).toNat : Int) = _
 simp only [Int.toNat_natCast, List.getElem_toArray, List.getElem_map, UInt8.toNat_ofNat']
 omega
theorem hexN_mem {l : List Int} (h : B8 l) : ∀ x ∈ hexN l, 0 ≤ x ∧ x ≤ 255 := fun x hx => by
 obtain ⟨c, _, hx⟩ := List.mem_flatMap.1 hx
 rcases List.mem_cons.1 hx with rfl | hx
 ·exact bt_range _ _
 ·rw [List.mem_singleton.1 hx]; exact bt_range _ _
theorem hexN_at {l : List Int} {j : Nat} {c : Int} (h : l[j]? = some c) : (hexN l)[2 * j]? = some (bt HD (c / 16)) ∧ (hexN l)[2 * j + 1]? = some (bt HD (c % 16)) := by
 obtain ⟨hl, rfl⟩ := List.getElem?_eq_some_iff.1 h
 have e : hexN l = hexN (l.take j) ++ (bt HD (l[j] / 16) :: bt HD (l[j] % 16) :: hexN (l.drop (j + 1))) := by
  conv => lhs; rw [← List.take_append_drop j l, List.drop_eq_getElem_cons hl]
  unfold hexN
  rw [List.flatMap_append, List.flatMap_cons]; rfl
 have hn : (hexN (l.take j)).length = 2 * j := by rw [hexN_len, List.length_take]; omega
 rw [e]
 constructor
 ·rw [List.getElem?_append_right (by omega), hn, Nat.sub_self]; rfl
 ·rw [List.getElem?_append_right (by omega), hn, show 2 * j + 1 - 2 * j = 1 by omega]; rfl
theorem hv_dig (v : Int) (h0 : 0 ≤ v) (h1 : v < 16) : hv (bt HD v) = v := by
 have := (show ∀ v : Fin 16, hv (bt HD ((v.val : Nat) : Int)) = ((v.val : Nat) : Int) by decide +kernel) ⟨v.toNat, by omega⟩
 simp only [Int.toNat_of_nonneg h0] at this
 exact this
theorem hex_l0 {l : List Int} (h : B8 l) (hn : l.length ≤ 1000) : ∀ (m j : Nat), j + m = l.length → console_Hex.l0 (m + 2) (hexB l) (l.take j) ((2 * j : Nat) : Int) = some (l, true) := by
 intro m
 have hz : (hexB l).size = 2 * l.length := hexB_size l
 induction m with
 | zero =>
  intro j hj
  rw [show 0 + 2 = 1 + 1 from rfl, console_Hex.l0, if_neg (by omega), List.take_of_length_le (by omega)]
 | succ m ih =>
  intro j hj
  obtain ⟨c, hc⟩ : ∃ c, l[j]? = some c := ⟨_, List.getElem?_eq_getElem (by omega)⟩
  have hcb := h c (List.mem_of_getElem? hc)
  obtain ⟨a1, a2⟩ := hexN_at hc
  have b1 : bt (hexB l) ((2 * j : Nat) : Int) = bt HD (c / 16) := bt_str (hexN_mem h) a1
  have b2 : bt (hexB l) ((2 * j + 1 : Nat) : Int) = bt HD (c % 16) := bt_str (hexN_mem h) a2
  have w1 : wrap64 (((2 * j : Nat) : Int) + 1) = ((2 * j + 1 : Nat) : Int) := by unfold wrap64; omega
  have w2 : wrap64 (((2 * j : Nat) : Int) + 2) = ((2 * (j + 1) : Nat) : Int) := by unfold wrap64; omega
  rw [show m + 1 + 2 = (m + 2) + 1 from rfl, console_Hex.l0]
  rw [if_pos (by omega), if_pos (by omega), w1, w2, b1, b2, show m + 2 = (m + 1) + 1 from rfl, con_value, con_value, hv_dig _ (by omega) (by omega), hv_dig _ (by omega) (by omega)]
  simp only [Option.bind_some]
  rw [if_pos (by omega), if_pos (by omega), if_neg (by omega), if_neg (by omega), if_pos (by rw [List.length_take]; omega)]
  have w3 : wrap64 (wrap64 (16 * (c / 16)) + c % 16) % 256 = c := by unfold wrap64; omega
  rw [w3]
  have ht : l.take j ++ [c] = l.take (j + 1) := by
   obtain ⟨hl, rfl⟩ := List.getElem?_eq_some_iff.1 hc
   exact (List.take_succ_eq_append_getElem hl).symm
  rw [ht]
  exact ih (j + 1) (by omega)
theorem hex_up (t : ByteArray) (r : List Int × Bool) (n m : Nat) (h : console_Hex.f n t = some r) : console_Hex.f (n + m) t = some r := by
 induction m with
 | zero => exact h
 | succ m ih => exact console_Hex.mono _ _ _ ih
theorem hexF_eq {t : ByteArray} {r : List Int × Bool} {k : Nat} (ht : t.size ≤ 1000000) (h : console_Hex.f k t = some r) : hexF t = r := by
 obtain ⟨k2, h2⟩ := hexF_is ht
 have e1 := hex_up t r k k2 h
 have e2 := hex_up t _ k2 k h2
 rw [Nat.add_comm k2 k, e1] at e2
 exact (Option.some.inj e2).symm
/-- The bytes, told and read. -/
theorem hexF_word {l : List Int} (h : B8 l) (hn : l.length ≤ 1000) : hexF (hexW l) = (l, true) := by
 by_cases h0 : l.length = 0
 ·obtain rfl := List.length_eq_zero_iff.1 h0
  refine hexF_eq (k := 1) (by decide) ?_
  show console_Hex.f 1 ⟨#[45]⟩ = _
  unfold console_Hex.f
  rw [if_pos (by rw [ByteArray.toList_eq])]
 ·have hz : (hexB l).size = 2 * l.length := hexB_size l
  have e : hexW l = hexB l := if_neg h0
  rw [e]
  have hne1 : ¬ (hexB l).toList = ([45] : List UInt8) := fun e => by
   have h2 : (hexB l).toList.length = (hexB l).size := by rw [ByteArray.toList_eq]; rfl
   rw [e] at h2
   simp at h2
   omega
  have hne2 : ¬ (hexB l).toList = ([] : List UInt8) := fun e => by
   have h2 : (hexB l).toList.length = (hexB l).size := by rw [ByteArray.toList_eq]; rfl
   rw [e] at h2
   simp at h2
   omega
  refine hexF_eq (k := l.length + 3) (by omega) ?_
  unfold console_Hex.f
  rw [if_neg hne1, if_neg hne2, console_Hex.j0, if_neg (by rw [hz]; simp)]
  have := hex_l0 h hn l.length 0 (by omega)
  rw [List.take_zero] at this
  exact this
theorem wd_hexW {l : List Int} (h : B8 l) : Wd (hexW l) := by
 by_cases h0 : l.length = 0
 ·rw [show hexW l = ⟨#[45]⟩ from if_pos h0]
  exact ⟨by decide, fun i hi => by
   have h9 : (⟨#[45]⟩ : ByteArray).size = 1 := rfl
   obtain rfl : i = 0 := by omega
   decide⟩
 ·rw [show hexW l = hexB l from if_neg h0]
  have hz : (hexB l).size = 2 * l.length := hexB_size l
  refine ⟨by omega, fun i hi => ?_⟩
  obtain ⟨x, hx⟩ : ∃ x, (hexN l)[i]? = some x := ⟨_, List.getElem?_eq_getElem (by rw [hexN_len]; omega)⟩
  have hb : bt (hexB l) (i : Int) = x := bt_str (hexN_mem h) hx
  have hbt : bt (hexB l) (i : Int) = ((by_ (hexB l) i : Nat) : Int) := by
   rw [← bt_at _ _ (by simpa using hi), by_get _ _ hi]; rfl
  have hm := List.mem_of_getElem? hx
  obtain ⟨c, hc, hm⟩ := List.mem_flatMap.1 hm
  have hcb := h c hc
  have hd : ∀ v : Int, 0 ≤ v → v < 16 → bt HD v ≠ 32 := fun v h0 h1 => by
   have := (show ∀ v : Fin 16, bt HD ((v.val : Nat) : Int) ≠ 32 by decide +kernel) ⟨v.toNat, by omega⟩
   simp only [Int.toNat_of_nonneg h0] at this
   exact this
  intro e
  rw [hbt, e] at hb
  rcases List.mem_cons.1 hm with e2 | hm
  ·exact hd _ (by omega) (by omega) (e2.symm.trans hb.symm)
  ·exact hd _ (by omega) (by omega) ((List.mem_singleton.1 hm).symm.trans hb.symm)
end Go.Proofs.YtlhmpmmblnbmbaaDoor.Con
set_option linter.unusedVariables false
set_option linter.unusedSimpArgs false
namespace Go.Proofs.YtlhmpmmblnbmbaaDoor.Con
open Go.Lib Go.RowKit Go.Proofs.YtlhmpmmblnbmbaaDoor.Ev Go.Proofs.YtlhmpmmblnbmbaaDoor.Ke Go.Proofs.YtlhmpmmblnbmbaaDoor.Cells Go.Proofs.YtlhmpmmblnbmbaaDoor.PConsoleParses Go.Proofs.YtlhmpmmblnbmbaaDoorW.PrintWords Go.Proofs.YtlhmpmmblnbmbaaDoorW.PrintLast Go.Proofs.YtlhmpmmblnbmbaaDoorW.PrintMore WordsPlain NumberPlain
open Go.Proofs.YtlhmpmmblnbmbaaDoor.Rep (I64 itoaB wordsB wordsB_one wordsB_snoc hexB hexB_size hexN hexN_len HD B8)
theorem fin_okP {i : Nat} (hi : i < 15) (fb : Bool) {l2 : List ByteArray} (hl : l2.length = nB i) (ok : ∀ j, j < (frm i).2.2.1.length → (numb (l2.getD j ByteArray.empty)).2 = true) (hb : List Int) (vb : Value) (hvb : (frm i).2.2.2 = none → vb = .slice none 0 0 ∧ hb = []) :
  ∃ x y vd vk, fil (xF (frm i).1 (frm i).2.1 fb) (frm i).2.2.1 l2 = some x ∧ outA (hb, true) (frm i).2.2.2 (some x) = (y, true) ∧ fillC (frm i).1 (frm i).2.1 fb (nn (frm i).2.2.1.length l2 0) (nn (frm i).2.2.1.length l2 1) (nn (frm i).2.2.1.length l2 2) vb = cellsA y vd vk ∧ ∀ Pr : Value → List Int → Prop, Pr (.slice none 0 0) [] → Pr vb hb → Pr vd y.data ∧ Pr vk y.keep := by
 match i, hi with
 | 0, _ =>
  match l2, hl with
  | [t0, t1, t2], _ =>
   have h0 : (numb t0).2 = true := ok 0 (by decide)
   have h1 : (numb t1).2 = true := ok 1 (by decide)
   refine ⟨(setP (setP (xF 0 0 fb) 2 (numb t0).1) 3 (numb t1).1), (setB (setP (setP (xF 0 0 fb) 2 (numb t0).1) 3 (numb t1).1) 5 hb), vb, .slice none 0 0, ?_, rfl, ?_, ?_⟩
   ·show fil (xF 0 0 fb) [2, 3] [t0, t1, t2] = _
    simp only [fil, h0, if_true, h1, if_true]
   ·show fillC 0 0 fb (numb t0).1 (numb t1).1 0 vb = _
    unfold fillC
    rw [if_pos rfl]
    rfl
   ·exact fun Pr hnil h => ⟨h, hnil⟩
 | 1, _ =>
  match l2, hl with
  | [t0, t1, t2], _ =>
   have h0 : (numb t0).2 = true := ok 0 (by decide)
   have h1 : (numb t1).2 = true := ok 1 (by decide)
   have h2 : (numb t2).2 = true := ok 2 (by decide)
   obtain ⟨rfl, rfl⟩ := hvb rfl
   refine ⟨(setP (setP (setP (xF 0 1 fb) 2 (numb t0).1) 3 (numb t1).1) 4 (numb t2).1), (setP (setP (setP (xF 0 1 fb) 2 (numb t0).1) 3 (numb t1).1) 4 (numb t2).1), .slice none 0 0, .slice none 0 0, ?_, rfl, ?_, ?_⟩
   ·show fil (xF 0 1 fb) [2, 3, 4] [t0, t1, t2] = _
    simp only [fil, h0, if_true, h1, if_true, h2, if_true]
   ·show fillC 0 1 fb (numb t0).1 (numb t1).1 (numb t2).1 (.slice none 0 0) = _
    unfold fillC
    rw [if_pos rfl]
    rfl
   ·exact fun Pr hnil h => ⟨hnil, hnil⟩
 | 2, _ =>
  match l2, hl with
  | [], _ =>
   obtain ⟨rfl, rfl⟩ := hvb rfl
   refine ⟨(xF 0 2 fb), (xF 0 2 fb), .slice none 0 0, .slice none 0 0, ?_, rfl, ?_, ?_⟩
   ·show fil (xF 0 2 fb) [] [] = _
    simp only [fil]
   ·show fillC 0 2 fb 0 0 0 (.slice none 0 0) = _
    unfold fillC
    rw [if_pos rfl]
    rfl
   ·exact fun Pr hnil h => ⟨hnil, hnil⟩
 | 3, _ =>
  match l2, hl with
  | [t0], _ =>
   have h0 : (numb t0).2 = true := ok 0 (by decide)
   obtain ⟨rfl, rfl⟩ := hvb rfl
   refine ⟨(setP (xF 0 3 fb) 2 (numb t0).1), (setP (xF 0 3 fb) 2 (numb t0).1), .slice none 0 0, .slice none 0 0, ?_, rfl, ?_, ?_⟩
   ·show fil (xF 0 3 fb) [2] [t0] = _
    simp only [fil, h0, if_true]
   ·show fillC 0 3 fb (numb t0).1 0 0 (.slice none 0 0) = _
    unfold fillC
    rw [if_pos rfl]
    rfl
   ·exact fun Pr hnil h => ⟨hnil, hnil⟩
 | 4, _ =>
  match l2, hl with
  | [t0], _ =>
   have h0 : (numb t0).2 = true := ok 0 (by decide)
   obtain ⟨rfl, rfl⟩ := hvb rfl
   refine ⟨(setP (xF 0 4 fb) 2 (numb t0).1), (setP (xF 0 4 fb) 2 (numb t0).1), .slice none 0 0, .slice none 0 0, ?_, rfl, ?_, ?_⟩
   ·show fil (xF 0 4 fb) [2] [t0] = _
    simp only [fil, h0, if_true]
   ·show fillC 0 4 fb (numb t0).1 0 0 (.slice none 0 0) = _
    unfold fillC
    rw [if_pos rfl]
    rfl
   ·exact fun Pr hnil h => ⟨hnil, hnil⟩
 | 5, _ =>
  match l2, hl with
  | [t0], _ =>
   have h0 : (numb t0).2 = true := ok 0 (by decide)
   obtain ⟨rfl, rfl⟩ := hvb rfl
   refine ⟨(setP (xF 0 5 fb) 2 (numb t0).1), (setP (xF 0 5 fb) 2 (numb t0).1), .slice none 0 0, .slice none 0 0, ?_, rfl, ?_, ?_⟩
   ·show fil (xF 0 5 fb) [2] [t0] = _
    simp only [fil, h0, if_true]
   ·show fillC 0 5 fb (numb t0).1 0 0 (.slice none 0 0) = _
    unfold fillC
    rw [if_pos rfl]
    rfl
   ·exact fun Pr hnil h => ⟨hnil, hnil⟩
 | 6, _ =>
  match l2, hl with
  | [t0], _ =>
   have h0 : (numb t0).2 = true := ok 0 (by decide)
   obtain ⟨rfl, rfl⟩ := hvb rfl
   refine ⟨(setP (xF 0 6 fb) 2 (numb t0).1), (setP (xF 0 6 fb) 2 (numb t0).1), .slice none 0 0, .slice none 0 0, ?_, rfl, ?_, ?_⟩
   ·show fil (xF 0 6 fb) [2] [t0] = _
    simp only [fil, h0, if_true]
   ·show fillC 0 6 fb (numb t0).1 0 0 (.slice none 0 0) = _
    unfold fillC
    rw [if_pos rfl]
    rfl
   ·exact fun Pr hnil h => ⟨hnil, hnil⟩
 | 7, _ =>
  match l2, hl with
  | [t0], _ =>
   have h0 : (numb t0).2 = true := ok 0 (by decide)
   obtain ⟨rfl, rfl⟩ := hvb rfl
   refine ⟨(setP (xF 0 7 fb) 2 (numb t0).1), (setP (xF 0 7 fb) 2 (numb t0).1), .slice none 0 0, .slice none 0 0, ?_, rfl, ?_, ?_⟩
   ·show fil (xF 0 7 fb) [2] [t0] = _
    simp only [fil, h0, if_true]
   ·show fillC 0 7 fb (numb t0).1 0 0 (.slice none 0 0) = _
    unfold fillC
    rw [if_pos rfl]
    rfl
   ·exact fun Pr hnil h => ⟨hnil, hnil⟩
 | 8, _ =>
  match l2, hl with
  | [t0], _ =>
   have h0 : (numb t0).2 = true := ok 0 (by decide)
   obtain ⟨rfl, rfl⟩ := hvb rfl
   refine ⟨(setP (xF 1 0 fb) 8 (numb t0).1), (setP (xF 1 0 fb) 8 (numb t0).1), .slice none 0 0, .slice none 0 0, ?_, rfl, ?_, ?_⟩
   ·show fil (xF 1 0 fb) [8] [t0] = _
    simp only [fil, h0, if_true]
   ·show fillC 1 0 fb (numb t0).1 0 0 (.slice none 0 0) = _
    unfold fillC
    rw [if_neg (by decide), if_pos rfl]
    rfl
   ·exact fun Pr hnil h => ⟨hnil, hnil⟩
 | 9, _ =>
  match l2, hl with
  | [t0, t1], _ =>
   have h0 : (numb t0).2 = true := ok 0 (by decide)
   have h1 : (numb t1).2 = true := ok 1 (by decide)
   obtain ⟨rfl, rfl⟩ := hvb rfl
   refine ⟨(setP (setP (xF 2 0 fb) 7 (numb t0).1) 8 (numb t1).1), (setP (setP (xF 2 0 fb) 7 (numb t0).1) 8 (numb t1).1), .slice none 0 0, .slice none 0 0, ?_, rfl, ?_, ?_⟩
   ·show fil (xF 2 0 fb) [7, 8] [t0, t1] = _
    simp only [fil, h0, if_true, h1, if_true]
   ·show fillC 2 0 fb (numb t0).1 (numb t1).1 0 (.slice none 0 0) = _
    unfold fillC
    rw [if_neg (by decide), if_neg (by decide)]
    rfl
   ·exact fun Pr hnil h => ⟨hnil, hnil⟩
 | 10, _ =>
  match l2, hl with
  | [t0], _ =>
   refine ⟨(xF 3 0 fb), (setB (xF 3 0 fb) 9 hb), .slice none 0 0, vb, ?_, rfl, ?_, ?_⟩
   ·show fil (xF 3 0 fb) [] [t0] = _
    simp only [fil]
   ·show fillC 3 0 fb 0 0 0 vb = _
    unfold fillC
    rw [if_neg (by decide), if_neg (by decide)]
    rfl
   ·exact fun Pr hnil h => ⟨hnil, h⟩
 | 11, _ =>
  match l2, hl with
  | [t0], _ =>
   have h0 : (numb t0).2 = true := ok 0 (by decide)
   obtain ⟨rfl, rfl⟩ := hvb rfl
   refine ⟨(setP (xF 4 0 fb) 7 (numb t0).1), (setP (xF 4 0 fb) 7 (numb t0).1), .slice none 0 0, .slice none 0 0, ?_, rfl, ?_, ?_⟩
   ·show fil (xF 4 0 fb) [7] [t0] = _
    simp only [fil, h0, if_true]
   ·show fillC 4 0 fb (numb t0).1 0 0 (.slice none 0 0) = _
    unfold fillC
    rw [if_neg (by decide), if_neg (by decide)]
    rfl
   ·exact fun Pr hnil h => ⟨hnil, hnil⟩
 | 12, _ =>
  match l2, hl with
  | [t0], _ =>
   have h0 : (numb t0).2 = true := ok 0 (by decide)
   obtain ⟨rfl, rfl⟩ := hvb rfl
   refine ⟨(setP (xF 5 0 fb) 7 (numb t0).1), (setP (xF 5 0 fb) 7 (numb t0).1), .slice none 0 0, .slice none 0 0, ?_, rfl, ?_, ?_⟩
   ·show fil (xF 5 0 fb) [7] [t0] = _
    simp only [fil, h0, if_true]
   ·show fillC 5 0 fb (numb t0).1 0 0 (.slice none 0 0) = _
    unfold fillC
    rw [if_neg (by decide), if_neg (by decide)]
    rfl
   ·exact fun Pr hnil h => ⟨hnil, hnil⟩
 | 13, _ =>
  match l2, hl with
  | [], _ =>
   obtain ⟨rfl, rfl⟩ := hvb rfl
   refine ⟨(xF 6 0 fb), (xF 6 0 fb), .slice none 0 0, .slice none 0 0, ?_, rfl, ?_, ?_⟩
   ·show fil (xF 6 0 fb) [] [] = _
    simp only [fil]
   ·show fillC 6 0 fb 0 0 0 (.slice none 0 0) = _
    unfold fillC
    rw [if_neg (by decide), if_neg (by decide)]
    rfl
   ·exact fun Pr hnil h => ⟨hnil, hnil⟩
 | 14, _ =>
  match l2, hl with
  | [], _ =>
   obtain ⟨rfl, rfl⟩ := hvb rfl
   refine ⟨(xF 7 0 fb), (xF 7 0 fb), .slice none 0 0, .slice none 0 0, ?_, rfl, ?_, ?_⟩
   ·show fil (xF 7 0 fb) [] [] = _
    simp only [fil]
   ·show fillC 7 0 fb 0 0 0 (.slice none 0 0) = _
    unfold fillC
    rw [if_neg (by decide), if_neg (by decide)]
    rfl
   ·exact fun Pr hnil h => ⟨hnil, hnil⟩
theorem numsL_ln (x : A10) (k : Nat) : (numsL x k).length = k := by unfold numsL; simp
def Near (n : Int) : Prop := -999999999999 ≤ n ∧ n ≤ 999999999999
theorem wd_wd {i : Nat} (h : i < 15) : Wd (wd i) := by
 obtain ⟨h1, h2⟩ := (show ∀ i : Fin 15, 0 < (wd i).size ∧ ∀ j : Fin 10, j.val < (wd i).size → by_ (wd i) j ≠ 32 by decide +kernel) ⟨i, h⟩
 exact ⟨h1, fun j hj => h2 ⟨j, Nat.lt_of_lt_of_le hj (wd_size i h)⟩ hj⟩
/-- What follows the first word. -/
def tailL (x : A10) (i mn : Nat) (bb : Bool) : List ByteArray := numsL x mn ++ (if bb = true then [hexW (if i = 0 then x.data else x.keep)] else [])
theorem fmtL_is (x : A10) (i mn : Nat) (bb : Bool) : fmtL x i mn bb = wd i :: (tailL x i mn bb ++ (if i = 0 ∧ x.fua = true then [FUA] else [])) := by
 unfold fmtL tailL
 rfl
theorem tailL_len (x : A10) (i mn : Nat) (bb : Bool) : (tailL x i mn bb).length = mn + (if bb = true then 1 else 0) := by
 unfold tailL
 rw [List.length_append, numsL_ln]
 cases bb <;> rfl
theorem tailL_num (x : A10) (i mn : Nat) (bb : Bool) {j : Nat} (hj : j < mn) : (tailL x i mn bb).getD j ByteArray.empty = itoaB (n3 x j) := by
 unfold tailL
 rw [List.getD_eq_getElem?_getD, List.getElem?_append_left (by rw [numsL_ln]; exact hj)]
 unfold numsL
 rw [List.getElem?_map, List.getElem?_range hj]
 rfl
theorem tailL_hex (x : A10) (i mn : Nat) : (tailL x i mn true).getD mn ByteArray.empty = hexW (if i = 0 then x.data else x.keep) := by
 unfold tailL
 rw [if_pos rfl, List.getD_eq_getElem?_getD, List.getElem?_append_right (by rw [numsL_ln]; exact Nat.le_refl _), numsL_ln, Nat.sub_self]
 rfl
theorem fmt_words {x : A10} (hg : GA x) {i mn : Nat} {bb : Bool} (hi : i < 15) : words (wordsB (fmtL x i mn bb)) = fmtL x i mn bb := by
 rw [fmtL_is]
 refine (words_wordsB (wd i) (wd_wd hi) _ _ rfl (fun y hy => ?_)).2
 rcases List.mem_append.1 hy with hy | hy
 ·unfold tailL at hy
  rcases List.mem_append.1 hy with hy | hy
  ·obtain ⟨j, _, rfl⟩ := List.mem_map.1 hy
   exact wd_itoa _
  ·cases bb with
   | false => simp at hy
   | true =>
    rw [if_pos rfl] at hy
    rw [List.mem_singleton.1 hy]
    split
    ·exact wd_hexW hg.data
    ·exact wd_hexW hg.keep
 ·split at hy
  ·rw [List.mem_singleton.1 hy]
   exact ⟨by decide, fun j hj => (show ∀ j : Fin 3, by_ FUA j ≠ 32 by decide +kernel) ⟨j, hj⟩⟩
  ·simp at hy
theorem fua_is {x : A10} {i mn : Nat} {bb : Bool} (hi : i < 15) (h1 : (frm i).2.2.1.length = mn) (h2 : (frm i).2.2.2.isSome = bb) : fuaB (frm i).1 (frm i).2.1 (tailL x i mn bb ++ (if i = 0 ∧ x.fua = true then [FUA] else [])) (nB i) = (decide (i = 0) && x.fua) := by
 have hn : nB i = (tailL x i mn bb).length := by
  rw [tailL_len]; unfold nB needB; rw [h1, h2]
 rw [fua_eq hi, hn]
 by_cases hz : i = 0
 ·rw [decide_eq_true hz, Bool.true_and, Bool.true_and]
  cases hf : x.fua with
  | true =>
   rw [if_pos ⟨hz, rfl⟩, List.length_append, List.getD_eq_getElem?_getD, List.getElem?_append_right (Nat.le_refl _), Nat.sub_self]
   rw [decide_eq_true (by rfl)]
   show (true && (FUA.toList == _)) = true
   rw [Bool.true_and]
   exact beq_self_eq_true _
  | false =>
   rw [if_neg (fun h => by cases h.2), List.append_nil, decide_eq_false (by omega), Bool.false_and]
 ·rw [decide_eq_false hz, Bool.false_and, Bool.false_and, Bool.false_and]
theorem nn_mz {x : A10} {i mn : Nat} {bb : Bool} (hnum : ∀ j, j < mn → Near (n3 x j)) (j : Nat) : nn mn (tailL x i mn bb) j = mz x mn j := by
 unfold nn mz
 by_cases h : j < mn
 ·rw [if_pos h, if_pos h, tailL_num x i mn bb h, numb_itoa _ (hnum j h)]
 ·rw [if_neg h, if_neg h]
/-- A line told, and read. -/
theorem parse_fmt {x : A10} (hg : GA x) (hd : x.data.length ≤ 1000) (hk : x.keep.length ≤ 1000) {i mn : Nat} {bb : Bool} (hnum : ∀ j, j < mn → Near (n3 x j)) (hi : i < 15) (h1 : (frm i).2.2.1.length = mn) (h2 : (frm i).2.2.2.isSome = bb) (vd0 vk0 : Value) :
  ∃ y vd vk, parse hexF (wordsB (fmtL x i mn bb)) = (y, true) ∧ fillC (frm i).1 (frm i).2.1 (decide (i = 0) && x.fua) (mz x mn 0) (mz x mn 1) (mz x mn 2) (bP i bb vd0 vk0) = cellsA y vd vk ∧ ∀ Pr : Value → List Int → Prop, Pr (.slice none 0 0) [] → Pr vd0 x.data → Pr vk0 x.keep → Pr vd y.data ∧ Pr vk y.keep := by
 have hn : nB i = (tailL x i mn bb).length := by
  rw [tailL_len]; unfold nB needB; rw [h1, h2]
 obtain ⟨l2, hl2⟩ : ∃ q, tailL x i mn bb = q := ⟨_, rfl⟩
 have hw : words (wordsB (fmtL x i mn bb)) = wd i :: (l2 ++ (if i = 0 ∧ x.fua = true then [FUA] else [])) := by rw [fmt_words hg hi, fmtL_is, hl2]
 have hfua := fua_is (x := x) hi h1 h2
 rw [hl2] at hfua
 obtain ⟨fb, hfb⟩ : ∃ q, (decide (i = 0) && x.fua) = q := ⟨_, rfl⟩
 rw [hfb] at hfua ⊢
 have hcut : (if fb = true then (l2 ++ (if i = 0 ∧ x.fua = true then [FUA] else [])).take (nB i) else l2 ++ (if i = 0 ∧ x.fua = true then [FUA] else [])) = l2 := by
  rw [hl2] at hn
  by_cases hf : fb = true
  ·rw [if_pos hf, hn, List.take_append_of_le_length (Nat.le_refl _), List.take_length]
  ·rw [if_neg hf, if_neg (fun h => hf (by rw [← hfb, decide_eq_true h.1, h.2]; rfl)), List.append_nil]
 have hp := parse_at (hx := hexF) hw hi rfl hfua hcut
 rw [hl2] at hn
 rw [if_pos hn.symm] at hp
 have hok : ∀ j, j < (frm i).2.2.1.length → (numb (l2.getD j ByteArray.empty)).2 = true := fun j hj => by
  rw [← hl2, tailL_num x i mn bb (by omega), numb_itoa _ (hnum j (by omega))]
 obtain ⟨bs, hbs⟩ : ∃ q : List Int, (if bb = true then (if i = 0 then x.data else x.keep) else []) = q := ⟨_, rfl⟩
 obtain ⟨x1, y, vd, vk, hfil, hout, hfc, hRR⟩ := fin_okP hi fb hn.symm hok bs (bP i bb vd0 vk0) (fun hnone => by
  rw [hnone] at h2
  obtain rfl : false = bb := h2
  exact ⟨rfl, hbs.symm⟩)
 rw [h1, ← hl2, nn_mz hnum, nn_mz hnum, nn_mz hnum] at hfc
 refine ⟨y, vd, vk, ?_, hfc, fun Pr h0 hd0 hk0 => hRR Pr h0 ?_⟩
 ·rw [hp, hfil]
  cases bb with
  | false =>
   have hnn : (frm i).2.2.2 = none := by cases hq : (frm i).2.2.2 with | none => rfl | some q => rw [hq] at h2; cases h2
   rw [hnn] at hout ⊢
   exact hout
  | true =>
   have hhex : hexF (l2.getD (nB i - 1) ByteArray.empty) = (bs, true) := by
    have e : nB i - 1 = mn := by rw [hn, ← hl2, tailL_len]; simp
    rw [e, ← hl2, tailL_hex, ← hbs, if_pos rfl]
    split
    ·exact hexF_word hg.data hd
    ·exact hexF_word hg.keep hk
   rw [hhex]
   exact hout
 ·rw [← hbs]
  unfold bP
  cases bb with
  | false => exact h0
  | true =>
   rw [if_pos rfl, if_pos rfl]
   split
   ·exact hd0
   ·exact hk0
end Go.Proofs.YtlhmpmmblnbmbaaDoor.Con
