/- Own work and lines of the print, as much as consoleFormats_holds needs: part 7. -/
import Derived.Test.YtlhmpmmblnbmbaaDoorClmF6
set_option linter.unusedVariables false
set_option linter.unusedSimpArgs false
namespace Go.Proofs.YtlhmpmmblnbmbaaDoor.Con
open Go.Lib Go.RowKit Go.Proofs.YtlhmpmmblnbmbaaDoor.Ev Go.Proofs.YtlhmpmmblnbmbaaDoor.Ke Go.Proofs.YtlhmpmmblnbmbaaDoor.Cells Go.Proofs.YtlhmpmmblnbmbaaDoor.PConsoleParses Go.Proofs.YtlhmpmmblnbmbaaDoorW.PrintWords Go.Proofs.YtlhmpmmblnbmbaaDoorW.PrintLast Go.Proofs.YtlhmpmmblnbmbaaDoorW.PrintMore WordsPlain NumberPlain
open Go.Proofs.YtlhmpmmblnbmbaaDoor.Rep (POW POW.below I64 itoaB itoa_size wordsB wordsB_one wordsB_snoc wordsB_size hexB hexB_size B8 hex_c strs_R)
theorem fa91_2 (g o : Nat) (w : World) : (Instr.fieldAt 91 (.pointer (some ⟨g, o, none⟩)) 2).run Tryd.prog w = .ok (.pointer (some ⟨g, o + 2, none⟩)) w := by
 have hu := Tryd.underlying91
 go_simp
theorem fa91_3 (g o : Nat) (w : World) : (Instr.fieldAt 91 (.pointer (some ⟨g, o, none⟩)) 3).run Tryd.prog w = .ok (.pointer (some ⟨g, o + 3, none⟩)) w := by
 have hu := Tryd.underlying91
 go_simp
theorem row1_79 {o : Oper} {a : Act} {w : World} {x0 : Operand} {c0 : ByteArray} (ho : o.op = .buildSlice 79 1 #[(0, x0)]) (h0 : a.eval x0 = .string c0) : (execOp a.eval o).run Tryd.prog w = .ok (.value (.slice (some ⟨w.heap.size, 0, none⟩) 1 1)) (w.alloc (.cells #[.string c0] 9 (0, 0))) := by
 have hu79 := Tryd.underlying79
 have hu9 := Tryd.underlying9
 unfold execOp
 simp only [ho, List.map_toArray, List.map_cons, List.map_nil, h0]
 clear ho h0
 first
 | (go_simp; done)
 | (go_simp; rfl)
theorem size94 : (Tryd.prog.info? 94).map (·.size) = some 1 := by kernel_rfl
theorem zero91_is : (Tryd.prog.info? 91).map (·.zero) = some (some (.agg #[.int .i64 0, .int .i64 0, .slice none 0 0, .nilFunc])) := by kernel_rfl
theorem wdI_nat (i : Nat) : wdI (i : Int) = wd i := by
 unfold wdI
 rw [if_pos (by omega), Int.toNat_natCast]
theorem val_callv {P : Program} {o : Oper} {a : Act} {w : World} {K : Act → World → Prop} {Q : Exit → Act → World → Prop} {f : FuncId} {y : Operand} {xs : Array Operand} {ts : Array TypeId} {fn : Func} {args : Array Value} (ho : o.op = .call { callee := .value y, args := xs, argTypes := ts }) (hy : a.eval y = .func (.func f) #[] #[]) (hf : P.funcs[f]? = some fn) (hname : (fn.name == "runtime.NumGoroutine") = false) (hb : fn.body.isSome = true)
  (ha : xs.map a.eval = args) {R : Ending → World → Prop} (hc : Calls P f args w R) (h : ∀ e w', R e w' → ∃ v, e = .returned v ∧ K (a.put o.dst v) w') : o.wp P a w K Q := by
 have hrun : (execOp a.eval o).run P w = .ok (.enter f args) w := by
  have h1 : fn.name ≠ "runtime.NumGoroutine" := by simpa using hname
  obtain ⟨c, hcb⟩ := Option.isSome_iff_exists.1 hb
  have he : (callFunc f args).run P w = .ok (.enter f args) w := by simp [callFunc, hf, h1, hcb]
  unfold execOp
  simp [ho, hy, resolve, Deferred.ofValue, invoke, ha, he]
 unfold Oper.wp
 rw [hrun]
 exact Calls.mono hc (fun e w' hR => by
  obtain ⟨v, rfl, hk⟩ := h e w' hR
  exact hk)
theorem call_place {o : Oper} {a : Act} {w : World} {K : Act → World → Prop} {Q : Exit → Act → World → Prop} {q g : Nat} (hq : q = 2 ∨ q = 3 ∨ q = 4 ∨ q = 7 ∨ q = 8 ∨ q = 5 ∨ q = 9) {y z : Operand} {ts : Array TypeId} (ho : o.op = .call { callee := .value y, args := #[z], argTypes := ts }) (hy : a.eval y = fv q) (hz : a.eval z = .pointer (some ⟨g, 0, none⟩)) (h : K (a.put o.dst (.pointer (some ⟨g, q, none⟩))) w) : o.wp Tryd.prog a w K Q := by
 have ha : (#[z] : Array Operand).map a.eval = #[.pointer (some ⟨g, 0, none⟩)] := by simp [hz]
 rcases hq with rfl | rfl | rfl | rfl | rfl | rfl | rfl
 ·exact val_callv ho hy Tryd.func61 (by kernel_rfl) rfl ha (place2_c g w) (fun e w' ⟨he, hw⟩ => ⟨_, he, hw ▸ h⟩)
 ·exact val_callv ho hy Tryd.func62 (by kernel_rfl) rfl ha (place3_c g w) (fun e w' ⟨he, hw⟩ => ⟨_, he, hw ▸ h⟩)
 ·exact val_callv ho hy Tryd.func64 (by kernel_rfl) rfl ha (place4_c g w) (fun e w' ⟨he, hw⟩ => ⟨_, he, hw ▸ h⟩)
 ·exact val_callv ho hy Tryd.func68 (by kernel_rfl) rfl ha (place7_c g w) (fun e w' ⟨he, hw⟩ => ⟨_, he, hw ▸ h⟩)
 ·exact val_callv ho hy Tryd.func67 (by kernel_rfl) rfl ha (place8_c g w) (fun e w' ⟨he, hw⟩ => ⟨_, he, hw ▸ h⟩)
 ·exact val_callv ho hy Tryd.func63 (by kernel_rfl) rfl ha (place5_c g w) (fun e w' ⟨he, hw⟩ => ⟨_, he, hw ▸ h⟩)
 ·exact val_callv ho hy Tryd.func69 (by kernel_rfl) rfl ha (place9_c g w) (fun e w' ⟨he, hw⟩ => ⟨_, he, hw ▸ h⟩)
theorem itoa_c (n : Int) (hn : I64 n) (w : World) (h : POW w) : Calls Tryd.prog 56 #[.int .i64 n] w fun e w' => e = .returned (.string (itoaB n)) ∧ Below w.heap.size w w' := by
 refine (Tryd.strconv_Itoa n hn.1 hn.2 _ h).mono ?_
 rintro e w' ⟨rfl, k, os, rfl⟩
 exact ⟨rfl, below_grow _ _ (Nat.le_refl _) _ _⟩
theorem join_c (l : List ByteArray) (v : Value) (w : World) (h : Rep.Strs w v l) (hn : l.length ≤ 140737488355328) (hlen : (wordsB l).size ≤ 140737488355328) : Calls Tryd.prog 57 #[v, .string ⟨#[32]⟩] w fun e w' => e = .returned (.string (wordsB l)) ∧ Below w.heap.size w w' := by
 obtain ⟨bk, o, c, rfl, h2, h3, h4⟩ := h
 refine (Tryd.strings_Join bk o c l ⟨#[32]⟩ _ h4 h3 hn h2 (by simpa [wordsB, ByteArray.size] using hlen)).mono ?_
 rintro e w' ⟨rfl, hb⟩
 exact ⟨rfl, hb⟩
theorem fnn {o : Oper} {a : Act} {w : World} {x y : Operand} (ho : o.op = .binOp .neq 89 x y 89) (hx : a.eval x = .nilFunc) (hy : a.eval y = .nilFunc) : (execOp a.eval o).run Tryd.prog w = .ok (.value (.bool false)) w := by
 unfold execOp
 simp only [ho, hx, hy, Sem.run_bind, run_neq_nil, Result.andThen_ok, Sem.run_pure, eqGuard_at_nilFunc]
theorem fnf {o : Oper} {a : Act} {w : World} {x y : Operand} {q : Nat} (ho : o.op = .binOp .neq 89 x y 89) (hx : a.eval x = fv q) (hy : a.eval y = .nilFunc) : (execOp a.eval o).run Tryd.prog w = .ok (.value (.bool true)) w := by
 unfold execOp
 simp only [ho, hx, hy, fv, Sem.run_bind, run_neq_fn, Result.andThen_ok, Sem.run_pure, eqGuard_at_func]
/-- The kind of a step whose place among the fifteen is known. -/
theorem idx_kind {x : A10} {i : Nat} (h : idxI x = (i : Int)) : (i < 8 → x.kind = 0) ∧ (8 ≤ i → x.kind = (i : Int) - 7) := by
 unfold idxI at h
 split at h
 ·next hh => exact ⟨fun _ => hh.1, fun h8 => by omega⟩
 ·split at h
  ·next hh => exact ⟨fun h8 => by omega, fun h8 => by omega⟩
  ·exact ⟨fun _ => by omega, fun _ => by omega⟩
def AC (x : A10) (Ad Ak : Option Addr) (nd cd nk ck : Nat) : Array Value := #[.int .i64 x.kind, .int .i64 x.cmd, .int .i64 x.zone, .int .i64 x.at_, .int .i64 x.n, .slice Ad nd cd, .bool x.fua, .int .i64 x.m, .int .i64 x.k, .slice Ak nk ck]
theorem n3_0 {x : A10} (h : x.kind = 0) : n3 x 0 = x.zone ∧ n3 x 1 = x.at_ ∧ n3 x 2 = x.n := by unfold n3 num3; rw [if_pos h]; exact ⟨rfl, rfl, rfl⟩
theorem n3_1 {x : A10} (h : x.kind = 1) : n3 x 0 = x.k := by unfold n3 num3; rw [if_neg (by omega), if_pos h]; rfl
theorem n3_2 {x : A10} (h : ¬ x.kind = 0) (h1 : ¬ x.kind = 1) : n3 x 0 = x.m ∧ n3 x 1 = x.k := by unfold n3 num3; rw [if_neg h, if_neg h1]; exact ⟨rfl, rfl⟩
theorem place_at {x : A10} {i k : Nat} (Ad Ak : Option Addr) (nd cd nk ck : Nat) (hi : i < 15) (hidx : idxI x = (i : Int)) (hk : k < (frm i).2.2.1.length) : (AC x Ad Ak nd cd nk ck)[(frm i).2.2.1.getD k 2]? = some (.int .i64 (n3 x k)) := by
 obtain ⟨h0, h8⟩ := idx_kind hidx
 rcases Nat.lt_or_ge i 8 with hl | hg
 ·obtain ⟨e0, e1, e2⟩ := n3_0 (h0 hl)
  match i, hl, hk with
  | 0, _, hk => match k, hk with
   | 0, _ => rw [e0]; rfl
   | 1, _ => rw [e1]; rfl
  | 1, _, hk => match k, hk with
   | 0, _ => rw [e0]; rfl
   | 1, _ => rw [e1]; rfl
   | 2, _ => rw [e2]; rfl
  | 2, _, hk => exact absurd hk (Nat.not_lt_zero _)
  | 3, _, hk => match k, hk with
   | 0, _ => rw [e0]; rfl
  | 4, _, hk => match k, hk with
   | 0, _ => rw [e0]; rfl
  | 5, _, hk => match k, hk with
   | 0, _ => rw [e0]; rfl
  | 6, _, hk => match k, hk with
   | 0, _ => rw [e0]; rfl
  | 7, _, hk => match k, hk with
   | 0, _ => rw [e0]; rfl
 ·have hkd := h8 hg
  match i, hg, hi, hk, hkd with
  | 8, _, _, hk, hkd => match k, hk with
   | 0, _ => rw [n3_1 (by omega)]; rfl
  | 9, _, _, hk, hkd => match k, hk with
   | 0, _ => rw [(n3_2 (by omega) (by omega)).1]; rfl
   | 1, _ => rw [(n3_2 (by omega) (by omega)).2]; rfl
  | 10, _, _, hk, _ => exact absurd hk (Nat.not_lt_zero _)
  | 11, _, _, hk, hkd => match k, hk with
   | 0, _ => rw [(n3_2 (by omega) (by omega)).1]; rfl
  | 12, _, _, hk, hkd => match k, hk with
   | 0, _ => rw [(n3_2 (by omega) (by omega)).1]; rfl
  | 13, _, _, hk, _ => exact absurd hk (Nat.not_lt_zero _)
  | 14, _, _, hk, _ => exact absurd hk (Nat.not_lt_zero _)
theorem places_ok {i k : Nat} (hi : i < 15) (hk : k < (frm i).2.2.1.length) : (frm i).2.2.1.getD k 2 = 2 ∨ (frm i).2.2.1.getD k 2 = 3 ∨ (frm i).2.2.1.getD k 2 = 4 ∨ (frm i).2.2.1.getD k 2 = 7 ∨ (frm i).2.2.1.getD k 2 = 8 ∨ (frm i).2.2.1.getD k 2 = 5 ∨ (frm i).2.2.1.getD k 2 = 9 :=
 (show ∀ i : Fin 15, ∀ k : Fin 3, k.val < (frm i).2.2.1.length → ((frm i).2.2.1.getD k 2 = 2 ∨ (frm i).2.2.1.getD k 2 = 3 ∨ (frm i).2.2.1.getD k 2 = 4 ∨ (frm i).2.2.1.getD k 2 = 7 ∨ (frm i).2.2.1.getD k 2 = 8 ∨ (frm i).2.2.1.getD k 2 = 5 ∨ (frm i).2.2.1.getD k 2 = 9) by decide +kernel) ⟨i, hi⟩ ⟨k, Nat.lt_of_lt_of_le hk (frm_small ⟨i, hi⟩).1⟩ hk
theorem bytes_place {i : Nat} (hi : i < 15) : (frm i).2.2.2 = if i = 0 then some 5 else if i = 10 then some 9 else none := (show ∀ i : Fin 15, (frm i).2.2.2 = if i.val = 0 then some 5 else if i.val = 10 then some 9 else none by decide +kernel) ⟨i, hi⟩
section
variable {P : Program} {o : Oper} {a : Act} {w : World} {x y : Operand}
theorem nilck {P : Program} {p : Addr} (ho : o.op = .nilCheck x) (hx : a.eval x = .pointer (some p)) : (execOp a.eval o).run P w = .ok (.value (.pointer (some p))) w := by
 unfold execOp
 simp only [ho, hx]
 simp [go_sem]
theorem ecall {ops : Array Oper} {rest : List Oper} {Q : Exit → Act → World → Prop} {f : FuncId} {ops2 : Array Operand} {ts : Array TypeId} {fn : Func} {args : Array Value} (hg : o.guard = none) (ho : o.op = .call { callee := .value (.func f), args := ops2, argTypes := ts }) (hf : P.funcs[f]? = some fn) (hname : (fn.name == "runtime.NumGoroutine") = false) (hb : fn.body.isSome = true)
  (ha : ops2.map a.eval = args) {R : Ending → World → Prop} (hc : Calls P f args w R) (h : ∀ e w', R e w' → ∃ v, e = .returned v ∧ wpList P ops Q rest (a.put o.dst v) w') : wpList P ops Q (o :: rest) a w :=
 wpList_plain hg fun _ hK => Flow.val_call ho hf hname hb ha hc (fun e w' hR => by
  obtain ⟨v, he, hw⟩ := h e w' hR
  exact ⟨v, he, hK _ _ hw⟩)
end
theorem FnRow.grown {W W1 : World} {v u : Value} {ps : List Nat} {base : Nat} {ok : Nat → Prop} {xs : List ByteArray} (h : FnRow W v ps) (hR : Kd.R Kd.string 9 W base ok u xs) (hg : W.grownBy W1 u.ownBlock) : FnRow W1 v ps := by
 rcases h with h | ⟨q, h1, h2⟩
 ·exact .inl h
 ·exact .inr ⟨q, h1, blk_grown h2 hg (Kd.R_ne hR h2 (by decide))⟩
theorem FnRow.far {W W1 : World} {v : Value} {ps : List Nat} {g t : Nat} {cs : Array Value} (h : FnRow W v ps) (hk : W.heap[g]? = some (.cells cs t (0, 0))) (ht : t ≠ 94) (hf : ∀ k, k ≠ g → W1.heap[k]? = W.heap[k]?) : FnRow W1 v ps := by
 rcases h with h | ⟨q, h1, h2⟩
 ·exact .inl h
 ·refine .inr ⟨q, h1, (hf q (fun e => ?_)).trans h2⟩
  subst e
  rw [hk] at h2
  injection h2 with h2
  injection h2 with _ h2 _
  exact ht h2
theorem hexn2 {A : Option Addr} {c n : Nat} {l : List Int} {w : World} {R : Ending → World → Prop} (hn : l.length = n) (h : Calls Tryd.prog 25 #[.slice A l.length c] w R) : Calls Tryd.prog 25 #[.slice A n c] w R := hn ▸ h
theorem emptyB2 {t : ByteArray} {b : Bool} (h : decide (t.size = 0) = b) : (t.toList == (⟨#[]⟩ : ByteArray).toList) = b := by
 rw [← h, ByteArray.toList_eq, ByteArray.toList_eq]
 have e : (t.size = 0) = (t.data.toList = []) := by
  apply propext
  rw [show t.size = t.data.toList.length from rfl]
  exact List.length_eq_zero_iff
 simp only [e]
 cases t.data.toList with
 | nil => rfl
 | cons a r => rfl
theorem hexB_e {l : List Int} (h : l.length = 0) : ((hexB l).toList == (⟨#[]⟩ : ByteArray).toList) = true := emptyB2 (decide_eq_true (by rw [hexB_size]; omega))
theorem hexB_ne {l : List Int} (h : ¬ l.length = 0) : ((hexB l).toList == (⟨#[]⟩ : ByteArray).toList) = false := emptyB2 (decide_eq_false (by rw [hexB_size]; omega))
theorem wd0_yes : ((wd 0).toList == (⟨#[119, 114, 105, 116, 101]⟩ : ByteArray).toList) = true := by decide +kernel
theorem wd0_no {i : Nat} (hi : i < 15) (h : ¬ i = 0) : ((wd i).toList == (⟨#[119, 114, 105, 116, 101]⟩ : ByteArray).toList) = false := (show ∀ i : Fin 15, ¬ i.val = 0 → ((wd i).toList == (⟨#[119, 114, 105, 116, 101]⟩ : ByteArray).toList) = false by decide +kernel) ⟨i, hi⟩ h
theorem fmtL_n {x : A10} {i k : Nat} (hz : ¬ i = 0) : fmtL x i k false = wd i :: numsL x k := by
 unfold fmtL
 rw [if_neg (by decide), if_neg (fun h => hz h.1), List.append_nil, List.append_nil]
theorem fmtL_b {x : A10} {i k : Nat} {t : ByteArray} (hz : ¬ i = 0) (ht : hexW x.keep = t) : fmtL x i k true = wd i :: numsL x k ++ [t] := by
 unfold fmtL
 rw [if_pos rfl, if_neg hz, if_neg (fun h => hz h.1), List.append_nil, ht]
theorem fmtL_0f {x : A10} {i k : Nat} {t : ByteArray} (hz : i = 0) (hf : x.fua = false) (ht : hexW x.data = t) : fmtL x i k true = wd i :: numsL x k ++ [t] := by
 unfold fmtL
 rw [if_pos rfl, if_pos hz, if_neg (fun h => by rw [hf] at h; cases h.2), List.append_nil, ht]
theorem fmtL_0t {x : A10} {i k : Nat} {t : ByteArray} (hz : i = 0) (hf : x.fua = true) (ht : hexW x.data = t) : fmtL x i k true = wd i :: numsL x k ++ [t] ++ [⟨#[102, 117, 97]⟩] := by
 unfold fmtL
 rw [if_pos rfl, if_pos hz, if_pos ⟨hz, hf⟩, ht]
theorem wn_size (x : A10) (hg : GA x) (i k : Nat) (hi : i < 15) (hk : k ≤ 3) : ∀ s ∈ wd i :: numsL x k, s.size ≤ 2000 := fun s hs => by
 rcases List.mem_cons.1 hs with rfl | hs
 ·exact Nat.le_trans (wd_size i hi) (by decide)
 ·obtain ⟨j, _, rfl⟩ := List.mem_map.1 hs
  exact Nat.le_trans (itoa_size _ (hg.num j)) (by decide)
theorem numsL_len (x : A10) (k : Nat) : (numsL x k).length = k := by unfold numsL; simp
theorem info9 : (Tryd.prog.info? 9).map (fun i => (i.zero, i.size, i.bytes)) = some (some (.string ⟨#[]⟩), 1, 16) := by kernel_rfl
set_option maxHeartbeats 4000000 in
set_option maxRecDepth 100000 in
theorem format_c (x : A10) (hg : GA x) (Ad Ak : Option Addr) (nd cd nk ck : Nat) (hnd : x.data.length = nd) (hnk : x.keep.length = nk) (hd1 : nd ≤ 1000) (hk1 : nk ≤ 1000) {i mn : Nat} {bb : Bool} (hidx : idxI x = (i : Int)) (hi : i < 15) (h1 : (frm i).2.2.1.length = mn) (h2 : (frm i).2.2.2.isSome = bb) (w : World) (hCd : (Kd.int .u8).C w Ad nd x.data) (hCk : (Kd.int .u8).C w Ak nk x.keep) (hpow : POW w) : Calls Tryd.prog 34 #[.agg #[.int .i64 x.kind, .int .i64 x.cmd, .int .i64 x.zone, .int .i64 x.at_, .int .i64 x.n, .slice Ad nd cd, .bool x.fua, .int .i64 x.m, .int .i64 x.k, .slice Ak nk ck]] w fun e w' => e = .returned (.string (wordsB (fmtL x i mn bb))) ∧ Below w.heap.size w w' := by
 have HIX := Aside0.mk hidx
 have HI := Aside0.mk hi
 have HM := Aside0.mk h1
 have HBB := Aside0.mk h2
 have hm3 : mn ≤ 3 := h1 ▸ (frm_small ⟨i, hi⟩).1
 have HG := Aside0.mk hg
 have HND := Aside0.mk hnd
 have HNK := Aside0.mk hnk
 have HD1 := Aside0.mk hd1
 have HKK1 := Aside0.mk hk1
 have HCD := Aside0.mk hCd
 have HCK := Aside0.mk hCk
 have HPW := Aside0.mk hpow
 clear hidx hi h1 h2 hg hnd hnk hd1 hk1 hCd hCk hpow
 obtain ⟨kd, HKD⟩ : ∃ q, Aside0 ((frm i).1 = q) := ⟨_, ⟨rfl⟩⟩
 obtain ⟨cm, HCM⟩ : ∃ q, Aside0 ((frm i).2.1 = q) := ⟨_, ⟨rfl⟩⟩
 obtain ⟨ps, HPS⟩ : ∃ q, Aside0 ((frm i).2.2.1 = q) := ⟨_, ⟨rfl⟩⟩
 rw [HPS.out] at HM
 have HFV : ∀ bs, (frm i).2.2.2 = bs → Aside0 (formV (wd i) = (kd, cm, ps, bs)) := fun bs hb => ⟨by unfold formV; rw [form_at HI.out, Option.getD_some, ← hb, ← HKD.out, ← HCM.out, ← HPS.out]⟩
 have HFI : Aside0 ((form (wd i)).isSome = true) := ⟨by rw [form_at HI.out]; rfl⟩
 by_cases hz : i = 0
 ·have HZ := Aside0.mk hz
  clear hz
  obtain rfl : bb = true := by rw [← HBB.out, HZ.out]; rfl
  have HBS := HFV (some 5) (by rw [bytes_place HI.out, if_pos HZ.out])
  clear HFV
  go_enter Tryd.func34, Tryd.ntmps34
  go_upto_region 0 with fail
  refine wp_region_lit ?_
  refine ebox (v := (.agg #[.int .i64 x.kind, .int .i64 x.cmd, .int .i64 x.zone, .int .i64 x.at_, .int .i64 x.n, .slice Ad nd cd, .bool x.fua, .int .i64 x.m, .int .i64 x.k, .slice Ak nk ck])) rfl rfl rfl ?_
  intro g1 hg1 W1 hk1 hb1
  have Kg1 := Aside0.mk hk1
  have HB1 := Aside0.mk (hb1)
  clear hb1
  have Gg1 := Aside0.mk (show w.heap.size ≤ g1 by rw [hg1]; exact Nat.le_refl _)
  clear hg1 hk1
  simp only [Act.put, List.setIfInBounds_toArray, List.set_cons_zero, List.set_cons_succ]
  refine Flow.seqL (E := fun u v => Below u.heap.size u v) 1 1 [(some 1, []), (some 2, [])] (fun iQ vQ wQ => match iQ with | 1 => vQ = (.string ⟨#[]⟩) | _ => True) rfl (by decide) (by kernel_rfl) (Below.refl _ _) (fun _ _ _ h k => h.trans (k.mono h.size)) (fun _ _ _ _ h _ => h) ?_ ?_
  ·refine ⟨?_, trivial⟩
   ·intro a w' hx hu hd K hK; exact Flow.run1 rfl (Flow.r_assign rfl rfl) (hK _ _ (Below.refl _ _) rfl)
  intro vs W2 hb2 hT
  have v1 := Flow.eqn (hT 1 (by decide) (by decide))
  simp only [Flow.putsT, v1, Act.put, List.setIfInBounds_toArray, List.set_cons_zero, List.set_cons_succ, List.drop_succ_cons, List.drop_zero, List.take_succ_cons, List.take_zero]
  clear hT v1
  have HB2 := Aside0.mk (below_step HB1.out hb2)
  have Kg1_2 := Aside0.mk (blk_below Kg1.out hb2)
  clear hb2
  go_upto_region 1 with fail
  refine Flow.seqT (E := fun u v => Below u.heap.size u v) [(some 10, []), (some 11, [0]), (some 3, [1, 1, 0, 1])] (fun iQ vQ wQ => match iQ with | 0 => vQ = (.agg #[.int .i64 x.kind, .int .i64 x.cmd, .int .i64 x.zone, .int .i64 x.at_, .int .i64 x.n, .slice Ad nd cd, .bool x.fua, .int .i64 x.m, .int .i64 x.k, .slice Ak nk ck]) | 1 => vQ = (.string (wd i)) | 2 => vQ = (.string (wd i)) | _ => True) rfl (by kernel_rfl) (Below.refl _ _) (fun _ _ _ h k => h.trans (k.mono h.size)) (fun _ _ _ _ h _ => h) ?_ ?_
  ·refine ⟨?_, ?_, ?_, trivial⟩
   ·intro a w' hx hu hd K hK; have e1 : a.tmps.getD 1 undef = (.pointer (some ⟨g1, 0, none⟩)) := hu 1 rfl; exact Flow.run1 rfl (ldrow rfl e1 (lies_block (blk_below Kg1_2.out hx)) Tryd.underlying56 rfl size56) (hK _ _ (Below.refl _ _) rfl)
   ·intro a w' hx hu hd K hK; have e10 := Flow.got (hd 0 rfl) 10 rfl; refine Flow.want rfl ?_; refine Flow.val_call rfl Tryd.func55 (by kernel_rfl) rfl (by simp only [List.map_toArray, List.map_cons, List.map_nil, Act.eval, e10] <;> rfl) (word_c x Ad Ak nd cd nk ck w') ?_; rintro e w2 ⟨rfl, hb2⟩; rw [HIX.out, wdI_nat]; exact ⟨_, rfl, hK _ _ hb2 rfl⟩
   ·intro a w' hx hu hd K hK; have e11 := Flow.got (hd 1 rfl) 11 rfl; exact Flow.run1 rfl (Flow.r_assign rfl e11) (hK _ _ (Below.refl _ _) rfl)
  intro vs W3 hb3 hT
  have v0 := Flow.eqn (hT 0 (by decide))
  have v1 := Flow.eqn (hT 1 (by decide))
  have v2 := Flow.eqn (hT 2 (by decide))
  simp only [Flow.putsT, v0, v1, v2, Act.put, List.setIfInBounds_toArray, List.set_cons_zero, List.set_cons_succ]
  clear hT v0 v1 v2
  have HB3 := Aside0.mk (below_step HB2.out hb3)
  have Kg1_2_3 := Aside0.mk (blk_below Kg1_2.out hb3)
  clear hb3
  go_upto_region 2 with fail
  refine Flow.seqT_head (E := fun u v => Below u.heap.size u v) 1 [(some 13, []), (some 14, [0]), (some 12, [1]), (some 15, [2]), (some 16, [2]), (some 4, []), (none, [5, 3, 1, 0, 1, 2, 3, 5]), (some 5, [4, 6, 0, 1, 2, 3, 4, 5, 6])] (fun iQ vQ wQ => match iQ with | 0 => vQ = (.string (wd i)) | _ => True) rfl (by decide) (by kernel_rfl) (Below.refl _ _) (fun _ _ _ h k => h.trans (k.mono h.size)) (fun _ _ _ _ h _ => h) ?_ ?_
  ·refine ⟨?_, trivial⟩
   ·intro a w' hx hu hd K hK; have e3 : a.tmps.getD 3 undef = (.string (wd i)) := hu 3 rfl; exact Flow.run1 rfl (Flow.r_move rfl e3) (hK _ _ (Below.refl _ _) rfl)
  intro vs W4 hb4 hT
  have v0 := Flow.eqn (hT 0 (by decide))
  simp only [Flow.putsT, v0, Act.put, List.setIfInBounds_toArray, List.set_cons_zero, List.set_cons_succ, List.drop_succ_cons, List.drop_zero, List.take_succ_cons, List.take_zero]
  clear hT v0
  have HB4 := Aside0.mk (below_step HB3.out hb4)
  have Kg1_2_3_4 := Aside0.mk (blk_below Kg1_2_3.out hb4)
  clear hb4
  refine ecall rfl rfl Tryd.func46 (by kernel_rfl) rfl (args := #[.string (wd i)]) (by simp only [List.map_toArray, List.map_cons, List.map_nil, Act.eval] <;> rfl) (of_at HBS.out HFI.out _) ?_
  rintro e W5 ⟨v, rfl, hfn, hb5⟩
  refine ⟨_, rfl, ?_⟩
  obtain ⟨An, rfl, hg5⟩ := hfn.is
  rw [HM.out] at hfn ⊢
  have HFN := Aside0.mk hfn
  clear hfn hg5
  have Kg1_2_3_4_5 := Aside0.mk (blk_below Kg1_2_3_4.out hb5)
  have HB5 := Aside0.mk (below_step HB4.out hb5)
  clear hb5
  simp only [Act.put, List.setIfInBounds_toArray, List.set_cons_zero, List.set_cons_succ]
  refine Flow.seqL (E := fun u v => Below u.heap.size u v) 2 3 [(some 13, []), (some 14, [0]), (some 12, [1]), (some 15, [2]), (some 16, [2]), (some 4, []), (none, [5, 3, 1, 0, 1, 2, 3, 5]), (some 5, [4, 6, 0, 1, 2, 3, 4, 5, 6])] (fun iQ vQ wQ => match iQ with | 2 => vQ = (.tuple #[.agg #[.int .i64 kd, .int .i64 cm, .slice An mn mn, fv 5], .bool true]) | 3 => vQ = (.agg #[.int .i64 kd, .int .i64 cm, .slice An mn mn, fv 5]) | 4 => vQ = (.bool true) | _ => True) rfl (by decide) (by kernel_rfl) (Below.refl _ _) (fun _ _ _ h k => h.trans (k.mono h.size)) (fun _ _ _ _ h _ => h) ?_ ?_
  ·refine ⟨?_, ?_, ?_, trivial⟩
   ·intro a w' hx hu hd K hK; have e14 : a.tmps.getD 14 undef = (.tuple #[.agg #[.int .i64 kd, .int .i64 cm, .slice An mn mn, fv 5], .bool true]) := hu 14 rfl; exact Flow.run1 rfl (Flow.r_move rfl e14) (hK _ _ (Below.refl _ _) rfl)
   ·intro a w' hx hu hd K hK; have e12 := Flow.got (hd 2 rfl) 12 rfl; exact Flow.run1 rfl (extr rfl e12 rfl) (hK _ _ (Below.refl _ _) rfl)
   ·intro a w' hx hu hd K hK; have e12 := Flow.got (hd 2 rfl) 12 rfl; exact Flow.run1 rfl (extr rfl e12 rfl) (hK _ _ (Below.refl _ _) rfl)
  intro vs W6 hb6 hT
  have v2 := Flow.eqn (hT 2 (by decide) (by decide))
  have v3 := Flow.eqn (hT 3 (by decide) (by decide))
  have v4 := Flow.eqn (hT 4 (by decide) (by decide))
  simp only [Flow.putsT, v2, v3, v4, Act.put, List.setIfInBounds_toArray, List.set_cons_zero, List.set_cons_succ, List.drop_succ_cons, List.drop_zero, List.take_succ_cons, List.take_zero]
  clear hT v2 v3 v4
  have HB6 := Aside0.mk (below_step HB5.out hb6)
  have HFN_6 := Aside0.mk (FnRow.below HFN.out hb6)
  have Kg1_2_3_4_5_6 := Aside0.mk (blk_below Kg1_2_3_4_5.out hb6)
  clear hb6
  refine ealloc rfl rfl zero91_is ?_
  intro g7 hg7 W7 hk7 hb7
  have Kg7 := Aside0.mk hk7
  have Ng7_g1 := Aside0.mk (show g1 ≠ g7 by have := (Array.getElem?_eq_some_iff.1 Kg1_2_3_4_5_6.out).1; omega)
  have Ng1_g7 := Aside0.mk (Ne.symm Ng7_g1.out)
  have HB7 := Aside0.mk (below_step HB6.out hb7)
  have HFN_7 := Aside0.mk (FnRow.below HFN_6.out hb7)
  have Kg1_2_3_4_5_6_7 := Aside0.mk (blk_below Kg1_2_3_4_5_6.out hb7)
  clear hb7
  have Gg7 := Aside0.mk (show w.heap.size ≤ g7 by rw [hg7]; exact HB6.out.size)
  clear hg7 hk7
  simp only [Act.put, List.setIfInBounds_toArray, List.set_cons_zero, List.set_cons_succ]
  refine Cells.store_whole rfl rfl 91 _ _ rfl g7 [.int .i64 kd, .int .i64 cm, .slice An mn mn, fv 5] #[.int .i64 0, .int .i64 0, .slice none 0 0, .nilFunc] rfl rfl Kg7.out rfl size91 rfl ?_
  intro W8 hk8 hf8 hb8
  have HFN_8 := Aside0.mk (FnRow.far HFN_7.out Kg7.out (by decide) hf8)
  have HB8 := Aside0.mk (HB7.out.trans (hb8 _ Gg7.out))
  have Kg1_2_3_4_5_6_7_8 := Aside0.mk ((hf8 _ Ng7_g1.out).trans Kg1_2_3_4_5_6_7.out)
  have Kg7_8 := Aside0.mk hk8
  clear hk8 hf8 hb8
  refine Flow.seqL (E := fun u v => Below u.heap.size u v) 7 1 [(some 13, []), (some 14, [0]), (some 12, [1]), (some 15, [2]), (some 16, [2]), (some 4, []), (none, [5, 3, 1, 0, 1, 2, 3, 5]), (some 5, [4, 6, 0, 1, 2, 3, 4, 5, 6])] (fun iQ vQ wQ => match iQ with | 7 => vQ = (.bool true) | _ => True) rfl (by decide) (by kernel_rfl) (Below.refl _ _) (fun _ _ _ h k => h.trans (k.mono h.size)) (fun _ _ _ _ h _ => h) ?_ ?_
  ·refine ⟨?_, trivial⟩
   ·intro a w' hx hu hd K hK; have e16 : a.tmps.getD 16 undef = (.bool true) := hu 16 rfl; exact Flow.run1 rfl (Flow.r_assign rfl e16) (hK _ _ (Below.refl _ _) rfl)
  intro vs W9 hb9 hT
  have v7 := Flow.eqn (hT 7 (by decide) (by decide))
  simp only [Flow.putsT, v7, Act.put, List.setIfInBounds_toArray, List.set_cons_zero, List.set_cons_succ, List.drop_succ_cons, List.drop_zero, List.take_succ_cons, List.take_zero]
  clear hT v7
  have HB9 := Aside0.mk (below_step HB8.out hb9)
  have HFN_9 := Aside0.mk (FnRow.below HFN_8.out hb9)
  have Kg1_2_3_4_5_6_7_8_9 := Aside0.mk (blk_below Kg1_2_3_4_5_6_7_8.out hb9)
  have Kg7_8_9 := Aside0.mk (blk_below Kg7_8.out hb9)
  clear hb9
  go_upto_region 3 with fail
  refine Flow.seqT (E := fun u v => Below u.heap.size u v) [(some 17, []), (some 18, [0])] (fun iQ vQ wQ => match iQ with | 0 => vQ = (.bool true) | 1 => vQ = (.bool false) | _ => True) rfl (by kernel_rfl) (Below.refl _ _) (fun _ _ _ h k => h.trans (k.mono h.size)) (fun _ _ _ _ h _ => h) ?_ ?_
  ·refine ⟨?_, ?_, trivial⟩
   ·intro a w' hx hu hd K hK; have e5 : a.tmps.getD 5 undef = (.bool true) := hu 5 rfl; exact Flow.run1 rfl (Flow.r_move rfl e5) (hK _ _ (Below.refl _ _) rfl)
   ·intro a w' hx hu hd K hK; have e17 := Flow.got (hd 0 rfl) 17 rfl; exact Flow.run1 rfl (Flow.r_not rfl e17) (hK _ _ (Below.refl _ _) rfl)
  intro vs W10 hb10 hT
  have v0 := Flow.eqn (hT 0 (by decide))
  have v1 := Flow.eqn (hT 1 (by decide))
  simp only [Flow.putsT, v0, v1, Act.put, List.setIfInBounds_toArray, List.set_cons_zero, List.set_cons_succ]
  clear hT v0 v1
  have HB10 := Aside0.mk (below_step HB9.out hb10)
  have HFN_10 := Aside0.mk (FnRow.below HFN_9.out hb10)
  have Kg1_2_3_4_5_6_7_8_9_10 := Aside0.mk (blk_below Kg1_2_3_4_5_6_7_8_9.out hb10)
  have Kg7_8_9_10 := Aside0.mk (blk_below Kg7_8_9.out hb10)
  clear hb10
  go_upto_region 5 with fail
  refine Flow.seqT_head (E := fun u v => Below u.heap.size u v) 2 [(some 19, []), (some 20, [0]), (some 6, [1, 0, 1])] (fun iQ vQ wQ => match iQ with | 0 => vQ = (.string (wd i)) | 1 => SliceAt #[.string (wd i)] 9 1 w.heap.size vQ wQ | _ => True) rfl (by decide) (by kernel_rfl) (Below.refl _ _) (fun _ _ _ h k => h.trans (k.mono h.size)) (fun iQ vQ w1Q w2Q hQ hEQ => match iQ, hQ with | 0, hQ => hQ | 1, hQ => slice_below hQ hEQ | _ + 2, _ => trivial) ?_ ?_
  ·refine ⟨?_, ?_, trivial⟩
   ·intro a w' hx hu hd K hK; have e3 : a.tmps.getD 3 undef = (.string (wd i)) := hu 3 rfl; exact Flow.run1 rfl (Flow.r_move rfl e3) (hK _ _ (Below.refl _ _) rfl)
   ·intro a w' hx hu hd K hK; have e19 := Flow.got (hd 0 rfl) 19 rfl; exact Flow.run1 rfl (row1_79 rfl e19) (hK _ _ (below_alloc (Below.refl _ _) _) (slice_new (Nat.le_trans (HB10.out).size (hx : Below _ _ _).size)))
  intro vs W11 hb11 hT
  have v0 := Flow.eqn (hT 0 (by decide))
  obtain ⟨g11_1, v1, hge1, hk1⟩ : SliceAt _ _ _ _ _ _ := hT 1 (by decide)
  have Kg11_1 := Aside0.mk hk1
  have Gg11_1 := Aside0.mk hge1
  clear hk1 hge1
  simp only [Flow.putsT, v0, v1, Act.put, List.setIfInBounds_toArray, List.set_cons_zero, List.set_cons_succ, List.drop_succ_cons, List.drop_zero, List.take_succ_cons, List.take_zero]
  clear hT v0 v1
  have HB11 := Aside0.mk (below_step HB10.out hb11)
  have HFN_11 := Aside0.mk (FnRow.below HFN_10.out hb11)
  have Kg1_2_3_4_5_6_7_8_9_10_11 := Aside0.mk (blk_below Kg1_2_3_4_5_6_7_8_9_10.out hb11)
  have Kg7_8_9_10_11 := Aside0.mk (blk_below Kg7_8_9_10.out hb11)
  clear hb11
  refine Flow.seqL (E := fun u v => Below u.heap.size u v) 2 1 [(some 19, []), (some 20, [0]), (some 6, [1, 0, 1])] (fun iQ vQ wQ => match iQ with | 2 => vQ = (.slice (some ⟨g11_1, 0, none⟩) 1 1) | _ => True) rfl (by decide) (by kernel_rfl) (Below.refl _ _) (fun _ _ _ h k => h.trans (k.mono h.size)) (fun _ _ _ _ h _ => h) ?_ ?_
  ·refine ⟨?_, trivial⟩
   ·intro a w' hx hu hd K hK; have e20 : a.tmps.getD 20 undef = (.slice (some ⟨g11_1, 0, none⟩) 1 1) := hu 20 rfl; exact Flow.run1 rfl (Flow.r_assign rfl e20) (hK _ _ (Below.refl _ _) rfl)
  intro vs W12 hb12 hT
  have v2 := Flow.eqn (hT 2 (by decide) (by decide))
  simp only [Flow.putsT, v2, Act.put, List.setIfInBounds_toArray, List.set_cons_zero, List.set_cons_succ, List.drop_succ_cons, List.drop_zero, List.take_succ_cons, List.take_zero]
  clear hT v2
  have HB12 := Aside0.mk (below_step HB11.out hb12)
  have HFN_12 := Aside0.mk (FnRow.below HFN_11.out hb12)
  have Kg1_2_3_4_5_6_7_8_9_10_11_12 := Aside0.mk (blk_below Kg1_2_3_4_5_6_7_8_9_10_11.out hb12)
  have Kg7_8_9_10_11_12 := Aside0.mk (blk_below Kg7_8_9_10_11.out hb12)
  have Kg11_1_12 := Aside0.mk (blk_below Kg11_1.out hb12)
  clear hb12
  have HR := Aside0.mk (R_row Value.string (fun _ => rfl) (l := [wd i]) (base := w.heap.size) Kg11_1_12.out Gg11_1.out (show 1 ≤ maxLen by decide))
  go_upto_region 6 with fail
  refine Flow.seqT (E := fun u v => Below u.heap.size u v) [(some 21, []), (some 22, [0]), (some 23, [1]), (some 24, [])] (fun iQ vQ wQ => match iQ with | 0 => vQ = (.pointer (some ⟨g7, 2, none⟩)) | 1 => vQ = (.slice An mn mn) | 2 => vQ = (.int .i64 mn) | 3 => vQ = (.int .i64 0) | _ => True) rfl (by kernel_rfl) (Below.refl _ _) (fun _ _ _ h k => h.trans (k.mono h.size)) (fun _ _ _ _ h _ => h) ?_ ?_
  ·refine ⟨?_, ?_, ?_, ?_, trivial⟩
   ·intro a w' hx hu hd K hK; have e4 : a.tmps.getD 4 undef = (.pointer (some ⟨g7, 0, none⟩)) := hu 4 rfl; exact Flow.run1 rfl (fa rfl e4 (fa91_2 _ _ _)) (hK _ _ (Below.refl _ _) rfl)
   ·intro a w' hx hu hd K hK; have e21 := Flow.got (hd 0 rfl) 21 rfl; exact Flow.run1 rfl (ld rfl e21 ((blk_cell (blk_below Kg7_8_9_10_11_12.out hx) 2).trans rfl) Tryd.underlying88 rfl) (hK _ _ (Below.refl _ _) rfl)
   ·intro a w' hx hu hd K hK; have e22 := Flow.got (hd 1 rfl) 22 rfl; exact Flow.run1 rfl (lenL Tryd.underlying88 rfl e22) (hK _ _ (Below.refl _ _) rfl)
   ·intro a w' hx hu hd K hK; exact Flow.run1 rfl (Flow.r_move rfl rfl) (hK _ _ (Below.refl _ _) rfl)
  intro vs W13 hb13 hT
  have v0 := Flow.eqn (hT 0 (by decide))
  have v1 := Flow.eqn (hT 1 (by decide))
  have v2 := Flow.eqn (hT 2 (by decide))
  have v3 := Flow.eqn (hT 3 (by decide))
  simp only [Flow.putsT, v0, v1, v2, v3, Act.put, List.setIfInBounds_toArray, List.set_cons_zero, List.set_cons_succ]
  clear hT v0 v1 v2 v3
  have HB13 := Aside0.mk (below_step HB12.out hb13)
  have HFN_13 := Aside0.mk (FnRow.below HFN_12.out hb13)
  have HR_13 := Aside0.mk (Kd.R_below HR.out hb13)
  have Kg1_2_3_4_5_6_7_8_9_10_11_12_13 := Aside0.mk (blk_below Kg1_2_3_4_5_6_7_8_9_10_11_12.out hb13)
  have Kg7_8_9_10_11_12_13 := Aside0.mk (blk_below Kg7_8_9_10_11_12.out hb13)
  clear hb13
  go_wp2
  go_loopg [6, 24] mn (fun g v6 v24 wr => ∃ k : Nat, k ≤ mn ∧ Aside0 (g = mn - k) ∧ v24 = .int .i64 k ∧ Aside0 (Below w.heap.size w wr) ∧ Aside0 (wr.heap[g1]? = some (.cells #[.int .i64 x.kind, .int .i64 x.cmd, .int .i64 x.zone, .int .i64 x.at_, .int .i64 x.n, .slice Ad nd cd, .bool x.fua, .int .i64 x.m, .int .i64 x.k, .slice Ak nk ck] 56 (0, 0))) ∧ Aside0 (wr.heap[g7]? = some (.cells #[.int .i64 kd, .int .i64 cm, .slice An mn mn, fv 5] 91 (0, 0))) ∧ Aside0 (FnRow wr (.slice An mn mn) ps) ∧ Aside0 (Kd.R Kd.string 9 wr w.heap.size (fun _ => True) v6 (wd i :: numsL x k)))
  case atStart => exact ⟨0, Nat.zero_le _, ⟨rfl⟩, rfl, HB13, Kg1_2_3_4_5_6_7_8_9_10_11_12_13, Kg7_8_9_10_11_12_13, HFN_13, HR_13⟩
  case round =>
   clear HB13 Kg1_2_3_4_5_6_7_8_9_10_11_12_13 Kg7_8_9_10_11_12_13 HFN_13 HR_13
   obtain ⟨k, hk, HGK, rfl, HBR, K1, K4, HFN, HR⟩ := hrel
   by_cases hlt : k < mn
   ·have hlt2 : (k : Int) < mn := by omega
    obtain ⟨gf, hAn, hgf⟩ : ∃ g, An = some ⟨g, 0, none⟩ ∧ wr.heap[g]? = some (.cells (ps.map fv).toArray 94 (0, 0)) := by rcases HFN.out with ⟨hp, _⟩ | ⟨g, hv, hg⟩; exact absurd hlt (by rw [← HM.out, hp]; exact Nat.not_lt_zero _); injection hv with ha; exact ⟨g, ha, hg⟩
    subst hAn
    have KF := Aside0.mk hgf
    clear hgf
    have HKP : Aside0 (k < ps.length) := ⟨HM.out ▸ hlt⟩
    obtain ⟨p, HP⟩ : ∃ q, Aside0 (ps.getD k 2 = q) := ⟨_, ⟨rfl⟩⟩
    have HPO : Aside0 (p = 2 ∨ p = 3 ∨ p = 4 ∨ p = 7 ∨ p = 8 ∨ p = 5 ∨ p = 9) := ⟨by have h := places_ok HI.out (k := k) (by rw [HPS.out, HM.out]; exact hlt); rw [HPS.out, HP.out] at h; exact h⟩
    have HPA : Aside0 ((AC x Ad Ak nd cd nk ck)[p]? = some (.int .i64 (n3 x k))) := ⟨by have h := place_at Ad Ak nd cd nk ck HI.out HIX.out (k := k) (by rw [HPS.out, HM.out]; exact hlt); rw [HPS.out, HP.out] at h; exact h⟩
    go_upto_region 7 with fail
    refine Flow.seqT (E := fun u v => Below u.heap.size u v) [(some 25, [])] (fun iQ vQ wQ => match iQ with | 0 => vQ = (.bool true) | _ => True) rfl (by kernel_rfl) (Below.refl _ _) (fun _ _ _ h k => h.trans (k.mono h.size)) (fun _ _ _ _ h _ => h) ?_ ?_
    ·refine ⟨?_, trivial⟩
     ·intro a w' hx hu hd K hK; have e24 : a.tmps.getD 24 undef = (.int .i64 k) := hu 24 rfl; have e23 : a.tmps.getD 23 undef = (.int .i64 mn) := hu 23 rfl; exact Flow.run1 rfl (yes (lss rfl e24 e23) (decide_eq_true hlt2)) (hK _ _ (Below.refl _ _) rfl)
    intro vs W14 hb14 hT
    have v0 := Flow.eqn (hT 0 (by decide))
    simp only [Flow.putsT, v0, Act.put, List.setIfInBounds_toArray, List.set_cons_zero, List.set_cons_succ]
    clear hT v0
    have HB14 := Aside0.mk (below_step HBR.out hb14)
    have HFN_14 := Aside0.mk (FnRow.below HFN.out hb14)
    have HR_14 := Aside0.mk (Kd.R_below HR.out hb14)
    have KF_14 := Aside0.mk (blk_below KF.out hb14)
    have K1_14 := Aside0.mk (blk_below K1.out hb14)
    have K4_14 := Aside0.mk (blk_below K4.out hb14)
    clear hb14
    go_upto_region 8 with fail
    refine Flow.seqT (E := fun u v => Below u.heap.size u v) [(some 26, []), (some 27, [0]), (some 8, [1, 0, 1])] (fun iQ vQ wQ => match iQ with | 0 => vQ = (.pointer (some ⟨gf, k, none⟩)) | 1 => vQ = (fv p) | 2 => vQ = (fv p) | _ => True) rfl (by kernel_rfl) (Below.refl _ _) (fun _ _ _ h k => h.trans (k.mono h.size)) (fun _ _ _ _ h _ => h) ?_ ?_
    ·refine ⟨?_, ?_, ?_, trivial⟩
     ·intro a w' hx hu hd K hK; have e22 : a.tmps.getD 22 undef = (.slice (some ⟨gf, 0, none⟩) mn mn) := hu 22 rfl; have e24 : a.tmps.getD 24 undef = (.int .i64 k) := hu 24 rfl; exact Flow.run1 rfl (ixr Tryd.underlying88 size94 rfl e22 e24 hlt) (hK _ _ (Below.refl _ _) rfl)
     ·intro a w' hx hu hd K hK; have e26 := Flow.got (hd 0 rfl) 26 rfl; exact Flow.run1 rfl (ld rfl e26 ((row_cell fv 2 (blk_below KF_14.out hx) HKP.out).trans (by rw [HP.out])) Tryd.underlying94 rfl) (hK _ _ (Below.refl _ _) rfl)
     ·intro a w' hx hu hd K hK; have e27 := Flow.got (hd 1 rfl) 27 rfl; exact Flow.run1 rfl (Flow.r_assign rfl e27) (hK _ _ (Below.refl _ _) rfl)
    intro vs W15 hb15 hT
    have v0 := Flow.eqn (hT 0 (by decide))
    have v1 := Flow.eqn (hT 1 (by decide))
    have v2 := Flow.eqn (hT 2 (by decide))
    simp only [Flow.putsT, v0, v1, v2, Act.put, List.setIfInBounds_toArray, List.set_cons_zero, List.set_cons_succ]
    clear hT v0 v1 v2
    have HB15 := Aside0.mk (below_step HB14.out hb15)
    have HFN_15 := Aside0.mk (FnRow.below HFN_14.out hb15)
    have HR_15 := Aside0.mk (Kd.R_below HR_14.out hb15)
    have KF_15 := Aside0.mk (blk_below KF_14.out hb15)
    have K1_14_15 := Aside0.mk (blk_below K1_14.out hb15)
    have K4_14_15 := Aside0.mk (blk_below K4_14.out hb15)
    clear hb15
    go_upto_region 9 with fail
    refine Flow.seqT_head (E := fun u v => Below u.heap.size u v) 7 [(some 28, []), (some 29, []), (some 30, [1]), (some 31, [2]), (some 32, [3]), (some 33, [4, 2]), (some 34, [5]), (some 35, [0, 6, 5]), (some 6, [7, 7, 0, 1, 2, 3, 4, 5, 6, 7])] (fun iQ vQ wQ => match iQ with | 0 => vQ = u6 | 1 => vQ = (fv p) | 2 => vQ = (.pointer (some ⟨g1, p, none⟩)) | 3 => vQ = (.pointer (some ⟨g1, p, none⟩)) | 4 => vQ = (.int .i64 (n3 x k)) | 5 => vQ = (.string (itoaB (n3 x k))) | 6 => SliceAt #[.string (itoaB (n3 x k))] 9 1 w.heap.size vQ wQ | _ => True) rfl (by decide) (by kernel_rfl) (Below.refl _ _) (fun _ _ _ h k => h.trans (k.mono h.size)) (fun iQ vQ w1Q w2Q hQ hEQ => match iQ, hQ with | 0, hQ => hQ | 1, hQ => hQ | 2, hQ => hQ | 3, hQ => hQ | 4, hQ => hQ | 5, hQ => hQ | 6, hQ => slice_below hQ hEQ | _ + 7, _ => trivial) ?_ ?_
    ·refine ⟨?_, ?_, ?_, ?_, ?_, ?_, ?_, trivial⟩
     ·intro a w' hx hu hd K hK; have e6 : a.tmps.getD 6 undef = u6 := hu 6 rfl; exact Flow.run1 rfl (Flow.r_move rfl e6) (hK _ _ (Below.refl _ _) rfl)
     ·intro a w' hx hu hd K hK; have e8 : a.tmps.getD 8 undef = (fv p) := hu 8 rfl; exact Flow.run1 rfl (Flow.r_move rfl e8) (hK _ _ (Below.refl _ _) rfl)
     ·intro a w' hx hu hd K hK; have e29 := Flow.got (hd 1 rfl) 29 rfl; have e1 : a.tmps.getD 1 undef = (.pointer (some ⟨g1, 0, none⟩)) := hu 1 rfl; refine Flow.want rfl ?_; exact call_place HPO.out rfl e29 e1 (hK _ _ (Below.refl _ _) rfl)
     ·intro a w' hx hu hd K hK; have e30 := Flow.got (hd 2 rfl) 30 rfl; exact Flow.run1 rfl (nilck rfl e30) (hK _ _ (Below.refl _ _) rfl)
     ·intro a w' hx hu hd K hK; have e31 := Flow.got (hd 3 rfl) 31 rfl; exact Flow.run1 rfl (ld rfl e31 ((blk_cell (blk_below K1_14_15.out hx) p).trans HPA.out) Tryd.underlying3 rfl) (hK _ _ (Below.refl _ _) rfl)
     ·intro a w' hx hu hd K hK; have e32 := Flow.got (hd 4 rfl) 32 rfl; refine Flow.want rfl ?_; refine Flow.val_call rfl Tryd.func56 (by kernel_rfl) rfl (by simp only [List.map_toArray, List.map_cons, List.map_nil, Act.eval, e32] <;> rfl) (itoa_c (n3 x k) (HG.out.num k) w' (HPW.out.below (below_step HB15.out hx))) ?_; rintro e w2 ⟨rfl, hb2⟩; exact ⟨_, rfl, hK _ _ hb2 (by rfl)⟩
     ·intro a w' hx hu hd K hK; have e33 := Flow.got (hd 5 rfl) 33 rfl; exact Flow.run1 rfl (row1_79 rfl e33) (hK _ _ (below_alloc (Below.refl _ _) _) (slice_new (Nat.le_trans (HB15.out).size (hx : Below _ _ _).size)))
    intro vs W16 hb16 hT
    have v0 := Flow.eqn (hT 0 (by decide))
    have v1 := Flow.eqn (hT 1 (by decide))
    have v2 := Flow.eqn (hT 2 (by decide))
    have v3 := Flow.eqn (hT 3 (by decide))
    have v4 := Flow.eqn (hT 4 (by decide))
    have v5 := Flow.eqn (hT 5 (by decide))
    obtain ⟨g16_6, v6, hge6, hk6⟩ : SliceAt _ _ _ _ _ _ := hT 6 (by decide)
    have Kg16_6 := Aside0.mk hk6
    have Gg16_6 := Aside0.mk hge6
    clear hk6 hge6
    simp only [Flow.putsT, v0, v1, v2, v3, v4, v5, v6, Act.put, List.setIfInBounds_toArray, List.set_cons_zero, List.set_cons_succ, List.drop_succ_cons, List.drop_zero, List.take_succ_cons, List.take_zero]
    clear hT v0 v1 v2 v3 v4 v5 v6
    have HB16 := Aside0.mk (below_step HB15.out hb16)
    have HFN_16 := Aside0.mk (FnRow.below HFN_15.out hb16)
    have HR_16 := Aside0.mk (Kd.R_below HR_15.out hb16)
    have KF_16 := Aside0.mk (blk_below KF_15.out hb16)
    have K1_14_15_16 := Aside0.mk (blk_below K1_14_15.out hb16)
    have K4_14_15_16 := Aside0.mk (blk_below K4_14_15.out hb16)
    clear hb16
    have hl17 : (wd i :: numsL x k).length ≤ 4 := (by rw [List.length_cons, numsL_len]; omega)
    refine eapp Value.string ByteArray.empty (w0 := w) (base := w.heap.size) (ys := [itoaB (n3 x k)]) rfl rfl Tryd.underlying79 info9 rfl (by decide) rfl rfl HR_16.out Kg16_6.out HB16.out HB16.out.size ?_ ?_
    ·show ((wd i :: numsL x k).length + 1) * 16 ≤ _; omega
    intro v17 W17 hr17 hb17 hgr17
    have HR_17 := Aside0.mk hr17
    have HB17 := Aside0.mk hb17
    clear hr17 hb17
    have K1_14_15_16_17 := Aside0.mk (blk_grown K1_14_15_16.out hgr17 (Kd.R_ne HR_16.out K1_14_15_16.out (by decide)))
    have K4_14_15_16_17 := Aside0.mk (blk_grown K4_14_15_16.out hgr17 (Kd.R_ne HR_16.out K4_14_15_16.out (by decide)))
    have HFN_17 := Aside0.mk (FnRow.grown HFN_16.out HR_16.out hgr17)
    clear hgr17
    simp only [Act.put, List.setIfInBounds_toArray, List.set_cons_zero, List.set_cons_succ]
    refine Flow.seqL (E := fun u v => Below u.heap.size u v) 8 1 [(some 28, []), (some 29, []), (some 30, [1]), (some 31, [2]), (some 32, [3]), (some 33, [4, 2]), (some 34, [5]), (some 35, [0, 6, 5]), (some 6, [7, 7, 0, 1, 2, 3, 4, 5, 6, 7])] (fun iQ vQ wQ => match iQ with | 8 => vQ = v17 | _ => True) rfl (by decide) (by kernel_rfl) (Below.refl _ _) (fun _ _ _ h k => h.trans (k.mono h.size)) (fun _ _ _ _ h _ => h) ?_ ?_
    ·refine ⟨?_, trivial⟩
     ·intro a w' hx hu hd K hK; have e35 : a.tmps.getD 35 undef = v17 := hu 35 rfl; exact Flow.run1 rfl (Flow.r_assign rfl e35) (hK _ _ (Below.refl _ _) rfl)
    intro vs W18 hb18 hT
    have v8 := Flow.eqn (hT 8 (by decide) (by decide))
    simp only [Flow.putsT, v8, Act.put, List.setIfInBounds_toArray, List.set_cons_zero, List.set_cons_succ, List.drop_succ_cons, List.drop_zero, List.take_succ_cons, List.take_zero]
    clear hT v8
    have HB18 := Aside0.mk (below_step HB17.out hb18)
    have HFN_18 := Aside0.mk (FnRow.below HFN_17.out hb18)
    have HR_18 := Aside0.mk (Kd.R_below HR_17.out hb18)
    have K1_14_15_16_17_18 := Aside0.mk (blk_below K1_14_15_16_17.out hb18)
    have K4_14_15_16_17_18 := Aside0.mk (blk_below K4_14_15_16_17.out hb18)
    clear hb18
    obtain ⟨k1, K1H⟩ : ∃ q, Aside0 (k + 1 = q) := ⟨_, ⟨rfl⟩⟩
    have hk1 := K1H.out
    go_upto_region 10 with fail
    refine Flow.seqT (E := fun u v => Below u.heap.size u v) [(some 36, []), (some 24, [0])] (fun iQ vQ wQ => match iQ with | 0 => vQ = (.int .i64 k1) | 1 => vQ = (.int .i64 k1) | _ => True) rfl (by kernel_rfl) (Below.refl _ _) (fun _ _ _ h k => h.trans (k.mono h.size)) (fun _ _ _ _ h _ => h) ?_ ?_
    ·refine ⟨?_, ?_, trivial⟩
     ·intro a w' hx hu hd K hK; have e24 : a.tmps.getD 24 undef = (.int .i64 k) := hu 24 rfl; exact Flow.run1 rfl (addk rfl e24 rfl (by omega) (by omega) (by omega)) (hK _ _ (Below.refl _ _) rfl)
     ·intro a w' hx hu hd K hK; have e36 := Flow.got (hd 0 rfl) 36 rfl; exact Flow.run1 rfl (Flow.r_move rfl e36) (hK _ _ (Below.refl _ _) rfl)
    intro vs W19 hb19 hT
    have v0 := Flow.eqn (hT 0 (by decide))
    have v1 := Flow.eqn (hT 1 (by decide))
    simp only [Flow.putsT, v0, v1, Act.put, List.setIfInBounds_toArray, List.set_cons_zero, List.set_cons_succ]
    clear hT v0 v1
    have HB19 := Aside0.mk (below_step HB18.out hb19)
    have HFN_19 := Aside0.mk (FnRow.below HFN_18.out hb19)
    have HR_19 := Aside0.mk (Kd.R_below HR_18.out hb19)
    have K1_14_15_16_17_18_19 := Aside0.mk (blk_below K1_14_15_16_17_18.out hb19)
    have K4_14_15_16_17_18_19 := Aside0.mk (blk_below K4_14_15_16_17_18.out hb19)
    clear hb19
    go_wp2
    go_roundg (mn - (k + 1))
    case measure => have := HGK.out; omega
    case rel => exact ⟨k1, by omega, ⟨by omega⟩, rfl, HB19, K1_14_15_16_17_18_19, K4_14_15_16_17_18_19, HFN_19, ⟨by rw [← hk1, numsL_succ, ← List.cons_append]; exact HR_19.out⟩⟩
   ·obtain rfl : k = mn := by omega
    have hlt2 : ¬ ((k : Nat) : Int) < k := by omega
    go_upto_region 7 with fail
    refine Flow.seqT (E := fun u v => Below u.heap.size u v) [(some 25, [])] (fun iQ vQ wQ => match iQ with | 0 => vQ = (.bool false) | _ => True) rfl (by kernel_rfl) (Below.refl _ _) (fun _ _ _ h k => h.trans (k.mono h.size)) (fun _ _ _ _ h _ => h) ?_ ?_
    ·refine ⟨?_, trivial⟩
     ·intro a w' hx hu hd K hK; have e24 : a.tmps.getD 24 undef = (.int .i64 k) := hu 24 rfl; have e23 : a.tmps.getD 23 undef = (.int .i64 k) := hu 23 rfl; exact Flow.run1 rfl (no (lss rfl e24 e23) (decide_eq_false hlt2)) (hK _ _ (Below.refl _ _) rfl)
    intro vs W20 hb20 hT
    have v0 := Flow.eqn (hT 0 (by decide))
    simp only [Flow.putsT, v0, Act.put, List.setIfInBounds_toArray, List.set_cons_zero, List.set_cons_succ]
    clear hT v0
    have HB20 := Aside0.mk (below_step HBR.out hb20)
    have HFN_20 := Aside0.mk (FnRow.below HFN.out hb20)
    have HR_20 := Aside0.mk (Kd.R_below HR.out hb20)
    have K1_20 := Aside0.mk (blk_below K1.out hb20)
    have K4_20 := Aside0.mk (blk_below K4.out hb20)
    clear hb20
    go_upto_region 11 with fail
    refine Flow.seqT (E := fun u v => Below u.heap.size u v) [(some 37, []), (some 38, [0]), (some 39, [1])] (fun iQ vQ wQ => match iQ with | 0 => vQ = (.pointer (some ⟨g7, 3, none⟩)) | 1 => vQ = (fv 5) | 2 => vQ = (.bool true) | _ => True) rfl (by kernel_rfl) (Below.refl _ _) (fun _ _ _ h k => h.trans (k.mono h.size)) (fun _ _ _ _ h _ => h) ?_ ?_
    ·refine ⟨?_, ?_, ?_, trivial⟩
     ·intro a w' hx hu hd K hK; have e4 : a.tmps.getD 4 undef = (.pointer (some ⟨g7, 0, none⟩)) := hu 4 rfl; exact Flow.run1 rfl (fa rfl e4 (fa91_3 _ _ _)) (hK _ _ (Below.refl _ _) rfl)
     ·intro a w' hx hu hd K hK; have e37 := Flow.got (hd 0 rfl) 37 rfl; exact Flow.run1 rfl (ld rfl e37 ((blk_cell (blk_below K4_20.out hx) 3).trans rfl) Tryd.underlying89 rfl) (hK _ _ (Below.refl _ _) rfl)
     ·intro a w' hx hu hd K hK; have e38 := Flow.got (hd 1 rfl) 38 rfl; exact Flow.run1 rfl (fnf (q := 5) rfl e38 rfl) (hK _ _ (Below.refl _ _) rfl)
    intro vs W21 hb21 hT
    have v0 := Flow.eqn (hT 0 (by decide))
    have v1 := Flow.eqn (hT 1 (by decide))
    have v2 := Flow.eqn (hT 2 (by decide))
    simp only [Flow.putsT, v0, v1, v2, Act.put, List.setIfInBounds_toArray, List.set_cons_zero, List.set_cons_succ]
    clear hT v0 v1 v2
    have HB21 := Aside0.mk (below_step HB20.out hb21)
    have HFN_21 := Aside0.mk (FnRow.below HFN_20.out hb21)
    have HR_21 := Aside0.mk (Kd.R_below HR_20.out hb21)
    have K1_20_21 := Aside0.mk (blk_below K1_20.out hb21)
    have K4_20_21 := Aside0.mk (blk_below K4_20.out hb21)
    clear hb21
    have hzz : (hexB x.data).size ≤ 2000 := by rw [hexB_size, HND.out]; have := HD1.out; omega
    go_upto_region 12 with fail
    refine Flow.seqT (E := fun u v => Below u.heap.size u v) [(some 40, []), (some 41, [0]), (some 42, [1]), (some 43, [2]), (some 44, [3]), (some 45, [4, 2]), (some 9, [5, 5, 0, 1, 2, 3, 4, 5])] (fun iQ vQ wQ => match iQ with | 0 => vQ = (.pointer (some ⟨g7, 3, none⟩)) | 1 => vQ = (fv 5) | 2 => vQ = (.pointer (some ⟨g1, 5, none⟩)) | 3 => vQ = (.pointer (some ⟨g1, 5, none⟩)) | 4 => vQ = (.slice Ad nd cd) | 5 => vQ = (.string (hexB x.data)) | 6 => vQ = (.string (hexB x.data)) | _ => True) rfl (by kernel_rfl) (Below.refl _ _) (fun _ _ _ h k => h.trans (k.mono h.size)) (fun _ _ _ _ h _ => h) ?_ ?_
    ·refine ⟨?_, ?_, ?_, ?_, ?_, ?_, ?_, trivial⟩
     ·intro a w' hx hu hd K hK; have e4 : a.tmps.getD 4 undef = (.pointer (some ⟨g7, 0, none⟩)) := hu 4 rfl; exact Flow.run1 rfl (fa rfl e4 (fa91_3 _ _ _)) (hK _ _ (Below.refl _ _) rfl)
     ·intro a w' hx hu hd K hK; have e40 := Flow.got (hd 0 rfl) 40 rfl; exact Flow.run1 rfl (ld rfl e40 ((blk_cell (blk_below K4_20_21.out hx) 3).trans rfl) Tryd.underlying89 rfl) (hK _ _ (Below.refl _ _) rfl)
     ·intro a w' hx hu hd K hK; have e41 := Flow.got (hd 1 rfl) 41 rfl; have e1 : a.tmps.getD 1 undef = (.pointer (some ⟨g1, 0, none⟩)) := hu 1 rfl; refine Flow.want rfl ?_; exact call_place (q := 5) (by decide) rfl e41 e1 (hK _ _ (Below.refl _ _) rfl)
     ·intro a w' hx hu hd K hK; have e42 := Flow.got (hd 2 rfl) 42 rfl; exact Flow.run1 rfl (nilck rfl e42) (hK _ _ (Below.refl _ _) rfl)
     ·intro a w' hx hu hd K hK; have e43 := Flow.got (hd 3 rfl) 43 rfl; exact Flow.run1 rfl (ld rfl e43 ((blk_cell (blk_below K1_20_21.out hx) 5).trans rfl) Tryd.underlying43 rfl) (hK _ _ (Below.refl _ _) rfl)
     ·intro a w' hx hu hd K hK; have e44 := Flow.got (hd 4 rfl) 44 rfl; refine Flow.want rfl ?_; refine Flow.val_call rfl Tryd.func25 (by kernel_rfl) rfl (by simp only [List.map_toArray, List.map_cons, List.map_nil, Act.eval, e44] <;> rfl) (hexn2 HND.out (hex_c x.data Ad cd HG.out.data (by rw [HND.out]; have := HD1.out; omega) w' (HND.out.symm ▸ Kd.C_below HCD.out (below_step HB21.out hx)))) ?_; rintro e w2 ⟨rfl, hb2⟩; exact ⟨_, rfl, hK _ _ hb2 (by rfl)⟩
     ·intro a w' hx hu hd K hK; have e45 := Flow.got (hd 5 rfl) 45 rfl; exact Flow.run1 rfl (Flow.r_assign rfl e45) (hK _ _ (Below.refl _ _) rfl)
    intro vs W22 hb22 hT
    have v0 := Flow.eqn (hT 0 (by decide))
    have v1 := Flow.eqn (hT 1 (by decide))
    have v2 := Flow.eqn (hT 2 (by decide))
    have v3 := Flow.eqn (hT 3 (by decide))
    have v4 := Flow.eqn (hT 4 (by decide))
    have v5 := Flow.eqn (hT 5 (by decide))
    have v6 := Flow.eqn (hT 6 (by decide))
    simp only [Flow.putsT, v0, v1, v2, v3, v4, v5, v6, Act.put, List.setIfInBounds_toArray, List.set_cons_zero, List.set_cons_succ]
    clear hT v0 v1 v2 v3 v4 v5 v6
    have HB22 := Aside0.mk (below_step HB21.out hb22)
    have HFN_22 := Aside0.mk (FnRow.below HFN_21.out hb22)
    have HR_22 := Aside0.mk (Kd.R_below HR_21.out hb22)
    have K1_20_21_22 := Aside0.mk (blk_below K1_20_21.out hb22)
    have K4_20_21_22 := Aside0.mk (blk_below K4_20_21.out hb22)
    clear hb22
    by_cases hz0 : nd = 0
    ·have HZ0 := Aside0.mk hz0
     clear hz0
     go_upto_region 13 with fail
     refine Flow.seqT (E := fun u v => Below u.heap.size u v) [(some 46, []), (some 47, [0])] (fun iQ vQ wQ => match iQ with | 0 => vQ = (.string (hexB x.data)) | 1 => vQ = (.bool true) | _ => True) rfl (by kernel_rfl) (Below.refl _ _) (fun _ _ _ h k => h.trans (k.mono h.size)) (fun _ _ _ _ h _ => h) ?_ ?_
     ·refine ⟨?_, ?_, trivial⟩
      ·intro a w' hx hu hd K hK; have e9 : a.tmps.getD 9 undef = (.string (hexB x.data)) := hu 9 rfl; exact Flow.run1 rfl (Flow.r_move rfl e9) (hK _ _ (Below.refl _ _) rfl)
      ·intro a w' hx hu hd K hK; have e46 := Flow.got (hd 0 rfl) 46 rfl; exact Flow.run1 rfl (seqb rfl e46 rfl (hexB_e (by rw [HND.out]; exact HZ0.out))) (hK _ _ (Below.refl _ _) rfl)
     intro vs W23 hb23 hT
     have v0 := Flow.eqn (hT 0 (by decide))
     have v1 := Flow.eqn (hT 1 (by decide))
     simp only [Flow.putsT, v0, v1, Act.put, List.setIfInBounds_toArray, List.set_cons_zero, List.set_cons_succ]
     clear hT v0 v1
     have HB23 := Aside0.mk (below_step HB22.out hb23)
     have HFN_23 := Aside0.mk (FnRow.below HFN_22.out hb23)
     have HR_23 := Aside0.mk (Kd.R_below HR_22.out hb23)
     have K1_20_21_22_23 := Aside0.mk (blk_below K1_20_21_22.out hb23)
     have K4_20_21_22_23 := Aside0.mk (blk_below K4_20_21_22.out hb23)
     clear hb23
     go_upto_region 14 with fail
     refine Flow.seqT (E := fun u v => Below u.heap.size u v) [(some 9, [])] (fun iQ vQ wQ => match iQ with | 0 => vQ = (.string ⟨#[45]⟩) | _ => True) rfl (by kernel_rfl) (Below.refl _ _) (fun _ _ _ h k => h.trans (k.mono h.size)) (fun _ _ _ _ h _ => h) ?_ ?_
     ·refine ⟨?_, trivial⟩
      ·intro a w' hx hu hd K hK; exact Flow.run1 rfl (Flow.r_assign rfl rfl) (hK _ _ (Below.refl _ _) rfl)
     intro vs W24 hb24 hT
     have v0 := Flow.eqn (hT 0 (by decide))
     simp only [Flow.putsT, v0, Act.put, List.setIfInBounds_toArray, List.set_cons_zero, List.set_cons_succ]
     clear hT v0
     have HB24 := Aside0.mk (below_step HB23.out hb24)
     have HFN_24 := Aside0.mk (FnRow.below HFN_23.out hb24)
     have HR_24 := Aside0.mk (Kd.R_below HR_23.out hb24)
     have K1_20_21_22_23_24 := Aside0.mk (blk_below K1_20_21_22_23.out hb24)
     have K4_20_21_22_23_24 := Aside0.mk (blk_below K4_20_21_22_23.out hb24)
     clear hb24
     have HHW : Aside0 (hexW x.data = (⟨#[45]⟩ : ByteArray)) := ⟨if_pos (by rw [HND.out]; exact HZ0.out)⟩
     go_upto_region 15 with fail
     refine Flow.seqT_head (E := fun u v => Below u.heap.size u v) 3 [(some 48, []), (some 49, []), (some 50, [1]), (some 51, [0, 2]), (some 6, [3, 3, 0, 1, 2, 3])] (fun iQ vQ wQ => match iQ with | 0 => vQ = u6 | 1 => vQ = (.string ⟨#[45]⟩) | 2 => SliceAt #[.string ⟨#[45]⟩] 9 1 w.heap.size vQ wQ | _ => True) rfl (by decide) (by kernel_rfl) (Below.refl _ _) (fun _ _ _ h k => h.trans (k.mono h.size)) (fun iQ vQ w1Q w2Q hQ hEQ => match iQ, hQ with | 0, hQ => hQ | 1, hQ => hQ | 2, hQ => slice_below hQ hEQ | _ + 3, _ => trivial) ?_ ?_
     ·refine ⟨?_, ?_, ?_, trivial⟩
      ·intro a w' hx hu hd K hK; have e6 : a.tmps.getD 6 undef = u6 := hu 6 rfl; exact Flow.run1 rfl (Flow.r_move rfl e6) (hK _ _ (Below.refl _ _) rfl)
      ·intro a w' hx hu hd K hK; have e9 : a.tmps.getD 9 undef = (.string ⟨#[45]⟩) := hu 9 rfl; exact Flow.run1 rfl (Flow.r_move rfl e9) (hK _ _ (Below.refl _ _) rfl)
      ·intro a w' hx hu hd K hK; have e49 := Flow.got (hd 1 rfl) 49 rfl; exact Flow.run1 rfl (row1_79 rfl e49) (hK _ _ (below_alloc (Below.refl _ _) _) (slice_new (Nat.le_trans (HB24.out).size (hx : Below _ _ _).size)))
     intro vs W25 hb25 hT
     have v0 := Flow.eqn (hT 0 (by decide))
     have v1 := Flow.eqn (hT 1 (by decide))
     obtain ⟨g25_2, v2, hge2, hk2⟩ : SliceAt _ _ _ _ _ _ := hT 2 (by decide)
     have Kg25_2 := Aside0.mk hk2
     have Gg25_2 := Aside0.mk hge2
     clear hk2 hge2
     simp only [Flow.putsT, v0, v1, v2, Act.put, List.setIfInBounds_toArray, List.set_cons_zero, List.set_cons_succ, List.drop_succ_cons, List.drop_zero, List.take_succ_cons, List.take_zero]
     clear hT v0 v1 v2
     have HB25 := Aside0.mk (below_step HB24.out hb25)
     have HFN_25 := Aside0.mk (FnRow.below HFN_24.out hb25)
     have HR_25 := Aside0.mk (Kd.R_below HR_24.out hb25)
     have K1_20_21_22_23_24_25 := Aside0.mk (blk_below K1_20_21_22_23_24.out hb25)
     have K4_20_21_22_23_24_25 := Aside0.mk (blk_below K4_20_21_22_23_24.out hb25)
     clear hb25
     have hl26 : (wd i :: numsL x k).length ≤ 4 := (by rw [List.length_cons, numsL_len]; omega)
     refine eapp Value.string ByteArray.empty (w0 := w) (base := w.heap.size) (ys := [(⟨#[45]⟩ : ByteArray)]) rfl rfl Tryd.underlying79 info9 rfl (by decide) rfl rfl HR_25.out Kg25_2.out HB25.out HB25.out.size ?_ ?_
     ·show ((wd i :: numsL x k).length + 1) * 16 ≤ _; omega
     intro v26 W26 hr26 hb26 hgr26
     have HR_26 := Aside0.mk hr26
     have HB26 := Aside0.mk hb26
     clear hr26 hb26
     have K1_20_21_22_23_24_25_26 := Aside0.mk (blk_grown K1_20_21_22_23_24_25.out hgr26 (Kd.R_ne HR_25.out K1_20_21_22_23_24_25.out (by decide)))
     have K4_20_21_22_23_24_25_26 := Aside0.mk (blk_grown K4_20_21_22_23_24_25.out hgr26 (Kd.R_ne HR_25.out K4_20_21_22_23_24_25.out (by decide)))
     have HFN_26 := Aside0.mk (FnRow.grown HFN_25.out HR_25.out hgr26)
     clear hgr26
     simp only [Act.put, List.setIfInBounds_toArray, List.set_cons_zero, List.set_cons_succ]
     refine Flow.seqL (E := fun u v => Below u.heap.size u v) 4 1 [(some 48, []), (some 49, []), (some 50, [1]), (some 51, [0, 2]), (some 6, [3, 3, 0, 1, 2, 3])] (fun iQ vQ wQ => match iQ with | 4 => vQ = v26 | _ => True) rfl (by decide) (by kernel_rfl) (Below.refl _ _) (fun _ _ _ h k => h.trans (k.mono h.size)) (fun _ _ _ _ h _ => h) ?_ ?_
     ·refine ⟨?_, trivial⟩
      ·intro a w' hx hu hd K hK; have e51 : a.tmps.getD 51 undef = v26 := hu 51 rfl; exact Flow.run1 rfl (Flow.r_assign rfl e51) (hK _ _ (Below.refl _ _) rfl)
     intro vs W27 hb27 hT
     have v4 := Flow.eqn (hT 4 (by decide) (by decide))
     simp only [Flow.putsT, v4, Act.put, List.setIfInBounds_toArray, List.set_cons_zero, List.set_cons_succ, List.drop_succ_cons, List.drop_zero, List.take_succ_cons, List.take_zero]
     clear hT v4
     have HB27 := Aside0.mk (below_step HB26.out hb27)
     have HFN_27 := Aside0.mk (FnRow.below HFN_26.out hb27)
     have HR_27 := Aside0.mk (Kd.R_below HR_26.out hb27)
     have K1_20_21_22_23_24_25_26_27 := Aside0.mk (blk_below K1_20_21_22_23_24_25_26.out hb27)
     have K4_20_21_22_23_24_25_26_27 := Aside0.mk (blk_below K4_20_21_22_23_24_25_26.out hb27)
     clear hb27
     obtain ⟨fu, HFU⟩ : ∃ q, Aside0 (x.fua = q) := ⟨_, ⟨rfl⟩⟩
     rw [HFU.out] at K1_20_21_22_23_24_25_26_27
     cases fu with
     | true =>
      go_upto_region 16 with fail
      refine Flow.seqT (E := fun u v => Below u.heap.size u v) [(some 52, []), (some 53, [0]), (some 54, [1]), (some 55, [2]), (some 56, [3, 2]), (some 57, [4, 2]), (some 58, [2, 5])] (fun iQ vQ wQ => match iQ with | 0 => vQ = (.string (wd i)) | 1 => vQ = (.bool true) | 2 => vQ = (.bool true) | 3 => vQ = (.pointer (some ⟨g1, 1, none⟩)) | 4 => vQ = (.pointer (some ⟨g1, 6, none⟩)) | 5 => vQ = (.bool true) | 6 => vQ = (.bool true) | _ => True) rfl (by kernel_rfl) (Below.refl _ _) (fun _ _ _ h k => h.trans (k.mono h.size)) (fun _ _ _ _ h _ => h) ?_ ?_
      ·refine ⟨?_, ?_, ?_, ?_, ?_, ?_, ?_, trivial⟩
       ·intro a w' hx hu hd K hK; have e3 : a.tmps.getD 3 undef = (.string (wd i)) := hu 3 rfl; exact Flow.run1 rfl (Flow.r_move rfl e3) (hK _ _ (Below.refl _ _) rfl)
       ·intro a w' hx hu hd K hK; have e52 := Flow.got (hd 0 rfl) 52 rfl; exact Flow.run1 rfl (seqb rfl e52 rfl (by rw [HZ.out]; exact wd0_yes)) (hK _ _ (Below.refl _ _) rfl)
       ·intro a w' hx hu hd K hK; have e53 := Flow.got (hd 1 rfl) 53 rfl; exact Flow.run1 rfl (Flow.r_move rfl e53) (hK _ _ (Below.refl _ _) rfl)
       ·intro a w' hx hu hd K hK; have e1 : a.tmps.getD 1 undef = (.pointer (some ⟨g1, 0, none⟩)) := hu 1 rfl; have e54 := Flow.got (hd 2 rfl) 54 rfl; exact Flow.run1 (Flow.want_of (k := 54) rfl e54) (fa rfl e1 (fa56_1 _ _ _)) (hK _ _ (Below.refl _ _) rfl)
       ·intro a w' hx hu hd K hK; have e55 := Flow.got (hd 3 rfl) 55 rfl; have e54 := Flow.got (hd 2 rfl) 54 rfl; exact Flow.run1 (Flow.want_of (k := 54) rfl e54) (fa rfl e55 (fa54_5 _ _ _)) (hK _ _ (Below.refl _ _) rfl)
       ·intro a w' hx hu hd K hK; have e56 := Flow.got (hd 4 rfl) 56 rfl; have e54 := Flow.got (hd 2 rfl) 54 rfl; exact Flow.run1 (Flow.want_of (k := 54) rfl e54) (ld rfl e56 ((blk_cell (blk_below K1_20_21_22_23_24_25_26_27.out hx) 6).trans rfl) Tryd.underlying4 rfl) (hK _ _ (Below.refl _ _) rfl)
       ·intro a w' hx hu hd K hK; have e54 := Flow.got (hd 2 rfl) 54 rfl; have e57 := Flow.got (hd 5 rfl) 57 rfl; exact Flow.run1 rfl (Flow.r_pick rfl e54 e57) (hK _ _ (Below.refl _ _) rfl)
      intro vs W28 hb28 hT
      have v0 := Flow.eqn (hT 0 (by decide))
      have v1 := Flow.eqn (hT 1 (by decide))
      have v2 := Flow.eqn (hT 2 (by decide))
      have v3 := Flow.eqn (hT 3 (by decide))
      have v4 := Flow.eqn (hT 4 (by decide))
      have v5 := Flow.eqn (hT 5 (by decide))
      have v6 := Flow.eqn (hT 6 (by decide))
      simp only [Flow.putsT, v0, v1, v2, v3, v4, v5, v6, Act.put, List.setIfInBounds_toArray, List.set_cons_zero, List.set_cons_succ]
      clear hT v0 v1 v2 v3 v4 v5 v6
      have HB28 := Aside0.mk (below_step HB27.out hb28)
      have HFN_28 := Aside0.mk (FnRow.below HFN_27.out hb28)
      have HR_28 := Aside0.mk (Kd.R_below HR_27.out hb28)
      have K1_20_21_22_23_24_25_26_27_28 := Aside0.mk (blk_below K1_20_21_22_23_24_25_26_27.out hb28)
      have K4_20_21_22_23_24_25_26_27_28 := Aside0.mk (blk_below K4_20_21_22_23_24_25_26_27.out hb28)
      clear hb28
      go_upto_region 17 with fail
      refine Flow.seqT_head (E := fun u v => Below u.heap.size u v) 2 [(some 59, []), (some 60, []), (some 61, [0, 1]), (some 6, [2, 2, 0, 1, 2])] (fun iQ vQ wQ => match iQ with | 0 => vQ = v26 | 1 => SliceAt #[.string ⟨#[102, 117, 97]⟩] 9 1 w.heap.size vQ wQ | _ => True) rfl (by decide) (by kernel_rfl) (Below.refl _ _) (fun _ _ _ h k => h.trans (k.mono h.size)) (fun iQ vQ w1Q w2Q hQ hEQ => match iQ, hQ with | 0, hQ => hQ | 1, hQ => slice_below hQ hEQ | _ + 2, _ => trivial) ?_ ?_
      ·refine ⟨?_, ?_, trivial⟩
       ·intro a w' hx hu hd K hK; have e6 : a.tmps.getD 6 undef = v26 := hu 6 rfl; exact Flow.run1 rfl (Flow.r_move rfl e6) (hK _ _ (Below.refl _ _) rfl)
       ·intro a w' hx hu hd K hK; exact Flow.run1 rfl (row1_79 rfl rfl) (hK _ _ (below_alloc (Below.refl _ _) _) (slice_new (Nat.le_trans (HB28.out).size (hx : Below _ _ _).size)))
      intro vs W29 hb29 hT
      have v0 := Flow.eqn (hT 0 (by decide))
      obtain ⟨g29_1, v1, hge1, hk1⟩ : SliceAt _ _ _ _ _ _ := hT 1 (by decide)
      have Kg29_1 := Aside0.mk hk1
      have Gg29_1 := Aside0.mk hge1
      clear hk1 hge1
      simp only [Flow.putsT, v0, v1, Act.put, List.setIfInBounds_toArray, List.set_cons_zero, List.set_cons_succ, List.drop_succ_cons, List.drop_zero, List.take_succ_cons, List.take_zero]
      clear hT v0 v1
      have HB29 := Aside0.mk (below_step HB28.out hb29)
      have HFN_29 := Aside0.mk (FnRow.below HFN_28.out hb29)
      have HR_29 := Aside0.mk (Kd.R_below HR_28.out hb29)
      have K1_20_21_22_23_24_25_26_27_28_29 := Aside0.mk (blk_below K1_20_21_22_23_24_25_26_27_28.out hb29)
      have K4_20_21_22_23_24_25_26_27_28_29 := Aside0.mk (blk_below K4_20_21_22_23_24_25_26_27_28.out hb29)
      clear hb29
      have hl30 : (wd i :: numsL x k ++ [(⟨#[45]⟩ : ByteArray)]).length ≤ 5 := (napp hl26 rfl)
      refine eapp Value.string ByteArray.empty (w0 := w) (base := w.heap.size) (ys := [(⟨#[102, 117, 97]⟩ : ByteArray)]) rfl rfl Tryd.underlying79 info9 rfl (by decide) rfl rfl HR_29.out Kg29_1.out HB29.out HB29.out.size ?_ ?_
      ·show ((wd i :: numsL x k ++ [(⟨#[45]⟩ : ByteArray)]).length + 1) * 16 ≤ _; omega
      intro v30 W30 hr30 hb30 hgr30
      have HR_30 := Aside0.mk hr30
      have HB30 := Aside0.mk hb30
      clear hr30 hb30
      have K1_20_21_22_23_24_25_26_27_28_29_30 := Aside0.mk (blk_grown K1_20_21_22_23_24_25_26_27_28_29.out hgr30 (Kd.R_ne HR_29.out K1_20_21_22_23_24_25_26_27_28_29.out (by decide)))
      have K4_20_21_22_23_24_25_26_27_28_29_30 := Aside0.mk (blk_grown K4_20_21_22_23_24_25_26_27_28_29.out hgr30 (Kd.R_ne HR_29.out K4_20_21_22_23_24_25_26_27_28_29.out (by decide)))
      have HFN_30 := Aside0.mk (FnRow.grown HFN_29.out HR_29.out hgr30)
      clear hgr30
      simp only [Act.put, List.setIfInBounds_toArray, List.set_cons_zero, List.set_cons_succ]
      refine Flow.seqL (E := fun u v => Below u.heap.size u v) 3 1 [(some 59, []), (some 60, []), (some 61, [0, 1]), (some 6, [2, 2, 0, 1, 2])] (fun iQ vQ wQ => match iQ with | 3 => vQ = v30 | _ => True) rfl (by decide) (by kernel_rfl) (Below.refl _ _) (fun _ _ _ h k => h.trans (k.mono h.size)) (fun _ _ _ _ h _ => h) ?_ ?_
      ·refine ⟨?_, trivial⟩
       ·intro a w' hx hu hd K hK; have e61 : a.tmps.getD 61 undef = v30 := hu 61 rfl; exact Flow.run1 rfl (Flow.r_assign rfl e61) (hK _ _ (Below.refl _ _) rfl)
      intro vs W31 hb31 hT
      have v3 := Flow.eqn (hT 3 (by decide) (by decide))
      simp only [Flow.putsT, v3, Act.put, List.setIfInBounds_toArray, List.set_cons_zero, List.set_cons_succ, List.drop_succ_cons, List.drop_zero, List.take_succ_cons, List.take_zero]
      clear hT v3
      have HB31 := Aside0.mk (below_step HB30.out hb31)
      have HFN_31 := Aside0.mk (FnRow.below HFN_30.out hb31)
      have HR_31 := Aside0.mk (Kd.R_below HR_30.out hb31)
      have K1_20_21_22_23_24_25_26_27_28_29_30_31 := Aside0.mk (blk_below K1_20_21_22_23_24_25_26_27_28_29_30.out hb31)
      have K4_20_21_22_23_24_25_26_27_28_29_30_31 := Aside0.mk (blk_below K4_20_21_22_23_24_25_26_27_28_29_30.out hb31)
      clear hb31
      have HLS : Aside0 (fmtL x i k true = wd i :: numsL x k ++ [(⟨#[45]⟩ : ByteArray)] ++ [(⟨#[102, 117, 97]⟩ : ByteArray)]) := ⟨fmtL_0t HZ.out HFU.out HHW.out⟩
      have hsz : ∀ s ∈ wd i :: numsL x k ++ [(⟨#[45]⟩ : ByteArray)] ++ [(⟨#[102, 117, 97]⟩ : ByteArray)], s.size ≤ 2000 := (fun s hs => (List.mem_append.1 hs).elim ((fun s hs => (List.mem_append.1 hs).elim ((wn_size x HG.out i k HI.out hm3) s) (fun h => by rw [List.mem_singleton.1 h]; decide)) s) (fun h => by rw [List.mem_singleton.1 h]; decide))
      have HST := Aside0.mk (Rep.strs_R (l := wd i :: numsL x k ++ [(⟨#[45]⟩ : ByteArray)] ++ [(⟨#[102, 117, 97]⟩ : ByteArray)]) HR_31.out (by simp))
      have HWS : Aside0 ((wordsB (wd i :: numsL x k ++ [(⟨#[45]⟩ : ByteArray)] ++ [(⟨#[102, 117, 97]⟩ : ByteArray)])).size ≤ 20000) := ⟨Nat.le_trans (wordsB_size 2000 _ hsz) (by simp only [List.length_append, List.length_cons, List.length_nil, numsL_len]; omega)⟩
      obtain ⟨tw, HTW⟩ : ∃ q, Aside0 (wordsB (wd i :: numsL x k ++ [(⟨#[45]⟩ : ByteArray)] ++ [(⟨#[102, 117, 97]⟩ : ByteArray)]) = q) := ⟨_, ⟨rfl⟩⟩
      go_upto_region 18 with fail
      refine Flow.seqT (E := fun u v => Below u.heap.size u v) [(some 62, []), (some 63, [0]), (some 2, [1, 1, 0, 1])] (fun iQ vQ wQ => match iQ with | 0 => vQ = v30 | 1 => vQ = (.string tw) | 2 => vQ = (.string tw) | _ => True) rfl (by kernel_rfl) (Below.refl _ _) (fun _ _ _ h k => h.trans (k.mono h.size)) (fun _ _ _ _ h _ => h) ?_ ?_
      ·refine ⟨?_, ?_, ?_, trivial⟩
       ·intro a w' hx hu hd K hK; have e6 : a.tmps.getD 6 undef = v30 := hu 6 rfl; exact Flow.run1 rfl (Flow.r_move rfl e6) (hK _ _ (Below.refl _ _) rfl)
       ·intro a w' hx hu hd K hK; have e62 := Flow.got (hd 0 rfl) 62 rfl; refine Flow.want rfl ?_; refine Flow.val_call rfl Tryd.func57 (by kernel_rfl) rfl (by simp only [List.map_toArray, List.map_cons, List.map_nil, Act.eval, e62] <;> rfl) (join_c (wd i :: numsL x k ++ [(⟨#[45]⟩ : ByteArray)] ++ [(⟨#[102, 117, 97]⟩ : ByteArray)]) _ w' (HST.out.below hx) (by simp only [List.length_append, List.length_cons, List.length_nil, numsL_len]; omega) (Nat.le_trans HWS.out (by decide))) ?_; rintro e w2 ⟨rfl, hb2⟩; rw [HTW.out]; exact ⟨_, rfl, hK _ _ hb2 rfl⟩
       ·intro a w' hx hu hd K hK; have e63 := Flow.got (hd 1 rfl) 63 rfl; exact Flow.run1 rfl (Flow.r_assign rfl e63) (hK _ _ (Below.refl _ _) rfl)
      intro vs W32 hb32 hT
      have v0 := Flow.eqn (hT 0 (by decide))
      have v1 := Flow.eqn (hT 1 (by decide))
      have v2 := Flow.eqn (hT 2 (by decide))
      simp only [Flow.putsT, v0, v1, v2, Act.put, List.setIfInBounds_toArray, List.set_cons_zero, List.set_cons_succ]
      clear hT v0 v1 v2
      have HB32 := Aside0.mk (below_step HB31.out hb32)
      have HFN_32 := Aside0.mk (FnRow.below HFN_31.out hb32)
      have HR_32 := Aside0.mk (Kd.R_below HR_31.out hb32)
      have HST_32 := Aside0.mk (Rep.Strs.below HST.out hb32)
      have K1_20_21_22_23_24_25_26_27_28_29_30_31_32 := Aside0.mk (blk_below K1_20_21_22_23_24_25_26_27_28_29_30_31.out hb32)
      have K4_20_21_22_23_24_25_26_27_28_29_30_31_32 := Aside0.mk (blk_below K4_20_21_22_23_24_25_26_27_28_29_30_31.out hb32)
      clear hb32
      go_wp2_with fail
      exact bodyPost_ret (results_tmp Tryd.results34 _ _ _) rfl ⟨by rw [HLS.out, HTW.out]; rfl, HB32.out⟩
     | false =>
      go_upto_region 16 with fail
      refine Flow.seqT (E := fun u v => Below u.heap.size u v) [(some 52, []), (some 53, [0]), (some 54, [1]), (some 55, [2]), (some 56, [3, 2]), (some 57, [4, 2]), (some 58, [2, 5])] (fun iQ vQ wQ => match iQ with | 0 => vQ = (.string (wd i)) | 1 => vQ = (.bool true) | 2 => vQ = (.bool true) | 3 => vQ = (.pointer (some ⟨g1, 1, none⟩)) | 4 => vQ = (.pointer (some ⟨g1, 6, none⟩)) | 5 => vQ = (.bool false) | 6 => vQ = (.bool false) | _ => True) rfl (by kernel_rfl) (Below.refl _ _) (fun _ _ _ h k => h.trans (k.mono h.size)) (fun _ _ _ _ h _ => h) ?_ ?_
      ·refine ⟨?_, ?_, ?_, ?_, ?_, ?_, ?_, trivial⟩
       ·intro a w' hx hu hd K hK; have e3 : a.tmps.getD 3 undef = (.string (wd i)) := hu 3 rfl; exact Flow.run1 rfl (Flow.r_move rfl e3) (hK _ _ (Below.refl _ _) rfl)
       ·intro a w' hx hu hd K hK; have e52 := Flow.got (hd 0 rfl) 52 rfl; exact Flow.run1 rfl (seqb rfl e52 rfl (by rw [HZ.out]; exact wd0_yes)) (hK _ _ (Below.refl _ _) rfl)
       ·intro a w' hx hu hd K hK; have e53 := Flow.got (hd 1 rfl) 53 rfl; exact Flow.run1 rfl (Flow.r_move rfl e53) (hK _ _ (Below.refl _ _) rfl)
       ·intro a w' hx hu hd K hK; have e1 : a.tmps.getD 1 undef = (.pointer (some ⟨g1, 0, none⟩)) := hu 1 rfl; have e54 := Flow.got (hd 2 rfl) 54 rfl; exact Flow.run1 (Flow.want_of (k := 54) rfl e54) (fa rfl e1 (fa56_1 _ _ _)) (hK _ _ (Below.refl _ _) rfl)
       ·intro a w' hx hu hd K hK; have e55 := Flow.got (hd 3 rfl) 55 rfl; have e54 := Flow.got (hd 2 rfl) 54 rfl; exact Flow.run1 (Flow.want_of (k := 54) rfl e54) (fa rfl e55 (fa54_5 _ _ _)) (hK _ _ (Below.refl _ _) rfl)
       ·intro a w' hx hu hd K hK; have e56 := Flow.got (hd 4 rfl) 56 rfl; have e54 := Flow.got (hd 2 rfl) 54 rfl; exact Flow.run1 (Flow.want_of (k := 54) rfl e54) (ld rfl e56 ((blk_cell (blk_below K1_20_21_22_23_24_25_26_27.out hx) 6).trans rfl) Tryd.underlying4 rfl) (hK _ _ (Below.refl _ _) rfl)
       ·intro a w' hx hu hd K hK; have e54 := Flow.got (hd 2 rfl) 54 rfl; have e57 := Flow.got (hd 5 rfl) 57 rfl; exact Flow.run1 rfl (Flow.r_pick rfl e54 e57) (hK _ _ (Below.refl _ _) rfl)
      intro vs W33 hb33 hT
      have v0 := Flow.eqn (hT 0 (by decide))
      have v1 := Flow.eqn (hT 1 (by decide))
      have v2 := Flow.eqn (hT 2 (by decide))
      have v3 := Flow.eqn (hT 3 (by decide))
      have v4 := Flow.eqn (hT 4 (by decide))
      have v5 := Flow.eqn (hT 5 (by decide))
      have v6 := Flow.eqn (hT 6 (by decide))
      simp only [Flow.putsT, v0, v1, v2, v3, v4, v5, v6, Act.put, List.setIfInBounds_toArray, List.set_cons_zero, List.set_cons_succ]
      clear hT v0 v1 v2 v3 v4 v5 v6
      have HB33 := Aside0.mk (below_step HB27.out hb33)
      have HFN_33 := Aside0.mk (FnRow.below HFN_27.out hb33)
      have HR_33 := Aside0.mk (Kd.R_below HR_27.out hb33)
      have K1_20_21_22_23_24_25_26_27_33 := Aside0.mk (blk_below K1_20_21_22_23_24_25_26_27.out hb33)
      have K4_20_21_22_23_24_25_26_27_33 := Aside0.mk (blk_below K4_20_21_22_23_24_25_26_27.out hb33)
      clear hb33
      have HLS : Aside0 (fmtL x i k true = wd i :: numsL x k ++ [(⟨#[45]⟩ : ByteArray)]) := ⟨fmtL_0f HZ.out HFU.out HHW.out⟩
      have hsz : ∀ s ∈ wd i :: numsL x k ++ [(⟨#[45]⟩ : ByteArray)], s.size ≤ 2000 := (fun s hs => (List.mem_append.1 hs).elim ((wn_size x HG.out i k HI.out hm3) s) (fun h => by rw [List.mem_singleton.1 h]; decide))
      have HST := Aside0.mk (Rep.strs_R (l := wd i :: numsL x k ++ [(⟨#[45]⟩ : ByteArray)]) HR_33.out (by simp))
      have HWS : Aside0 ((wordsB (wd i :: numsL x k ++ [(⟨#[45]⟩ : ByteArray)])).size ≤ 20000) := ⟨Nat.le_trans (wordsB_size 2000 _ hsz) (by simp only [List.length_append, List.length_cons, List.length_nil, numsL_len]; omega)⟩
      obtain ⟨tw, HTW⟩ : ∃ q, Aside0 (wordsB (wd i :: numsL x k ++ [(⟨#[45]⟩ : ByteArray)]) = q) := ⟨_, ⟨rfl⟩⟩
      go_upto_region 18 with fail
      refine Flow.seqT (E := fun u v => Below u.heap.size u v) [(some 62, []), (some 63, [0]), (some 2, [1, 1, 0, 1])] (fun iQ vQ wQ => match iQ with | 0 => vQ = v26 | 1 => vQ = (.string tw) | 2 => vQ = (.string tw) | _ => True) rfl (by kernel_rfl) (Below.refl _ _) (fun _ _ _ h k => h.trans (k.mono h.size)) (fun _ _ _ _ h _ => h) ?_ ?_
      ·refine ⟨?_, ?_, ?_, trivial⟩
       ·intro a w' hx hu hd K hK; have e6 : a.tmps.getD 6 undef = v26 := hu 6 rfl; exact Flow.run1 rfl (Flow.r_move rfl e6) (hK _ _ (Below.refl _ _) rfl)
       ·intro a w' hx hu hd K hK; have e62 := Flow.got (hd 0 rfl) 62 rfl; refine Flow.want rfl ?_; refine Flow.val_call rfl Tryd.func57 (by kernel_rfl) rfl (by simp only [List.map_toArray, List.map_cons, List.map_nil, Act.eval, e62] <;> rfl) (join_c (wd i :: numsL x k ++ [(⟨#[45]⟩ : ByteArray)]) _ w' (HST.out.below hx) (by simp only [List.length_append, List.length_cons, List.length_nil, numsL_len]; omega) (Nat.le_trans HWS.out (by decide))) ?_; rintro e w2 ⟨rfl, hb2⟩; rw [HTW.out]; exact ⟨_, rfl, hK _ _ hb2 rfl⟩
       ·intro a w' hx hu hd K hK; have e63 := Flow.got (hd 1 rfl) 63 rfl; exact Flow.run1 rfl (Flow.r_assign rfl e63) (hK _ _ (Below.refl _ _) rfl)
      intro vs W34 hb34 hT
      have v0 := Flow.eqn (hT 0 (by decide))
      have v1 := Flow.eqn (hT 1 (by decide))
      have v2 := Flow.eqn (hT 2 (by decide))
      simp only [Flow.putsT, v0, v1, v2, Act.put, List.setIfInBounds_toArray, List.set_cons_zero, List.set_cons_succ]
      clear hT v0 v1 v2
      have HB34 := Aside0.mk (below_step HB33.out hb34)
      have HFN_34 := Aside0.mk (FnRow.below HFN_33.out hb34)
      have HR_34 := Aside0.mk (Kd.R_below HR_33.out hb34)
      have HST_34 := Aside0.mk (Rep.Strs.below HST.out hb34)
      have K1_20_21_22_23_24_25_26_27_33_34 := Aside0.mk (blk_below K1_20_21_22_23_24_25_26_27_33.out hb34)
      have K4_20_21_22_23_24_25_26_27_33_34 := Aside0.mk (blk_below K4_20_21_22_23_24_25_26_27_33.out hb34)
      clear hb34
      go_wp2_with fail
      exact bodyPost_ret (results_tmp Tryd.results34 _ _ _) rfl ⟨by rw [HLS.out, HTW.out]; rfl, HB34.out⟩
    ·have HZ0 := Aside0.mk hz0
     clear hz0
     go_upto_region 13 with fail
     refine Flow.seqT (E := fun u v => Below u.heap.size u v) [(some 46, []), (some 47, [0])] (fun iQ vQ wQ => match iQ with | 0 => vQ = (.string (hexB x.data)) | 1 => vQ = (.bool false) | _ => True) rfl (by kernel_rfl) (Below.refl _ _) (fun _ _ _ h k => h.trans (k.mono h.size)) (fun _ _ _ _ h _ => h) ?_ ?_
     ·refine ⟨?_, ?_, trivial⟩
      ·intro a w' hx hu hd K hK; have e9 : a.tmps.getD 9 undef = (.string (hexB x.data)) := hu 9 rfl; exact Flow.run1 rfl (Flow.r_move rfl e9) (hK _ _ (Below.refl _ _) rfl)
      ·intro a w' hx hu hd K hK; have e46 := Flow.got (hd 0 rfl) 46 rfl; exact Flow.run1 rfl (seqb rfl e46 rfl (hexB_ne (by rw [HND.out]; exact HZ0.out))) (hK _ _ (Below.refl _ _) rfl)
     intro vs W35 hb35 hT
     have v0 := Flow.eqn (hT 0 (by decide))
     have v1 := Flow.eqn (hT 1 (by decide))
     simp only [Flow.putsT, v0, v1, Act.put, List.setIfInBounds_toArray, List.set_cons_zero, List.set_cons_succ]
     clear hT v0 v1
     have HB35 := Aside0.mk (below_step HB22.out hb35)
     have HFN_35 := Aside0.mk (FnRow.below HFN_22.out hb35)
     have HR_35 := Aside0.mk (Kd.R_below HR_22.out hb35)
     have K1_20_21_22_35 := Aside0.mk (blk_below K1_20_21_22.out hb35)
     have K4_20_21_22_35 := Aside0.mk (blk_below K4_20_21_22.out hb35)
     clear hb35
     have HHW : Aside0 (hexW x.data = hexB x.data) := ⟨if_neg (by rw [HND.out]; exact HZ0.out)⟩
     go_upto_region 15 with fail
     refine Flow.seqT_head (E := fun u v => Below u.heap.size u v) 3 [(some 48, []), (some 49, []), (some 50, [1]), (some 51, [0, 2]), (some 6, [3, 3, 0, 1, 2, 3])] (fun iQ vQ wQ => match iQ with | 0 => vQ = u6 | 1 => vQ = (.string (hexB x.data)) | 2 => SliceAt #[.string (hexB x.data)] 9 1 w.heap.size vQ wQ | _ => True) rfl (by decide) (by kernel_rfl) (Below.refl _ _) (fun _ _ _ h k => h.trans (k.mono h.size)) (fun iQ vQ w1Q w2Q hQ hEQ => match iQ, hQ with | 0, hQ => hQ | 1, hQ => hQ | 2, hQ => slice_below hQ hEQ | _ + 3, _ => trivial) ?_ ?_
     ·refine ⟨?_, ?_, ?_, trivial⟩
      ·intro a w' hx hu hd K hK; have e6 : a.tmps.getD 6 undef = u6 := hu 6 rfl; exact Flow.run1 rfl (Flow.r_move rfl e6) (hK _ _ (Below.refl _ _) rfl)
      ·intro a w' hx hu hd K hK; have e9 : a.tmps.getD 9 undef = (.string (hexB x.data)) := hu 9 rfl; exact Flow.run1 rfl (Flow.r_move rfl e9) (hK _ _ (Below.refl _ _) rfl)
      ·intro a w' hx hu hd K hK; have e49 := Flow.got (hd 1 rfl) 49 rfl; exact Flow.run1 rfl (row1_79 rfl e49) (hK _ _ (below_alloc (Below.refl _ _) _) (slice_new (Nat.le_trans (HB35.out).size (hx : Below _ _ _).size)))
     intro vs W36 hb36 hT
     have v0 := Flow.eqn (hT 0 (by decide))
     have v1 := Flow.eqn (hT 1 (by decide))
     obtain ⟨g36_2, v2, hge2, hk2⟩ : SliceAt _ _ _ _ _ _ := hT 2 (by decide)
     have Kg36_2 := Aside0.mk hk2
     have Gg36_2 := Aside0.mk hge2
     clear hk2 hge2
     simp only [Flow.putsT, v0, v1, v2, Act.put, List.setIfInBounds_toArray, List.set_cons_zero, List.set_cons_succ, List.drop_succ_cons, List.drop_zero, List.take_succ_cons, List.take_zero]
     clear hT v0 v1 v2
     have HB36 := Aside0.mk (below_step HB35.out hb36)
     have HFN_36 := Aside0.mk (FnRow.below HFN_35.out hb36)
     have HR_36 := Aside0.mk (Kd.R_below HR_35.out hb36)
     have K1_20_21_22_35_36 := Aside0.mk (blk_below K1_20_21_22_35.out hb36)
     have K4_20_21_22_35_36 := Aside0.mk (blk_below K4_20_21_22_35.out hb36)
     clear hb36
     have hl37 : (wd i :: numsL x k).length ≤ 4 := (by rw [List.length_cons, numsL_len]; omega)
     refine eapp Value.string ByteArray.empty (w0 := w) (base := w.heap.size) (ys := [hexB x.data]) rfl rfl Tryd.underlying79 info9 rfl (by decide) rfl rfl HR_36.out Kg36_2.out HB36.out HB36.out.size ?_ ?_
     ·show ((wd i :: numsL x k).length + 1) * 16 ≤ _; omega
     intro v37 W37 hr37 hb37 hgr37
     have HR_37 := Aside0.mk hr37
     have HB37 := Aside0.mk hb37
     clear hr37 hb37
     have K1_20_21_22_35_36_37 := Aside0.mk (blk_grown K1_20_21_22_35_36.out hgr37 (Kd.R_ne HR_36.out K1_20_21_22_35_36.out (by decide)))
     have K4_20_21_22_35_36_37 := Aside0.mk (blk_grown K4_20_21_22_35_36.out hgr37 (Kd.R_ne HR_36.out K4_20_21_22_35_36.out (by decide)))
     have HFN_37 := Aside0.mk (FnRow.grown HFN_36.out HR_36.out hgr37)
     clear hgr37
     simp only [Act.put, List.setIfInBounds_toArray, List.set_cons_zero, List.set_cons_succ]
     refine Flow.seqL (E := fun u v => Below u.heap.size u v) 4 1 [(some 48, []), (some 49, []), (some 50, [1]), (some 51, [0, 2]), (some 6, [3, 3, 0, 1, 2, 3])] (fun iQ vQ wQ => match iQ with | 4 => vQ = v37 | _ => True) rfl (by decide) (by kernel_rfl) (Below.refl _ _) (fun _ _ _ h k => h.trans (k.mono h.size)) (fun _ _ _ _ h _ => h) ?_ ?_
     ·refine ⟨?_, trivial⟩
      ·intro a w' hx hu hd K hK; have e51 : a.tmps.getD 51 undef = v37 := hu 51 rfl; exact Flow.run1 rfl (Flow.r_assign rfl e51) (hK _ _ (Below.refl _ _) rfl)
     intro vs W38 hb38 hT
     have v4 := Flow.eqn (hT 4 (by decide) (by decide))
     simp only [Flow.putsT, v4, Act.put, List.setIfInBounds_toArray, List.set_cons_zero, List.set_cons_succ, List.drop_succ_cons, List.drop_zero, List.take_succ_cons, List.take_zero]
     clear hT v4
     have HB38 := Aside0.mk (below_step HB37.out hb38)
     have HFN_38 := Aside0.mk (FnRow.below HFN_37.out hb38)
     have HR_38 := Aside0.mk (Kd.R_below HR_37.out hb38)
     have K1_20_21_22_35_36_37_38 := Aside0.mk (blk_below K1_20_21_22_35_36_37.out hb38)
     have K4_20_21_22_35_36_37_38 := Aside0.mk (blk_below K4_20_21_22_35_36_37.out hb38)
     clear hb38
     obtain ⟨fu, HFU⟩ : ∃ q, Aside0 (x.fua = q) := ⟨_, ⟨rfl⟩⟩
     rw [HFU.out] at K1_20_21_22_35_36_37_38
     cases fu with
     | true =>
      go_upto_region 16 with fail
      refine Flow.seqT (E := fun u v => Below u.heap.size u v) [(some 52, []), (some 53, [0]), (some 54, [1]), (some 55, [2]), (some 56, [3, 2]), (some 57, [4, 2]), (some 58, [2, 5])] (fun iQ vQ wQ => match iQ with | 0 => vQ = (.string (wd i)) | 1 => vQ = (.bool true) | 2 => vQ = (.bool true) | 3 => vQ = (.pointer (some ⟨g1, 1, none⟩)) | 4 => vQ = (.pointer (some ⟨g1, 6, none⟩)) | 5 => vQ = (.bool true) | 6 => vQ = (.bool true) | _ => True) rfl (by kernel_rfl) (Below.refl _ _) (fun _ _ _ h k => h.trans (k.mono h.size)) (fun _ _ _ _ h _ => h) ?_ ?_
      ·refine ⟨?_, ?_, ?_, ?_, ?_, ?_, ?_, trivial⟩
       ·intro a w' hx hu hd K hK; have e3 : a.tmps.getD 3 undef = (.string (wd i)) := hu 3 rfl; exact Flow.run1 rfl (Flow.r_move rfl e3) (hK _ _ (Below.refl _ _) rfl)
       ·intro a w' hx hu hd K hK; have e52 := Flow.got (hd 0 rfl) 52 rfl; exact Flow.run1 rfl (seqb rfl e52 rfl (by rw [HZ.out]; exact wd0_yes)) (hK _ _ (Below.refl _ _) rfl)
       ·intro a w' hx hu hd K hK; have e53 := Flow.got (hd 1 rfl) 53 rfl; exact Flow.run1 rfl (Flow.r_move rfl e53) (hK _ _ (Below.refl _ _) rfl)
       ·intro a w' hx hu hd K hK; have e1 : a.tmps.getD 1 undef = (.pointer (some ⟨g1, 0, none⟩)) := hu 1 rfl; have e54 := Flow.got (hd 2 rfl) 54 rfl; exact Flow.run1 (Flow.want_of (k := 54) rfl e54) (fa rfl e1 (fa56_1 _ _ _)) (hK _ _ (Below.refl _ _) rfl)
       ·intro a w' hx hu hd K hK; have e55 := Flow.got (hd 3 rfl) 55 rfl; have e54 := Flow.got (hd 2 rfl) 54 rfl; exact Flow.run1 (Flow.want_of (k := 54) rfl e54) (fa rfl e55 (fa54_5 _ _ _)) (hK _ _ (Below.refl _ _) rfl)
       ·intro a w' hx hu hd K hK; have e56 := Flow.got (hd 4 rfl) 56 rfl; have e54 := Flow.got (hd 2 rfl) 54 rfl; exact Flow.run1 (Flow.want_of (k := 54) rfl e54) (ld rfl e56 ((blk_cell (blk_below K1_20_21_22_35_36_37_38.out hx) 6).trans rfl) Tryd.underlying4 rfl) (hK _ _ (Below.refl _ _) rfl)
       ·intro a w' hx hu hd K hK; have e54 := Flow.got (hd 2 rfl) 54 rfl; have e57 := Flow.got (hd 5 rfl) 57 rfl; exact Flow.run1 rfl (Flow.r_pick rfl e54 e57) (hK _ _ (Below.refl _ _) rfl)
      intro vs W39 hb39 hT
      have v0 := Flow.eqn (hT 0 (by decide))
      have v1 := Flow.eqn (hT 1 (by decide))
      have v2 := Flow.eqn (hT 2 (by decide))
      have v3 := Flow.eqn (hT 3 (by decide))
      have v4 := Flow.eqn (hT 4 (by decide))
      have v5 := Flow.eqn (hT 5 (by decide))
      have v6 := Flow.eqn (hT 6 (by decide))
      simp only [Flow.putsT, v0, v1, v2, v3, v4, v5, v6, Act.put, List.setIfInBounds_toArray, List.set_cons_zero, List.set_cons_succ]
      clear hT v0 v1 v2 v3 v4 v5 v6
      have HB39 := Aside0.mk (below_step HB38.out hb39)
      have HFN_39 := Aside0.mk (FnRow.below HFN_38.out hb39)
      have HR_39 := Aside0.mk (Kd.R_below HR_38.out hb39)
      have K1_20_21_22_35_36_37_38_39 := Aside0.mk (blk_below K1_20_21_22_35_36_37_38.out hb39)
      have K4_20_21_22_35_36_37_38_39 := Aside0.mk (blk_below K4_20_21_22_35_36_37_38.out hb39)
      clear hb39
      go_upto_region 17 with fail
      refine Flow.seqT_head (E := fun u v => Below u.heap.size u v) 2 [(some 59, []), (some 60, []), (some 61, [0, 1]), (some 6, [2, 2, 0, 1, 2])] (fun iQ vQ wQ => match iQ with | 0 => vQ = v37 | 1 => SliceAt #[.string ⟨#[102, 117, 97]⟩] 9 1 w.heap.size vQ wQ | _ => True) rfl (by decide) (by kernel_rfl) (Below.refl _ _) (fun _ _ _ h k => h.trans (k.mono h.size)) (fun iQ vQ w1Q w2Q hQ hEQ => match iQ, hQ with | 0, hQ => hQ | 1, hQ => slice_below hQ hEQ | _ + 2, _ => trivial) ?_ ?_
      ·refine ⟨?_, ?_, trivial⟩
       ·intro a w' hx hu hd K hK; have e6 : a.tmps.getD 6 undef = v37 := hu 6 rfl; exact Flow.run1 rfl (Flow.r_move rfl e6) (hK _ _ (Below.refl _ _) rfl)
       ·intro a w' hx hu hd K hK; exact Flow.run1 rfl (row1_79 rfl rfl) (hK _ _ (below_alloc (Below.refl _ _) _) (slice_new (Nat.le_trans (HB39.out).size (hx : Below _ _ _).size)))
      intro vs W40 hb40 hT
      have v0 := Flow.eqn (hT 0 (by decide))
      obtain ⟨g40_1, v1, hge1, hk1⟩ : SliceAt _ _ _ _ _ _ := hT 1 (by decide)
      have Kg40_1 := Aside0.mk hk1
      have Gg40_1 := Aside0.mk hge1
      clear hk1 hge1
      simp only [Flow.putsT, v0, v1, Act.put, List.setIfInBounds_toArray, List.set_cons_zero, List.set_cons_succ, List.drop_succ_cons, List.drop_zero, List.take_succ_cons, List.take_zero]
      clear hT v0 v1
      have HB40 := Aside0.mk (below_step HB39.out hb40)
      have HFN_40 := Aside0.mk (FnRow.below HFN_39.out hb40)
      have HR_40 := Aside0.mk (Kd.R_below HR_39.out hb40)
      have K1_20_21_22_35_36_37_38_39_40 := Aside0.mk (blk_below K1_20_21_22_35_36_37_38_39.out hb40)
      have K4_20_21_22_35_36_37_38_39_40 := Aside0.mk (blk_below K4_20_21_22_35_36_37_38_39.out hb40)
      clear hb40
      have hl41 : (wd i :: numsL x k ++ [hexB x.data]).length ≤ 5 := (napp hl37 rfl)
      refine eapp Value.string ByteArray.empty (w0 := w) (base := w.heap.size) (ys := [(⟨#[102, 117, 97]⟩ : ByteArray)]) rfl rfl Tryd.underlying79 info9 rfl (by decide) rfl rfl HR_40.out Kg40_1.out HB40.out HB40.out.size ?_ ?_
      ·show ((wd i :: numsL x k ++ [hexB x.data]).length + 1) * 16 ≤ _; omega
      intro v41 W41 hr41 hb41 hgr41
      have HR_41 := Aside0.mk hr41
      have HB41 := Aside0.mk hb41
      clear hr41 hb41
      have K1_20_21_22_35_36_37_38_39_40_41 := Aside0.mk (blk_grown K1_20_21_22_35_36_37_38_39_40.out hgr41 (Kd.R_ne HR_40.out K1_20_21_22_35_36_37_38_39_40.out (by decide)))
      have K4_20_21_22_35_36_37_38_39_40_41 := Aside0.mk (blk_grown K4_20_21_22_35_36_37_38_39_40.out hgr41 (Kd.R_ne HR_40.out K4_20_21_22_35_36_37_38_39_40.out (by decide)))
      have HFN_41 := Aside0.mk (FnRow.grown HFN_40.out HR_40.out hgr41)
      clear hgr41
      simp only [Act.put, List.setIfInBounds_toArray, List.set_cons_zero, List.set_cons_succ]
      refine Flow.seqL (E := fun u v => Below u.heap.size u v) 3 1 [(some 59, []), (some 60, []), (some 61, [0, 1]), (some 6, [2, 2, 0, 1, 2])] (fun iQ vQ wQ => match iQ with | 3 => vQ = v41 | _ => True) rfl (by decide) (by kernel_rfl) (Below.refl _ _) (fun _ _ _ h k => h.trans (k.mono h.size)) (fun _ _ _ _ h _ => h) ?_ ?_
      ·refine ⟨?_, trivial⟩
       ·intro a w' hx hu hd K hK; have e61 : a.tmps.getD 61 undef = v41 := hu 61 rfl; exact Flow.run1 rfl (Flow.r_assign rfl e61) (hK _ _ (Below.refl _ _) rfl)
      intro vs W42 hb42 hT
      have v3 := Flow.eqn (hT 3 (by decide) (by decide))
      simp only [Flow.putsT, v3, Act.put, List.setIfInBounds_toArray, List.set_cons_zero, List.set_cons_succ, List.drop_succ_cons, List.drop_zero, List.take_succ_cons, List.take_zero]
      clear hT v3
      have HB42 := Aside0.mk (below_step HB41.out hb42)
      have HFN_42 := Aside0.mk (FnRow.below HFN_41.out hb42)
      have HR_42 := Aside0.mk (Kd.R_below HR_41.out hb42)
      have K1_20_21_22_35_36_37_38_39_40_41_42 := Aside0.mk (blk_below K1_20_21_22_35_36_37_38_39_40_41.out hb42)
      have K4_20_21_22_35_36_37_38_39_40_41_42 := Aside0.mk (blk_below K4_20_21_22_35_36_37_38_39_40_41.out hb42)
      clear hb42
      have HLS : Aside0 (fmtL x i k true = wd i :: numsL x k ++ [hexB x.data] ++ [(⟨#[102, 117, 97]⟩ : ByteArray)]) := ⟨fmtL_0t HZ.out HFU.out HHW.out⟩
      have hsz : ∀ s ∈ wd i :: numsL x k ++ [hexB x.data] ++ [(⟨#[102, 117, 97]⟩ : ByteArray)], s.size ≤ 2000 := (fun s hs => (List.mem_append.1 hs).elim ((fun s hs => (List.mem_append.1 hs).elim ((wn_size x HG.out i k HI.out hm3) s) (fun h => by rw [List.mem_singleton.1 h]; exact hzz)) s) (fun h => by rw [List.mem_singleton.1 h]; decide))
      have HST := Aside0.mk (Rep.strs_R (l := wd i :: numsL x k ++ [hexB x.data] ++ [(⟨#[102, 117, 97]⟩ : ByteArray)]) HR_42.out (by simp))
      have HWS : Aside0 ((wordsB (wd i :: numsL x k ++ [hexB x.data] ++ [(⟨#[102, 117, 97]⟩ : ByteArray)])).size ≤ 20000) := ⟨Nat.le_trans (wordsB_size 2000 _ hsz) (by simp only [List.length_append, List.length_cons, List.length_nil, numsL_len]; omega)⟩
      obtain ⟨tw, HTW⟩ : ∃ q, Aside0 (wordsB (wd i :: numsL x k ++ [hexB x.data] ++ [(⟨#[102, 117, 97]⟩ : ByteArray)]) = q) := ⟨_, ⟨rfl⟩⟩
      go_upto_region 18 with fail
      refine Flow.seqT (E := fun u v => Below u.heap.size u v) [(some 62, []), (some 63, [0]), (some 2, [1, 1, 0, 1])] (fun iQ vQ wQ => match iQ with | 0 => vQ = v41 | 1 => vQ = (.string tw) | 2 => vQ = (.string tw) | _ => True) rfl (by kernel_rfl) (Below.refl _ _) (fun _ _ _ h k => h.trans (k.mono h.size)) (fun _ _ _ _ h _ => h) ?_ ?_
      ·refine ⟨?_, ?_, ?_, trivial⟩
       ·intro a w' hx hu hd K hK; have e6 : a.tmps.getD 6 undef = v41 := hu 6 rfl; exact Flow.run1 rfl (Flow.r_move rfl e6) (hK _ _ (Below.refl _ _) rfl)
       ·intro a w' hx hu hd K hK; have e62 := Flow.got (hd 0 rfl) 62 rfl; refine Flow.want rfl ?_; refine Flow.val_call rfl Tryd.func57 (by kernel_rfl) rfl (by simp only [List.map_toArray, List.map_cons, List.map_nil, Act.eval, e62] <;> rfl) (join_c (wd i :: numsL x k ++ [hexB x.data] ++ [(⟨#[102, 117, 97]⟩ : ByteArray)]) _ w' (HST.out.below hx) (by simp only [List.length_append, List.length_cons, List.length_nil, numsL_len]; omega) (Nat.le_trans HWS.out (by decide))) ?_; rintro e w2 ⟨rfl, hb2⟩; rw [HTW.out]; exact ⟨_, rfl, hK _ _ hb2 rfl⟩
       ·intro a w' hx hu hd K hK; have e63 := Flow.got (hd 1 rfl) 63 rfl; exact Flow.run1 rfl (Flow.r_assign rfl e63) (hK _ _ (Below.refl _ _) rfl)
      intro vs W43 hb43 hT
      have v0 := Flow.eqn (hT 0 (by decide))
      have v1 := Flow.eqn (hT 1 (by decide))
      have v2 := Flow.eqn (hT 2 (by decide))
      simp only [Flow.putsT, v0, v1, v2, Act.put, List.setIfInBounds_toArray, List.set_cons_zero, List.set_cons_succ]
      clear hT v0 v1 v2
      have HB43 := Aside0.mk (below_step HB42.out hb43)
      have HFN_43 := Aside0.mk (FnRow.below HFN_42.out hb43)
      have HR_43 := Aside0.mk (Kd.R_below HR_42.out hb43)
      have HST_43 := Aside0.mk (Rep.Strs.below HST.out hb43)
      have K1_20_21_22_35_36_37_38_39_40_41_42_43 := Aside0.mk (blk_below K1_20_21_22_35_36_37_38_39_40_41_42.out hb43)
      have K4_20_21_22_35_36_37_38_39_40_41_42_43 := Aside0.mk (blk_below K4_20_21_22_35_36_37_38_39_40_41_42.out hb43)
      clear hb43
      go_wp2_with fail
      exact bodyPost_ret (results_tmp Tryd.results34 _ _ _) rfl ⟨by rw [HLS.out, HTW.out]; rfl, HB43.out⟩
     | false =>
      go_upto_region 16 with fail
      refine Flow.seqT (E := fun u v => Below u.heap.size u v) [(some 52, []), (some 53, [0]), (some 54, [1]), (some 55, [2]), (some 56, [3, 2]), (some 57, [4, 2]), (some 58, [2, 5])] (fun iQ vQ wQ => match iQ with | 0 => vQ = (.string (wd i)) | 1 => vQ = (.bool true) | 2 => vQ = (.bool true) | 3 => vQ = (.pointer (some ⟨g1, 1, none⟩)) | 4 => vQ = (.pointer (some ⟨g1, 6, none⟩)) | 5 => vQ = (.bool false) | 6 => vQ = (.bool false) | _ => True) rfl (by kernel_rfl) (Below.refl _ _) (fun _ _ _ h k => h.trans (k.mono h.size)) (fun _ _ _ _ h _ => h) ?_ ?_
      ·refine ⟨?_, ?_, ?_, ?_, ?_, ?_, ?_, trivial⟩
       ·intro a w' hx hu hd K hK; have e3 : a.tmps.getD 3 undef = (.string (wd i)) := hu 3 rfl; exact Flow.run1 rfl (Flow.r_move rfl e3) (hK _ _ (Below.refl _ _) rfl)
       ·intro a w' hx hu hd K hK; have e52 := Flow.got (hd 0 rfl) 52 rfl; exact Flow.run1 rfl (seqb rfl e52 rfl (by rw [HZ.out]; exact wd0_yes)) (hK _ _ (Below.refl _ _) rfl)
       ·intro a w' hx hu hd K hK; have e53 := Flow.got (hd 1 rfl) 53 rfl; exact Flow.run1 rfl (Flow.r_move rfl e53) (hK _ _ (Below.refl _ _) rfl)
       ·intro a w' hx hu hd K hK; have e1 : a.tmps.getD 1 undef = (.pointer (some ⟨g1, 0, none⟩)) := hu 1 rfl; have e54 := Flow.got (hd 2 rfl) 54 rfl; exact Flow.run1 (Flow.want_of (k := 54) rfl e54) (fa rfl e1 (fa56_1 _ _ _)) (hK _ _ (Below.refl _ _) rfl)
       ·intro a w' hx hu hd K hK; have e55 := Flow.got (hd 3 rfl) 55 rfl; have e54 := Flow.got (hd 2 rfl) 54 rfl; exact Flow.run1 (Flow.want_of (k := 54) rfl e54) (fa rfl e55 (fa54_5 _ _ _)) (hK _ _ (Below.refl _ _) rfl)
       ·intro a w' hx hu hd K hK; have e56 := Flow.got (hd 4 rfl) 56 rfl; have e54 := Flow.got (hd 2 rfl) 54 rfl; exact Flow.run1 (Flow.want_of (k := 54) rfl e54) (ld rfl e56 ((blk_cell (blk_below K1_20_21_22_35_36_37_38.out hx) 6).trans rfl) Tryd.underlying4 rfl) (hK _ _ (Below.refl _ _) rfl)
       ·intro a w' hx hu hd K hK; have e54 := Flow.got (hd 2 rfl) 54 rfl; have e57 := Flow.got (hd 5 rfl) 57 rfl; exact Flow.run1 rfl (Flow.r_pick rfl e54 e57) (hK _ _ (Below.refl _ _) rfl)
      intro vs W44 hb44 hT
      have v0 := Flow.eqn (hT 0 (by decide))
      have v1 := Flow.eqn (hT 1 (by decide))
      have v2 := Flow.eqn (hT 2 (by decide))
      have v3 := Flow.eqn (hT 3 (by decide))
      have v4 := Flow.eqn (hT 4 (by decide))
      have v5 := Flow.eqn (hT 5 (by decide))
      have v6 := Flow.eqn (hT 6 (by decide))
      simp only [Flow.putsT, v0, v1, v2, v3, v4, v5, v6, Act.put, List.setIfInBounds_toArray, List.set_cons_zero, List.set_cons_succ]
      clear hT v0 v1 v2 v3 v4 v5 v6
      have HB44 := Aside0.mk (below_step HB38.out hb44)
      have HFN_44 := Aside0.mk (FnRow.below HFN_38.out hb44)
      have HR_44 := Aside0.mk (Kd.R_below HR_38.out hb44)
      have K1_20_21_22_35_36_37_38_44 := Aside0.mk (blk_below K1_20_21_22_35_36_37_38.out hb44)
      have K4_20_21_22_35_36_37_38_44 := Aside0.mk (blk_below K4_20_21_22_35_36_37_38.out hb44)
      clear hb44
      have HLS : Aside0 (fmtL x i k true = wd i :: numsL x k ++ [hexB x.data]) := ⟨fmtL_0f HZ.out HFU.out HHW.out⟩
      have hsz : ∀ s ∈ wd i :: numsL x k ++ [hexB x.data], s.size ≤ 2000 := (fun s hs => (List.mem_append.1 hs).elim ((wn_size x HG.out i k HI.out hm3) s) (fun h => by rw [List.mem_singleton.1 h]; exact hzz))
      have HST := Aside0.mk (Rep.strs_R (l := wd i :: numsL x k ++ [hexB x.data]) HR_44.out (by simp))
      have HWS : Aside0 ((wordsB (wd i :: numsL x k ++ [hexB x.data])).size ≤ 20000) := ⟨Nat.le_trans (wordsB_size 2000 _ hsz) (by simp only [List.length_append, List.length_cons, List.length_nil, numsL_len]; omega)⟩
      obtain ⟨tw, HTW⟩ : ∃ q, Aside0 (wordsB (wd i :: numsL x k ++ [hexB x.data]) = q) := ⟨_, ⟨rfl⟩⟩
      go_upto_region 18 with fail
      refine Flow.seqT (E := fun u v => Below u.heap.size u v) [(some 62, []), (some 63, [0]), (some 2, [1, 1, 0, 1])] (fun iQ vQ wQ => match iQ with | 0 => vQ = v37 | 1 => vQ = (.string tw) | 2 => vQ = (.string tw) | _ => True) rfl (by kernel_rfl) (Below.refl _ _) (fun _ _ _ h k => h.trans (k.mono h.size)) (fun _ _ _ _ h _ => h) ?_ ?_
      ·refine ⟨?_, ?_, ?_, trivial⟩
       ·intro a w' hx hu hd K hK; have e6 : a.tmps.getD 6 undef = v37 := hu 6 rfl; exact Flow.run1 rfl (Flow.r_move rfl e6) (hK _ _ (Below.refl _ _) rfl)
       ·intro a w' hx hu hd K hK; have e62 := Flow.got (hd 0 rfl) 62 rfl; refine Flow.want rfl ?_; refine Flow.val_call rfl Tryd.func57 (by kernel_rfl) rfl (by simp only [List.map_toArray, List.map_cons, List.map_nil, Act.eval, e62] <;> rfl) (join_c (wd i :: numsL x k ++ [hexB x.data]) _ w' (HST.out.below hx) (by simp only [List.length_append, List.length_cons, List.length_nil, numsL_len]; omega) (Nat.le_trans HWS.out (by decide))) ?_; rintro e w2 ⟨rfl, hb2⟩; rw [HTW.out]; exact ⟨_, rfl, hK _ _ hb2 rfl⟩
       ·intro a w' hx hu hd K hK; have e63 := Flow.got (hd 1 rfl) 63 rfl; exact Flow.run1 rfl (Flow.r_assign rfl e63) (hK _ _ (Below.refl _ _) rfl)
      intro vs W45 hb45 hT
      have v0 := Flow.eqn (hT 0 (by decide))
      have v1 := Flow.eqn (hT 1 (by decide))
      have v2 := Flow.eqn (hT 2 (by decide))
      simp only [Flow.putsT, v0, v1, v2, Act.put, List.setIfInBounds_toArray, List.set_cons_zero, List.set_cons_succ]
      clear hT v0 v1 v2
      have HB45 := Aside0.mk (below_step HB44.out hb45)
      have HFN_45 := Aside0.mk (FnRow.below HFN_44.out hb45)
      have HR_45 := Aside0.mk (Kd.R_below HR_44.out hb45)
      have HST_45 := Aside0.mk (Rep.Strs.below HST.out hb45)
      have K1_20_21_22_35_36_37_38_44_45 := Aside0.mk (blk_below K1_20_21_22_35_36_37_38_44.out hb45)
      have K4_20_21_22_35_36_37_38_44_45 := Aside0.mk (blk_below K4_20_21_22_35_36_37_38_44.out hb45)
      clear hb45
      go_wp2_with fail
      exact bodyPost_ret (results_tmp Tryd.results34 _ _ _) rfl ⟨by rw [HLS.out, HTW.out]; rfl, HB45.out⟩
 ·have HZ := Aside0.mk hz
  clear hz
  cases bb with
  | true =>
   have hten : (frm i).2.2.2 = some 9 := by have h := HBB.out; rw [bytes_place HI.out, if_neg HZ.out] at h ⊢; split at h; rename_i h10; rw [if_pos h10]; cases h
   have HBS := HFV (some 9) hten
   clear HFV hten
   go_enter Tryd.func34, Tryd.ntmps34
   go_upto_region 0 with fail
   refine wp_region_lit ?_
   refine ebox (v := (.agg #[.int .i64 x.kind, .int .i64 x.cmd, .int .i64 x.zone, .int .i64 x.at_, .int .i64 x.n, .slice Ad nd cd, .bool x.fua, .int .i64 x.m, .int .i64 x.k, .slice Ak nk ck])) rfl rfl rfl ?_
   intro g46 hg46 W46 hk46 hb46
   have Kg46 := Aside0.mk hk46
   have HB46 := Aside0.mk (hb46)
   clear hb46
   have Gg46 := Aside0.mk (show w.heap.size ≤ g46 by rw [hg46]; exact Nat.le_refl _)
   clear hg46 hk46
   simp only [Act.put, List.setIfInBounds_toArray, List.set_cons_zero, List.set_cons_succ]
   refine Flow.seqL (E := fun u v => Below u.heap.size u v) 1 1 [(some 1, []), (some 2, [])] (fun iQ vQ wQ => match iQ with | 1 => vQ = (.string ⟨#[]⟩) | _ => True) rfl (by decide) (by kernel_rfl) (Below.refl _ _) (fun _ _ _ h k => h.trans (k.mono h.size)) (fun _ _ _ _ h _ => h) ?_ ?_
   ·refine ⟨?_, trivial⟩
    ·intro a w' hx hu hd K hK; exact Flow.run1 rfl (Flow.r_assign rfl rfl) (hK _ _ (Below.refl _ _) rfl)
   intro vs W47 hb47 hT
   have v1 := Flow.eqn (hT 1 (by decide) (by decide))
   simp only [Flow.putsT, v1, Act.put, List.setIfInBounds_toArray, List.set_cons_zero, List.set_cons_succ, List.drop_succ_cons, List.drop_zero, List.take_succ_cons, List.take_zero]
   clear hT v1
   have HB47 := Aside0.mk (below_step HB46.out hb47)
   have Kg46_47 := Aside0.mk (blk_below Kg46.out hb47)
   clear hb47
   go_upto_region 1 with fail
   refine Flow.seqT (E := fun u v => Below u.heap.size u v) [(some 10, []), (some 11, [0]), (some 3, [1, 1, 0, 1])] (fun iQ vQ wQ => match iQ with | 0 => vQ = (.agg #[.int .i64 x.kind, .int .i64 x.cmd, .int .i64 x.zone, .int .i64 x.at_, .int .i64 x.n, .slice Ad nd cd, .bool x.fua, .int .i64 x.m, .int .i64 x.k, .slice Ak nk ck]) | 1 => vQ = (.string (wd i)) | 2 => vQ = (.string (wd i)) | _ => True) rfl (by kernel_rfl) (Below.refl _ _) (fun _ _ _ h k => h.trans (k.mono h.size)) (fun _ _ _ _ h _ => h) ?_ ?_
   ·refine ⟨?_, ?_, ?_, trivial⟩
    ·intro a w' hx hu hd K hK; have e1 : a.tmps.getD 1 undef = (.pointer (some ⟨g46, 0, none⟩)) := hu 1 rfl; exact Flow.run1 rfl (ldrow rfl e1 (lies_block (blk_below Kg46_47.out hx)) Tryd.underlying56 rfl size56) (hK _ _ (Below.refl _ _) rfl)
    ·intro a w' hx hu hd K hK; have e10 := Flow.got (hd 0 rfl) 10 rfl; refine Flow.want rfl ?_; refine Flow.val_call rfl Tryd.func55 (by kernel_rfl) rfl (by simp only [List.map_toArray, List.map_cons, List.map_nil, Act.eval, e10] <;> rfl) (word_c x Ad Ak nd cd nk ck w') ?_; rintro e w2 ⟨rfl, hb2⟩; rw [HIX.out, wdI_nat]; exact ⟨_, rfl, hK _ _ hb2 rfl⟩
    ·intro a w' hx hu hd K hK; have e11 := Flow.got (hd 1 rfl) 11 rfl; exact Flow.run1 rfl (Flow.r_assign rfl e11) (hK _ _ (Below.refl _ _) rfl)
   intro vs W48 hb48 hT
   have v0 := Flow.eqn (hT 0 (by decide))
   have v1 := Flow.eqn (hT 1 (by decide))
   have v2 := Flow.eqn (hT 2 (by decide))
   simp only [Flow.putsT, v0, v1, v2, Act.put, List.setIfInBounds_toArray, List.set_cons_zero, List.set_cons_succ]
   clear hT v0 v1 v2
   have HB48 := Aside0.mk (below_step HB47.out hb48)
   have Kg46_47_48 := Aside0.mk (blk_below Kg46_47.out hb48)
   clear hb48
   go_upto_region 2 with fail
   refine Flow.seqT_head (E := fun u v => Below u.heap.size u v) 1 [(some 13, []), (some 14, [0]), (some 12, [1]), (some 15, [2]), (some 16, [2]), (some 4, []), (none, [5, 3, 1, 0, 1, 2, 3, 5]), (some 5, [4, 6, 0, 1, 2, 3, 4, 5, 6])] (fun iQ vQ wQ => match iQ with | 0 => vQ = (.string (wd i)) | _ => True) rfl (by decide) (by kernel_rfl) (Below.refl _ _) (fun _ _ _ h k => h.trans (k.mono h.size)) (fun _ _ _ _ h _ => h) ?_ ?_
   ·refine ⟨?_, trivial⟩
    ·intro a w' hx hu hd K hK; have e3 : a.tmps.getD 3 undef = (.string (wd i)) := hu 3 rfl; exact Flow.run1 rfl (Flow.r_move rfl e3) (hK _ _ (Below.refl _ _) rfl)
   intro vs W49 hb49 hT
   have v0 := Flow.eqn (hT 0 (by decide))
   simp only [Flow.putsT, v0, Act.put, List.setIfInBounds_toArray, List.set_cons_zero, List.set_cons_succ, List.drop_succ_cons, List.drop_zero, List.take_succ_cons, List.take_zero]
   clear hT v0
   have HB49 := Aside0.mk (below_step HB48.out hb49)
   have Kg46_47_48_49 := Aside0.mk (blk_below Kg46_47_48.out hb49)
   clear hb49
   refine ecall rfl rfl Tryd.func46 (by kernel_rfl) rfl (args := #[.string (wd i)]) (by simp only [List.map_toArray, List.map_cons, List.map_nil, Act.eval] <;> rfl) (of_at HBS.out HFI.out _) ?_
   rintro e W50 ⟨v, rfl, hfn, hb50⟩
   refine ⟨_, rfl, ?_⟩
   obtain ⟨An, rfl, hg50⟩ := hfn.is
   rw [HM.out] at hfn ⊢
   have HFN := Aside0.mk hfn
   clear hfn hg50
   have Kg46_47_48_49_50 := Aside0.mk (blk_below Kg46_47_48_49.out hb50)
   have HB50 := Aside0.mk (below_step HB49.out hb50)
   clear hb50
   simp only [Act.put, List.setIfInBounds_toArray, List.set_cons_zero, List.set_cons_succ]
   refine Flow.seqL (E := fun u v => Below u.heap.size u v) 2 3 [(some 13, []), (some 14, [0]), (some 12, [1]), (some 15, [2]), (some 16, [2]), (some 4, []), (none, [5, 3, 1, 0, 1, 2, 3, 5]), (some 5, [4, 6, 0, 1, 2, 3, 4, 5, 6])] (fun iQ vQ wQ => match iQ with | 2 => vQ = (.tuple #[.agg #[.int .i64 kd, .int .i64 cm, .slice An mn mn, fv 9], .bool true]) | 3 => vQ = (.agg #[.int .i64 kd, .int .i64 cm, .slice An mn mn, fv 9]) | 4 => vQ = (.bool true) | _ => True) rfl (by decide) (by kernel_rfl) (Below.refl _ _) (fun _ _ _ h k => h.trans (k.mono h.size)) (fun _ _ _ _ h _ => h) ?_ ?_
   ·refine ⟨?_, ?_, ?_, trivial⟩
    ·intro a w' hx hu hd K hK; have e14 : a.tmps.getD 14 undef = (.tuple #[.agg #[.int .i64 kd, .int .i64 cm, .slice An mn mn, fv 9], .bool true]) := hu 14 rfl; exact Flow.run1 rfl (Flow.r_move rfl e14) (hK _ _ (Below.refl _ _) rfl)
    ·intro a w' hx hu hd K hK; have e12 := Flow.got (hd 2 rfl) 12 rfl; exact Flow.run1 rfl (extr rfl e12 rfl) (hK _ _ (Below.refl _ _) rfl)
    ·intro a w' hx hu hd K hK; have e12 := Flow.got (hd 2 rfl) 12 rfl; exact Flow.run1 rfl (extr rfl e12 rfl) (hK _ _ (Below.refl _ _) rfl)
   intro vs W51 hb51 hT
   have v2 := Flow.eqn (hT 2 (by decide) (by decide))
   have v3 := Flow.eqn (hT 3 (by decide) (by decide))
   have v4 := Flow.eqn (hT 4 (by decide) (by decide))
   simp only [Flow.putsT, v2, v3, v4, Act.put, List.setIfInBounds_toArray, List.set_cons_zero, List.set_cons_succ, List.drop_succ_cons, List.drop_zero, List.take_succ_cons, List.take_zero]
   clear hT v2 v3 v4
   have HB51 := Aside0.mk (below_step HB50.out hb51)
   have HFN_51 := Aside0.mk (FnRow.below HFN.out hb51)
   have Kg46_47_48_49_50_51 := Aside0.mk (blk_below Kg46_47_48_49_50.out hb51)
   clear hb51
   refine ealloc rfl rfl zero91_is ?_
   intro g52 hg52 W52 hk52 hb52
   have Kg52 := Aside0.mk hk52
   have Ng52_g46 := Aside0.mk (show g46 ≠ g52 by have := (Array.getElem?_eq_some_iff.1 Kg46_47_48_49_50_51.out).1; omega)
   have Ng46_g52 := Aside0.mk (Ne.symm Ng52_g46.out)
   have HB52 := Aside0.mk (below_step HB51.out hb52)
   have HFN_52 := Aside0.mk (FnRow.below HFN_51.out hb52)
   have Kg46_47_48_49_50_51_52 := Aside0.mk (blk_below Kg46_47_48_49_50_51.out hb52)
   clear hb52
   have Gg52 := Aside0.mk (show w.heap.size ≤ g52 by rw [hg52]; exact HB51.out.size)
   clear hg52 hk52
   simp only [Act.put, List.setIfInBounds_toArray, List.set_cons_zero, List.set_cons_succ]
   refine Cells.store_whole rfl rfl 91 _ _ rfl g52 [.int .i64 kd, .int .i64 cm, .slice An mn mn, fv 9] #[.int .i64 0, .int .i64 0, .slice none 0 0, .nilFunc] rfl rfl Kg52.out rfl size91 rfl ?_
   intro W53 hk53 hf53 hb53
   have HFN_53 := Aside0.mk (FnRow.far HFN_52.out Kg52.out (by decide) hf53)
   have HB53 := Aside0.mk (HB52.out.trans (hb53 _ Gg52.out))
   have Kg46_47_48_49_50_51_52_53 := Aside0.mk ((hf53 _ Ng52_g46.out).trans Kg46_47_48_49_50_51_52.out)
   have Kg52_53 := Aside0.mk hk53
   clear hk53 hf53 hb53
   refine Flow.seqL (E := fun u v => Below u.heap.size u v) 7 1 [(some 13, []), (some 14, [0]), (some 12, [1]), (some 15, [2]), (some 16, [2]), (some 4, []), (none, [5, 3, 1, 0, 1, 2, 3, 5]), (some 5, [4, 6, 0, 1, 2, 3, 4, 5, 6])] (fun iQ vQ wQ => match iQ with | 7 => vQ = (.bool true) | _ => True) rfl (by decide) (by kernel_rfl) (Below.refl _ _) (fun _ _ _ h k => h.trans (k.mono h.size)) (fun _ _ _ _ h _ => h) ?_ ?_
   ·refine ⟨?_, trivial⟩
    ·intro a w' hx hu hd K hK; have e16 : a.tmps.getD 16 undef = (.bool true) := hu 16 rfl; exact Flow.run1 rfl (Flow.r_assign rfl e16) (hK _ _ (Below.refl _ _) rfl)
   intro vs W54 hb54 hT
   have v7 := Flow.eqn (hT 7 (by decide) (by decide))
   simp only [Flow.putsT, v7, Act.put, List.setIfInBounds_toArray, List.set_cons_zero, List.set_cons_succ, List.drop_succ_cons, List.drop_zero, List.take_succ_cons, List.take_zero]
   clear hT v7
   have HB54 := Aside0.mk (below_step HB53.out hb54)
   have HFN_54 := Aside0.mk (FnRow.below HFN_53.out hb54)
   have Kg46_47_48_49_50_51_52_53_54 := Aside0.mk (blk_below Kg46_47_48_49_50_51_52_53.out hb54)
   have Kg52_53_54 := Aside0.mk (blk_below Kg52_53.out hb54)
   clear hb54
   go_upto_region 3 with fail
   refine Flow.seqT (E := fun u v => Below u.heap.size u v) [(some 17, []), (some 18, [0])] (fun iQ vQ wQ => match iQ with | 0 => vQ = (.bool true) | 1 => vQ = (.bool false) | _ => True) rfl (by kernel_rfl) (Below.refl _ _) (fun _ _ _ h k => h.trans (k.mono h.size)) (fun _ _ _ _ h _ => h) ?_ ?_
   ·refine ⟨?_, ?_, trivial⟩
    ·intro a w' hx hu hd K hK; have e5 : a.tmps.getD 5 undef = (.bool true) := hu 5 rfl; exact Flow.run1 rfl (Flow.r_move rfl e5) (hK _ _ (Below.refl _ _) rfl)
    ·intro a w' hx hu hd K hK; have e17 := Flow.got (hd 0 rfl) 17 rfl; exact Flow.run1 rfl (Flow.r_not rfl e17) (hK _ _ (Below.refl _ _) rfl)
   intro vs W55 hb55 hT
   have v0 := Flow.eqn (hT 0 (by decide))
   have v1 := Flow.eqn (hT 1 (by decide))
   simp only [Flow.putsT, v0, v1, Act.put, List.setIfInBounds_toArray, List.set_cons_zero, List.set_cons_succ]
   clear hT v0 v1
   have HB55 := Aside0.mk (below_step HB54.out hb55)
   have HFN_55 := Aside0.mk (FnRow.below HFN_54.out hb55)
   have Kg46_47_48_49_50_51_52_53_54_55 := Aside0.mk (blk_below Kg46_47_48_49_50_51_52_53_54.out hb55)
   have Kg52_53_54_55 := Aside0.mk (blk_below Kg52_53_54.out hb55)
   clear hb55
   go_upto_region 5 with fail
   refine Flow.seqT_head (E := fun u v => Below u.heap.size u v) 2 [(some 19, []), (some 20, [0]), (some 6, [1, 0, 1])] (fun iQ vQ wQ => match iQ with | 0 => vQ = (.string (wd i)) | 1 => SliceAt #[.string (wd i)] 9 1 w.heap.size vQ wQ | _ => True) rfl (by decide) (by kernel_rfl) (Below.refl _ _) (fun _ _ _ h k => h.trans (k.mono h.size)) (fun iQ vQ w1Q w2Q hQ hEQ => match iQ, hQ with | 0, hQ => hQ | 1, hQ => slice_below hQ hEQ | _ + 2, _ => trivial) ?_ ?_
   ·refine ⟨?_, ?_, trivial⟩
    ·intro a w' hx hu hd K hK; have e3 : a.tmps.getD 3 undef = (.string (wd i)) := hu 3 rfl; exact Flow.run1 rfl (Flow.r_move rfl e3) (hK _ _ (Below.refl _ _) rfl)
    ·intro a w' hx hu hd K hK; have e19 := Flow.got (hd 0 rfl) 19 rfl; exact Flow.run1 rfl (row1_79 rfl e19) (hK _ _ (below_alloc (Below.refl _ _) _) (slice_new (Nat.le_trans (HB55.out).size (hx : Below _ _ _).size)))
   intro vs W56 hb56 hT
   have v0 := Flow.eqn (hT 0 (by decide))
   obtain ⟨g56_1, v1, hge1, hk1⟩ : SliceAt _ _ _ _ _ _ := hT 1 (by decide)
   have Kg56_1 := Aside0.mk hk1
   have Gg56_1 := Aside0.mk hge1
   clear hk1 hge1
   simp only [Flow.putsT, v0, v1, Act.put, List.setIfInBounds_toArray, List.set_cons_zero, List.set_cons_succ, List.drop_succ_cons, List.drop_zero, List.take_succ_cons, List.take_zero]
   clear hT v0 v1
   have HB56 := Aside0.mk (below_step HB55.out hb56)
   have HFN_56 := Aside0.mk (FnRow.below HFN_55.out hb56)
   have Kg46_47_48_49_50_51_52_53_54_55_56 := Aside0.mk (blk_below Kg46_47_48_49_50_51_52_53_54_55.out hb56)
   have Kg52_53_54_55_56 := Aside0.mk (blk_below Kg52_53_54_55.out hb56)
   clear hb56
   refine Flow.seqL (E := fun u v => Below u.heap.size u v) 2 1 [(some 19, []), (some 20, [0]), (some 6, [1, 0, 1])] (fun iQ vQ wQ => match iQ with | 2 => vQ = (.slice (some ⟨g56_1, 0, none⟩) 1 1) | _ => True) rfl (by decide) (by kernel_rfl) (Below.refl _ _) (fun _ _ _ h k => h.trans (k.mono h.size)) (fun _ _ _ _ h _ => h) ?_ ?_
   ·refine ⟨?_, trivial⟩
    ·intro a w' hx hu hd K hK; have e20 : a.tmps.getD 20 undef = (.slice (some ⟨g56_1, 0, none⟩) 1 1) := hu 20 rfl; exact Flow.run1 rfl (Flow.r_assign rfl e20) (hK _ _ (Below.refl _ _) rfl)
   intro vs W57 hb57 hT
   have v2 := Flow.eqn (hT 2 (by decide) (by decide))
   simp only [Flow.putsT, v2, Act.put, List.setIfInBounds_toArray, List.set_cons_zero, List.set_cons_succ, List.drop_succ_cons, List.drop_zero, List.take_succ_cons, List.take_zero]
   clear hT v2
   have HB57 := Aside0.mk (below_step HB56.out hb57)
   have HFN_57 := Aside0.mk (FnRow.below HFN_56.out hb57)
   have Kg46_47_48_49_50_51_52_53_54_55_56_57 := Aside0.mk (blk_below Kg46_47_48_49_50_51_52_53_54_55_56.out hb57)
   have Kg52_53_54_55_56_57 := Aside0.mk (blk_below Kg52_53_54_55_56.out hb57)
   have Kg56_1_57 := Aside0.mk (blk_below Kg56_1.out hb57)
   clear hb57
   have HR := Aside0.mk (R_row Value.string (fun _ => rfl) (l := [wd i]) (base := w.heap.size) Kg56_1_57.out Gg56_1.out (show 1 ≤ maxLen by decide))
   go_upto_region 6 with fail
   refine Flow.seqT (E := fun u v => Below u.heap.size u v) [(some 21, []), (some 22, [0]), (some 23, [1]), (some 24, [])] (fun iQ vQ wQ => match iQ with | 0 => vQ = (.pointer (some ⟨g52, 2, none⟩)) | 1 => vQ = (.slice An mn mn) | 2 => vQ = (.int .i64 mn) | 3 => vQ = (.int .i64 0) | _ => True) rfl (by kernel_rfl) (Below.refl _ _) (fun _ _ _ h k => h.trans (k.mono h.size)) (fun _ _ _ _ h _ => h) ?_ ?_
   ·refine ⟨?_, ?_, ?_, ?_, trivial⟩
    ·intro a w' hx hu hd K hK; have e4 : a.tmps.getD 4 undef = (.pointer (some ⟨g52, 0, none⟩)) := hu 4 rfl; exact Flow.run1 rfl (fa rfl e4 (fa91_2 _ _ _)) (hK _ _ (Below.refl _ _) rfl)
    ·intro a w' hx hu hd K hK; have e21 := Flow.got (hd 0 rfl) 21 rfl; exact Flow.run1 rfl (ld rfl e21 ((blk_cell (blk_below Kg52_53_54_55_56_57.out hx) 2).trans rfl) Tryd.underlying88 rfl) (hK _ _ (Below.refl _ _) rfl)
    ·intro a w' hx hu hd K hK; have e22 := Flow.got (hd 1 rfl) 22 rfl; exact Flow.run1 rfl (lenL Tryd.underlying88 rfl e22) (hK _ _ (Below.refl _ _) rfl)
    ·intro a w' hx hu hd K hK; exact Flow.run1 rfl (Flow.r_move rfl rfl) (hK _ _ (Below.refl _ _) rfl)
   intro vs W58 hb58 hT
   have v0 := Flow.eqn (hT 0 (by decide))
   have v1 := Flow.eqn (hT 1 (by decide))
   have v2 := Flow.eqn (hT 2 (by decide))
   have v3 := Flow.eqn (hT 3 (by decide))
   simp only [Flow.putsT, v0, v1, v2, v3, Act.put, List.setIfInBounds_toArray, List.set_cons_zero, List.set_cons_succ]
   clear hT v0 v1 v2 v3
   have HB58 := Aside0.mk (below_step HB57.out hb58)
   have HFN_58 := Aside0.mk (FnRow.below HFN_57.out hb58)
   have HR_58 := Aside0.mk (Kd.R_below HR.out hb58)
   have Kg46_47_48_49_50_51_52_53_54_55_56_57_58 := Aside0.mk (blk_below Kg46_47_48_49_50_51_52_53_54_55_56_57.out hb58)
   have Kg52_53_54_55_56_57_58 := Aside0.mk (blk_below Kg52_53_54_55_56_57.out hb58)
   clear hb58
   go_wp2
   go_loopg [6, 24] mn (fun g v6 v24 wr => ∃ k : Nat, k ≤ mn ∧ Aside0 (g = mn - k) ∧ v24 = .int .i64 k ∧ Aside0 (Below w.heap.size w wr) ∧ Aside0 (wr.heap[g46]? = some (.cells #[.int .i64 x.kind, .int .i64 x.cmd, .int .i64 x.zone, .int .i64 x.at_, .int .i64 x.n, .slice Ad nd cd, .bool x.fua, .int .i64 x.m, .int .i64 x.k, .slice Ak nk ck] 56 (0, 0))) ∧ Aside0 (wr.heap[g52]? = some (.cells #[.int .i64 kd, .int .i64 cm, .slice An mn mn, fv 9] 91 (0, 0))) ∧ Aside0 (FnRow wr (.slice An mn mn) ps) ∧ Aside0 (Kd.R Kd.string 9 wr w.heap.size (fun _ => True) v6 (wd i :: numsL x k)))
   case atStart => exact ⟨0, Nat.zero_le _, ⟨rfl⟩, rfl, HB58, Kg46_47_48_49_50_51_52_53_54_55_56_57_58, Kg52_53_54_55_56_57_58, HFN_58, HR_58⟩
   case round =>
    clear HB58 Kg46_47_48_49_50_51_52_53_54_55_56_57_58 Kg52_53_54_55_56_57_58 HFN_58 HR_58
    obtain ⟨k, hk, HGK, rfl, HBR, K1, K4, HFN, HR⟩ := hrel
    by_cases hlt : k < mn
    ·have hlt2 : (k : Int) < mn := by omega
     obtain ⟨gf, hAn, hgf⟩ : ∃ g, An = some ⟨g, 0, none⟩ ∧ wr.heap[g]? = some (.cells (ps.map fv).toArray 94 (0, 0)) := by rcases HFN.out with ⟨hp, _⟩ | ⟨g, hv, hg⟩; exact absurd hlt (by rw [← HM.out, hp]; exact Nat.not_lt_zero _); injection hv with ha; exact ⟨g, ha, hg⟩
     subst hAn
     have KF := Aside0.mk hgf
     clear hgf
     have HKP : Aside0 (k < ps.length) := ⟨HM.out ▸ hlt⟩
     obtain ⟨p, HP⟩ : ∃ q, Aside0 (ps.getD k 2 = q) := ⟨_, ⟨rfl⟩⟩
     have HPO : Aside0 (p = 2 ∨ p = 3 ∨ p = 4 ∨ p = 7 ∨ p = 8 ∨ p = 5 ∨ p = 9) := ⟨by have h := places_ok HI.out (k := k) (by rw [HPS.out, HM.out]; exact hlt); rw [HPS.out, HP.out] at h; exact h⟩
     have HPA : Aside0 ((AC x Ad Ak nd cd nk ck)[p]? = some (.int .i64 (n3 x k))) := ⟨by have h := place_at Ad Ak nd cd nk ck HI.out HIX.out (k := k) (by rw [HPS.out, HM.out]; exact hlt); rw [HPS.out, HP.out] at h; exact h⟩
     go_upto_region 7 with fail
     refine Flow.seqT (E := fun u v => Below u.heap.size u v) [(some 25, [])] (fun iQ vQ wQ => match iQ with | 0 => vQ = (.bool true) | _ => True) rfl (by kernel_rfl) (Below.refl _ _) (fun _ _ _ h k => h.trans (k.mono h.size)) (fun _ _ _ _ h _ => h) ?_ ?_
     ·refine ⟨?_, trivial⟩
      ·intro a w' hx hu hd K hK; have e24 : a.tmps.getD 24 undef = (.int .i64 k) := hu 24 rfl; have e23 : a.tmps.getD 23 undef = (.int .i64 mn) := hu 23 rfl; exact Flow.run1 rfl (yes (lss rfl e24 e23) (decide_eq_true hlt2)) (hK _ _ (Below.refl _ _) rfl)
     intro vs W59 hb59 hT
     have v0 := Flow.eqn (hT 0 (by decide))
     simp only [Flow.putsT, v0, Act.put, List.setIfInBounds_toArray, List.set_cons_zero, List.set_cons_succ]
     clear hT v0
     have HB59 := Aside0.mk (below_step HBR.out hb59)
     have HFN_59 := Aside0.mk (FnRow.below HFN.out hb59)
     have HR_59 := Aside0.mk (Kd.R_below HR.out hb59)
     have KF_59 := Aside0.mk (blk_below KF.out hb59)
     have K1_59 := Aside0.mk (blk_below K1.out hb59)
     have K4_59 := Aside0.mk (blk_below K4.out hb59)
     clear hb59
     go_upto_region 8 with fail
     refine Flow.seqT (E := fun u v => Below u.heap.size u v) [(some 26, []), (some 27, [0]), (some 8, [1, 0, 1])] (fun iQ vQ wQ => match iQ with | 0 => vQ = (.pointer (some ⟨gf, k, none⟩)) | 1 => vQ = (fv p) | 2 => vQ = (fv p) | _ => True) rfl (by kernel_rfl) (Below.refl _ _) (fun _ _ _ h k => h.trans (k.mono h.size)) (fun _ _ _ _ h _ => h) ?_ ?_
     ·refine ⟨?_, ?_, ?_, trivial⟩
      ·intro a w' hx hu hd K hK; have e22 : a.tmps.getD 22 undef = (.slice (some ⟨gf, 0, none⟩) mn mn) := hu 22 rfl; have e24 : a.tmps.getD 24 undef = (.int .i64 k) := hu 24 rfl; exact Flow.run1 rfl (ixr Tryd.underlying88 size94 rfl e22 e24 hlt) (hK _ _ (Below.refl _ _) rfl)
      ·intro a w' hx hu hd K hK; have e26 := Flow.got (hd 0 rfl) 26 rfl; exact Flow.run1 rfl (ld rfl e26 ((row_cell fv 2 (blk_below KF_59.out hx) HKP.out).trans (by rw [HP.out])) Tryd.underlying94 rfl) (hK _ _ (Below.refl _ _) rfl)
      ·intro a w' hx hu hd K hK; have e27 := Flow.got (hd 1 rfl) 27 rfl; exact Flow.run1 rfl (Flow.r_assign rfl e27) (hK _ _ (Below.refl _ _) rfl)
     intro vs W60 hb60 hT
     have v0 := Flow.eqn (hT 0 (by decide))
     have v1 := Flow.eqn (hT 1 (by decide))
     have v2 := Flow.eqn (hT 2 (by decide))
     simp only [Flow.putsT, v0, v1, v2, Act.put, List.setIfInBounds_toArray, List.set_cons_zero, List.set_cons_succ]
     clear hT v0 v1 v2
     have HB60 := Aside0.mk (below_step HB59.out hb60)
     have HFN_60 := Aside0.mk (FnRow.below HFN_59.out hb60)
     have HR_60 := Aside0.mk (Kd.R_below HR_59.out hb60)
     have KF_60 := Aside0.mk (blk_below KF_59.out hb60)
     have K1_59_60 := Aside0.mk (blk_below K1_59.out hb60)
     have K4_59_60 := Aside0.mk (blk_below K4_59.out hb60)
     clear hb60
     go_upto_region 9 with fail
     refine Flow.seqT_head (E := fun u v => Below u.heap.size u v) 7 [(some 28, []), (some 29, []), (some 30, [1]), (some 31, [2]), (some 32, [3]), (some 33, [4, 2]), (some 34, [5]), (some 35, [0, 6, 5]), (some 6, [7, 7, 0, 1, 2, 3, 4, 5, 6, 7])] (fun iQ vQ wQ => match iQ with | 0 => vQ = u6 | 1 => vQ = (fv p) | 2 => vQ = (.pointer (some ⟨g46, p, none⟩)) | 3 => vQ = (.pointer (some ⟨g46, p, none⟩)) | 4 => vQ = (.int .i64 (n3 x k)) | 5 => vQ = (.string (itoaB (n3 x k))) | 6 => SliceAt #[.string (itoaB (n3 x k))] 9 1 w.heap.size vQ wQ | _ => True) rfl (by decide) (by kernel_rfl) (Below.refl _ _) (fun _ _ _ h k => h.trans (k.mono h.size)) (fun iQ vQ w1Q w2Q hQ hEQ => match iQ, hQ with | 0, hQ => hQ | 1, hQ => hQ | 2, hQ => hQ | 3, hQ => hQ | 4, hQ => hQ | 5, hQ => hQ | 6, hQ => slice_below hQ hEQ | _ + 7, _ => trivial) ?_ ?_
     ·refine ⟨?_, ?_, ?_, ?_, ?_, ?_, ?_, trivial⟩
      ·intro a w' hx hu hd K hK; have e6 : a.tmps.getD 6 undef = u6 := hu 6 rfl; exact Flow.run1 rfl (Flow.r_move rfl e6) (hK _ _ (Below.refl _ _) rfl)
      ·intro a w' hx hu hd K hK; have e8 : a.tmps.getD 8 undef = (fv p) := hu 8 rfl; exact Flow.run1 rfl (Flow.r_move rfl e8) (hK _ _ (Below.refl _ _) rfl)
      ·intro a w' hx hu hd K hK; have e29 := Flow.got (hd 1 rfl) 29 rfl; have e1 : a.tmps.getD 1 undef = (.pointer (some ⟨g46, 0, none⟩)) := hu 1 rfl; refine Flow.want rfl ?_; exact call_place HPO.out rfl e29 e1 (hK _ _ (Below.refl _ _) rfl)
      ·intro a w' hx hu hd K hK; have e30 := Flow.got (hd 2 rfl) 30 rfl; exact Flow.run1 rfl (nilck rfl e30) (hK _ _ (Below.refl _ _) rfl)
      ·intro a w' hx hu hd K hK; have e31 := Flow.got (hd 3 rfl) 31 rfl; exact Flow.run1 rfl (ld rfl e31 ((blk_cell (blk_below K1_59_60.out hx) p).trans HPA.out) Tryd.underlying3 rfl) (hK _ _ (Below.refl _ _) rfl)
      ·intro a w' hx hu hd K hK; have e32 := Flow.got (hd 4 rfl) 32 rfl; refine Flow.want rfl ?_; refine Flow.val_call rfl Tryd.func56 (by kernel_rfl) rfl (by simp only [List.map_toArray, List.map_cons, List.map_nil, Act.eval, e32] <;> rfl) (itoa_c (n3 x k) (HG.out.num k) w' (HPW.out.below (below_step HB60.out hx))) ?_; rintro e w2 ⟨rfl, hb2⟩; exact ⟨_, rfl, hK _ _ hb2 (by rfl)⟩
      ·intro a w' hx hu hd K hK; have e33 := Flow.got (hd 5 rfl) 33 rfl; exact Flow.run1 rfl (row1_79 rfl e33) (hK _ _ (below_alloc (Below.refl _ _) _) (slice_new (Nat.le_trans (HB60.out).size (hx : Below _ _ _).size)))
     intro vs W61 hb61 hT
     have v0 := Flow.eqn (hT 0 (by decide))
     have v1 := Flow.eqn (hT 1 (by decide))
     have v2 := Flow.eqn (hT 2 (by decide))
     have v3 := Flow.eqn (hT 3 (by decide))
     have v4 := Flow.eqn (hT 4 (by decide))
     have v5 := Flow.eqn (hT 5 (by decide))
     obtain ⟨g61_6, v6, hge6, hk6⟩ : SliceAt _ _ _ _ _ _ := hT 6 (by decide)
     have Kg61_6 := Aside0.mk hk6
     have Gg61_6 := Aside0.mk hge6
     clear hk6 hge6
     simp only [Flow.putsT, v0, v1, v2, v3, v4, v5, v6, Act.put, List.setIfInBounds_toArray, List.set_cons_zero, List.set_cons_succ, List.drop_succ_cons, List.drop_zero, List.take_succ_cons, List.take_zero]
     clear hT v0 v1 v2 v3 v4 v5 v6
     have HB61 := Aside0.mk (below_step HB60.out hb61)
     have HFN_61 := Aside0.mk (FnRow.below HFN_60.out hb61)
     have HR_61 := Aside0.mk (Kd.R_below HR_60.out hb61)
     have KF_61 := Aside0.mk (blk_below KF_60.out hb61)
     have K1_59_60_61 := Aside0.mk (blk_below K1_59_60.out hb61)
     have K4_59_60_61 := Aside0.mk (blk_below K4_59_60.out hb61)
     clear hb61
     have hl62 : (wd i :: numsL x k).length ≤ 4 := (by rw [List.length_cons, numsL_len]; omega)
     refine eapp Value.string ByteArray.empty (w0 := w) (base := w.heap.size) (ys := [itoaB (n3 x k)]) rfl rfl Tryd.underlying79 info9 rfl (by decide) rfl rfl HR_61.out Kg61_6.out HB61.out HB61.out.size ?_ ?_
     ·show ((wd i :: numsL x k).length + 1) * 16 ≤ _; omega
     intro v62 W62 hr62 hb62 hgr62
     have HR_62 := Aside0.mk hr62
     have HB62 := Aside0.mk hb62
     clear hr62 hb62
     have K1_59_60_61_62 := Aside0.mk (blk_grown K1_59_60_61.out hgr62 (Kd.R_ne HR_61.out K1_59_60_61.out (by decide)))
     have K4_59_60_61_62 := Aside0.mk (blk_grown K4_59_60_61.out hgr62 (Kd.R_ne HR_61.out K4_59_60_61.out (by decide)))
     have HFN_62 := Aside0.mk (FnRow.grown HFN_61.out HR_61.out hgr62)
     clear hgr62
     simp only [Act.put, List.setIfInBounds_toArray, List.set_cons_zero, List.set_cons_succ]
     refine Flow.seqL (E := fun u v => Below u.heap.size u v) 8 1 [(some 28, []), (some 29, []), (some 30, [1]), (some 31, [2]), (some 32, [3]), (some 33, [4, 2]), (some 34, [5]), (some 35, [0, 6, 5]), (some 6, [7, 7, 0, 1, 2, 3, 4, 5, 6, 7])] (fun iQ vQ wQ => match iQ with | 8 => vQ = v62 | _ => True) rfl (by decide) (by kernel_rfl) (Below.refl _ _) (fun _ _ _ h k => h.trans (k.mono h.size)) (fun _ _ _ _ h _ => h) ?_ ?_
     ·refine ⟨?_, trivial⟩
      ·intro a w' hx hu hd K hK; have e35 : a.tmps.getD 35 undef = v62 := hu 35 rfl; exact Flow.run1 rfl (Flow.r_assign rfl e35) (hK _ _ (Below.refl _ _) rfl)
     intro vs W63 hb63 hT
     have v8 := Flow.eqn (hT 8 (by decide) (by decide))
     simp only [Flow.putsT, v8, Act.put, List.setIfInBounds_toArray, List.set_cons_zero, List.set_cons_succ, List.drop_succ_cons, List.drop_zero, List.take_succ_cons, List.take_zero]
     clear hT v8
     have HB63 := Aside0.mk (below_step HB62.out hb63)
     have HFN_63 := Aside0.mk (FnRow.below HFN_62.out hb63)
     have HR_63 := Aside0.mk (Kd.R_below HR_62.out hb63)
     have K1_59_60_61_62_63 := Aside0.mk (blk_below K1_59_60_61_62.out hb63)
     have K4_59_60_61_62_63 := Aside0.mk (blk_below K4_59_60_61_62.out hb63)
     clear hb63
     obtain ⟨k1, K1H⟩ : ∃ q, Aside0 (k + 1 = q) := ⟨_, ⟨rfl⟩⟩
     have hk1 := K1H.out
     go_upto_region 10 with fail
     refine Flow.seqT (E := fun u v => Below u.heap.size u v) [(some 36, []), (some 24, [0])] (fun iQ vQ wQ => match iQ with | 0 => vQ = (.int .i64 k1) | 1 => vQ = (.int .i64 k1) | _ => True) rfl (by kernel_rfl) (Below.refl _ _) (fun _ _ _ h k => h.trans (k.mono h.size)) (fun _ _ _ _ h _ => h) ?_ ?_
     ·refine ⟨?_, ?_, trivial⟩
      ·intro a w' hx hu hd K hK; have e24 : a.tmps.getD 24 undef = (.int .i64 k) := hu 24 rfl; exact Flow.run1 rfl (addk rfl e24 rfl (by omega) (by omega) (by omega)) (hK _ _ (Below.refl _ _) rfl)
      ·intro a w' hx hu hd K hK; have e36 := Flow.got (hd 0 rfl) 36 rfl; exact Flow.run1 rfl (Flow.r_move rfl e36) (hK _ _ (Below.refl _ _) rfl)
     intro vs W64 hb64 hT
     have v0 := Flow.eqn (hT 0 (by decide))
     have v1 := Flow.eqn (hT 1 (by decide))
     simp only [Flow.putsT, v0, v1, Act.put, List.setIfInBounds_toArray, List.set_cons_zero, List.set_cons_succ]
     clear hT v0 v1
     have HB64 := Aside0.mk (below_step HB63.out hb64)
     have HFN_64 := Aside0.mk (FnRow.below HFN_63.out hb64)
     have HR_64 := Aside0.mk (Kd.R_below HR_63.out hb64)
     have K1_59_60_61_62_63_64 := Aside0.mk (blk_below K1_59_60_61_62_63.out hb64)
     have K4_59_60_61_62_63_64 := Aside0.mk (blk_below K4_59_60_61_62_63.out hb64)
     clear hb64
     go_wp2
     go_roundg (mn - (k + 1))
     case measure => have := HGK.out; omega
     case rel => exact ⟨k1, by omega, ⟨by omega⟩, rfl, HB64, K1_59_60_61_62_63_64, K4_59_60_61_62_63_64, HFN_64, ⟨by rw [← hk1, numsL_succ, ← List.cons_append]; exact HR_64.out⟩⟩
    ·obtain rfl : k = mn := by omega
     have hlt2 : ¬ ((k : Nat) : Int) < k := by omega
     go_upto_region 7 with fail
     refine Flow.seqT (E := fun u v => Below u.heap.size u v) [(some 25, [])] (fun iQ vQ wQ => match iQ with | 0 => vQ = (.bool false) | _ => True) rfl (by kernel_rfl) (Below.refl _ _) (fun _ _ _ h k => h.trans (k.mono h.size)) (fun _ _ _ _ h _ => h) ?_ ?_
     ·refine ⟨?_, trivial⟩
      ·intro a w' hx hu hd K hK; have e24 : a.tmps.getD 24 undef = (.int .i64 k) := hu 24 rfl; have e23 : a.tmps.getD 23 undef = (.int .i64 k) := hu 23 rfl; exact Flow.run1 rfl (no (lss rfl e24 e23) (decide_eq_false hlt2)) (hK _ _ (Below.refl _ _) rfl)
     intro vs W65 hb65 hT
     have v0 := Flow.eqn (hT 0 (by decide))
     simp only [Flow.putsT, v0, Act.put, List.setIfInBounds_toArray, List.set_cons_zero, List.set_cons_succ]
     clear hT v0
     have HB65 := Aside0.mk (below_step HBR.out hb65)
     have HFN_65 := Aside0.mk (FnRow.below HFN.out hb65)
     have HR_65 := Aside0.mk (Kd.R_below HR.out hb65)
     have K1_65 := Aside0.mk (blk_below K1.out hb65)
     have K4_65 := Aside0.mk (blk_below K4.out hb65)
     clear hb65
     go_upto_region 11 with fail
     refine Flow.seqT (E := fun u v => Below u.heap.size u v) [(some 37, []), (some 38, [0]), (some 39, [1])] (fun iQ vQ wQ => match iQ with | 0 => vQ = (.pointer (some ⟨g52, 3, none⟩)) | 1 => vQ = (fv 9) | 2 => vQ = (.bool true) | _ => True) rfl (by kernel_rfl) (Below.refl _ _) (fun _ _ _ h k => h.trans (k.mono h.size)) (fun _ _ _ _ h _ => h) ?_ ?_
     ·refine ⟨?_, ?_, ?_, trivial⟩
      ·intro a w' hx hu hd K hK; have e4 : a.tmps.getD 4 undef = (.pointer (some ⟨g52, 0, none⟩)) := hu 4 rfl; exact Flow.run1 rfl (fa rfl e4 (fa91_3 _ _ _)) (hK _ _ (Below.refl _ _) rfl)
      ·intro a w' hx hu hd K hK; have e37 := Flow.got (hd 0 rfl) 37 rfl; exact Flow.run1 rfl (ld rfl e37 ((blk_cell (blk_below K4_65.out hx) 3).trans rfl) Tryd.underlying89 rfl) (hK _ _ (Below.refl _ _) rfl)
      ·intro a w' hx hu hd K hK; have e38 := Flow.got (hd 1 rfl) 38 rfl; exact Flow.run1 rfl (fnf (q := 9) rfl e38 rfl) (hK _ _ (Below.refl _ _) rfl)
     intro vs W66 hb66 hT
     have v0 := Flow.eqn (hT 0 (by decide))
     have v1 := Flow.eqn (hT 1 (by decide))
     have v2 := Flow.eqn (hT 2 (by decide))
     simp only [Flow.putsT, v0, v1, v2, Act.put, List.setIfInBounds_toArray, List.set_cons_zero, List.set_cons_succ]
     clear hT v0 v1 v2
     have HB66 := Aside0.mk (below_step HB65.out hb66)
     have HFN_66 := Aside0.mk (FnRow.below HFN_65.out hb66)
     have HR_66 := Aside0.mk (Kd.R_below HR_65.out hb66)
     have K1_65_66 := Aside0.mk (blk_below K1_65.out hb66)
     have K4_65_66 := Aside0.mk (blk_below K4_65.out hb66)
     clear hb66
     have hzz : (hexB x.keep).size ≤ 2000 := by rw [hexB_size, HNK.out]; have := HKK1.out; omega
     go_upto_region 12 with fail
     refine Flow.seqT (E := fun u v => Below u.heap.size u v) [(some 40, []), (some 41, [0]), (some 42, [1]), (some 43, [2]), (some 44, [3]), (some 45, [4, 2]), (some 9, [5, 5, 0, 1, 2, 3, 4, 5])] (fun iQ vQ wQ => match iQ with | 0 => vQ = (.pointer (some ⟨g52, 3, none⟩)) | 1 => vQ = (fv 9) | 2 => vQ = (.pointer (some ⟨g46, 9, none⟩)) | 3 => vQ = (.pointer (some ⟨g46, 9, none⟩)) | 4 => vQ = (.slice Ak nk ck) | 5 => vQ = (.string (hexB x.keep)) | 6 => vQ = (.string (hexB x.keep)) | _ => True) rfl (by kernel_rfl) (Below.refl _ _) (fun _ _ _ h k => h.trans (k.mono h.size)) (fun _ _ _ _ h _ => h) ?_ ?_
     ·refine ⟨?_, ?_, ?_, ?_, ?_, ?_, ?_, trivial⟩
      ·intro a w' hx hu hd K hK; have e4 : a.tmps.getD 4 undef = (.pointer (some ⟨g52, 0, none⟩)) := hu 4 rfl; exact Flow.run1 rfl (fa rfl e4 (fa91_3 _ _ _)) (hK _ _ (Below.refl _ _) rfl)
      ·intro a w' hx hu hd K hK; have e40 := Flow.got (hd 0 rfl) 40 rfl; exact Flow.run1 rfl (ld rfl e40 ((blk_cell (blk_below K4_65_66.out hx) 3).trans rfl) Tryd.underlying89 rfl) (hK _ _ (Below.refl _ _) rfl)
      ·intro a w' hx hu hd K hK; have e41 := Flow.got (hd 1 rfl) 41 rfl; have e1 : a.tmps.getD 1 undef = (.pointer (some ⟨g46, 0, none⟩)) := hu 1 rfl; refine Flow.want rfl ?_; exact call_place (q := 9) (by decide) rfl e41 e1 (hK _ _ (Below.refl _ _) rfl)
      ·intro a w' hx hu hd K hK; have e42 := Flow.got (hd 2 rfl) 42 rfl; exact Flow.run1 rfl (nilck rfl e42) (hK _ _ (Below.refl _ _) rfl)
      ·intro a w' hx hu hd K hK; have e43 := Flow.got (hd 3 rfl) 43 rfl; exact Flow.run1 rfl (ld rfl e43 ((blk_cell (blk_below K1_65_66.out hx) 9).trans rfl) Tryd.underlying43 rfl) (hK _ _ (Below.refl _ _) rfl)
      ·intro a w' hx hu hd K hK; have e44 := Flow.got (hd 4 rfl) 44 rfl; refine Flow.want rfl ?_; refine Flow.val_call rfl Tryd.func25 (by kernel_rfl) rfl (by simp only [List.map_toArray, List.map_cons, List.map_nil, Act.eval, e44] <;> rfl) (hexn2 HNK.out (hex_c x.keep Ak ck HG.out.keep (by rw [HNK.out]; have := HKK1.out; omega) w' (HNK.out.symm ▸ Kd.C_below HCK.out (below_step HB66.out hx)))) ?_; rintro e w2 ⟨rfl, hb2⟩; exact ⟨_, rfl, hK _ _ hb2 (by rfl)⟩
      ·intro a w' hx hu hd K hK; have e45 := Flow.got (hd 5 rfl) 45 rfl; exact Flow.run1 rfl (Flow.r_assign rfl e45) (hK _ _ (Below.refl _ _) rfl)
     intro vs W67 hb67 hT
     have v0 := Flow.eqn (hT 0 (by decide))
     have v1 := Flow.eqn (hT 1 (by decide))
     have v2 := Flow.eqn (hT 2 (by decide))
     have v3 := Flow.eqn (hT 3 (by decide))
     have v4 := Flow.eqn (hT 4 (by decide))
     have v5 := Flow.eqn (hT 5 (by decide))
     have v6 := Flow.eqn (hT 6 (by decide))
     simp only [Flow.putsT, v0, v1, v2, v3, v4, v5, v6, Act.put, List.setIfInBounds_toArray, List.set_cons_zero, List.set_cons_succ]
     clear hT v0 v1 v2 v3 v4 v5 v6
     have HB67 := Aside0.mk (below_step HB66.out hb67)
     have HFN_67 := Aside0.mk (FnRow.below HFN_66.out hb67)
     have HR_67 := Aside0.mk (Kd.R_below HR_66.out hb67)
     have K1_65_66_67 := Aside0.mk (blk_below K1_65_66.out hb67)
     have K4_65_66_67 := Aside0.mk (blk_below K4_65_66.out hb67)
     clear hb67
     by_cases hz0 : nk = 0
     ·have HZ0 := Aside0.mk hz0
      clear hz0
      go_upto_region 13 with fail
      refine Flow.seqT (E := fun u v => Below u.heap.size u v) [(some 46, []), (some 47, [0])] (fun iQ vQ wQ => match iQ with | 0 => vQ = (.string (hexB x.keep)) | 1 => vQ = (.bool true) | _ => True) rfl (by kernel_rfl) (Below.refl _ _) (fun _ _ _ h k => h.trans (k.mono h.size)) (fun _ _ _ _ h _ => h) ?_ ?_
      ·refine ⟨?_, ?_, trivial⟩
       ·intro a w' hx hu hd K hK; have e9 : a.tmps.getD 9 undef = (.string (hexB x.keep)) := hu 9 rfl; exact Flow.run1 rfl (Flow.r_move rfl e9) (hK _ _ (Below.refl _ _) rfl)
       ·intro a w' hx hu hd K hK; have e46 := Flow.got (hd 0 rfl) 46 rfl; exact Flow.run1 rfl (seqb rfl e46 rfl (hexB_e (by rw [HNK.out]; exact HZ0.out))) (hK _ _ (Below.refl _ _) rfl)
      intro vs W68 hb68 hT
      have v0 := Flow.eqn (hT 0 (by decide))
      have v1 := Flow.eqn (hT 1 (by decide))
      simp only [Flow.putsT, v0, v1, Act.put, List.setIfInBounds_toArray, List.set_cons_zero, List.set_cons_succ]
      clear hT v0 v1
      have HB68 := Aside0.mk (below_step HB67.out hb68)
      have HFN_68 := Aside0.mk (FnRow.below HFN_67.out hb68)
      have HR_68 := Aside0.mk (Kd.R_below HR_67.out hb68)
      have K1_65_66_67_68 := Aside0.mk (blk_below K1_65_66_67.out hb68)
      have K4_65_66_67_68 := Aside0.mk (blk_below K4_65_66_67.out hb68)
      clear hb68
      go_upto_region 14 with fail
      refine Flow.seqT (E := fun u v => Below u.heap.size u v) [(some 9, [])] (fun iQ vQ wQ => match iQ with | 0 => vQ = (.string ⟨#[45]⟩) | _ => True) rfl (by kernel_rfl) (Below.refl _ _) (fun _ _ _ h k => h.trans (k.mono h.size)) (fun _ _ _ _ h _ => h) ?_ ?_
      ·refine ⟨?_, trivial⟩
       ·intro a w' hx hu hd K hK; exact Flow.run1 rfl (Flow.r_assign rfl rfl) (hK _ _ (Below.refl _ _) rfl)
      intro vs W69 hb69 hT
      have v0 := Flow.eqn (hT 0 (by decide))
      simp only [Flow.putsT, v0, Act.put, List.setIfInBounds_toArray, List.set_cons_zero, List.set_cons_succ]
      clear hT v0
      have HB69 := Aside0.mk (below_step HB68.out hb69)
      have HFN_69 := Aside0.mk (FnRow.below HFN_68.out hb69)
      have HR_69 := Aside0.mk (Kd.R_below HR_68.out hb69)
      have K1_65_66_67_68_69 := Aside0.mk (blk_below K1_65_66_67_68.out hb69)
      have K4_65_66_67_68_69 := Aside0.mk (blk_below K4_65_66_67_68.out hb69)
      clear hb69
      have HHW : Aside0 (hexW x.keep = (⟨#[45]⟩ : ByteArray)) := ⟨if_pos (by rw [HNK.out]; exact HZ0.out)⟩
      go_upto_region 15 with fail
      refine Flow.seqT_head (E := fun u v => Below u.heap.size u v) 3 [(some 48, []), (some 49, []), (some 50, [1]), (some 51, [0, 2]), (some 6, [3, 3, 0, 1, 2, 3])] (fun iQ vQ wQ => match iQ with | 0 => vQ = u6 | 1 => vQ = (.string ⟨#[45]⟩) | 2 => SliceAt #[.string ⟨#[45]⟩] 9 1 w.heap.size vQ wQ | _ => True) rfl (by decide) (by kernel_rfl) (Below.refl _ _) (fun _ _ _ h k => h.trans (k.mono h.size)) (fun iQ vQ w1Q w2Q hQ hEQ => match iQ, hQ with | 0, hQ => hQ | 1, hQ => hQ | 2, hQ => slice_below hQ hEQ | _ + 3, _ => trivial) ?_ ?_
      ·refine ⟨?_, ?_, ?_, trivial⟩
       ·intro a w' hx hu hd K hK; have e6 : a.tmps.getD 6 undef = u6 := hu 6 rfl; exact Flow.run1 rfl (Flow.r_move rfl e6) (hK _ _ (Below.refl _ _) rfl)
       ·intro a w' hx hu hd K hK; have e9 : a.tmps.getD 9 undef = (.string ⟨#[45]⟩) := hu 9 rfl; exact Flow.run1 rfl (Flow.r_move rfl e9) (hK _ _ (Below.refl _ _) rfl)
       ·intro a w' hx hu hd K hK; have e49 := Flow.got (hd 1 rfl) 49 rfl; exact Flow.run1 rfl (row1_79 rfl e49) (hK _ _ (below_alloc (Below.refl _ _) _) (slice_new (Nat.le_trans (HB69.out).size (hx : Below _ _ _).size)))
      intro vs W70 hb70 hT
      have v0 := Flow.eqn (hT 0 (by decide))
      have v1 := Flow.eqn (hT 1 (by decide))
      obtain ⟨g70_2, v2, hge2, hk2⟩ : SliceAt _ _ _ _ _ _ := hT 2 (by decide)
      have Kg70_2 := Aside0.mk hk2
      have Gg70_2 := Aside0.mk hge2
      clear hk2 hge2
      simp only [Flow.putsT, v0, v1, v2, Act.put, List.setIfInBounds_toArray, List.set_cons_zero, List.set_cons_succ, List.drop_succ_cons, List.drop_zero, List.take_succ_cons, List.take_zero]
      clear hT v0 v1 v2
      have HB70 := Aside0.mk (below_step HB69.out hb70)
      have HFN_70 := Aside0.mk (FnRow.below HFN_69.out hb70)
      have HR_70 := Aside0.mk (Kd.R_below HR_69.out hb70)
      have K1_65_66_67_68_69_70 := Aside0.mk (blk_below K1_65_66_67_68_69.out hb70)
      have K4_65_66_67_68_69_70 := Aside0.mk (blk_below K4_65_66_67_68_69.out hb70)
      clear hb70
      have hl71 : (wd i :: numsL x k).length ≤ 4 := (by rw [List.length_cons, numsL_len]; omega)
      refine eapp Value.string ByteArray.empty (w0 := w) (base := w.heap.size) (ys := [(⟨#[45]⟩ : ByteArray)]) rfl rfl Tryd.underlying79 info9 rfl (by decide) rfl rfl HR_70.out Kg70_2.out HB70.out HB70.out.size ?_ ?_
      ·show ((wd i :: numsL x k).length + 1) * 16 ≤ _; omega
      intro v71 W71 hr71 hb71 hgr71
      have HR_71 := Aside0.mk hr71
      have HB71 := Aside0.mk hb71
      clear hr71 hb71
      have K1_65_66_67_68_69_70_71 := Aside0.mk (blk_grown K1_65_66_67_68_69_70.out hgr71 (Kd.R_ne HR_70.out K1_65_66_67_68_69_70.out (by decide)))
      have K4_65_66_67_68_69_70_71 := Aside0.mk (blk_grown K4_65_66_67_68_69_70.out hgr71 (Kd.R_ne HR_70.out K4_65_66_67_68_69_70.out (by decide)))
      have HFN_71 := Aside0.mk (FnRow.grown HFN_70.out HR_70.out hgr71)
      clear hgr71
      simp only [Act.put, List.setIfInBounds_toArray, List.set_cons_zero, List.set_cons_succ]
      refine Flow.seqL (E := fun u v => Below u.heap.size u v) 4 1 [(some 48, []), (some 49, []), (some 50, [1]), (some 51, [0, 2]), (some 6, [3, 3, 0, 1, 2, 3])] (fun iQ vQ wQ => match iQ with | 4 => vQ = v71 | _ => True) rfl (by decide) (by kernel_rfl) (Below.refl _ _) (fun _ _ _ h k => h.trans (k.mono h.size)) (fun _ _ _ _ h _ => h) ?_ ?_
      ·refine ⟨?_, trivial⟩
       ·intro a w' hx hu hd K hK; have e51 : a.tmps.getD 51 undef = v71 := hu 51 rfl; exact Flow.run1 rfl (Flow.r_assign rfl e51) (hK _ _ (Below.refl _ _) rfl)
      intro vs W72 hb72 hT
      have v4 := Flow.eqn (hT 4 (by decide) (by decide))
      simp only [Flow.putsT, v4, Act.put, List.setIfInBounds_toArray, List.set_cons_zero, List.set_cons_succ, List.drop_succ_cons, List.drop_zero, List.take_succ_cons, List.take_zero]
      clear hT v4
      have HB72 := Aside0.mk (below_step HB71.out hb72)
      have HFN_72 := Aside0.mk (FnRow.below HFN_71.out hb72)
      have HR_72 := Aside0.mk (Kd.R_below HR_71.out hb72)
      have K1_65_66_67_68_69_70_71_72 := Aside0.mk (blk_below K1_65_66_67_68_69_70_71.out hb72)
      have K4_65_66_67_68_69_70_71_72 := Aside0.mk (blk_below K4_65_66_67_68_69_70_71.out hb72)
      clear hb72
      go_upto_region 16 with fail
      refine Flow.seqT (E := fun u v => Below u.heap.size u v) [(some 52, []), (some 53, [0]), (some 54, [1]), (some 55, [2]), (some 56, [3, 2]), (some 57, [4, 2]), (some 58, [2, 5])] (fun iQ vQ wQ => match iQ with | 0 => vQ = (.string (wd i)) | 1 => vQ = (.bool false) | 2 => vQ = (.bool false) | 3 => vQ = undef | 4 => vQ = undef | 5 => vQ = undef | 6 => vQ = (.bool false) | _ => True) rfl (by kernel_rfl) (Below.refl _ _) (fun _ _ _ h k => h.trans (k.mono h.size)) (fun _ _ _ _ h _ => h) ?_ ?_
      ·refine ⟨?_, ?_, ?_, ?_, ?_, ?_, ?_, trivial⟩
       ·intro a w' hx hu hd K hK; have e3 : a.tmps.getD 3 undef = (.string (wd i)) := hu 3 rfl; exact Flow.run1 rfl (Flow.r_move rfl e3) (hK _ _ (Below.refl _ _) rfl)
       ·intro a w' hx hu hd K hK; have e52 := Flow.got (hd 0 rfl) 52 rfl; exact Flow.run1 rfl (seqb rfl e52 rfl (wd0_no HI.out HZ.out)) (hK _ _ (Below.refl _ _) rfl)
       ·intro a w' hx hu hd K hK; have e53 := Flow.got (hd 1 rfl) 53 rfl; exact Flow.run1 rfl (Flow.r_move rfl e53) (hK _ _ (Below.refl _ _) rfl)
       ·intro a w' hx hu hd K hK; have e54 := Flow.got (hd 2 rfl) 54 rfl; exact Flow.spare (Flow.spare_of (k := 54) rfl e54 rfl) (hK _ _ (Below.refl _ _) rfl)
       ·intro a w' hx hu hd K hK; have e54 := Flow.got (hd 2 rfl) 54 rfl; exact Flow.spare (Flow.spare_of (k := 54) rfl e54 rfl) (hK _ _ (Below.refl _ _) rfl)
       ·intro a w' hx hu hd K hK; have e54 := Flow.got (hd 2 rfl) 54 rfl; exact Flow.spare (Flow.spare_of (k := 54) rfl e54 rfl) (hK _ _ (Below.refl _ _) rfl)
       ·intro a w' hx hu hd K hK; have e54 := Flow.got (hd 2 rfl) 54 rfl; have e57 := Flow.got (hd 5 rfl) 57 rfl; exact Flow.run1 rfl (Flow.r_pick rfl e54 rfl) (hK _ _ (Below.refl _ _) rfl)
      intro vs W73 hb73 hT
      have v0 := Flow.eqn (hT 0 (by decide))
      have v1 := Flow.eqn (hT 1 (by decide))
      have v2 := Flow.eqn (hT 2 (by decide))
      have v3 := Flow.eqn (hT 3 (by decide))
      have v4 := Flow.eqn (hT 4 (by decide))
      have v5 := Flow.eqn (hT 5 (by decide))
      have v6 := Flow.eqn (hT 6 (by decide))
      simp only [Flow.putsT, v0, v1, v2, v3, v4, v5, v6, Act.put, List.setIfInBounds_toArray, List.set_cons_zero, List.set_cons_succ]
      clear hT v0 v1 v2 v3 v4 v5 v6
      have HB73 := Aside0.mk (below_step HB72.out hb73)
      have HFN_73 := Aside0.mk (FnRow.below HFN_72.out hb73)
      have HR_73 := Aside0.mk (Kd.R_below HR_72.out hb73)
      have K1_65_66_67_68_69_70_71_72_73 := Aside0.mk (blk_below K1_65_66_67_68_69_70_71_72.out hb73)
      have K4_65_66_67_68_69_70_71_72_73 := Aside0.mk (blk_below K4_65_66_67_68_69_70_71_72.out hb73)
      clear hb73
      have HLS : Aside0 (fmtL x i k true = wd i :: numsL x k ++ [(⟨#[45]⟩ : ByteArray)]) := ⟨fmtL_b HZ.out HHW.out⟩
      have hsz : ∀ s ∈ wd i :: numsL x k ++ [(⟨#[45]⟩ : ByteArray)], s.size ≤ 2000 := (fun s hs => (List.mem_append.1 hs).elim ((wn_size x HG.out i k HI.out hm3) s) (fun h => by rw [List.mem_singleton.1 h]; decide))
      have HST := Aside0.mk (Rep.strs_R (l := wd i :: numsL x k ++ [(⟨#[45]⟩ : ByteArray)]) HR_73.out (by simp))
      have HWS : Aside0 ((wordsB (wd i :: numsL x k ++ [(⟨#[45]⟩ : ByteArray)])).size ≤ 20000) := ⟨Nat.le_trans (wordsB_size 2000 _ hsz) (by simp only [List.length_append, List.length_cons, List.length_nil, numsL_len]; omega)⟩
      obtain ⟨tw, HTW⟩ : ∃ q, Aside0 (wordsB (wd i :: numsL x k ++ [(⟨#[45]⟩ : ByteArray)]) = q) := ⟨_, ⟨rfl⟩⟩
      go_upto_region 18 with fail
      refine Flow.seqT (E := fun u v => Below u.heap.size u v) [(some 62, []), (some 63, [0]), (some 2, [1, 1, 0, 1])] (fun iQ vQ wQ => match iQ with | 0 => vQ = v71 | 1 => vQ = (.string tw) | 2 => vQ = (.string tw) | _ => True) rfl (by kernel_rfl) (Below.refl _ _) (fun _ _ _ h k => h.trans (k.mono h.size)) (fun _ _ _ _ h _ => h) ?_ ?_
      ·refine ⟨?_, ?_, ?_, trivial⟩
       ·intro a w' hx hu hd K hK; have e6 : a.tmps.getD 6 undef = v71 := hu 6 rfl; exact Flow.run1 rfl (Flow.r_move rfl e6) (hK _ _ (Below.refl _ _) rfl)
       ·intro a w' hx hu hd K hK; have e62 := Flow.got (hd 0 rfl) 62 rfl; refine Flow.want rfl ?_; refine Flow.val_call rfl Tryd.func57 (by kernel_rfl) rfl (by simp only [List.map_toArray, List.map_cons, List.map_nil, Act.eval, e62] <;> rfl) (join_c (wd i :: numsL x k ++ [(⟨#[45]⟩ : ByteArray)]) _ w' (HST.out.below hx) (by simp only [List.length_append, List.length_cons, List.length_nil, numsL_len]; omega) (Nat.le_trans HWS.out (by decide))) ?_; rintro e w2 ⟨rfl, hb2⟩; rw [HTW.out]; exact ⟨_, rfl, hK _ _ hb2 rfl⟩
       ·intro a w' hx hu hd K hK; have e63 := Flow.got (hd 1 rfl) 63 rfl; exact Flow.run1 rfl (Flow.r_assign rfl e63) (hK _ _ (Below.refl _ _) rfl)
      intro vs W74 hb74 hT
      have v0 := Flow.eqn (hT 0 (by decide))
      have v1 := Flow.eqn (hT 1 (by decide))
      have v2 := Flow.eqn (hT 2 (by decide))
      simp only [Flow.putsT, v0, v1, v2, Act.put, List.setIfInBounds_toArray, List.set_cons_zero, List.set_cons_succ]
      clear hT v0 v1 v2
      have HB74 := Aside0.mk (below_step HB73.out hb74)
      have HFN_74 := Aside0.mk (FnRow.below HFN_73.out hb74)
      have HR_74 := Aside0.mk (Kd.R_below HR_73.out hb74)
      have HST_74 := Aside0.mk (Rep.Strs.below HST.out hb74)
      have K1_65_66_67_68_69_70_71_72_73_74 := Aside0.mk (blk_below K1_65_66_67_68_69_70_71_72_73.out hb74)
      have K4_65_66_67_68_69_70_71_72_73_74 := Aside0.mk (blk_below K4_65_66_67_68_69_70_71_72_73.out hb74)
      clear hb74
      go_wp2_with fail
      exact bodyPost_ret (results_tmp Tryd.results34 _ _ _) rfl ⟨by rw [HLS.out, HTW.out]; rfl, HB74.out⟩
     ·have HZ0 := Aside0.mk hz0
      clear hz0
      go_upto_region 13 with fail
      refine Flow.seqT (E := fun u v => Below u.heap.size u v) [(some 46, []), (some 47, [0])] (fun iQ vQ wQ => match iQ with | 0 => vQ = (.string (hexB x.keep)) | 1 => vQ = (.bool false) | _ => True) rfl (by kernel_rfl) (Below.refl _ _) (fun _ _ _ h k => h.trans (k.mono h.size)) (fun _ _ _ _ h _ => h) ?_ ?_
      ·refine ⟨?_, ?_, trivial⟩
       ·intro a w' hx hu hd K hK; have e9 : a.tmps.getD 9 undef = (.string (hexB x.keep)) := hu 9 rfl; exact Flow.run1 rfl (Flow.r_move rfl e9) (hK _ _ (Below.refl _ _) rfl)
       ·intro a w' hx hu hd K hK; have e46 := Flow.got (hd 0 rfl) 46 rfl; exact Flow.run1 rfl (seqb rfl e46 rfl (hexB_ne (by rw [HNK.out]; exact HZ0.out))) (hK _ _ (Below.refl _ _) rfl)
      intro vs W75 hb75 hT
      have v0 := Flow.eqn (hT 0 (by decide))
      have v1 := Flow.eqn (hT 1 (by decide))
      simp only [Flow.putsT, v0, v1, Act.put, List.setIfInBounds_toArray, List.set_cons_zero, List.set_cons_succ]
      clear hT v0 v1
      have HB75 := Aside0.mk (below_step HB67.out hb75)
      have HFN_75 := Aside0.mk (FnRow.below HFN_67.out hb75)
      have HR_75 := Aside0.mk (Kd.R_below HR_67.out hb75)
      have K1_65_66_67_75 := Aside0.mk (blk_below K1_65_66_67.out hb75)
      have K4_65_66_67_75 := Aside0.mk (blk_below K4_65_66_67.out hb75)
      clear hb75
      have HHW : Aside0 (hexW x.keep = hexB x.keep) := ⟨if_neg (by rw [HNK.out]; exact HZ0.out)⟩
      go_upto_region 15 with fail
      refine Flow.seqT_head (E := fun u v => Below u.heap.size u v) 3 [(some 48, []), (some 49, []), (some 50, [1]), (some 51, [0, 2]), (some 6, [3, 3, 0, 1, 2, 3])] (fun iQ vQ wQ => match iQ with | 0 => vQ = u6 | 1 => vQ = (.string (hexB x.keep)) | 2 => SliceAt #[.string (hexB x.keep)] 9 1 w.heap.size vQ wQ | _ => True) rfl (by decide) (by kernel_rfl) (Below.refl _ _) (fun _ _ _ h k => h.trans (k.mono h.size)) (fun iQ vQ w1Q w2Q hQ hEQ => match iQ, hQ with | 0, hQ => hQ | 1, hQ => hQ | 2, hQ => slice_below hQ hEQ | _ + 3, _ => trivial) ?_ ?_
      ·refine ⟨?_, ?_, ?_, trivial⟩
       ·intro a w' hx hu hd K hK; have e6 : a.tmps.getD 6 undef = u6 := hu 6 rfl; exact Flow.run1 rfl (Flow.r_move rfl e6) (hK _ _ (Below.refl _ _) rfl)
       ·intro a w' hx hu hd K hK; have e9 : a.tmps.getD 9 undef = (.string (hexB x.keep)) := hu 9 rfl; exact Flow.run1 rfl (Flow.r_move rfl e9) (hK _ _ (Below.refl _ _) rfl)
       ·intro a w' hx hu hd K hK; have e49 := Flow.got (hd 1 rfl) 49 rfl; exact Flow.run1 rfl (row1_79 rfl e49) (hK _ _ (below_alloc (Below.refl _ _) _) (slice_new (Nat.le_trans (HB75.out).size (hx : Below _ _ _).size)))
      intro vs W76 hb76 hT
      have v0 := Flow.eqn (hT 0 (by decide))
      have v1 := Flow.eqn (hT 1 (by decide))
      obtain ⟨g76_2, v2, hge2, hk2⟩ : SliceAt _ _ _ _ _ _ := hT 2 (by decide)
      have Kg76_2 := Aside0.mk hk2
      have Gg76_2 := Aside0.mk hge2
      clear hk2 hge2
      simp only [Flow.putsT, v0, v1, v2, Act.put, List.setIfInBounds_toArray, List.set_cons_zero, List.set_cons_succ, List.drop_succ_cons, List.drop_zero, List.take_succ_cons, List.take_zero]
      clear hT v0 v1 v2
      have HB76 := Aside0.mk (below_step HB75.out hb76)
      have HFN_76 := Aside0.mk (FnRow.below HFN_75.out hb76)
      have HR_76 := Aside0.mk (Kd.R_below HR_75.out hb76)
      have K1_65_66_67_75_76 := Aside0.mk (blk_below K1_65_66_67_75.out hb76)
      have K4_65_66_67_75_76 := Aside0.mk (blk_below K4_65_66_67_75.out hb76)
      clear hb76
      have hl77 : (wd i :: numsL x k).length ≤ 4 := (by rw [List.length_cons, numsL_len]; omega)
      refine eapp Value.string ByteArray.empty (w0 := w) (base := w.heap.size) (ys := [hexB x.keep]) rfl rfl Tryd.underlying79 info9 rfl (by decide) rfl rfl HR_76.out Kg76_2.out HB76.out HB76.out.size ?_ ?_
      ·show ((wd i :: numsL x k).length + 1) * 16 ≤ _; omega
      intro v77 W77 hr77 hb77 hgr77
      have HR_77 := Aside0.mk hr77
      have HB77 := Aside0.mk hb77
      clear hr77 hb77
      have K1_65_66_67_75_76_77 := Aside0.mk (blk_grown K1_65_66_67_75_76.out hgr77 (Kd.R_ne HR_76.out K1_65_66_67_75_76.out (by decide)))
      have K4_65_66_67_75_76_77 := Aside0.mk (blk_grown K4_65_66_67_75_76.out hgr77 (Kd.R_ne HR_76.out K4_65_66_67_75_76.out (by decide)))
      have HFN_77 := Aside0.mk (FnRow.grown HFN_76.out HR_76.out hgr77)
      clear hgr77
      simp only [Act.put, List.setIfInBounds_toArray, List.set_cons_zero, List.set_cons_succ]
      refine Flow.seqL (E := fun u v => Below u.heap.size u v) 4 1 [(some 48, []), (some 49, []), (some 50, [1]), (some 51, [0, 2]), (some 6, [3, 3, 0, 1, 2, 3])] (fun iQ vQ wQ => match iQ with | 4 => vQ = v77 | _ => True) rfl (by decide) (by kernel_rfl) (Below.refl _ _) (fun _ _ _ h k => h.trans (k.mono h.size)) (fun _ _ _ _ h _ => h) ?_ ?_
      ·refine ⟨?_, trivial⟩
       ·intro a w' hx hu hd K hK; have e51 : a.tmps.getD 51 undef = v77 := hu 51 rfl; exact Flow.run1 rfl (Flow.r_assign rfl e51) (hK _ _ (Below.refl _ _) rfl)
      intro vs W78 hb78 hT
      have v4 := Flow.eqn (hT 4 (by decide) (by decide))
      simp only [Flow.putsT, v4, Act.put, List.setIfInBounds_toArray, List.set_cons_zero, List.set_cons_succ, List.drop_succ_cons, List.drop_zero, List.take_succ_cons, List.take_zero]
      clear hT v4
      have HB78 := Aside0.mk (below_step HB77.out hb78)
      have HFN_78 := Aside0.mk (FnRow.below HFN_77.out hb78)
      have HR_78 := Aside0.mk (Kd.R_below HR_77.out hb78)
      have K1_65_66_67_75_76_77_78 := Aside0.mk (blk_below K1_65_66_67_75_76_77.out hb78)
      have K4_65_66_67_75_76_77_78 := Aside0.mk (blk_below K4_65_66_67_75_76_77.out hb78)
      clear hb78
      go_upto_region 16 with fail
      refine Flow.seqT (E := fun u v => Below u.heap.size u v) [(some 52, []), (some 53, [0]), (some 54, [1]), (some 55, [2]), (some 56, [3, 2]), (some 57, [4, 2]), (some 58, [2, 5])] (fun iQ vQ wQ => match iQ with | 0 => vQ = (.string (wd i)) | 1 => vQ = (.bool false) | 2 => vQ = (.bool false) | 3 => vQ = undef | 4 => vQ = undef | 5 => vQ = undef | 6 => vQ = (.bool false) | _ => True) rfl (by kernel_rfl) (Below.refl _ _) (fun _ _ _ h k => h.trans (k.mono h.size)) (fun _ _ _ _ h _ => h) ?_ ?_
      ·refine ⟨?_, ?_, ?_, ?_, ?_, ?_, ?_, trivial⟩
       ·intro a w' hx hu hd K hK; have e3 : a.tmps.getD 3 undef = (.string (wd i)) := hu 3 rfl; exact Flow.run1 rfl (Flow.r_move rfl e3) (hK _ _ (Below.refl _ _) rfl)
       ·intro a w' hx hu hd K hK; have e52 := Flow.got (hd 0 rfl) 52 rfl; exact Flow.run1 rfl (seqb rfl e52 rfl (wd0_no HI.out HZ.out)) (hK _ _ (Below.refl _ _) rfl)
       ·intro a w' hx hu hd K hK; have e53 := Flow.got (hd 1 rfl) 53 rfl; exact Flow.run1 rfl (Flow.r_move rfl e53) (hK _ _ (Below.refl _ _) rfl)
       ·intro a w' hx hu hd K hK; have e54 := Flow.got (hd 2 rfl) 54 rfl; exact Flow.spare (Flow.spare_of (k := 54) rfl e54 rfl) (hK _ _ (Below.refl _ _) rfl)
       ·intro a w' hx hu hd K hK; have e54 := Flow.got (hd 2 rfl) 54 rfl; exact Flow.spare (Flow.spare_of (k := 54) rfl e54 rfl) (hK _ _ (Below.refl _ _) rfl)
       ·intro a w' hx hu hd K hK; have e54 := Flow.got (hd 2 rfl) 54 rfl; exact Flow.spare (Flow.spare_of (k := 54) rfl e54 rfl) (hK _ _ (Below.refl _ _) rfl)
       ·intro a w' hx hu hd K hK; have e54 := Flow.got (hd 2 rfl) 54 rfl; have e57 := Flow.got (hd 5 rfl) 57 rfl; exact Flow.run1 rfl (Flow.r_pick rfl e54 rfl) (hK _ _ (Below.refl _ _) rfl)
      intro vs W79 hb79 hT
      have v0 := Flow.eqn (hT 0 (by decide))
      have v1 := Flow.eqn (hT 1 (by decide))
      have v2 := Flow.eqn (hT 2 (by decide))
      have v3 := Flow.eqn (hT 3 (by decide))
      have v4 := Flow.eqn (hT 4 (by decide))
      have v5 := Flow.eqn (hT 5 (by decide))
      have v6 := Flow.eqn (hT 6 (by decide))
      simp only [Flow.putsT, v0, v1, v2, v3, v4, v5, v6, Act.put, List.setIfInBounds_toArray, List.set_cons_zero, List.set_cons_succ]
      clear hT v0 v1 v2 v3 v4 v5 v6
      have HB79 := Aside0.mk (below_step HB78.out hb79)
      have HFN_79 := Aside0.mk (FnRow.below HFN_78.out hb79)
      have HR_79 := Aside0.mk (Kd.R_below HR_78.out hb79)
      have K1_65_66_67_75_76_77_78_79 := Aside0.mk (blk_below K1_65_66_67_75_76_77_78.out hb79)
      have K4_65_66_67_75_76_77_78_79 := Aside0.mk (blk_below K4_65_66_67_75_76_77_78.out hb79)
      clear hb79
      have HLS : Aside0 (fmtL x i k true = wd i :: numsL x k ++ [hexB x.keep]) := ⟨fmtL_b HZ.out HHW.out⟩
      have hsz : ∀ s ∈ wd i :: numsL x k ++ [hexB x.keep], s.size ≤ 2000 := (fun s hs => (List.mem_append.1 hs).elim ((wn_size x HG.out i k HI.out hm3) s) (fun h => by rw [List.mem_singleton.1 h]; exact hzz))
      have HST := Aside0.mk (Rep.strs_R (l := wd i :: numsL x k ++ [hexB x.keep]) HR_79.out (by simp))
      have HWS : Aside0 ((wordsB (wd i :: numsL x k ++ [hexB x.keep])).size ≤ 20000) := ⟨Nat.le_trans (wordsB_size 2000 _ hsz) (by simp only [List.length_append, List.length_cons, List.length_nil, numsL_len]; omega)⟩
      obtain ⟨tw, HTW⟩ : ∃ q, Aside0 (wordsB (wd i :: numsL x k ++ [hexB x.keep]) = q) := ⟨_, ⟨rfl⟩⟩
      go_upto_region 18 with fail
      refine Flow.seqT (E := fun u v => Below u.heap.size u v) [(some 62, []), (some 63, [0]), (some 2, [1, 1, 0, 1])] (fun iQ vQ wQ => match iQ with | 0 => vQ = v77 | 1 => vQ = (.string tw) | 2 => vQ = (.string tw) | _ => True) rfl (by kernel_rfl) (Below.refl _ _) (fun _ _ _ h k => h.trans (k.mono h.size)) (fun _ _ _ _ h _ => h) ?_ ?_
      ·refine ⟨?_, ?_, ?_, trivial⟩
       ·intro a w' hx hu hd K hK; have e6 : a.tmps.getD 6 undef = v77 := hu 6 rfl; exact Flow.run1 rfl (Flow.r_move rfl e6) (hK _ _ (Below.refl _ _) rfl)
       ·intro a w' hx hu hd K hK; have e62 := Flow.got (hd 0 rfl) 62 rfl; refine Flow.want rfl ?_; refine Flow.val_call rfl Tryd.func57 (by kernel_rfl) rfl (by simp only [List.map_toArray, List.map_cons, List.map_nil, Act.eval, e62] <;> rfl) (join_c (wd i :: numsL x k ++ [hexB x.keep]) _ w' (HST.out.below hx) (by simp only [List.length_append, List.length_cons, List.length_nil, numsL_len]; omega) (Nat.le_trans HWS.out (by decide))) ?_; rintro e w2 ⟨rfl, hb2⟩; rw [HTW.out]; exact ⟨_, rfl, hK _ _ hb2 rfl⟩
       ·intro a w' hx hu hd K hK; have e63 := Flow.got (hd 1 rfl) 63 rfl; exact Flow.run1 rfl (Flow.r_assign rfl e63) (hK _ _ (Below.refl _ _) rfl)
      intro vs W80 hb80 hT
      have v0 := Flow.eqn (hT 0 (by decide))
      have v1 := Flow.eqn (hT 1 (by decide))
      have v2 := Flow.eqn (hT 2 (by decide))
      simp only [Flow.putsT, v0, v1, v2, Act.put, List.setIfInBounds_toArray, List.set_cons_zero, List.set_cons_succ]
      clear hT v0 v1 v2
      have HB80 := Aside0.mk (below_step HB79.out hb80)
      have HFN_80 := Aside0.mk (FnRow.below HFN_79.out hb80)
      have HR_80 := Aside0.mk (Kd.R_below HR_79.out hb80)
      have HST_80 := Aside0.mk (Rep.Strs.below HST.out hb80)
      have K1_65_66_67_75_76_77_78_79_80 := Aside0.mk (blk_below K1_65_66_67_75_76_77_78_79.out hb80)
      have K4_65_66_67_75_76_77_78_79_80 := Aside0.mk (blk_below K4_65_66_67_75_76_77_78_79.out hb80)
      clear hb80
      go_wp2_with fail
      exact bodyPost_ret (results_tmp Tryd.results34 _ _ _) rfl ⟨by rw [HLS.out, HTW.out]; rfl, HB80.out⟩
  | false =>
   have hten : (frm i).2.2.2 = none := Option.isNone_iff_eq_none.1 (by have h := HBB.out; cases hq : (frm i).2.2.2 with | none => rfl | some q => rw [hq] at h; cases h)
   have HBS := HFV none hten
   clear HFV hten
   go_enter Tryd.func34, Tryd.ntmps34
   go_upto_region 0 with fail
   refine wp_region_lit ?_
   refine ebox (v := (.agg #[.int .i64 x.kind, .int .i64 x.cmd, .int .i64 x.zone, .int .i64 x.at_, .int .i64 x.n, .slice Ad nd cd, .bool x.fua, .int .i64 x.m, .int .i64 x.k, .slice Ak nk ck])) rfl rfl rfl ?_
   intro g81 hg81 W81 hk81 hb81
   have Kg81 := Aside0.mk hk81
   have HB81 := Aside0.mk (hb81)
   clear hb81
   have Gg81 := Aside0.mk (show w.heap.size ≤ g81 by rw [hg81]; exact Nat.le_refl _)
   clear hg81 hk81
   simp only [Act.put, List.setIfInBounds_toArray, List.set_cons_zero, List.set_cons_succ]
   refine Flow.seqL (E := fun u v => Below u.heap.size u v) 1 1 [(some 1, []), (some 2, [])] (fun iQ vQ wQ => match iQ with | 1 => vQ = (.string ⟨#[]⟩) | _ => True) rfl (by decide) (by kernel_rfl) (Below.refl _ _) (fun _ _ _ h k => h.trans (k.mono h.size)) (fun _ _ _ _ h _ => h) ?_ ?_
   ·refine ⟨?_, trivial⟩
    ·intro a w' hx hu hd K hK; exact Flow.run1 rfl (Flow.r_assign rfl rfl) (hK _ _ (Below.refl _ _) rfl)
   intro vs W82 hb82 hT
   have v1 := Flow.eqn (hT 1 (by decide) (by decide))
   simp only [Flow.putsT, v1, Act.put, List.setIfInBounds_toArray, List.set_cons_zero, List.set_cons_succ, List.drop_succ_cons, List.drop_zero, List.take_succ_cons, List.take_zero]
   clear hT v1
   have HB82 := Aside0.mk (below_step HB81.out hb82)
   have Kg81_82 := Aside0.mk (blk_below Kg81.out hb82)
   clear hb82
   go_upto_region 1 with fail
   refine Flow.seqT (E := fun u v => Below u.heap.size u v) [(some 10, []), (some 11, [0]), (some 3, [1, 1, 0, 1])] (fun iQ vQ wQ => match iQ with | 0 => vQ = (.agg #[.int .i64 x.kind, .int .i64 x.cmd, .int .i64 x.zone, .int .i64 x.at_, .int .i64 x.n, .slice Ad nd cd, .bool x.fua, .int .i64 x.m, .int .i64 x.k, .slice Ak nk ck]) | 1 => vQ = (.string (wd i)) | 2 => vQ = (.string (wd i)) | _ => True) rfl (by kernel_rfl) (Below.refl _ _) (fun _ _ _ h k => h.trans (k.mono h.size)) (fun _ _ _ _ h _ => h) ?_ ?_
   ·refine ⟨?_, ?_, ?_, trivial⟩
    ·intro a w' hx hu hd K hK; have e1 : a.tmps.getD 1 undef = (.pointer (some ⟨g81, 0, none⟩)) := hu 1 rfl; exact Flow.run1 rfl (ldrow rfl e1 (lies_block (blk_below Kg81_82.out hx)) Tryd.underlying56 rfl size56) (hK _ _ (Below.refl _ _) rfl)
    ·intro a w' hx hu hd K hK; have e10 := Flow.got (hd 0 rfl) 10 rfl; refine Flow.want rfl ?_; refine Flow.val_call rfl Tryd.func55 (by kernel_rfl) rfl (by simp only [List.map_toArray, List.map_cons, List.map_nil, Act.eval, e10] <;> rfl) (word_c x Ad Ak nd cd nk ck w') ?_; rintro e w2 ⟨rfl, hb2⟩; rw [HIX.out, wdI_nat]; exact ⟨_, rfl, hK _ _ hb2 rfl⟩
    ·intro a w' hx hu hd K hK; have e11 := Flow.got (hd 1 rfl) 11 rfl; exact Flow.run1 rfl (Flow.r_assign rfl e11) (hK _ _ (Below.refl _ _) rfl)
   intro vs W83 hb83 hT
   have v0 := Flow.eqn (hT 0 (by decide))
   have v1 := Flow.eqn (hT 1 (by decide))
   have v2 := Flow.eqn (hT 2 (by decide))
   simp only [Flow.putsT, v0, v1, v2, Act.put, List.setIfInBounds_toArray, List.set_cons_zero, List.set_cons_succ]
   clear hT v0 v1 v2
   have HB83 := Aside0.mk (below_step HB82.out hb83)
   have Kg81_82_83 := Aside0.mk (blk_below Kg81_82.out hb83)
   clear hb83
   go_upto_region 2 with fail
   refine Flow.seqT_head (E := fun u v => Below u.heap.size u v) 1 [(some 13, []), (some 14, [0]), (some 12, [1]), (some 15, [2]), (some 16, [2]), (some 4, []), (none, [5, 3, 1, 0, 1, 2, 3, 5]), (some 5, [4, 6, 0, 1, 2, 3, 4, 5, 6])] (fun iQ vQ wQ => match iQ with | 0 => vQ = (.string (wd i)) | _ => True) rfl (by decide) (by kernel_rfl) (Below.refl _ _) (fun _ _ _ h k => h.trans (k.mono h.size)) (fun _ _ _ _ h _ => h) ?_ ?_
   ·refine ⟨?_, trivial⟩
    ·intro a w' hx hu hd K hK; have e3 : a.tmps.getD 3 undef = (.string (wd i)) := hu 3 rfl; exact Flow.run1 rfl (Flow.r_move rfl e3) (hK _ _ (Below.refl _ _) rfl)
   intro vs W84 hb84 hT
   have v0 := Flow.eqn (hT 0 (by decide))
   simp only [Flow.putsT, v0, Act.put, List.setIfInBounds_toArray, List.set_cons_zero, List.set_cons_succ, List.drop_succ_cons, List.drop_zero, List.take_succ_cons, List.take_zero]
   clear hT v0
   have HB84 := Aside0.mk (below_step HB83.out hb84)
   have Kg81_82_83_84 := Aside0.mk (blk_below Kg81_82_83.out hb84)
   clear hb84
   refine ecall rfl rfl Tryd.func46 (by kernel_rfl) rfl (args := #[.string (wd i)]) (by simp only [List.map_toArray, List.map_cons, List.map_nil, Act.eval] <;> rfl) (of_at HBS.out HFI.out _) ?_
   rintro e W85 ⟨v, rfl, hfn, hb85⟩
   refine ⟨_, rfl, ?_⟩
   obtain ⟨An, rfl, hg85⟩ := hfn.is
   rw [HM.out] at hfn ⊢
   have HFN := Aside0.mk hfn
   clear hfn hg85
   have Kg81_82_83_84_85 := Aside0.mk (blk_below Kg81_82_83_84.out hb85)
   have HB85 := Aside0.mk (below_step HB84.out hb85)
   clear hb85
   simp only [Act.put, List.setIfInBounds_toArray, List.set_cons_zero, List.set_cons_succ]
   refine Flow.seqL (E := fun u v => Below u.heap.size u v) 2 3 [(some 13, []), (some 14, [0]), (some 12, [1]), (some 15, [2]), (some 16, [2]), (some 4, []), (none, [5, 3, 1, 0, 1, 2, 3, 5]), (some 5, [4, 6, 0, 1, 2, 3, 4, 5, 6])] (fun iQ vQ wQ => match iQ with | 2 => vQ = (.tuple #[.agg #[.int .i64 kd, .int .i64 cm, .slice An mn mn, .nilFunc], .bool true]) | 3 => vQ = (.agg #[.int .i64 kd, .int .i64 cm, .slice An mn mn, .nilFunc]) | 4 => vQ = (.bool true) | _ => True) rfl (by decide) (by kernel_rfl) (Below.refl _ _) (fun _ _ _ h k => h.trans (k.mono h.size)) (fun _ _ _ _ h _ => h) ?_ ?_
   ·refine ⟨?_, ?_, ?_, trivial⟩
    ·intro a w' hx hu hd K hK; have e14 : a.tmps.getD 14 undef = (.tuple #[.agg #[.int .i64 kd, .int .i64 cm, .slice An mn mn, .nilFunc], .bool true]) := hu 14 rfl; exact Flow.run1 rfl (Flow.r_move rfl e14) (hK _ _ (Below.refl _ _) rfl)
    ·intro a w' hx hu hd K hK; have e12 := Flow.got (hd 2 rfl) 12 rfl; exact Flow.run1 rfl (extr rfl e12 rfl) (hK _ _ (Below.refl _ _) rfl)
    ·intro a w' hx hu hd K hK; have e12 := Flow.got (hd 2 rfl) 12 rfl; exact Flow.run1 rfl (extr rfl e12 rfl) (hK _ _ (Below.refl _ _) rfl)
   intro vs W86 hb86 hT
   have v2 := Flow.eqn (hT 2 (by decide) (by decide))
   have v3 := Flow.eqn (hT 3 (by decide) (by decide))
   have v4 := Flow.eqn (hT 4 (by decide) (by decide))
   simp only [Flow.putsT, v2, v3, v4, Act.put, List.setIfInBounds_toArray, List.set_cons_zero, List.set_cons_succ, List.drop_succ_cons, List.drop_zero, List.take_succ_cons, List.take_zero]
   clear hT v2 v3 v4
   have HB86 := Aside0.mk (below_step HB85.out hb86)
   have HFN_86 := Aside0.mk (FnRow.below HFN.out hb86)
   have Kg81_82_83_84_85_86 := Aside0.mk (blk_below Kg81_82_83_84_85.out hb86)
   clear hb86
   refine ealloc rfl rfl zero91_is ?_
   intro g87 hg87 W87 hk87 hb87
   have Kg87 := Aside0.mk hk87
   have Ng87_g81 := Aside0.mk (show g81 ≠ g87 by have := (Array.getElem?_eq_some_iff.1 Kg81_82_83_84_85_86.out).1; omega)
   have Ng81_g87 := Aside0.mk (Ne.symm Ng87_g81.out)
   have HB87 := Aside0.mk (below_step HB86.out hb87)
   have HFN_87 := Aside0.mk (FnRow.below HFN_86.out hb87)
   have Kg81_82_83_84_85_86_87 := Aside0.mk (blk_below Kg81_82_83_84_85_86.out hb87)
   clear hb87
   have Gg87 := Aside0.mk (show w.heap.size ≤ g87 by rw [hg87]; exact HB86.out.size)
   clear hg87 hk87
   simp only [Act.put, List.setIfInBounds_toArray, List.set_cons_zero, List.set_cons_succ]
   refine Cells.store_whole rfl rfl 91 _ _ rfl g87 [.int .i64 kd, .int .i64 cm, .slice An mn mn, .nilFunc] #[.int .i64 0, .int .i64 0, .slice none 0 0, .nilFunc] rfl rfl Kg87.out rfl size91 rfl ?_
   intro W88 hk88 hf88 hb88
   have HFN_88 := Aside0.mk (FnRow.far HFN_87.out Kg87.out (by decide) hf88)
   have HB88 := Aside0.mk (HB87.out.trans (hb88 _ Gg87.out))
   have Kg81_82_83_84_85_86_87_88 := Aside0.mk ((hf88 _ Ng87_g81.out).trans Kg81_82_83_84_85_86_87.out)
   have Kg87_88 := Aside0.mk hk88
   clear hk88 hf88 hb88
   refine Flow.seqL (E := fun u v => Below u.heap.size u v) 7 1 [(some 13, []), (some 14, [0]), (some 12, [1]), (some 15, [2]), (some 16, [2]), (some 4, []), (none, [5, 3, 1, 0, 1, 2, 3, 5]), (some 5, [4, 6, 0, 1, 2, 3, 4, 5, 6])] (fun iQ vQ wQ => match iQ with | 7 => vQ = (.bool true) | _ => True) rfl (by decide) (by kernel_rfl) (Below.refl _ _) (fun _ _ _ h k => h.trans (k.mono h.size)) (fun _ _ _ _ h _ => h) ?_ ?_
   ·refine ⟨?_, trivial⟩
    ·intro a w' hx hu hd K hK; have e16 : a.tmps.getD 16 undef = (.bool true) := hu 16 rfl; exact Flow.run1 rfl (Flow.r_assign rfl e16) (hK _ _ (Below.refl _ _) rfl)
   intro vs W89 hb89 hT
   have v7 := Flow.eqn (hT 7 (by decide) (by decide))
   simp only [Flow.putsT, v7, Act.put, List.setIfInBounds_toArray, List.set_cons_zero, List.set_cons_succ, List.drop_succ_cons, List.drop_zero, List.take_succ_cons, List.take_zero]
   clear hT v7
   have HB89 := Aside0.mk (below_step HB88.out hb89)
   have HFN_89 := Aside0.mk (FnRow.below HFN_88.out hb89)
   have Kg81_82_83_84_85_86_87_88_89 := Aside0.mk (blk_below Kg81_82_83_84_85_86_87_88.out hb89)
   have Kg87_88_89 := Aside0.mk (blk_below Kg87_88.out hb89)
   clear hb89
   go_upto_region 3 with fail
   refine Flow.seqT (E := fun u v => Below u.heap.size u v) [(some 17, []), (some 18, [0])] (fun iQ vQ wQ => match iQ with | 0 => vQ = (.bool true) | 1 => vQ = (.bool false) | _ => True) rfl (by kernel_rfl) (Below.refl _ _) (fun _ _ _ h k => h.trans (k.mono h.size)) (fun _ _ _ _ h _ => h) ?_ ?_
   ·refine ⟨?_, ?_, trivial⟩
    ·intro a w' hx hu hd K hK; have e5 : a.tmps.getD 5 undef = (.bool true) := hu 5 rfl; exact Flow.run1 rfl (Flow.r_move rfl e5) (hK _ _ (Below.refl _ _) rfl)
    ·intro a w' hx hu hd K hK; have e17 := Flow.got (hd 0 rfl) 17 rfl; exact Flow.run1 rfl (Flow.r_not rfl e17) (hK _ _ (Below.refl _ _) rfl)
   intro vs W90 hb90 hT
   have v0 := Flow.eqn (hT 0 (by decide))
   have v1 := Flow.eqn (hT 1 (by decide))
   simp only [Flow.putsT, v0, v1, Act.put, List.setIfInBounds_toArray, List.set_cons_zero, List.set_cons_succ]
   clear hT v0 v1
   have HB90 := Aside0.mk (below_step HB89.out hb90)
   have HFN_90 := Aside0.mk (FnRow.below HFN_89.out hb90)
   have Kg81_82_83_84_85_86_87_88_89_90 := Aside0.mk (blk_below Kg81_82_83_84_85_86_87_88_89.out hb90)
   have Kg87_88_89_90 := Aside0.mk (blk_below Kg87_88_89.out hb90)
   clear hb90
   go_upto_region 5 with fail
   refine Flow.seqT_head (E := fun u v => Below u.heap.size u v) 2 [(some 19, []), (some 20, [0]), (some 6, [1, 0, 1])] (fun iQ vQ wQ => match iQ with | 0 => vQ = (.string (wd i)) | 1 => SliceAt #[.string (wd i)] 9 1 w.heap.size vQ wQ | _ => True) rfl (by decide) (by kernel_rfl) (Below.refl _ _) (fun _ _ _ h k => h.trans (k.mono h.size)) (fun iQ vQ w1Q w2Q hQ hEQ => match iQ, hQ with | 0, hQ => hQ | 1, hQ => slice_below hQ hEQ | _ + 2, _ => trivial) ?_ ?_
   ·refine ⟨?_, ?_, trivial⟩
    ·intro a w' hx hu hd K hK; have e3 : a.tmps.getD 3 undef = (.string (wd i)) := hu 3 rfl; exact Flow.run1 rfl (Flow.r_move rfl e3) (hK _ _ (Below.refl _ _) rfl)
    ·intro a w' hx hu hd K hK; have e19 := Flow.got (hd 0 rfl) 19 rfl; exact Flow.run1 rfl (row1_79 rfl e19) (hK _ _ (below_alloc (Below.refl _ _) _) (slice_new (Nat.le_trans (HB90.out).size (hx : Below _ _ _).size)))
   intro vs W91 hb91 hT
   have v0 := Flow.eqn (hT 0 (by decide))
   obtain ⟨g91_1, v1, hge1, hk1⟩ : SliceAt _ _ _ _ _ _ := hT 1 (by decide)
   have Kg91_1 := Aside0.mk hk1
   have Gg91_1 := Aside0.mk hge1
   clear hk1 hge1
   simp only [Flow.putsT, v0, v1, Act.put, List.setIfInBounds_toArray, List.set_cons_zero, List.set_cons_succ, List.drop_succ_cons, List.drop_zero, List.take_succ_cons, List.take_zero]
   clear hT v0 v1
   have HB91 := Aside0.mk (below_step HB90.out hb91)
   have HFN_91 := Aside0.mk (FnRow.below HFN_90.out hb91)
   have Kg81_82_83_84_85_86_87_88_89_90_91 := Aside0.mk (blk_below Kg81_82_83_84_85_86_87_88_89_90.out hb91)
   have Kg87_88_89_90_91 := Aside0.mk (blk_below Kg87_88_89_90.out hb91)
   clear hb91
   refine Flow.seqL (E := fun u v => Below u.heap.size u v) 2 1 [(some 19, []), (some 20, [0]), (some 6, [1, 0, 1])] (fun iQ vQ wQ => match iQ with | 2 => vQ = (.slice (some ⟨g91_1, 0, none⟩) 1 1) | _ => True) rfl (by decide) (by kernel_rfl) (Below.refl _ _) (fun _ _ _ h k => h.trans (k.mono h.size)) (fun _ _ _ _ h _ => h) ?_ ?_
   ·refine ⟨?_, trivial⟩
    ·intro a w' hx hu hd K hK; have e20 : a.tmps.getD 20 undef = (.slice (some ⟨g91_1, 0, none⟩) 1 1) := hu 20 rfl; exact Flow.run1 rfl (Flow.r_assign rfl e20) (hK _ _ (Below.refl _ _) rfl)
   intro vs W92 hb92 hT
   have v2 := Flow.eqn (hT 2 (by decide) (by decide))
   simp only [Flow.putsT, v2, Act.put, List.setIfInBounds_toArray, List.set_cons_zero, List.set_cons_succ, List.drop_succ_cons, List.drop_zero, List.take_succ_cons, List.take_zero]
   clear hT v2
   have HB92 := Aside0.mk (below_step HB91.out hb92)
   have HFN_92 := Aside0.mk (FnRow.below HFN_91.out hb92)
   have Kg81_82_83_84_85_86_87_88_89_90_91_92 := Aside0.mk (blk_below Kg81_82_83_84_85_86_87_88_89_90_91.out hb92)
   have Kg87_88_89_90_91_92 := Aside0.mk (blk_below Kg87_88_89_90_91.out hb92)
   have Kg91_1_92 := Aside0.mk (blk_below Kg91_1.out hb92)
   clear hb92
   have HR := Aside0.mk (R_row Value.string (fun _ => rfl) (l := [wd i]) (base := w.heap.size) Kg91_1_92.out Gg91_1.out (show 1 ≤ maxLen by decide))
   go_upto_region 6 with fail
   refine Flow.seqT (E := fun u v => Below u.heap.size u v) [(some 21, []), (some 22, [0]), (some 23, [1]), (some 24, [])] (fun iQ vQ wQ => match iQ with | 0 => vQ = (.pointer (some ⟨g87, 2, none⟩)) | 1 => vQ = (.slice An mn mn) | 2 => vQ = (.int .i64 mn) | 3 => vQ = (.int .i64 0) | _ => True) rfl (by kernel_rfl) (Below.refl _ _) (fun _ _ _ h k => h.trans (k.mono h.size)) (fun _ _ _ _ h _ => h) ?_ ?_
   ·refine ⟨?_, ?_, ?_, ?_, trivial⟩
    ·intro a w' hx hu hd K hK; have e4 : a.tmps.getD 4 undef = (.pointer (some ⟨g87, 0, none⟩)) := hu 4 rfl; exact Flow.run1 rfl (fa rfl e4 (fa91_2 _ _ _)) (hK _ _ (Below.refl _ _) rfl)
    ·intro a w' hx hu hd K hK; have e21 := Flow.got (hd 0 rfl) 21 rfl; exact Flow.run1 rfl (ld rfl e21 ((blk_cell (blk_below Kg87_88_89_90_91_92.out hx) 2).trans rfl) Tryd.underlying88 rfl) (hK _ _ (Below.refl _ _) rfl)
    ·intro a w' hx hu hd K hK; have e22 := Flow.got (hd 1 rfl) 22 rfl; exact Flow.run1 rfl (lenL Tryd.underlying88 rfl e22) (hK _ _ (Below.refl _ _) rfl)
    ·intro a w' hx hu hd K hK; exact Flow.run1 rfl (Flow.r_move rfl rfl) (hK _ _ (Below.refl _ _) rfl)
   intro vs W93 hb93 hT
   have v0 := Flow.eqn (hT 0 (by decide))
   have v1 := Flow.eqn (hT 1 (by decide))
   have v2 := Flow.eqn (hT 2 (by decide))
   have v3 := Flow.eqn (hT 3 (by decide))
   simp only [Flow.putsT, v0, v1, v2, v3, Act.put, List.setIfInBounds_toArray, List.set_cons_zero, List.set_cons_succ]
   clear hT v0 v1 v2 v3
   have HB93 := Aside0.mk (below_step HB92.out hb93)
   have HFN_93 := Aside0.mk (FnRow.below HFN_92.out hb93)
   have HR_93 := Aside0.mk (Kd.R_below HR.out hb93)
   have Kg81_82_83_84_85_86_87_88_89_90_91_92_93 := Aside0.mk (blk_below Kg81_82_83_84_85_86_87_88_89_90_91_92.out hb93)
   have Kg87_88_89_90_91_92_93 := Aside0.mk (blk_below Kg87_88_89_90_91_92.out hb93)
   clear hb93
   go_wp2
   go_loopg [6, 24] mn (fun g v6 v24 wr => ∃ k : Nat, k ≤ mn ∧ Aside0 (g = mn - k) ∧ v24 = .int .i64 k ∧ Aside0 (Below w.heap.size w wr) ∧ Aside0 (wr.heap[g81]? = some (.cells #[.int .i64 x.kind, .int .i64 x.cmd, .int .i64 x.zone, .int .i64 x.at_, .int .i64 x.n, .slice Ad nd cd, .bool x.fua, .int .i64 x.m, .int .i64 x.k, .slice Ak nk ck] 56 (0, 0))) ∧ Aside0 (wr.heap[g87]? = some (.cells #[.int .i64 kd, .int .i64 cm, .slice An mn mn, .nilFunc] 91 (0, 0))) ∧ Aside0 (FnRow wr (.slice An mn mn) ps) ∧ Aside0 (Kd.R Kd.string 9 wr w.heap.size (fun _ => True) v6 (wd i :: numsL x k)))
   case atStart => exact ⟨0, Nat.zero_le _, ⟨rfl⟩, rfl, HB93, Kg81_82_83_84_85_86_87_88_89_90_91_92_93, Kg87_88_89_90_91_92_93, HFN_93, HR_93⟩
   case round =>
    clear HB93 Kg81_82_83_84_85_86_87_88_89_90_91_92_93 Kg87_88_89_90_91_92_93 HFN_93 HR_93
    obtain ⟨k, hk, HGK, rfl, HBR, K1, K4, HFN, HR⟩ := hrel
    by_cases hlt : k < mn
    ·have hlt2 : (k : Int) < mn := by omega
     obtain ⟨gf, hAn, hgf⟩ : ∃ g, An = some ⟨g, 0, none⟩ ∧ wr.heap[g]? = some (.cells (ps.map fv).toArray 94 (0, 0)) := by rcases HFN.out with ⟨hp, _⟩ | ⟨g, hv, hg⟩; exact absurd hlt (by rw [← HM.out, hp]; exact Nat.not_lt_zero _); injection hv with ha; exact ⟨g, ha, hg⟩
     subst hAn
     have KF := Aside0.mk hgf
     clear hgf
     have HKP : Aside0 (k < ps.length) := ⟨HM.out ▸ hlt⟩
     obtain ⟨p, HP⟩ : ∃ q, Aside0 (ps.getD k 2 = q) := ⟨_, ⟨rfl⟩⟩
     have HPO : Aside0 (p = 2 ∨ p = 3 ∨ p = 4 ∨ p = 7 ∨ p = 8 ∨ p = 5 ∨ p = 9) := ⟨by have h := places_ok HI.out (k := k) (by rw [HPS.out, HM.out]; exact hlt); rw [HPS.out, HP.out] at h; exact h⟩
     have HPA : Aside0 ((AC x Ad Ak nd cd nk ck)[p]? = some (.int .i64 (n3 x k))) := ⟨by have h := place_at Ad Ak nd cd nk ck HI.out HIX.out (k := k) (by rw [HPS.out, HM.out]; exact hlt); rw [HPS.out, HP.out] at h; exact h⟩
     go_upto_region 7 with fail
     refine Flow.seqT (E := fun u v => Below u.heap.size u v) [(some 25, [])] (fun iQ vQ wQ => match iQ with | 0 => vQ = (.bool true) | _ => True) rfl (by kernel_rfl) (Below.refl _ _) (fun _ _ _ h k => h.trans (k.mono h.size)) (fun _ _ _ _ h _ => h) ?_ ?_
     ·refine ⟨?_, trivial⟩
      ·intro a w' hx hu hd K hK; have e24 : a.tmps.getD 24 undef = (.int .i64 k) := hu 24 rfl; have e23 : a.tmps.getD 23 undef = (.int .i64 mn) := hu 23 rfl; exact Flow.run1 rfl (yes (lss rfl e24 e23) (decide_eq_true hlt2)) (hK _ _ (Below.refl _ _) rfl)
     intro vs W94 hb94 hT
     have v0 := Flow.eqn (hT 0 (by decide))
     simp only [Flow.putsT, v0, Act.put, List.setIfInBounds_toArray, List.set_cons_zero, List.set_cons_succ]
     clear hT v0
     have HB94 := Aside0.mk (below_step HBR.out hb94)
     have HFN_94 := Aside0.mk (FnRow.below HFN.out hb94)
     have HR_94 := Aside0.mk (Kd.R_below HR.out hb94)
     have KF_94 := Aside0.mk (blk_below KF.out hb94)
     have K1_94 := Aside0.mk (blk_below K1.out hb94)
     have K4_94 := Aside0.mk (blk_below K4.out hb94)
     clear hb94
     go_upto_region 8 with fail
     refine Flow.seqT (E := fun u v => Below u.heap.size u v) [(some 26, []), (some 27, [0]), (some 8, [1, 0, 1])] (fun iQ vQ wQ => match iQ with | 0 => vQ = (.pointer (some ⟨gf, k, none⟩)) | 1 => vQ = (fv p) | 2 => vQ = (fv p) | _ => True) rfl (by kernel_rfl) (Below.refl _ _) (fun _ _ _ h k => h.trans (k.mono h.size)) (fun _ _ _ _ h _ => h) ?_ ?_
     ·refine ⟨?_, ?_, ?_, trivial⟩
      ·intro a w' hx hu hd K hK; have e22 : a.tmps.getD 22 undef = (.slice (some ⟨gf, 0, none⟩) mn mn) := hu 22 rfl; have e24 : a.tmps.getD 24 undef = (.int .i64 k) := hu 24 rfl; exact Flow.run1 rfl (ixr Tryd.underlying88 size94 rfl e22 e24 hlt) (hK _ _ (Below.refl _ _) rfl)
      ·intro a w' hx hu hd K hK; have e26 := Flow.got (hd 0 rfl) 26 rfl; exact Flow.run1 rfl (ld rfl e26 ((row_cell fv 2 (blk_below KF_94.out hx) HKP.out).trans (by rw [HP.out])) Tryd.underlying94 rfl) (hK _ _ (Below.refl _ _) rfl)
      ·intro a w' hx hu hd K hK; have e27 := Flow.got (hd 1 rfl) 27 rfl; exact Flow.run1 rfl (Flow.r_assign rfl e27) (hK _ _ (Below.refl _ _) rfl)
     intro vs W95 hb95 hT
     have v0 := Flow.eqn (hT 0 (by decide))
     have v1 := Flow.eqn (hT 1 (by decide))
     have v2 := Flow.eqn (hT 2 (by decide))
     simp only [Flow.putsT, v0, v1, v2, Act.put, List.setIfInBounds_toArray, List.set_cons_zero, List.set_cons_succ]
     clear hT v0 v1 v2
     have HB95 := Aside0.mk (below_step HB94.out hb95)
     have HFN_95 := Aside0.mk (FnRow.below HFN_94.out hb95)
     have HR_95 := Aside0.mk (Kd.R_below HR_94.out hb95)
     have KF_95 := Aside0.mk (blk_below KF_94.out hb95)
     have K1_94_95 := Aside0.mk (blk_below K1_94.out hb95)
     have K4_94_95 := Aside0.mk (blk_below K4_94.out hb95)
     clear hb95
     go_upto_region 9 with fail
     refine Flow.seqT_head (E := fun u v => Below u.heap.size u v) 7 [(some 28, []), (some 29, []), (some 30, [1]), (some 31, [2]), (some 32, [3]), (some 33, [4, 2]), (some 34, [5]), (some 35, [0, 6, 5]), (some 6, [7, 7, 0, 1, 2, 3, 4, 5, 6, 7])] (fun iQ vQ wQ => match iQ with | 0 => vQ = u6 | 1 => vQ = (fv p) | 2 => vQ = (.pointer (some ⟨g81, p, none⟩)) | 3 => vQ = (.pointer (some ⟨g81, p, none⟩)) | 4 => vQ = (.int .i64 (n3 x k)) | 5 => vQ = (.string (itoaB (n3 x k))) | 6 => SliceAt #[.string (itoaB (n3 x k))] 9 1 w.heap.size vQ wQ | _ => True) rfl (by decide) (by kernel_rfl) (Below.refl _ _) (fun _ _ _ h k => h.trans (k.mono h.size)) (fun iQ vQ w1Q w2Q hQ hEQ => match iQ, hQ with | 0, hQ => hQ | 1, hQ => hQ | 2, hQ => hQ | 3, hQ => hQ | 4, hQ => hQ | 5, hQ => hQ | 6, hQ => slice_below hQ hEQ | _ + 7, _ => trivial) ?_ ?_
     ·refine ⟨?_, ?_, ?_, ?_, ?_, ?_, ?_, trivial⟩
      ·intro a w' hx hu hd K hK; have e6 : a.tmps.getD 6 undef = u6 := hu 6 rfl; exact Flow.run1 rfl (Flow.r_move rfl e6) (hK _ _ (Below.refl _ _) rfl)
      ·intro a w' hx hu hd K hK; have e8 : a.tmps.getD 8 undef = (fv p) := hu 8 rfl; exact Flow.run1 rfl (Flow.r_move rfl e8) (hK _ _ (Below.refl _ _) rfl)
      ·intro a w' hx hu hd K hK; have e29 := Flow.got (hd 1 rfl) 29 rfl; have e1 : a.tmps.getD 1 undef = (.pointer (some ⟨g81, 0, none⟩)) := hu 1 rfl; refine Flow.want rfl ?_; exact call_place HPO.out rfl e29 e1 (hK _ _ (Below.refl _ _) rfl)
      ·intro a w' hx hu hd K hK; have e30 := Flow.got (hd 2 rfl) 30 rfl; exact Flow.run1 rfl (nilck rfl e30) (hK _ _ (Below.refl _ _) rfl)
      ·intro a w' hx hu hd K hK; have e31 := Flow.got (hd 3 rfl) 31 rfl; exact Flow.run1 rfl (ld rfl e31 ((blk_cell (blk_below K1_94_95.out hx) p).trans HPA.out) Tryd.underlying3 rfl) (hK _ _ (Below.refl _ _) rfl)
      ·intro a w' hx hu hd K hK; have e32 := Flow.got (hd 4 rfl) 32 rfl; refine Flow.want rfl ?_; refine Flow.val_call rfl Tryd.func56 (by kernel_rfl) rfl (by simp only [List.map_toArray, List.map_cons, List.map_nil, Act.eval, e32] <;> rfl) (itoa_c (n3 x k) (HG.out.num k) w' (HPW.out.below (below_step HB95.out hx))) ?_; rintro e w2 ⟨rfl, hb2⟩; exact ⟨_, rfl, hK _ _ hb2 (by rfl)⟩
      ·intro a w' hx hu hd K hK; have e33 := Flow.got (hd 5 rfl) 33 rfl; exact Flow.run1 rfl (row1_79 rfl e33) (hK _ _ (below_alloc (Below.refl _ _) _) (slice_new (Nat.le_trans (HB95.out).size (hx : Below _ _ _).size)))
     intro vs W96 hb96 hT
     have v0 := Flow.eqn (hT 0 (by decide))
     have v1 := Flow.eqn (hT 1 (by decide))
     have v2 := Flow.eqn (hT 2 (by decide))
     have v3 := Flow.eqn (hT 3 (by decide))
     have v4 := Flow.eqn (hT 4 (by decide))
     have v5 := Flow.eqn (hT 5 (by decide))
     obtain ⟨g96_6, v6, hge6, hk6⟩ : SliceAt _ _ _ _ _ _ := hT 6 (by decide)
     have Kg96_6 := Aside0.mk hk6
     have Gg96_6 := Aside0.mk hge6
     clear hk6 hge6
     simp only [Flow.putsT, v0, v1, v2, v3, v4, v5, v6, Act.put, List.setIfInBounds_toArray, List.set_cons_zero, List.set_cons_succ, List.drop_succ_cons, List.drop_zero, List.take_succ_cons, List.take_zero]
     clear hT v0 v1 v2 v3 v4 v5 v6
     have HB96 := Aside0.mk (below_step HB95.out hb96)
     have HFN_96 := Aside0.mk (FnRow.below HFN_95.out hb96)
     have HR_96 := Aside0.mk (Kd.R_below HR_95.out hb96)
     have KF_96 := Aside0.mk (blk_below KF_95.out hb96)
     have K1_94_95_96 := Aside0.mk (blk_below K1_94_95.out hb96)
     have K4_94_95_96 := Aside0.mk (blk_below K4_94_95.out hb96)
     clear hb96
     have hl97 : (wd i :: numsL x k).length ≤ 4 := (by rw [List.length_cons, numsL_len]; omega)
     refine eapp Value.string ByteArray.empty (w0 := w) (base := w.heap.size) (ys := [itoaB (n3 x k)]) rfl rfl Tryd.underlying79 info9 rfl (by decide) rfl rfl HR_96.out Kg96_6.out HB96.out HB96.out.size ?_ ?_
     ·show ((wd i :: numsL x k).length + 1) * 16 ≤ _; omega
     intro v97 W97 hr97 hb97 hgr97
     have HR_97 := Aside0.mk hr97
     have HB97 := Aside0.mk hb97
     clear hr97 hb97
     have K1_94_95_96_97 := Aside0.mk (blk_grown K1_94_95_96.out hgr97 (Kd.R_ne HR_96.out K1_94_95_96.out (by decide)))
     have K4_94_95_96_97 := Aside0.mk (blk_grown K4_94_95_96.out hgr97 (Kd.R_ne HR_96.out K4_94_95_96.out (by decide)))
     have HFN_97 := Aside0.mk (FnRow.grown HFN_96.out HR_96.out hgr97)
     clear hgr97
     simp only [Act.put, List.setIfInBounds_toArray, List.set_cons_zero, List.set_cons_succ]
     refine Flow.seqL (E := fun u v => Below u.heap.size u v) 8 1 [(some 28, []), (some 29, []), (some 30, [1]), (some 31, [2]), (some 32, [3]), (some 33, [4, 2]), (some 34, [5]), (some 35, [0, 6, 5]), (some 6, [7, 7, 0, 1, 2, 3, 4, 5, 6, 7])] (fun iQ vQ wQ => match iQ with | 8 => vQ = v97 | _ => True) rfl (by decide) (by kernel_rfl) (Below.refl _ _) (fun _ _ _ h k => h.trans (k.mono h.size)) (fun _ _ _ _ h _ => h) ?_ ?_
     ·refine ⟨?_, trivial⟩
      ·intro a w' hx hu hd K hK; have e35 : a.tmps.getD 35 undef = v97 := hu 35 rfl; exact Flow.run1 rfl (Flow.r_assign rfl e35) (hK _ _ (Below.refl _ _) rfl)
     intro vs W98 hb98 hT
     have v8 := Flow.eqn (hT 8 (by decide) (by decide))
     simp only [Flow.putsT, v8, Act.put, List.setIfInBounds_toArray, List.set_cons_zero, List.set_cons_succ, List.drop_succ_cons, List.drop_zero, List.take_succ_cons, List.take_zero]
     clear hT v8
     have HB98 := Aside0.mk (below_step HB97.out hb98)
     have HFN_98 := Aside0.mk (FnRow.below HFN_97.out hb98)
     have HR_98 := Aside0.mk (Kd.R_below HR_97.out hb98)
     have K1_94_95_96_97_98 := Aside0.mk (blk_below K1_94_95_96_97.out hb98)
     have K4_94_95_96_97_98 := Aside0.mk (blk_below K4_94_95_96_97.out hb98)
     clear hb98
     obtain ⟨k1, K1H⟩ : ∃ q, Aside0 (k + 1 = q) := ⟨_, ⟨rfl⟩⟩
     have hk1 := K1H.out
     go_upto_region 10 with fail
     refine Flow.seqT (E := fun u v => Below u.heap.size u v) [(some 36, []), (some 24, [0])] (fun iQ vQ wQ => match iQ with | 0 => vQ = (.int .i64 k1) | 1 => vQ = (.int .i64 k1) | _ => True) rfl (by kernel_rfl) (Below.refl _ _) (fun _ _ _ h k => h.trans (k.mono h.size)) (fun _ _ _ _ h _ => h) ?_ ?_
     ·refine ⟨?_, ?_, trivial⟩
      ·intro a w' hx hu hd K hK; have e24 : a.tmps.getD 24 undef = (.int .i64 k) := hu 24 rfl; exact Flow.run1 rfl (addk rfl e24 rfl (by omega) (by omega) (by omega)) (hK _ _ (Below.refl _ _) rfl)
      ·intro a w' hx hu hd K hK; have e36 := Flow.got (hd 0 rfl) 36 rfl; exact Flow.run1 rfl (Flow.r_move rfl e36) (hK _ _ (Below.refl _ _) rfl)
     intro vs W99 hb99 hT
     have v0 := Flow.eqn (hT 0 (by decide))
     have v1 := Flow.eqn (hT 1 (by decide))
     simp only [Flow.putsT, v0, v1, Act.put, List.setIfInBounds_toArray, List.set_cons_zero, List.set_cons_succ]
     clear hT v0 v1
     have HB99 := Aside0.mk (below_step HB98.out hb99)
     have HFN_99 := Aside0.mk (FnRow.below HFN_98.out hb99)
     have HR_99 := Aside0.mk (Kd.R_below HR_98.out hb99)
     have K1_94_95_96_97_98_99 := Aside0.mk (blk_below K1_94_95_96_97_98.out hb99)
     have K4_94_95_96_97_98_99 := Aside0.mk (blk_below K4_94_95_96_97_98.out hb99)
     clear hb99
     go_wp2
     go_roundg (mn - (k + 1))
     case measure => have := HGK.out; omega
     case rel => exact ⟨k1, by omega, ⟨by omega⟩, rfl, HB99, K1_94_95_96_97_98_99, K4_94_95_96_97_98_99, HFN_99, ⟨by rw [← hk1, numsL_succ, ← List.cons_append]; exact HR_99.out⟩⟩
    ·obtain rfl : k = mn := by omega
     have hlt2 : ¬ ((k : Nat) : Int) < k := by omega
     go_upto_region 7 with fail
     refine Flow.seqT (E := fun u v => Below u.heap.size u v) [(some 25, [])] (fun iQ vQ wQ => match iQ with | 0 => vQ = (.bool false) | _ => True) rfl (by kernel_rfl) (Below.refl _ _) (fun _ _ _ h k => h.trans (k.mono h.size)) (fun _ _ _ _ h _ => h) ?_ ?_
     ·refine ⟨?_, trivial⟩
      ·intro a w' hx hu hd K hK; have e24 : a.tmps.getD 24 undef = (.int .i64 k) := hu 24 rfl; have e23 : a.tmps.getD 23 undef = (.int .i64 k) := hu 23 rfl; exact Flow.run1 rfl (no (lss rfl e24 e23) (decide_eq_false hlt2)) (hK _ _ (Below.refl _ _) rfl)
     intro vs W100 hb100 hT
     have v0 := Flow.eqn (hT 0 (by decide))
     simp only [Flow.putsT, v0, Act.put, List.setIfInBounds_toArray, List.set_cons_zero, List.set_cons_succ]
     clear hT v0
     have HB100 := Aside0.mk (below_step HBR.out hb100)
     have HFN_100 := Aside0.mk (FnRow.below HFN.out hb100)
     have HR_100 := Aside0.mk (Kd.R_below HR.out hb100)
     have K1_100 := Aside0.mk (blk_below K1.out hb100)
     have K4_100 := Aside0.mk (blk_below K4.out hb100)
     clear hb100
     go_upto_region 11 with fail
     refine Flow.seqT (E := fun u v => Below u.heap.size u v) [(some 37, []), (some 38, [0]), (some 39, [1])] (fun iQ vQ wQ => match iQ with | 0 => vQ = (.pointer (some ⟨g87, 3, none⟩)) | 1 => vQ = .nilFunc | 2 => vQ = (.bool false) | _ => True) rfl (by kernel_rfl) (Below.refl _ _) (fun _ _ _ h k => h.trans (k.mono h.size)) (fun _ _ _ _ h _ => h) ?_ ?_
     ·refine ⟨?_, ?_, ?_, trivial⟩
      ·intro a w' hx hu hd K hK; have e4 : a.tmps.getD 4 undef = (.pointer (some ⟨g87, 0, none⟩)) := hu 4 rfl; exact Flow.run1 rfl (fa rfl e4 (fa91_3 _ _ _)) (hK _ _ (Below.refl _ _) rfl)
      ·intro a w' hx hu hd K hK; have e37 := Flow.got (hd 0 rfl) 37 rfl; exact Flow.run1 rfl (ld rfl e37 ((blk_cell (blk_below K4_100.out hx) 3).trans rfl) Tryd.underlying89 rfl) (hK _ _ (Below.refl _ _) rfl)
      ·intro a w' hx hu hd K hK; have e38 := Flow.got (hd 1 rfl) 38 rfl; exact Flow.run1 rfl (fnn rfl e38 rfl) (hK _ _ (Below.refl _ _) rfl)
     intro vs W101 hb101 hT
     have v0 := Flow.eqn (hT 0 (by decide))
     have v1 := Flow.eqn (hT 1 (by decide))
     have v2 := Flow.eqn (hT 2 (by decide))
     simp only [Flow.putsT, v0, v1, v2, Act.put, List.setIfInBounds_toArray, List.set_cons_zero, List.set_cons_succ]
     clear hT v0 v1 v2
     have HB101 := Aside0.mk (below_step HB100.out hb101)
     have HFN_101 := Aside0.mk (FnRow.below HFN_100.out hb101)
     have HR_101 := Aside0.mk (Kd.R_below HR_100.out hb101)
     have K1_100_101 := Aside0.mk (blk_below K1_100.out hb101)
     have K4_100_101 := Aside0.mk (blk_below K4_100.out hb101)
     clear hb101
     go_upto_region 16 with fail
     refine Flow.seqT (E := fun u v => Below u.heap.size u v) [(some 52, []), (some 53, [0]), (some 54, [1]), (some 55, [2]), (some 56, [3, 2]), (some 57, [4, 2]), (some 58, [2, 5])] (fun iQ vQ wQ => match iQ with | 0 => vQ = (.string (wd i)) | 1 => vQ = (.bool false) | 2 => vQ = (.bool false) | 3 => vQ = undef | 4 => vQ = undef | 5 => vQ = undef | 6 => vQ = (.bool false) | _ => True) rfl (by kernel_rfl) (Below.refl _ _) (fun _ _ _ h k => h.trans (k.mono h.size)) (fun _ _ _ _ h _ => h) ?_ ?_
     ·refine ⟨?_, ?_, ?_, ?_, ?_, ?_, ?_, trivial⟩
      ·intro a w' hx hu hd K hK; have e3 : a.tmps.getD 3 undef = (.string (wd i)) := hu 3 rfl; exact Flow.run1 rfl (Flow.r_move rfl e3) (hK _ _ (Below.refl _ _) rfl)
      ·intro a w' hx hu hd K hK; have e52 := Flow.got (hd 0 rfl) 52 rfl; exact Flow.run1 rfl (seqb rfl e52 rfl (wd0_no HI.out HZ.out)) (hK _ _ (Below.refl _ _) rfl)
      ·intro a w' hx hu hd K hK; have e53 := Flow.got (hd 1 rfl) 53 rfl; exact Flow.run1 rfl (Flow.r_move rfl e53) (hK _ _ (Below.refl _ _) rfl)
      ·intro a w' hx hu hd K hK; have e54 := Flow.got (hd 2 rfl) 54 rfl; exact Flow.spare (Flow.spare_of (k := 54) rfl e54 rfl) (hK _ _ (Below.refl _ _) rfl)
      ·intro a w' hx hu hd K hK; have e54 := Flow.got (hd 2 rfl) 54 rfl; exact Flow.spare (Flow.spare_of (k := 54) rfl e54 rfl) (hK _ _ (Below.refl _ _) rfl)
      ·intro a w' hx hu hd K hK; have e54 := Flow.got (hd 2 rfl) 54 rfl; exact Flow.spare (Flow.spare_of (k := 54) rfl e54 rfl) (hK _ _ (Below.refl _ _) rfl)
      ·intro a w' hx hu hd K hK; have e54 := Flow.got (hd 2 rfl) 54 rfl; have e57 := Flow.got (hd 5 rfl) 57 rfl; exact Flow.run1 rfl (Flow.r_pick rfl e54 rfl) (hK _ _ (Below.refl _ _) rfl)
     intro vs W102 hb102 hT
     have v0 := Flow.eqn (hT 0 (by decide))
     have v1 := Flow.eqn (hT 1 (by decide))
     have v2 := Flow.eqn (hT 2 (by decide))
     have v3 := Flow.eqn (hT 3 (by decide))
     have v4 := Flow.eqn (hT 4 (by decide))
     have v5 := Flow.eqn (hT 5 (by decide))
     have v6 := Flow.eqn (hT 6 (by decide))
     simp only [Flow.putsT, v0, v1, v2, v3, v4, v5, v6, Act.put, List.setIfInBounds_toArray, List.set_cons_zero, List.set_cons_succ]
     clear hT v0 v1 v2 v3 v4 v5 v6
     have HB102 := Aside0.mk (below_step HB101.out hb102)
     have HFN_102 := Aside0.mk (FnRow.below HFN_101.out hb102)
     have HR_102 := Aside0.mk (Kd.R_below HR_101.out hb102)
     have K1_100_101_102 := Aside0.mk (blk_below K1_100_101.out hb102)
     have K4_100_101_102 := Aside0.mk (blk_below K4_100_101.out hb102)
     clear hb102
     have HLS : Aside0 (fmtL x i k false = wd i :: numsL x k) := ⟨fmtL_n HZ.out⟩
     have hsz : ∀ s ∈ wd i :: numsL x k, s.size ≤ 2000 := (wn_size x HG.out i k HI.out hm3)
     have HST := Aside0.mk (Rep.strs_R (l := wd i :: numsL x k) HR_102.out (by simp))
     have HWS : Aside0 ((wordsB (wd i :: numsL x k)).size ≤ 20000) := ⟨Nat.le_trans (wordsB_size 2000 _ hsz) (by simp only [List.length_append, List.length_cons, List.length_nil, numsL_len]; omega)⟩
     obtain ⟨tw, HTW⟩ : ∃ q, Aside0 (wordsB (wd i :: numsL x k) = q) := ⟨_, ⟨rfl⟩⟩
     go_upto_region 18 with fail
     refine Flow.seqT (E := fun u v => Below u.heap.size u v) [(some 62, []), (some 63, [0]), (some 2, [1, 1, 0, 1])] (fun iQ vQ wQ => match iQ with | 0 => vQ = u6 | 1 => vQ = (.string tw) | 2 => vQ = (.string tw) | _ => True) rfl (by kernel_rfl) (Below.refl _ _) (fun _ _ _ h k => h.trans (k.mono h.size)) (fun _ _ _ _ h _ => h) ?_ ?_
     ·refine ⟨?_, ?_, ?_, trivial⟩
      ·intro a w' hx hu hd K hK; have e6 : a.tmps.getD 6 undef = u6 := hu 6 rfl; exact Flow.run1 rfl (Flow.r_move rfl e6) (hK _ _ (Below.refl _ _) rfl)
      ·intro a w' hx hu hd K hK; have e62 := Flow.got (hd 0 rfl) 62 rfl; refine Flow.want rfl ?_; refine Flow.val_call rfl Tryd.func57 (by kernel_rfl) rfl (by simp only [List.map_toArray, List.map_cons, List.map_nil, Act.eval, e62] <;> rfl) (join_c (wd i :: numsL x k) _ w' (HST.out.below hx) (by simp only [List.length_append, List.length_cons, List.length_nil, numsL_len]; omega) (Nat.le_trans HWS.out (by decide))) ?_; rintro e w2 ⟨rfl, hb2⟩; rw [HTW.out]; exact ⟨_, rfl, hK _ _ hb2 rfl⟩
      ·intro a w' hx hu hd K hK; have e63 := Flow.got (hd 1 rfl) 63 rfl; exact Flow.run1 rfl (Flow.r_assign rfl e63) (hK _ _ (Below.refl _ _) rfl)
     intro vs W103 hb103 hT
     have v0 := Flow.eqn (hT 0 (by decide))
     have v1 := Flow.eqn (hT 1 (by decide))
     have v2 := Flow.eqn (hT 2 (by decide))
     simp only [Flow.putsT, v0, v1, v2, Act.put, List.setIfInBounds_toArray, List.set_cons_zero, List.set_cons_succ]
     clear hT v0 v1 v2
     have HB103 := Aside0.mk (below_step HB102.out hb103)
     have HFN_103 := Aside0.mk (FnRow.below HFN_102.out hb103)
     have HR_103 := Aside0.mk (Kd.R_below HR_102.out hb103)
     have HST_103 := Aside0.mk (Rep.Strs.below HST.out hb103)
     have K1_100_101_102_103 := Aside0.mk (blk_below K1_100_101_102.out hb103)
     have K4_100_101_102_103 := Aside0.mk (blk_below K4_100_101_102.out hb103)
     clear hb103
     go_wp2_with fail
     exact bodyPost_ret (results_tmp Tryd.results34 _ _ _) rfl ⟨by rw [HLS.out, HTW.out]; rfl, HB103.out⟩
set_option maxHeartbeats 4000000 in
set_option maxRecDepth 100000 in
theorem format_none (x : A10) (Ad Ak : Option Addr) (nd cd nk ck : Nat) (hidx : idxI x = -1) (w : World) : Calls Tryd.prog 34 #[.agg #[.int .i64 x.kind, .int .i64 x.cmd, .int .i64 x.zone, .int .i64 x.at_, .int .i64 x.n, .slice Ad nd cd, .bool x.fua, .int .i64 x.m, .int .i64 x.k, .slice Ak nk ck]] w fun e w' => e = .returned (.string ⟨#[]⟩) ∧ Below w.heap.size w w' := by
 have HIX := Aside0.mk hidx
 clear hidx
 have HBS : Aside0 (formV ⟨#[]⟩ = (0, 0, [], none)) := ⟨by rfl⟩
 have HFI : Aside0 ((form ⟨#[]⟩).isSome = false) := ⟨by rfl⟩
 go_enter Tryd.func34, Tryd.ntmps34
 go_upto_region 0 with fail
 refine wp_region_lit ?_
 refine ebox (v := (.agg #[.int .i64 x.kind, .int .i64 x.cmd, .int .i64 x.zone, .int .i64 x.at_, .int .i64 x.n, .slice Ad nd cd, .bool x.fua, .int .i64 x.m, .int .i64 x.k, .slice Ak nk ck])) rfl rfl rfl ?_
 intro g1 hg1 W1 hk1 hb1
 have Kg1 := Aside0.mk hk1
 have HB1 := Aside0.mk (hb1)
 clear hb1
 have Gg1 := Aside0.mk (show w.heap.size ≤ g1 by rw [hg1]; exact Nat.le_refl _)
 clear hg1 hk1
 simp only [Act.put, List.setIfInBounds_toArray, List.set_cons_zero, List.set_cons_succ]
 refine Flow.seqL (E := fun u v => Below u.heap.size u v) 1 1 [(some 1, []), (some 2, [])] (fun iQ vQ wQ => match iQ with | 1 => vQ = (.string ⟨#[]⟩) | _ => True) rfl (by decide) (by kernel_rfl) (Below.refl _ _) (fun _ _ _ h k => h.trans (k.mono h.size)) (fun _ _ _ _ h _ => h) ?_ ?_
 ·refine ⟨?_, trivial⟩
  ·intro a w' hx hu hd K hK; exact Flow.run1 rfl (Flow.r_assign rfl rfl) (hK _ _ (Below.refl _ _) rfl)
 intro vs W2 hb2 hT
 have v1 := Flow.eqn (hT 1 (by decide) (by decide))
 simp only [Flow.putsT, v1, Act.put, List.setIfInBounds_toArray, List.set_cons_zero, List.set_cons_succ, List.drop_succ_cons, List.drop_zero, List.take_succ_cons, List.take_zero]
 clear hT v1
 have HB2 := Aside0.mk (below_step HB1.out hb2)
 have Kg1_2 := Aside0.mk (blk_below Kg1.out hb2)
 clear hb2
 go_upto_region 1 with fail
 refine Flow.seqT (E := fun u v => Below u.heap.size u v) [(some 10, []), (some 11, [0]), (some 3, [1, 1, 0, 1])] (fun iQ vQ wQ => match iQ with | 0 => vQ = (.agg #[.int .i64 x.kind, .int .i64 x.cmd, .int .i64 x.zone, .int .i64 x.at_, .int .i64 x.n, .slice Ad nd cd, .bool x.fua, .int .i64 x.m, .int .i64 x.k, .slice Ak nk ck]) | 1 => vQ = (.string ⟨#[]⟩) | 2 => vQ = (.string ⟨#[]⟩) | _ => True) rfl (by kernel_rfl) (Below.refl _ _) (fun _ _ _ h k => h.trans (k.mono h.size)) (fun _ _ _ _ h _ => h) ?_ ?_
 ·refine ⟨?_, ?_, ?_, trivial⟩
  ·intro a w' hx hu hd K hK; have e1 : a.tmps.getD 1 undef = (.pointer (some ⟨g1, 0, none⟩)) := hu 1 rfl; exact Flow.run1 rfl (ldrow rfl e1 (lies_block (blk_below Kg1_2.out hx)) Tryd.underlying56 rfl size56) (hK _ _ (Below.refl _ _) rfl)
  ·intro a w' hx hu hd K hK; have e10 := Flow.got (hd 0 rfl) 10 rfl; refine Flow.want rfl ?_; refine Flow.val_call rfl Tryd.func55 (by kernel_rfl) rfl (by simp only [List.map_toArray, List.map_cons, List.map_nil, Act.eval, e10] <;> rfl) (word_c x Ad Ak nd cd nk ck w') ?_; rintro e w2 ⟨rfl, hb2⟩; rw [HIX.out]; exact ⟨_, rfl, hK _ _ hb2 rfl⟩
  ·intro a w' hx hu hd K hK; have e11 := Flow.got (hd 1 rfl) 11 rfl; exact Flow.run1 rfl (Flow.r_assign rfl e11) (hK _ _ (Below.refl _ _) rfl)
 intro vs W3 hb3 hT
 have v0 := Flow.eqn (hT 0 (by decide))
 have v1 := Flow.eqn (hT 1 (by decide))
 have v2 := Flow.eqn (hT 2 (by decide))
 simp only [Flow.putsT, v0, v1, v2, Act.put, List.setIfInBounds_toArray, List.set_cons_zero, List.set_cons_succ]
 clear hT v0 v1 v2
 have HB3 := Aside0.mk (below_step HB2.out hb3)
 have Kg1_2_3 := Aside0.mk (blk_below Kg1_2.out hb3)
 clear hb3
 go_upto_region 2 with fail
 refine Flow.seqT_head (E := fun u v => Below u.heap.size u v) 1 [(some 13, []), (some 14, [0]), (some 12, [1]), (some 15, [2]), (some 16, [2]), (some 4, []), (none, [5, 3, 1, 0, 1, 2, 3, 5]), (some 5, [4, 6, 0, 1, 2, 3, 4, 5, 6])] (fun iQ vQ wQ => match iQ with | 0 => vQ = (.string ⟨#[]⟩) | _ => True) rfl (by decide) (by kernel_rfl) (Below.refl _ _) (fun _ _ _ h k => h.trans (k.mono h.size)) (fun _ _ _ _ h _ => h) ?_ ?_
 ·refine ⟨?_, trivial⟩
  ·intro a w' hx hu hd K hK; have e3 : a.tmps.getD 3 undef = (.string ⟨#[]⟩) := hu 3 rfl; exact Flow.run1 rfl (Flow.r_move rfl e3) (hK _ _ (Below.refl _ _) rfl)
 intro vs W4 hb4 hT
 have v0 := Flow.eqn (hT 0 (by decide))
 simp only [Flow.putsT, v0, Act.put, List.setIfInBounds_toArray, List.set_cons_zero, List.set_cons_succ, List.drop_succ_cons, List.drop_zero, List.take_succ_cons, List.take_zero]
 clear hT v0
 have HB4 := Aside0.mk (below_step HB3.out hb4)
 have Kg1_2_3_4 := Aside0.mk (blk_below Kg1_2_3.out hb4)
 clear hb4
 refine ecall rfl rfl Tryd.func46 (by kernel_rfl) rfl (args := #[.string ⟨#[]⟩]) (by simp only [List.map_toArray, List.map_cons, List.map_nil, Act.eval] <;> rfl) (of_at HBS.out HFI.out _) ?_
 rintro e W5 ⟨v, rfl, hfn, hb5⟩
 refine ⟨_, rfl, ?_⟩
 obtain ⟨An, rfl, hg5⟩ := hfn.is
 have HFN := Aside0.mk hfn
 clear hfn hg5
 have Kg1_2_3_4_5 := Aside0.mk (blk_below Kg1_2_3_4.out hb5)
 have HB5 := Aside0.mk (below_step HB4.out hb5)
 clear hb5
 simp only [Act.put, List.setIfInBounds_toArray, List.set_cons_zero, List.set_cons_succ]
 refine Flow.seqL (E := fun u v => Below u.heap.size u v) 2 3 [(some 13, []), (some 14, [0]), (some 12, [1]), (some 15, [2]), (some 16, [2]), (some 4, []), (none, [5, 3, 1, 0, 1, 2, 3, 5]), (some 5, [4, 6, 0, 1, 2, 3, 4, 5, 6])] (fun iQ vQ wQ => match iQ with | 2 => vQ = (.tuple #[.agg #[.int .i64 0, .int .i64 0, .slice An 0 0, .nilFunc], .bool false]) | 3 => vQ = (.agg #[.int .i64 0, .int .i64 0, .slice An 0 0, .nilFunc]) | 4 => vQ = (.bool false) | _ => True) rfl (by decide) (by kernel_rfl) (Below.refl _ _) (fun _ _ _ h k => h.trans (k.mono h.size)) (fun _ _ _ _ h _ => h) ?_ ?_
 ·refine ⟨?_, ?_, ?_, trivial⟩
  ·intro a w' hx hu hd K hK; have e14 : a.tmps.getD 14 undef = (.tuple #[.agg #[.int .i64 0, .int .i64 0, .slice An 0 0, .nilFunc], .bool false]) := hu 14 rfl; exact Flow.run1 rfl (Flow.r_move rfl e14) (hK _ _ (Below.refl _ _) rfl)
  ·intro a w' hx hu hd K hK; have e12 := Flow.got (hd 2 rfl) 12 rfl; exact Flow.run1 rfl (extr rfl e12 rfl) (hK _ _ (Below.refl _ _) rfl)
  ·intro a w' hx hu hd K hK; have e12 := Flow.got (hd 2 rfl) 12 rfl; exact Flow.run1 rfl (extr rfl e12 rfl) (hK _ _ (Below.refl _ _) rfl)
 intro vs W6 hb6 hT
 have v2 := Flow.eqn (hT 2 (by decide) (by decide))
 have v3 := Flow.eqn (hT 3 (by decide) (by decide))
 have v4 := Flow.eqn (hT 4 (by decide) (by decide))
 simp only [Flow.putsT, v2, v3, v4, Act.put, List.setIfInBounds_toArray, List.set_cons_zero, List.set_cons_succ, List.drop_succ_cons, List.drop_zero, List.take_succ_cons, List.take_zero]
 clear hT v2 v3 v4
 have HB6 := Aside0.mk (below_step HB5.out hb6)
 have HFN_6 := Aside0.mk (FnRow.below HFN.out hb6)
 have Kg1_2_3_4_5_6 := Aside0.mk (blk_below Kg1_2_3_4_5.out hb6)
 clear hb6
 refine ealloc rfl rfl zero91_is ?_
 intro g7 hg7 W7 hk7 hb7
 have Kg7 := Aside0.mk hk7
 have Ng7_g1 := Aside0.mk (show g1 ≠ g7 by have := (Array.getElem?_eq_some_iff.1 Kg1_2_3_4_5_6.out).1; omega)
 have Ng1_g7 := Aside0.mk (Ne.symm Ng7_g1.out)
 have HB7 := Aside0.mk (below_step HB6.out hb7)
 have HFN_7 := Aside0.mk (FnRow.below HFN_6.out hb7)
 have Kg1_2_3_4_5_6_7 := Aside0.mk (blk_below Kg1_2_3_4_5_6.out hb7)
 clear hb7
 have Gg7 := Aside0.mk (show w.heap.size ≤ g7 by rw [hg7]; exact HB6.out.size)
 clear hg7 hk7
 simp only [Act.put, List.setIfInBounds_toArray, List.set_cons_zero, List.set_cons_succ]
 refine Cells.store_whole rfl rfl 91 _ _ rfl g7 [.int .i64 0, .int .i64 0, .slice An 0 0, .nilFunc] #[.int .i64 0, .int .i64 0, .slice none 0 0, .nilFunc] rfl rfl Kg7.out rfl size91 rfl ?_
 intro W8 hk8 hf8 hb8
 have HFN_8 := Aside0.mk (FnRow.far HFN_7.out Kg7.out (by decide) hf8)
 have HB8 := Aside0.mk (HB7.out.trans (hb8 _ Gg7.out))
 have Kg1_2_3_4_5_6_7_8 := Aside0.mk ((hf8 _ Ng7_g1.out).trans Kg1_2_3_4_5_6_7.out)
 have Kg7_8 := Aside0.mk hk8
 clear hk8 hf8 hb8
 refine Flow.seqL (E := fun u v => Below u.heap.size u v) 7 1 [(some 13, []), (some 14, [0]), (some 12, [1]), (some 15, [2]), (some 16, [2]), (some 4, []), (none, [5, 3, 1, 0, 1, 2, 3, 5]), (some 5, [4, 6, 0, 1, 2, 3, 4, 5, 6])] (fun iQ vQ wQ => match iQ with | 7 => vQ = (.bool false) | _ => True) rfl (by decide) (by kernel_rfl) (Below.refl _ _) (fun _ _ _ h k => h.trans (k.mono h.size)) (fun _ _ _ _ h _ => h) ?_ ?_
 ·refine ⟨?_, trivial⟩
  ·intro a w' hx hu hd K hK; have e16 : a.tmps.getD 16 undef = (.bool false) := hu 16 rfl; exact Flow.run1 rfl (Flow.r_assign rfl e16) (hK _ _ (Below.refl _ _) rfl)
 intro vs W9 hb9 hT
 have v7 := Flow.eqn (hT 7 (by decide) (by decide))
 simp only [Flow.putsT, v7, Act.put, List.setIfInBounds_toArray, List.set_cons_zero, List.set_cons_succ, List.drop_succ_cons, List.drop_zero, List.take_succ_cons, List.take_zero]
 clear hT v7
 have HB9 := Aside0.mk (below_step HB8.out hb9)
 have HFN_9 := Aside0.mk (FnRow.below HFN_8.out hb9)
 have Kg1_2_3_4_5_6_7_8_9 := Aside0.mk (blk_below Kg1_2_3_4_5_6_7_8.out hb9)
 have Kg7_8_9 := Aside0.mk (blk_below Kg7_8.out hb9)
 clear hb9
 go_upto_region 3 with fail
 refine Flow.seqT (E := fun u v => Below u.heap.size u v) [(some 17, []), (some 18, [0])] (fun iQ vQ wQ => match iQ with | 0 => vQ = (.bool false) | 1 => vQ = (.bool true) | _ => True) rfl (by kernel_rfl) (Below.refl _ _) (fun _ _ _ h k => h.trans (k.mono h.size)) (fun _ _ _ _ h _ => h) ?_ ?_
 ·refine ⟨?_, ?_, trivial⟩
  ·intro a w' hx hu hd K hK; have e5 : a.tmps.getD 5 undef = (.bool false) := hu 5 rfl; exact Flow.run1 rfl (Flow.r_move rfl e5) (hK _ _ (Below.refl _ _) rfl)
  ·intro a w' hx hu hd K hK; have e17 := Flow.got (hd 0 rfl) 17 rfl; exact Flow.run1 rfl (Flow.r_not rfl e17) (hK _ _ (Below.refl _ _) rfl)
 intro vs W10 hb10 hT
 have v0 := Flow.eqn (hT 0 (by decide))
 have v1 := Flow.eqn (hT 1 (by decide))
 simp only [Flow.putsT, v0, v1, Act.put, List.setIfInBounds_toArray, List.set_cons_zero, List.set_cons_succ]
 clear hT v0 v1
 have HB10 := Aside0.mk (below_step HB9.out hb10)
 have HFN_10 := Aside0.mk (FnRow.below HFN_9.out hb10)
 have Kg1_2_3_4_5_6_7_8_9_10 := Aside0.mk (blk_below Kg1_2_3_4_5_6_7_8_9.out hb10)
 have Kg7_8_9_10 := Aside0.mk (blk_below Kg7_8_9.out hb10)
 clear hb10
 go_upto_region 4 with fail
 refine Flow.seqT (E := fun u v => Below u.heap.size u v) [(some 2, [])] (fun iQ vQ wQ => match iQ with | 0 => vQ = (.string ⟨#[]⟩) | _ => True) rfl (by kernel_rfl) (Below.refl _ _) (fun _ _ _ h k => h.trans (k.mono h.size)) (fun _ _ _ _ h _ => h) ?_ ?_
 ·refine ⟨?_, trivial⟩
  ·intro a w' hx hu hd K hK; exact Flow.run1 rfl (Flow.r_assign rfl rfl) (hK _ _ (Below.refl _ _) rfl)
 intro vs W11 hb11 hT
 have v0 := Flow.eqn (hT 0 (by decide))
 simp only [Flow.putsT, v0, Act.put, List.setIfInBounds_toArray, List.set_cons_zero, List.set_cons_succ]
 clear hT v0
 have HB11 := Aside0.mk (below_step HB10.out hb11)
 have HFN_11 := Aside0.mk (FnRow.below HFN_10.out hb11)
 have Kg1_2_3_4_5_6_7_8_9_10_11 := Aside0.mk (blk_below Kg1_2_3_4_5_6_7_8_9_10.out hb11)
 have Kg7_8_9_10_11 := Aside0.mk (blk_below Kg7_8_9_10.out hb11)
 clear hb11
 go_wp2_with fail
 exact bodyPost_ret (results_tmp Tryd.results34 _ _ _) rfl ⟨rfl, HB11.out⟩
end Go.Proofs.YtlhmpmmblnbmbaaDoor.Con
namespace Go.Proofs.YtlhmpmmblnbmbaaDoor.Con
open Go.Lib Go.RowKit Go.Proofs.YtlhmpmmblnbmbaaDoor.Cells Go.Proofs.YtlhmpmmblnbmbaaDoor.PConsoleParses Go.Proofs.YtlhmpmmblnbmbaaDoorW.PrintWords Go.Proofs.YtlhmpmmblnbmbaaDoorW.PrintLast Go.Proofs.YtlhmpmmblnbmbaaDoorW.PrintMore WordsPlain NumberPlain
def LINE : ByteArray := ⟨#[119, 114, 105, 116, 101, 32, 49, 32, 48, 32, 48, 97, 48, 98, 32, 102, 117, 97]⟩
def xL : A10 := ⟨0, 0, 1, 0, 0, [10, 11], true, 0, 0, []⟩
def hxL (t : ByteArray) : List Int × Bool := if t = ⟨#[48, 97, 48, 98]⟩ then ([10, 11], true) else ([], false)
theorem line_words : words LINE = [⟨#[119, 114, 105, 116, 101]⟩, ⟨#[49]⟩, ⟨#[48]⟩, ⟨#[48, 97, 48, 98]⟩, ⟨#[102, 117, 97]⟩] := by decide +kernel
theorem line_parse : parse hxL LINE = (xL, true) := by kernel_rfl
theorem line_hex : ∀ t ∈ (words LINE).tail, ∃ k, console_Hex.f k t = some (hxL t) := by
  rw [line_words]
  intro t ht
  simp only [List.tail_cons, List.mem_cons, List.not_mem_nil, or_false] at ht
  rcases ht with rfl | rfl | rfl | rfl <;> exact ⟨10, by decide +kernel⟩
theorem line_c (w : World) : Calls Tryd.prog 28 #[.string LINE] w (ParsePost w xL true) := by
  have := parse_c hxL LINE (by decide) line_hex w
  rw [line_parse] at this
  exact this
set_option maxHeartbeats 4000000 in
set_option maxRecDepth 100000 in
theorem live_c (w : World) : Calls Tryd.prog 27 #[] w fun e w' => e = .returned (.bool true) ∧ Below w.heap.size w w' := by
  have hu1 := Tryd.underlying56
  have hu2 := Tryd.underlying54
  have hu3 := Tryd.underlying43
  have hu9 := Tryd.underlying9
  have HSS := Aside0.mk (show strOfNums xL.data = ⟨#[10, 11]⟩ by decide +kernel)
  go_enter Tryd.func27, Tryd.ntmps27
  go_wp2_with (first | (go_at_call 28; refine (line_c _).mono ?_; rintro e wb ⟨vd, vk, rfl, hRd, hRk, hbb⟩; have HB := Aside0.mk hbb; obtain ⟨Ad, cd, hvd, -, -⟩ := Kd.R_reads hRd; obtain ⟨Ak, ck, hvk, -, -⟩ := Kd.R_reads hRk; subst hvd; subst hvk; have HRD := Aside0.mk hRd; clear hbb hRd hRk) | ((with_reducible refine gate_dst (N := 1) rfl ?_); refine Cells.alloc_event rfl (N := 1) rfl 56 rfl zero56 zero74_is ?_; intro g1 hg1 wd k1 hbd; have HBD := Aside0.mk hbd; have HG1 := Aside0.mk (show wb.heap.size ≤ g1 by rw [hg1]; exact Nat.le_refl _); have HG1b := Aside0.mk hg1; clear hbd hg1) | ((with_reducible refine Cells.store_whole rfl rfl 56 _ _ rfl g1 (cellsA xL (.slice Ad xL.data.length cd) (.slice Ak xL.keep.length ck)) zero56.cells ?sx ?sy k1 ?ss ?si ?s1 ?_); (case sx => rfl); (case sy => rfl); (case ss => rfl); (case si => exact size56); (case s1 => rfl); intro w9 k9 hfar hb3; have hb9 := HBD.out.trans (hb3 _ (by rw [HG1b.out]; exact Nat.le_refl _)); have HB9 := Aside0.mk (below_step HB.out hb9); have hcv := own_string (P := Tryd.prog) Tryd.underlying43 Tryd.underlying5 Tryd.underlying9 (Kd.own_of_R (Kd.R_below HRD.out hb9)); rw [HSS.out] at hcv; clear hb3 hfar k1 hb9; have c2 : w9.cell? ⟨g1, 2, none⟩ = some (.int .i64 1) := (blk_cell k9 2).trans rfl; have c5 : w9.cell? ⟨g1, 5, none⟩ = some (.slice Ad xL.data.length cd) := (blk_cell k9 5).trans rfl; have c6 : w9.cell? ⟨g1, 6, none⟩ = some (.bool true) := (blk_cell k9 6).trans rfl; clear k9))
  go_ret
  exact ⟨rfl, HB9.out⟩
end Go.Proofs.YtlhmpmmblnbmbaaDoor.Con
