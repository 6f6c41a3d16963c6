/- CachePlays: what any calls answer, beside the document. -/
import Derived.Test.YtlhmpmmblnbmbaaCacR2
set_option linter.unusedVariables false
set_option linter.unusedSimpArgs false
namespace Go.Proofs.Ytlhmpmmblnbmbaa.Cac
open Go Go.RowKit Go.Proofs.Ytlhmpmmblnbmbaa.PCachePlays Go.Proofs.YtlhmpmmblnbmbaaW.PrintWords Go.Proofs.YtlhmpmmblnbmbaaW.PrintLast Go.Proofs.YtlhmpmmblnbmbaaW.PrintMore Go.Proofs.Ytlhmpmmblnbmbaa.FlowU Go.Proofs.Ytlhmpmmblnbmbaa.Ev Go.Proofs.Ytlhmpmmblnbmbaa.Ke Go.Proofs.Ytlhmpmmblnbmbaa.Cells
theorem fa38_0 (g o : Nat) (w : World) : (Instr.fieldAt 38 (.pointer (some ⟨g, o, none⟩)) 0).run Try.prog w = .ok (.pointer (some ⟨g, o, none⟩)) w := by
  have hu := Try.underlying38
  go_simp
theorem fad38_0 (ad : Addr) (w : World) : (Instr.fieldAt 38 (.pointer (some ad)) 0).run Try.prog w = .ok (.pointer (some (ad.add 0))) w := by
  have hu := Try.underlying38
  go_simp
theorem fa38_1 (g o : Nat) (w : World) : (Instr.fieldAt 38 (.pointer (some ⟨g, o, none⟩)) 1).run Try.prog w = .ok (.pointer (some ⟨g, o + 1, none⟩)) w := by
  have hu := Try.underlying38
  go_simp
theorem fad38_1 (ad : Addr) (w : World) : (Instr.fieldAt 38 (.pointer (some ad)) 1).run Try.prog w = .ok (.pointer (some (ad.add 1))) w := by
  have hu := Try.underlying38
  go_simp
theorem fa38_2 (g o : Nat) (w : World) : (Instr.fieldAt 38 (.pointer (some ⟨g, o, none⟩)) 2).run Try.prog w = .ok (.pointer (some ⟨g, o + 4, none⟩)) w := by
  have hu := Try.underlying38
  go_simp
theorem fad38_2 (ad : Addr) (w : World) : (Instr.fieldAt 38 (.pointer (some ad)) 2).run Try.prog w = .ok (.pointer (some (ad.add 4))) w := by
  have hu := Try.underlying38
  go_simp
theorem fa45_2 (g o : Nat) (w : World) : (Instr.fieldAt 45 (.pointer (some ⟨g, o, none⟩)) 2).run Try.prog w = .ok (.pointer (some ⟨g, o + 2, none⟩)) w := by
  have hu := Try.underlying45
  go_simp
theorem fad45_2 (ad : Addr) (w : World) : (Instr.fieldAt 45 (.pointer (some ad)) 2).run Try.prog w = .ok (.pointer (some (ad.add 2))) w := by
  have hu := Try.underlying45
  go_simp
theorem fa45_3 (g o : Nat) (w : World) : (Instr.fieldAt 45 (.pointer (some ⟨g, o, none⟩)) 3).run Try.prog w = .ok (.pointer (some ⟨g, o + 3, none⟩)) w := by
  have hu := Try.underlying45
  go_simp
theorem fad45_3 (ad : Addr) (w : World) : (Instr.fieldAt 45 (.pointer (some ad)) 3).run Try.prog w = .ok (.pointer (some (ad.add 3))) w := by
  have hu := Try.underlying45
  go_simp
theorem fa58_0 (g o : Nat) (w : World) : (Instr.fieldAt 58 (.pointer (some ⟨g, o, none⟩)) 0).run Try.prog w = .ok (.pointer (some ⟨g, o, none⟩)) w := by
  have hu := Try.underlying58
  go_simp
theorem fad58_0 (ad : Addr) (w : World) : (Instr.fieldAt 58 (.pointer (some ad)) 0).run Try.prog w = .ok (.pointer (some (ad.add 0))) w := by
  have hu := Try.underlying58
  go_simp
theorem size38 : (Try.prog.info? 38).map (·.size) = some 5 := by kernel_rfl
theorem zero38_is : (Try.prog.info? 38).map (·.zero) = some (some (.agg #[.int .i64 0, .int .i64 0, .int .i64 0, .int .i64 0, .slice none 0 0])) := by kernel_rfl
/-- The document's list: read, and not touched while the blocks of S alone are written. -/
def XV (W : World) (S : List Nat) (v : Value) (l : List S58) : Prop := Kd.V k58 58 W 0 (fun k => k ∉ S) v l
section
variable {W W1 : World} {S S' : List Nat} {v : Value} {l : List S58} {gC gM g : Nat}
theorem XV.below (h : XV W S v l) (hb : Below W.heap.size W W1) : XV W1 S v l := Kd.V_below h hb
theorem XV.kb (h : XV W S v l) (hC : gC ∈ S) (hM : gM ∈ S) (hb : KB (S2 gC gM) W W1) : XV W1 S v l := Kd.V_step h (fun k hk hl => hb.block k hl (by rintro (rfl | rfl) <;> exact hk (by assumption)))
theorem XV.elder (h : XV W S v l) (a : Nat) (ha : W.heap.size ≤ a) : XV W (a :: S) v l := Kd.V_mono (Kd.V_elderB h a ha) (fun k hk => by simp only [List.mem_cons, not_or]; exact ⟨hk.2, hk.1⟩)
theorem XV.store (h : XV W S v l) (hg : g ∈ S) (hf : ∀ k, k ≠ g → W1.heap[k]? = W.heap[k]?) : XV W1 S v l := Kd.V_step h (fun k hk _ => hf k (fun e => hk (e ▸ hg)))
theorem XV.tail {a : Nat} (h : XV W (a :: S) v l) : XV W S v l := Kd.V_mono h (fun k hk hm => hk (List.mem_cons_of_mem _ hm))
theorem XV.nil (W : World) (S : List Nat) : XV W S (.slice none 0 0) [] := Kd.V_nil _ _ _ _ _
theorem XV.slice {L : KL} (h : XV W S v (tos L)) : ∃ A c, v = .slice A L.length c := by
  obtain ⟨A, c, rfl⟩ := Kd.V_slice h
  exact ⟨A, c, by rw [tos_len]⟩
theorem XV.reads {A : Option Addr} {n c : Nat} {L : KL} (h : XV W S (.slice A n c) (tos L)) : n = L.length ∧ n ≤ c ∧ Kd.C k58 W A n (tos L) := by
  obtain ⟨h1, h2, h3⟩ := Kd.V_reads' h
  rw [tos_len] at h1
  subst h1
  exact ⟨rfl, h2, by rw [tos_len] at h3; exact h3⟩
theorem XV.ofR {base : Nat} (h : Kd.R k58 58 W base (fun _ => True) v l) (hS : ∀ k ∈ S, k < base) : XV W S v l := Kd.V_mono (Kd.R_V (Kd.R_bound h)) (fun k hk hm => by have := hS k hm; have := hk.2.1; omega)
theorem rget_none {k : S36} {A : Option Addr} {n c : Nat} {L : KL} (room hits misses : Int) (w : World) (hx : XV w S (.slice A n c) (tos L)) (hS : ∀ j ∈ S, j < w.heap.size) (hL : L.length ≤ 900000) (hm : 0 ≤ misses ∧ misses ≤ 1000000) (hk : fat k L = none) : Calls Try.prog 22 #[.agg #[.slice A n c, .int .i64 room, .int .i64 hits, .int .i64 misses], kv k] w fun e w' => ∃ v0 : Value, e = .returned (.tuple #[.agg #[v0, .int .i64 room, .int .i64 hits, .int .i64 (misses + 1)], .string (strOfNums []), .bool false]) ∧ XV w' S v0 (tos L) ∧ Below w.heap.size w w' := by
  obtain ⟨kf, h⟩ := get_l k L hL room hits misses
  rw [hk] at h
  obtain rfl : n = (tos L).length := by rw [tos_len]; exact hx.reads.1
  refine Calls.mono (revetmentref35_Get.calls kf (fun j => j ∉ S) A c (tos L) room hits misses k.f0 k.f1 k.f2 _ _ _ _ _ _ w hx h) ?_
  rintro e w' ⟨v0, he, hv, hb⟩
  refine ⟨v0, ?_, Kd.V_mono hv (fun j hj hm => hj.elim (fun h => h hm) (fun h => by have := hS j hm; omega)), hb⟩
  rw [he, show wrap64 (misses + 1) = misses + 1 by unfold wrap64; omega]
  rfl
theorem rget_some {k : S36} {A : Option Addr} {n c : Nat} {L : KL} {d : List Int} (room hits misses : Int) (w : World) (hx : XV w S (.slice A n c) (tos L)) (hS : ∀ j ∈ S, j < w.heap.size) (hL : L.length ≤ 900000) (hm : 0 ≤ hits ∧ hits ≤ 1000000) (hk : fat k L = some d) : Calls Try.prog 22 #[.agg #[.slice A n c, .int .i64 room, .int .i64 hits, .int .i64 misses], kv k] w fun e w' => ∃ v0 : Value, e = .returned (.tuple #[.agg #[v0, .int .i64 room, .int .i64 (hits + 1), .int .i64 misses], .string (strOfNums d), .bool true]) ∧ XV w' S v0 (tos ((k, d) :: fwo k L)) ∧ Below w.heap.size w w' := by
  obtain ⟨kf, h⟩ := get_l k L hL room hits misses
  rw [hk] at h
  obtain rfl : n = (tos L).length := by rw [tos_len]; exact hx.reads.1
  refine Calls.mono (revetmentref35_Get.calls kf (fun j => j ∉ S) A c (tos L) room hits misses k.f0 k.f1 k.f2 _ _ _ _ _ _ w hx h) ?_
  rintro e w' ⟨v0, he, hv, hb⟩
  refine ⟨v0, ?_, Kd.V_mono hv (fun j hj hm => hj.elim (fun h => h hm) (fun h => by have := hS j hm; omega)), hb⟩
  rw [he, show wrap64 (hits + 1) = hits + 1 by unfold wrap64; omega]
theorem rdrop_x {A : Option Addr} {n c : Nat} {L : KL} (z room hits misses : Int) (w : World) (hx : XV w S (.slice A n c) (tos L)) (hS : ∀ j ∈ S, j < w.heap.size) (hL : L.length ≤ 900000) : Calls Try.prog 24 #[.agg #[.slice A n c, .int .i64 room, .int .i64 hits, .int .i64 misses], .int .i64 z] w fun e w' => ∃ v0 : Value, e = .returned (.tuple #[.agg #[v0, .int .i64 room, .int .i64 hits, .int .i64 misses], .int .i64 ((L.length : Int) - (dropL z L).length)]) ∧ XV w' S v0 (tos (dropL z L)) ∧ Below w.heap.size w w' := by
  obtain ⟨h1, h2, h3⟩ := hx.reads
  obtain rfl : n = (tos L).length := by rw [tos_len]; exact h1
  refine Calls.mono (revetmentref35_Drop.calls _ A c (tos L) room hits misses z _ _ _ _ _ w h3 h2 (drop_l z L hL room hits misses)) ?_
  rintro e w' ⟨v0, he, hv, hb⟩
  exact ⟨v0, he, XV.ofR hv hS, hb⟩
theorem rput_x {k : S36} {A : Option Addr} {n c : Nat} {L : KL} {d : List Int} (room : Nat) (hits misses : Int) (w : World) (hx : XV w S (.slice A n c) (tos L)) (hS : ∀ j ∈ S, j < w.heap.size) (hL : L.length ≤ 900000) (h0 : room ≤ 65536) (hr : L.length ≤ room) : Calls Try.prog 23 #[.agg #[.slice A n c, .int .i64 room, .int .i64 hits, .int .i64 misses], kv k, .string (strOfNums d)] w fun e w' => ∃ v0 : Value, e = .returned (.agg #[v0, .int .i64 room, .int .i64 hits, .int .i64 misses]) ∧ XV w' S v0 (tos (putL room k d L)) ∧ Below w.heap.size w w' := by
  obtain ⟨h1, h2, h3⟩ := hx.reads
  obtain rfl : n = (tos L).length := by rw [tos_len]; exact h1
  have hle : (fwo k L).length ≤ L.length := List.length_filter_le _ _
  refine Calls.mono (rput_c A c (tos L) _ room hits misses k (strOfNums d) _ (without_l k L hL) w h3 h2 h0 (by rw [tos_len]; omega)) ?_
  rintro e w' ⟨v0, he, hv, hb⟩
  refine ⟨v0, he, ?_, hb⟩
  rcases hv with ⟨hz, rfl⟩ | ⟨hz, hv⟩
  · subst hz
    exact hx.below hb
  · rw [put_l hr hz] at hv
    exact XV.ofR hv hS
theorem at58 {w : World} {ad : Addr} {n c j : Nat} {L : KL} {x : S36 × List Int} (h : XV w S (.slice (some ad) n c) (tos L)) (hx : L[j]? = some x) : Lies w (ad.add (j * 4)) [.int .i64 x.1.f0, .int .i64 x.1.f1, .int .i64 x.1.f2, .string (strOfNums x.2)] := by
  obtain ⟨h1, h2, h3⟩ := h.reads
  obtain ⟨ad', e, hc⟩ := h3.2.2 (by have := (List.getElem?_eq_some_iff.1 hx).1; omega)
  obtain rfl := Option.some.inj e
  obtain ⟨cs, hs, hK, hcell⟩ := hc j ⟨x.1, strOfNums x.2⟩ (by rw [tos_get, hx]; rfl)
  have hcs := k58_open hK
  obtain rfl := hcs
  intro q u hq
  rw [add_add]
  exact hcell q u hq
end
attribute [local go_sem high] eqA36
theorem ne36 {o : Oper} {a : Act} {w : World} {x y : Operand} {k : S36} (ho : o.op = .binOp .neq 36 x y 36) (hx : a.eval x = kv k) (hy : a.eval y = kv k) : (execOp a.eval o).run Try.prog w = .ok (.value (.bool false)) w := by
  unfold execOp
  simp only [ho, hx, hy, kv]
  go_simp
theorem bneb {o : Oper} {a : Act} {w : World} {T T' : TypeId} {x y : Operand} {b : Bool} (hT : Try.prog.underlying T = some .bool) (ho : o.op = .binOp .neq T x y T') (hx : a.eval x = .bool b) (hy : a.eval y = .bool b) : (execOp a.eval o).run Try.prog w = .ok (.value (.bool false)) w := by
  unfold execOp
  simp only [ho, hx, hy]
  simp [go_sem, hT]
set_option maxHeartbeats 4000000 in
set_option maxRecDepth 100000 in
theorem plays_c (A : Option Addr) (c : Nat) (room : Int) (l : List S38) (w : World) (hR : Kd.C k38 w A l.length l) (hc : l.length ≤ c) (hg : ∀ x ∈ l, G36 x.f1) : Calls Try.prog 5 #[.int .i64 room, .slice A l.length c] w fun e w' => e = .returned (.bool true) ∧ Below w.heap.size w w' := by
  obtain ⟨bm, hmb, hmc⟩ := much_c A c l w hR hc
  have HL := Aside0.mk hR
  have HC := Aside0.mk hc
  have HG := Aside0.mk hg
  have HMC := Aside0.mk hmc
  clear hR hc hg hmc
  obtain ⟨n, HN⟩ : ∃ q, Aside0 (l.length = q) := ⟨_, ⟨rfl⟩⟩
  rw [HN.out] at HL HC HMC hmb
  rw [HN.out]
  obtain ⟨r, HR, hr6⟩ : ∃ r : Nat, Aside0 (min (max room 0) 65536 = (r : Int)) ∧ r ≤ 65536 := ⟨(min (max room 0) 65536).toNat, ⟨by omega⟩, by omega⟩
  cases bm with
  | true =>
    go_enter Try.func5, Try.ntmps5
    go_upto_region 0 with fail
    refine Flow.seqT (E := fun u v => Below u.heap.size u v) [(some 4, [])] (fun iQ vQ wQ => match iQ with | 0 => vQ = (.bool false) | _ => True) rfl (by kernel_rfl) (Below.refl _ _) (fun _ _ _ h k => h.trans (k.mono h.size)) (fun _ _ _ _ h _ => h) ?_ ?_
    · refine ⟨?_, trivial⟩
      · intro a w' hx hu hd K hK; exact Flow.run1 rfl (Flow.r_assign rfl rfl) (hK _ _ (Below.refl _ _) rfl)
    intro vs W1 hb1 hT
    have v0 := Flow.eqn (hT 0 (by decide))
    simp only [Flow.putsT, v0, Act.put, List.setIfInBounds_toArray, List.set_cons_zero, List.set_cons_succ]
    clear hT v0
    have HB1 := Aside0.mk (hb1)
    clear hb1
    go_upto_region 1 with fail
    refine Flow.seqT (E := fun u v => Below u.heap.size u v) [(some 20, []), (some 21, [0])] (fun iQ vQ wQ => match iQ with | 0 => vQ = (.slice A n c) | 1 => vQ = (.bool true) | _ => True) rfl (by kernel_rfl) (Below.refl _ _) (fun _ _ _ h k => h.trans (k.mono h.size)) (fun _ _ _ _ h _ => h) ?_ ?_
    · refine ⟨?_, ?_, trivial⟩
      · intro a w' hx hu hd K hK; have e1 : a.tmps.getD 1 undef = (.slice A n c) := hu 1 rfl; exact Flow.run1 rfl (Flow.r_move rfl e1) (hK _ _ (Below.refl _ _) rfl)
      · intro a w' hx hu hd K hK; have e20 := Flow.got (hd 0 rfl) 20 rfl; refine Flow.want rfl ?_; refine Flow.val_call rfl Try.func15 (by kernel_rfl) rfl (by first | (simp only [List.map_toArray, List.map_cons, List.map_nil, Act.eval, e20]; done) | (simp only [List.map_toArray, List.map_cons, List.map_nil, Act.eval, e20]; rfl)) (HMC.out w' (below_step HB1.out hx)) ?_; rintro e w2 ⟨rfl, hb2⟩; exact ⟨_, rfl, hK _ _ hb2 rfl⟩
    intro vs W2 hb2 hT
    have v0 := Flow.eqn (hT 0 (by decide))
    have v1 := Flow.eqn (hT 1 (by decide))
    simp only [Flow.putsT, v0, v1, Act.put, List.setIfInBounds_toArray, List.set_cons_zero, List.set_cons_succ]
    clear hT v0 v1
    have HB2 := Aside0.mk (below_step HB1.out hb2)
    clear hb2
    go_upto_region 2 with fail
    refine Flow.seqT (E := fun u v => Below u.heap.size u v) [(some 22, []), (some 4, [0, 0, 0])] (fun iQ vQ wQ => match iQ with | 0 => vQ = (.bool true) | 1 => vQ = (.bool true) | _ => True) rfl (by kernel_rfl) (Below.refl _ _) (fun _ _ _ h k => h.trans (k.mono h.size)) (fun _ _ _ _ h _ => h) ?_ ?_
    · refine ⟨?_, ?_, trivial⟩
      · intro a w' hx hu hd K hK; refine Flow.want rfl ?_; refine Flow.val_call rfl Try.func16 (by kernel_rfl) rfl (by first | (simp only [List.map_toArray, List.map_cons, List.map_nil, Act.eval]; done) | (simp only [List.map_toArray, List.map_cons, List.map_nil, Act.eval]; rfl)) (live_c w') ?_; rintro e w2 ⟨rfl, hb2⟩; exact ⟨_, rfl, hK _ _ hb2 rfl⟩
      · intro a w' hx hu hd K hK; have e22 := Flow.got (hd 0 rfl) 22 rfl; exact Flow.run1 rfl (Flow.r_assign rfl e22) (hK _ _ (Below.refl _ _) rfl)
    intro vs W3 hb3 hT
    have v0 := Flow.eqn (hT 0 (by decide))
    have v1 := Flow.eqn (hT 1 (by decide))
    simp only [Flow.putsT, v0, v1, Act.put, List.setIfInBounds_toArray, List.set_cons_zero, List.set_cons_succ]
    clear hT v0 v1
    have HB3 := Aside0.mk (below_step HB2.out hb3)
    clear hb3
    go_wp2_with fail
    exact bodyPost_ret (results_tmp Try.results5 _ _ _) rfl ⟨rfl, HB3.out⟩
  | false =>
    have HMB := Aside0.mk (hmb rfl)
    clear hmb
    have hn50 : n ≤ 50 := HMB.out.1
    go_enter Try.func5, Try.ntmps5
    go_upto_region 0 with fail
    refine Flow.seqT (E := fun u v => Below u.heap.size u v) [(some 4, [])] (fun iQ vQ wQ => match iQ with | 0 => vQ = (.bool false) | _ => True) rfl (by kernel_rfl) (Below.refl _ _) (fun _ _ _ h k => h.trans (k.mono h.size)) (fun _ _ _ _ h _ => h) ?_ ?_
    · refine ⟨?_, trivial⟩
      · intro a w' hx hu hd K hK; exact Flow.run1 rfl (Flow.r_assign rfl rfl) (hK _ _ (Below.refl _ _) rfl)
    intro vs W4 hb4 hT
    have v0 := Flow.eqn (hT 0 (by decide))
    simp only [Flow.putsT, v0, Act.put, List.setIfInBounds_toArray, List.set_cons_zero, List.set_cons_succ]
    clear hT v0
    have HB4 := Aside0.mk (hb4)
    clear hb4
    go_upto_region 1 with fail
    refine Flow.seqT (E := fun u v => Below u.heap.size u v) [(some 20, []), (some 21, [0])] (fun iQ vQ wQ => match iQ with | 0 => vQ = (.slice A n c) | 1 => vQ = (.bool false) | _ => True) rfl (by kernel_rfl) (Below.refl _ _) (fun _ _ _ h k => h.trans (k.mono h.size)) (fun _ _ _ _ h _ => h) ?_ ?_
    · refine ⟨?_, ?_, trivial⟩
      · intro a w' hx hu hd K hK; have e1 : a.tmps.getD 1 undef = (.slice A n c) := hu 1 rfl; exact Flow.run1 rfl (Flow.r_move rfl e1) (hK _ _ (Below.refl _ _) rfl)
      · intro a w' hx hu hd K hK; have e20 := Flow.got (hd 0 rfl) 20 rfl; refine Flow.want rfl ?_; refine Flow.val_call rfl Try.func15 (by kernel_rfl) rfl (by first | (simp only [List.map_toArray, List.map_cons, List.map_nil, Act.eval, e20]; done) | (simp only [List.map_toArray, List.map_cons, List.map_nil, Act.eval, e20]; rfl)) (HMC.out w' (below_step HB4.out hx)) ?_; rintro e w2 ⟨rfl, hb2⟩; exact ⟨_, rfl, hK _ _ hb2 rfl⟩
    intro vs W5 hb5 hT
    have v0 := Flow.eqn (hT 0 (by decide))
    have v1 := Flow.eqn (hT 1 (by decide))
    simp only [Flow.putsT, v0, v1, Act.put, List.setIfInBounds_toArray, List.set_cons_zero, List.set_cons_succ]
    clear hT v0 v1
    have HB5 := Aside0.mk (below_step HB4.out hb5)
    clear hb5
    go_upto_region 3 with fail
    refine Flow.seqT_head (E := fun u v => Below u.heap.size u v) 1 [(some 23, []), (some 24, [0]), (some 25, []), (some 26, [2, 1]), (some 6, []), (some 5, [1, 3, 0, 1, 4]), (none, [4, 3, 5, 0, 1, 2, 3, 4, 5])] (fun iQ vQ wQ => match iQ with | 0 => vQ = (.int .i64 room) | _ => True) rfl (by decide) (by kernel_rfl) (Below.refl _ _) (fun _ _ _ h k => h.trans (k.mono h.size)) (fun _ _ _ _ h _ => h) ?_ ?_
    · refine ⟨?_, trivial⟩
      · intro a w' hx hu hd K hK; have e0 : a.tmps.getD 0 undef = (.int .i64 room) := hu 0 rfl; exact Flow.run1 rfl (Flow.r_move rfl e0) (hK _ _ (Below.refl _ _) rfl)
    intro vs W6 hb6 hT
    have v0 := Flow.eqn (hT 0 (by decide))
    simp only [Flow.putsT, v0, Act.put, List.setIfInBounds_toArray, List.set_cons_zero, List.set_cons_succ, List.drop_succ_cons, List.drop_zero, List.take_succ_cons, List.take_zero]
    clear hT v0
    have HB6 := Aside0.mk (below_step HB5.out hb6)
    clear hb6
    refine ecall rfl rfl Try.func17 (by kernel_rfl) rfl (args := #[.int .i64 room]) (by first | (simp only [List.map_toArray, List.map_cons, List.map_nil, Act.eval]; done) | (simp only [List.map_toArray, List.map_cons, List.map_nil, Act.eval]; rfl)) (new_i room r HR.out _) ?_
    rintro e W7 ⟨gC, gM, rfl, hci7, hgc, hgm, hb7⟩
    refine ⟨_, rfl, ?_⟩
    have HGC := Aside0.mk (show w.heap.size ≤ gC from Nat.le_trans HB6.out.size hgc)
    have HGM := Aside0.mk (show w.heap.size ≤ gM from Nat.le_trans HB6.out.size hgm)
    have HCI_7 := Aside0.mk hci7
    clear hci7 hgc hgm
    have HB7 := Aside0.mk (below_step HB6.out hb7)
    clear hb7
    simp only [Act.put, List.setIfInBounds_toArray, List.set_cons_zero, List.set_cons_succ]
    refine Flow.seqL (E := fun u v => Below u.heap.size u v) 2 1 [(some 23, []), (some 24, [0]), (some 25, []), (some 26, [2, 1]), (some 6, []), (some 5, [1, 3, 0, 1, 4]), (none, [4, 3, 5, 0, 1, 2, 3, 4, 5])] (fun iQ vQ wQ => match iQ with | 2 => vQ = (.int .i64 room) | _ => True) rfl (by decide) (by kernel_rfl) (Below.refl _ _) (fun _ _ _ h k => h.trans (k.mono h.size)) (fun _ _ _ _ h _ => h) ?_ ?_
    · refine ⟨?_, trivial⟩
      · intro a w' hx hu hd K hK; have e0 : a.tmps.getD 0 undef = (.int .i64 room) := hu 0 rfl; exact Flow.run1 rfl (Flow.r_move rfl e0) (hK _ _ (Below.refl _ _) rfl)
    intro vs W8 hb8 hT
    have v2 := Flow.eqn (hT 2 (by decide) (by decide))
    simp only [Flow.putsT, v2, Act.put, List.setIfInBounds_toArray, List.set_cons_zero, List.set_cons_succ, List.drop_succ_cons, List.drop_zero, List.take_succ_cons, List.take_zero]
    clear hT v2
    have HB8 := Aside0.mk (below_step HB7.out hb8)
    have HCI_8 := Aside0.mk (CI.below HCI_7.out hb8)
    clear hb8
    refine ecall rfl rfl Try.func21 (by kernel_rfl) rfl (args := #[.int .i64 room]) (by first | (simp only [List.map_toArray, List.map_cons, List.map_nil, Act.eval]; done) | (simp only [List.map_toArray, List.map_cons, List.map_nil, Act.eval]; rfl)) (rnew_c room r HR.out _) ?_
    rintro e W9 ⟨rfl, hb9⟩
    refine ⟨_, rfl, ?_⟩
    have HCI_9 := Aside0.mk (CI.below HCI_8.out hb9)
    have HB9 := Aside0.mk (below_step HB8.out hb9)
    clear hb9
    simp only [Act.put, List.setIfInBounds_toArray, List.set_cons_zero, List.set_cons_succ]
    refine ealloc rfl rfl zero45_is ?_
    intro g10 hg10 W10 hk10 hb10
    have Kg10 := Aside0.mk hk10
    have HB10 := Aside0.mk (below_step HB9.out hb10)
    have HCI_10 := Aside0.mk (CI.below HCI_9.out hb10)
    clear hb10
    have Gg10 := Aside0.mk (show w.heap.size ≤ g10 by rw [hg10]; exact HB9.out.size)
    clear hg10 hk10
    simp only [Act.put, List.setIfInBounds_toArray, List.set_cons_zero, List.set_cons_succ]
    refine Flow.seqL (E := fun u v => Below u.heap.size u v) 5 1 [(some 23, []), (some 24, [0]), (some 25, []), (some 26, [2, 1]), (some 6, []), (some 5, [1, 3, 0, 1, 4]), (none, [4, 3, 5, 0, 1, 2, 3, 4, 5])] (fun iQ vQ wQ => match iQ with | 5 => vQ = (.pointer (some ⟨gC, 0, none⟩)) | _ => True) rfl (by decide) (by kernel_rfl) (Below.refl _ _) (fun _ _ _ h k => h.trans (k.mono h.size)) (fun _ _ _ _ h _ => h) ?_ ?_
    · refine ⟨?_, trivial⟩
      · intro a w' hx hu hd K hK; have e24 : a.tmps.getD 24 undef = (.pointer (some ⟨gC, 0, none⟩)) := hu 24 rfl; exact Flow.run1 rfl (Flow.r_assign rfl e24) (hK _ _ (Below.refl _ _) rfl)
    intro vs W11 hb11 hT
    have v5 := Flow.eqn (hT 5 (by decide) (by decide))
    simp only [Flow.putsT, v5, Act.put, List.setIfInBounds_toArray, List.set_cons_zero, List.set_cons_succ, List.drop_succ_cons, List.drop_zero, List.take_succ_cons, List.take_zero]
    clear hT v5
    have HB11 := Aside0.mk (below_step HB10.out hb11)
    have HCI_11 := Aside0.mk (CI.below HCI_10.out hb11)
    have Kg10_11 := Aside0.mk (blk_below Kg10.out hb11)
    clear hb11
    refine Cells.store_whole rfl rfl 45 _ _ rfl g10 [.slice none 0 0, .int .i64 r, .int .i64 0, .int .i64 0] #[.slice none 0 0, .int .i64 0, .int .i64 0, .int .i64 0] rfl rfl Kg10_11.out rfl size45 rfl ?_
    intro W12 hk12 hf12 hb12
    have HCI_12 := Aside0.mk (CI.far HCI_11.out Kg10_11.out (by decide) (by decide) hf12)
    have HB12 := Aside0.mk (HB11.out.trans (hb12 _ Gg10.out))
    have Kg10_12 := Aside0.mk hk12
    clear hk12 hf12 hb12
    go_upto_region 4 with fail
    refine Flow.seqT (E := fun u v => Below u.heap.size u v) [(some 7, [])] (fun iQ vQ wQ => match iQ with | 0 => vQ = (.int .i64 0) | _ => True) rfl (by kernel_rfl) (Below.refl _ _) (fun _ _ _ h k => h.trans (k.mono h.size)) (fun _ _ _ _ h _ => h) ?_ ?_
    · refine ⟨?_, trivial⟩
      · intro a w' hx hu hd K hK; exact Flow.run1 rfl (Flow.r_assign rfl rfl) (hK _ _ (Below.refl _ _) rfl)
    intro vs W13 hb13 hT
    have v0 := Flow.eqn (hT 0 (by decide))
    simp only [Flow.putsT, v0, Act.put, List.setIfInBounds_toArray, List.set_cons_zero, List.set_cons_succ]
    clear hT v0
    have HB13 := Aside0.mk (below_step HB12.out hb13)
    have HCI_13 := Aside0.mk (CI.below HCI_12.out hb13)
    have Kg10_12_13 := Aside0.mk (blk_below Kg10_12.out hb13)
    clear hb13
    go_wp2
    go_loopg [7] n (fun g v7 wr => ∃ i : Nat, i ≤ n ∧ Aside0 (g = n - i) ∧ v7 = .int .i64 i ∧ Aside0 (Below w.heap.size w wr) ∧ ∃ (L : KL) (hits misses : Int) (v : Value), Aside0 (CI wr gC gM r hits misses i L) ∧ Aside0 (wr.heap[g10]? = some (.cells #[v, .int .i64 r, .int .i64 hits, .int .i64 misses] 45 (0, 0))) ∧ Aside0 (XV wr [g10, gC, gM] v (tos L)) ∧ Aside0 (L.length ≤ r))
    case atStart => exact ⟨0, Nat.zero_le _, ⟨rfl⟩, rfl, HB13, [], 0, 0, _, HCI_13, Kg10_12_13, ⟨XV.nil _ _⟩, ⟨Nat.zero_le _⟩⟩
    case round =>
      clear HB13 HCI_13 Kg10_12_13
      obtain ⟨i, hi, HGI, rfl, HBR, L, hits, misses, v, HCI, KR, HXV, HLR⟩ := hrel
      by_cases hlt : i < n
      · have hlt2 : (i : Int) < n := by omega
        obtain ⟨ad, rfl⟩ := C_some HL.out (by omega)
        have hln := HCI.out.len
        have hc0 := HCI.out.h0
        have hm0 := HCI.out.m0
        obtain ⟨Av, cv, rfl⟩ := HXV.out.slice
        obtain ⟨nL, HNL⟩ : ∃ q, Aside0 (L.length = q) := ⟨_, ⟨rfl⟩⟩
        rw [HNL.out] at KR HXV
        obtain ⟨x, HX⟩ : ∃ q, Aside0 (l[i]? = some q) := ⟨_, ⟨List.getElem?_eq_getElem (by have := HN.out; omega)⟩⟩
        obtain ⟨Bx, cbx, hli, hcb, hcc⟩ := at38 HL.out HX.out
        have HLIx := Aside0.mk hli
        have HCBx := Aside0.mk hcb
        have HCCx := Aside0.mk hcc
        clear hli hcb hcc
        have HGx := Aside0.mk (HG.out x (List.mem_of_getElem? HX.out))
        have HDx := Aside0.mk (HMB.out.2 x (List.mem_of_getElem? HX.out))
        obtain ⟨nbx, HNBx⟩ : ∃ q, Aside0 (x.f2.length = q) := ⟨_, ⟨rfl⟩⟩
        rw [HNBx.out] at HLIx HCBx HCCx HDx
        go_upto_region 5 with fail
        refine Flow.seqT (E := fun u v => Below u.heap.size u v) [(some 27, []), (some 28, []), (some 29, [1]), (some 30, [0, 2])] (fun iQ vQ wQ => match iQ with | 0 => vQ = (.int .i64 i) | 1 => vQ = (.slice (some ad) n c) | 2 => vQ = (.int .i64 n) | 3 => vQ = (.bool true) | _ => True) rfl (by kernel_rfl) (Below.refl _ _) (fun _ _ _ h k => h.trans (k.mono h.size)) (fun _ _ _ _ h _ => h) ?_ ?_
        · refine ⟨?_, ?_, ?_, ?_, trivial⟩
          · intro a w' hx hu hd K hK; have e7 : a.tmps.getD 7 undef = (.int .i64 i) := hu 7 rfl; exact Flow.run1 rfl (Flow.r_move rfl e7) (hK _ _ (Below.refl _ _) rfl)
          · intro a w' hx hu hd K hK; have e1 : a.tmps.getD 1 undef = (.slice (some ad) n c) := hu 1 rfl; exact Flow.run1 rfl (Flow.r_move rfl e1) (hK _ _ (Below.refl _ _) rfl)
          · intro a w' hx hu hd K hK; have e28 := Flow.got (hd 1 rfl) 28 rfl; exact Flow.run1 rfl (lenL Try.underlying31 rfl e28) (hK _ _ (Below.refl _ _) rfl)
          · intro a w' hx hu hd K hK; have e27 := Flow.got (hd 0 rfl) 27 rfl; have e29 := Flow.got (hd 2 rfl) 29 rfl; exact Flow.run1 rfl (yes (lss rfl e27 e29) (decide_eq_true hlt2)) (hK _ _ (Below.refl _ _) rfl)
        intro vs W14 hb14 hT
        have v0 := Flow.eqn (hT 0 (by decide))
        have v1 := Flow.eqn (hT 1 (by decide))
        have v2 := Flow.eqn (hT 2 (by decide))
        have v3 := Flow.eqn (hT 3 (by decide))
        simp only [Flow.putsT, v0, v1, v2, v3, Act.put, List.setIfInBounds_toArray, List.set_cons_zero, List.set_cons_succ]
        clear hT v0 v1 v2 v3
        have HB14 := Aside0.mk (below_step HBR.out hb14)
        have HCI_14 := Aside0.mk (CI.below HCI.out hb14)
        have HXV_14 := Aside0.mk (XV.below HXV.out hb14)
        have KR_14 := Aside0.mk (blk_below KR.out hb14)
        clear hb14
        go_upto_region 7 with fail
        refine Flow.seqT_head (E := fun u v => Below u.heap.size u v) 4 [(some 33, []), (some 34, []), (some 35, [0, 1]), (some 36, [2]), (some 8, []), (none, [4, 3, 0, 1, 2, 3, 4])] (fun iQ vQ wQ => match iQ with | 0 => vQ = (.slice (some ad) n c) | 1 => vQ = (.int .i64 i) | 2 => vQ = (.pointer (some (ad.add (i * 5)))) | 3 => vQ = (.agg #[.int .i64 x.f0, .int .i64 x.f1.f0, .int .i64 x.f1.f1, .int .i64 x.f1.f2, .slice Bx nbx cbx]) | _ => True) rfl (by decide) (by kernel_rfl) (Below.refl _ _) (fun _ _ _ h k => h.trans (k.mono h.size)) (fun _ _ _ _ h _ => h) ?_ ?_
        · refine ⟨?_, ?_, ?_, ?_, trivial⟩
          · intro a w' hx hu hd K hK; have e1 : a.tmps.getD 1 undef = (.slice (some ad) n c) := hu 1 rfl; exact Flow.run1 rfl (Flow.r_move rfl e1) (hK _ _ (Below.refl _ _) rfl)
          · intro a w' hx hu hd K hK; have e7 : a.tmps.getD 7 undef = (.int .i64 i) := hu 7 rfl; exact Flow.run1 rfl (Flow.r_move rfl e7) (hK _ _ (Below.refl _ _) rfl)
          · intro a w' hx hu hd K hK; have e33 := Flow.got (hd 0 rfl) 33 rfl; have e34 := Flow.got (hd 1 rfl) 34 rfl; exact Flow.run1 rfl (ix (i := i) Try.underlying31 size38 rfl e33 e34 hlt) (hK _ _ (Below.refl _ _) rfl)
          · intro a w' hx hu hd K hK; have e35 := Flow.got (hd 2 rfl) 35 rfl; exact Flow.run1 rfl (ldrow rfl e35 (lies_below HLIx.out (below_step HB14.out hx)) Try.underlying38 rfl size38) (hK _ _ (Below.refl _ _) rfl)
        intro vs W15 hb15 hT
        have v0 := Flow.eqn (hT 0 (by decide))
        have v1 := Flow.eqn (hT 1 (by decide))
        have v2 := Flow.eqn (hT 2 (by decide))
        have v3 := Flow.eqn (hT 3 (by decide))
        simp only [Flow.putsT, v0, v1, v2, v3, Act.put, List.setIfInBounds_toArray, List.set_cons_zero, List.set_cons_succ, List.drop_succ_cons, List.drop_zero, List.take_succ_cons, List.take_zero]
        clear hT v0 v1 v2 v3
        have HB15 := Aside0.mk (below_step HB14.out hb15)
        have HCI_15 := Aside0.mk (CI.below HCI_14.out hb15)
        have HXV_15 := Aside0.mk (XV.below HXV_14.out hb15)
        have KR_14_15 := Aside0.mk (blk_below KR_14.out hb15)
        clear hb15
        refine ealloc rfl rfl zero38_is ?_
        intro g16 hg16 W16 hk16 hb16
        have Kg16 := Aside0.mk hk16
        have Ng16_g10 := Aside0.mk (show g10 ≠ g16 by have := (Array.getElem?_eq_some_iff.1 KR_14_15.out).1; omega)
        have Ng10_g16 := Aside0.mk (Ne.symm Ng16_g10.out)
        have HXV_e16 := Aside0.mk (XV.elder HXV_15.out g16 (by rw [hg16]; exact Nat.le_refl _))
        have HB16 := Aside0.mk (below_step HB15.out hb16)
        have HCI_16 := Aside0.mk (CI.below HCI_15.out hb16)
        have HXV_16 := Aside0.mk (XV.below HXV_e16.out hb16)
        have KR_14_15_16 := Aside0.mk (blk_below KR_14_15.out hb16)
        clear hb16
        have Gg16 := Aside0.mk (show w.heap.size ≤ g16 by rw [hg16]; exact HB15.out.size)
        clear hg16 hk16
        simp only [Act.put, List.setIfInBounds_toArray, List.set_cons_zero, List.set_cons_succ]
        refine Cells.store_whole rfl rfl 38 _ _ rfl g16 [.int .i64 x.f0, .int .i64 x.f1.f0, .int .i64 x.f1.f1, .int .i64 x.f1.f2, .slice Bx nbx cbx] #[.int .i64 0, .int .i64 0, .int .i64 0, .int .i64 0, .slice none 0 0] rfl rfl Kg16.out rfl size38 rfl ?_
        intro W17 hk17 hf17 hb17
        have HCI_17 := Aside0.mk (CI.far HCI_16.out Kg16.out (by decide) (by decide) hf17)
        have HXV_17 := Aside0.mk (XV.store HXV_16.out (by simp) hf17)
        have HB17 := Aside0.mk (HB16.out.trans (hb17 _ Gg16.out))
        have KR_14_15_16_17 := Aside0.mk ((hf17 _ Ng16_g10.out).trans KR_14_15_16.out)
        have Kg16_17 := Aside0.mk hk17
        clear hk17 hf17 hb17
        go_upto_region 8 with fail
        refine Flow.seqT (E := fun u v => Below u.heap.size u v) [(some 37, []), (some 38, [0])] (fun iQ vQ wQ => match iQ with | 0 => vQ = (.pointer (some ⟨g16, 0, none⟩)) | 1 => vQ = (.int .i64 x.f0) | _ => True) rfl (by kernel_rfl) (Below.refl _ _) (fun _ _ _ h k => h.trans (k.mono h.size)) (fun _ _ _ _ h _ => h) ?_ ?_
        · refine ⟨?_, ?_, trivial⟩
          · intro a w' hx hu hd K hK; have e8 : a.tmps.getD 8 undef = (.pointer (some ⟨g16, 0, none⟩)) := hu 8 rfl; exact Flow.run1 rfl (fa rfl e8 (fa38_0 _ _ _)) (hK _ _ (Below.refl _ _) rfl)
          · intro a w' hx hu hd K hK; have e37 := Flow.got (hd 0 rfl) 37 rfl; exact Flow.run1 rfl (ld rfl e37 ((blk_cell (blk_below Kg16_17.out hx) 0).trans rfl) Try.underlying3 rfl) (hK _ _ (Below.refl _ _) rfl)
        intro vs W18 hb18 hT
        have v0 := Flow.eqn (hT 0 (by decide))
        have v1 := Flow.eqn (hT 1 (by decide))
        simp only [Flow.putsT, v0, v1, Act.put, List.setIfInBounds_toArray, List.set_cons_zero, List.set_cons_succ]
        clear hT v0 v1
        have HB18 := Aside0.mk (below_step HB17.out hb18)
        have HCI_18 := Aside0.mk (CI.below HCI_17.out hb18)
        have HXV_18 := Aside0.mk (XV.below HXV_17.out hb18)
        have KR_14_15_16_17_18 := Aside0.mk (blk_below KR_14_15_16_17.out hb18)
        have Kg16_17_18 := Aside0.mk (blk_below Kg16_17.out hb18)
        clear hb18
        go_upto_block 2 with fail
        go_cut [] (fun wx => Aside0 (Below w.heap.size w wx) ∧ ∃ (L : KL) (hits misses : Int) (v : Value), Aside0 (CI wx gC gM r hits misses (i + 1) L) ∧ Aside0 (wx.heap[g10]? = some (.cells #[v, .int .i64 r, .int .i64 hits, .int .i64 misses] 45 (0, 0))) ∧ Aside0 (XV wx [g10, gC, gM] v (tos L)) ∧ Aside0 (L.length ≤ r))
        case first =>
          by_cases hd0 : x.f0 = 0
          · have HD0 := Aside0.mk hd0
            clear hd0
            go_upto_region 9 with fail
            refine Flow.seqT (E := fun u v => Below u.heap.size u v) [(some 40, []), (some 39, [0])] (fun iQ vQ wQ => match iQ with | 0 => vQ = (.bool true) | 1 => vQ = (.bool true) | _ => True) rfl (by kernel_rfl) (Below.refl _ _) (fun _ _ _ h k => h.trans (k.mono h.size)) (fun _ _ _ _ h _ => h) ?_ ?_
            · refine ⟨?_, ?_, trivial⟩
              · intro a w' hx hu hd K hK; have e38 : a.tmps.getD 38 undef = (.int .i64 x.f0) := hu 38 rfl; exact Flow.run1 rfl (yes (eql rfl e38 rfl) (beq_iff_eq.2 HD0.out)) (hK _ _ (Below.refl _ _) rfl)
              · intro a w' hx hu hd K hK; have e40 := Flow.got (hd 0 rfl) 40 rfl; exact Flow.run1 rfl (Flow.r_assign rfl e40) (hK _ _ (Below.refl _ _) rfl)
            intro vs W19 hb19 hT
            have v0 := Flow.eqn (hT 0 (by decide))
            have v1 := Flow.eqn (hT 1 (by decide))
            simp only [Flow.putsT, v0, v1, Act.put, List.setIfInBounds_toArray, List.set_cons_zero, List.set_cons_succ]
            clear hT v0 v1
            have HB19 := Aside0.mk (below_step HB18.out hb19)
            have HCI_19 := Aside0.mk (CI.below HCI_18.out hb19)
            have HXV_19 := Aside0.mk (XV.below HXV_18.out hb19)
            have KR_14_15_16_17_18_19 := Aside0.mk (blk_below KR_14_15_16_17_18.out hb19)
            have Kg16_17_18_19 := Aside0.mk (blk_below Kg16_17_18.out hb19)
            clear hb19
            obtain ⟨fo, HFO⟩ : ∃ q, Aside0 (fat x.f1 L = q) := ⟨_, ⟨rfl⟩⟩
            cases fo with
            | none =>
              obtain ⟨h1, h1H⟩ : ∃ q, Aside0 (misses + 1 = q) := ⟨_, ⟨rfl⟩⟩
              go_upto_region 10 with fail
              refine Flow.seqT_head (E := fun u v => Below u.heap.size u v) 3 [(some 42, []), (some 43, []), (some 44, [1]), (some 45, [0, 2]), (some 41, [3]), (some 46, [4]), (some 47, [4]), (some 9, [5, 3, 0, 1, 2, 3, 4, 5]), (some 10, [6, 7, 0, 1, 2, 3, 4, 5, 6, 7])] (fun iQ vQ wQ => match iQ with | 0 => vQ = (.pointer (some ⟨gC, 0, none⟩)) | 1 => vQ = (.pointer (some ⟨g16, 1, none⟩)) | 2 => vQ = (.agg #[.int .i64 x.f1.f0, .int .i64 x.f1.f1, .int .i64 x.f1.f2]) | _ => True) rfl (by decide) (by kernel_rfl) (Below.refl _ _) (fun _ _ _ h k => h.trans (k.mono h.size)) (fun _ _ _ _ h _ => h) ?_ ?_
              · refine ⟨?_, ?_, ?_, trivial⟩
                · intro a w' hx hu hd K hK; have e5 : a.tmps.getD 5 undef = (.pointer (some ⟨gC, 0, none⟩)) := hu 5 rfl; exact Flow.run1 rfl (Flow.r_move rfl e5) (hK _ _ (Below.refl _ _) rfl)
                · intro a w' hx hu hd K hK; have e8 : a.tmps.getD 8 undef = (.pointer (some ⟨g16, 0, none⟩)) := hu 8 rfl; exact Flow.run1 rfl (fa rfl e8 (fa38_1 _ _ _)) (hK _ _ (Below.refl _ _) rfl)
                · intro a w' hx hu hd K hK; have e43 := Flow.got (hd 1 rfl) 43 rfl; exact Flow.run1 rfl (ldrow (c := [.int .i64 x.f1.f0, .int .i64 x.f1.f1, .int .i64 x.f1.f2]) rfl e43 (lies_part (blk_below Kg16_17_18_19.out hx) rfl) Try.underlying36 rfl size36) (hK _ _ (Below.refl _ _) rfl)
              intro vs W20 hb20 hT
              have v0 := Flow.eqn (hT 0 (by decide))
              have v1 := Flow.eqn (hT 1 (by decide))
              have v2 := Flow.eqn (hT 2 (by decide))
              simp only [Flow.putsT, v0, v1, v2, Act.put, List.setIfInBounds_toArray, List.set_cons_zero, List.set_cons_succ, List.drop_succ_cons, List.drop_zero, List.take_succ_cons, List.take_zero]
              clear hT v0 v1 v2
              have HB20 := Aside0.mk (below_step HB19.out hb20)
              have HCI_20 := Aside0.mk (CI.below HCI_19.out hb20)
              have HXV_20 := Aside0.mk (XV.below HXV_19.out hb20)
              have KR_14_15_16_17_18_19_20 := Aside0.mk (blk_below KR_14_15_16_17_18_19.out hb20)
              have Kg16_17_18_19_20 := Aside0.mk (blk_below Kg16_17_18_19.out hb20)
              clear hb20
              refine ecall rfl rfl Try.func19 (by kernel_rfl) rfl (args := #[.pointer (some ⟨gC, 0, none⟩), .agg #[.int .i64 x.f1.f0, .int .i64 x.f1.f1, .int .i64 x.f1.f2]]) (by first | (simp only [List.map_toArray, List.map_cons, List.map_nil, Act.eval]; done) | (simp only [List.map_toArray, List.map_cons, List.map_nil, Act.eval]; rfl)) (get_none_i x.f1 HGx.out _ HCI_20.out (by omega) HFO.out) ?_
              rintro e W21 ⟨rfl, hci21, hkb21⟩
              refine ⟨_, rfl, ?_⟩
              rw [h1H.out] at hci21
              have HXV_21 := Aside0.mk (XV.kb HXV_20.out (by simp) (by simp) hkb21)
              have KR_14_15_16_17_18_19_20_21 := Aside0.mk (hkb21.blk KR_14_15_16_17_18_19_20.out (HCI_20.out.apart KR_14_15_16_17_18_19_20.out (by decide)))
              have Kg16_17_18_19_20_21 := Aside0.mk (hkb21.blk Kg16_17_18_19_20.out (HCI_20.out.apart Kg16_17_18_19_20.out (by decide)))
              have HB21 := Aside0.mk (below_kb HB20.out (Nat.le_refl _) hkb21 HGC.out HGM.out)
              have HCI_21 := Aside0.mk hci21
              clear hci21 hkb21
              simp only [Act.put, List.setIfInBounds_toArray, List.set_cons_zero, List.set_cons_succ]
              refine Flow.seqL (E := fun u v => Below u.heap.size u v) 4 5 [(some 42, []), (some 43, []), (some 44, [1]), (some 45, [0, 2]), (some 41, [3]), (some 46, [4]), (some 47, [4]), (some 9, [5, 3, 0, 1, 2, 3, 4, 5]), (some 10, [6, 7, 0, 1, 2, 3, 4, 5, 6, 7])] (fun iQ vQ wQ => match iQ with | 4 => vQ = (.tuple #[.slice none 0 0, .bool false]) | 5 => vQ = (.slice none 0 0) | 6 => vQ = (.bool false) | 7 => vQ = (.slice none 0 0) | 8 => vQ = (.bool false) | _ => True) rfl (by decide) (by kernel_rfl) (Below.refl _ _) (fun _ _ _ h k => h.trans (k.mono h.size)) (fun _ _ _ _ h _ => h) ?_ ?_
              · refine ⟨?_, ?_, ?_, ?_, ?_, trivial⟩
                · intro a w' hx hu hd K hK; have e45 : a.tmps.getD 45 undef = (.tuple #[.slice none 0 0, .bool false]) := hu 45 rfl; exact Flow.run1 rfl (Flow.r_move rfl e45) (hK _ _ (Below.refl _ _) rfl)
                · intro a w' hx hu hd K hK; have e41 := Flow.got (hd 4 rfl) 41 rfl; exact Flow.run1 rfl (extr rfl e41 rfl) (hK _ _ (Below.refl _ _) rfl)
                · intro a w' hx hu hd K hK; have e41 := Flow.got (hd 4 rfl) 41 rfl; exact Flow.run1 rfl (extr rfl e41 rfl) (hK _ _ (Below.refl _ _) rfl)
                · intro a w' hx hu hd K hK; have e46 := Flow.got (hd 5 rfl) 46 rfl; exact Flow.run1 rfl (Flow.r_assign rfl e46) (hK _ _ (Below.refl _ _) rfl)
                · intro a w' hx hu hd K hK; have e47 := Flow.got (hd 6 rfl) 47 rfl; exact Flow.run1 rfl (Flow.r_assign rfl e47) (hK _ _ (Below.refl _ _) rfl)
              intro vs W22 hb22 hT
              have v4 := Flow.eqn (hT 4 (by decide) (by decide))
              have v5 := Flow.eqn (hT 5 (by decide) (by decide))
              have v6 := Flow.eqn (hT 6 (by decide) (by decide))
              have v7 := Flow.eqn (hT 7 (by decide) (by decide))
              have v8 := Flow.eqn (hT 8 (by decide) (by decide))
              simp only [Flow.putsT, v4, v5, v6, v7, v8, Act.put, List.setIfInBounds_toArray, List.set_cons_zero, List.set_cons_succ, List.drop_succ_cons, List.drop_zero, List.take_succ_cons, List.take_zero]
              clear hT v4 v5 v6 v7 v8
              have HB22 := Aside0.mk (below_step HB21.out hb22)
              have HCI_22 := Aside0.mk (CI.below HCI_21.out hb22)
              have HXV_22 := Aside0.mk (XV.below HXV_21.out hb22)
              have KR_14_15_16_17_18_19_20_21_22 := Aside0.mk (blk_below KR_14_15_16_17_18_19_20_21.out hb22)
              have Kg16_17_18_19_20_21_22 := Aside0.mk (blk_below Kg16_17_18_19_20_21.out hb22)
              clear hb22
              go_upto_region 11 with fail
              refine Flow.seqT_head (E := fun u v => Below u.heap.size u v) 3 [(some 49, []), (some 50, []), (some 51, [1]), (some 52, [0, 2]), (some 48, [3]), (some 53, [4]), (some 54, [4]), (some 55, [4]), (some 11, []), (none, [8, 5, 3, 0, 1, 2, 3, 4, 5, 8]), (some 12, [6, 9, 0, 1, 2, 3, 4, 5, 6, 8, 9]), (some 13, [7, 10, 0, 1, 2, 3, 4, 5, 6, 7, 8, 9, 10])] (fun iQ vQ wQ => match iQ with | 0 => vQ = (.agg #[.slice Av nL cv, .int .i64 r, .int .i64 hits, .int .i64 misses]) | 1 => vQ = (.pointer (some ⟨g16, 1, none⟩)) | 2 => vQ = (.agg #[.int .i64 x.f1.f0, .int .i64 x.f1.f1, .int .i64 x.f1.f2]) | _ => True) rfl (by decide) (by kernel_rfl) (Below.refl _ _) (fun _ _ _ h k => h.trans (k.mono h.size)) (fun _ _ _ _ h _ => h) ?_ ?_
              · refine ⟨?_, ?_, ?_, trivial⟩
                · intro a w' hx hu hd K hK; have e6 : a.tmps.getD 6 undef = (.pointer (some ⟨g10, 0, none⟩)) := hu 6 rfl; exact Flow.run1 rfl (ldrow rfl e6 (lies_block (blk_below KR_14_15_16_17_18_19_20_21_22.out hx)) Try.underlying45 rfl size45) (hK _ _ (Below.refl _ _) rfl)
                · intro a w' hx hu hd K hK; have e8 : a.tmps.getD 8 undef = (.pointer (some ⟨g16, 0, none⟩)) := hu 8 rfl; exact Flow.run1 rfl (fa rfl e8 (fa38_1 _ _ _)) (hK _ _ (Below.refl _ _) rfl)
                · intro a w' hx hu hd K hK; have e50 := Flow.got (hd 1 rfl) 50 rfl; exact Flow.run1 rfl (ldrow (c := [.int .i64 x.f1.f0, .int .i64 x.f1.f1, .int .i64 x.f1.f2]) rfl e50 (lies_part (blk_below Kg16_17_18_19_20_21_22.out hx) rfl) Try.underlying36 rfl size36) (hK _ _ (Below.refl _ _) rfl)
              intro vs W23 hb23 hT
              have v0 := Flow.eqn (hT 0 (by decide))
              have v1 := Flow.eqn (hT 1 (by decide))
              have v2 := Flow.eqn (hT 2 (by decide))
              simp only [Flow.putsT, v0, v1, v2, Act.put, List.setIfInBounds_toArray, List.set_cons_zero, List.set_cons_succ, List.drop_succ_cons, List.drop_zero, List.take_succ_cons, List.take_zero]
              clear hT v0 v1 v2
              have HB23 := Aside0.mk (below_step HB22.out hb23)
              have HCI_23 := Aside0.mk (CI.below HCI_22.out hb23)
              have HXV_23 := Aside0.mk (XV.below HXV_22.out hb23)
              have KR_14_15_16_17_18_19_20_21_22_23 := Aside0.mk (blk_below KR_14_15_16_17_18_19_20_21_22.out hb23)
              have Kg16_17_18_19_20_21_22_23 := Aside0.mk (blk_below Kg16_17_18_19_20_21_22.out hb23)
              clear hb23
              refine ecall rfl rfl Try.func22 (by kernel_rfl) rfl (args := #[.agg #[.slice Av nL cv, .int .i64 r, .int .i64 hits, .int .i64 misses], .agg #[.int .i64 x.f1.f0, .int .i64 x.f1.f1, .int .i64 x.f1.f2]]) (by first | (simp only [List.map_toArray, List.map_cons, List.map_nil, Act.eval]; done) | (simp only [List.map_toArray, List.map_cons, List.map_nil, Act.eval]; rfl)) (rget_none r hits misses _ HXV_23.out (by intro j hj; simp only [List.mem_cons, List.not_mem_nil, or_false] at hj; exact (fun h => h.elim (fun h => h ▸ blk_lt Kg16_17_18_19_20_21_22_23.out) (fun h => h.elim (fun h => h ▸ blk_lt KR_14_15_16_17_18_19_20_21_22_23.out) (fun h => h.elim (fun h => h ▸ HCI_23.out.lt.1) (fun h => h ▸ HCI_23.out.lt.2)))) hj) (by omega) (by omega) HFO.out) ?_
              rintro e W24 ⟨v1, rfl, hxv24, hb24⟩
              refine ⟨_, rfl, ?_⟩
              rw [h1H.out]
              obtain ⟨A1, c1, rfl⟩ := hxv24.slice
              have HCI_24 := Aside0.mk (CI.below HCI_23.out hb24)
              have KR_14_15_16_17_18_19_20_21_22_23_24 := Aside0.mk (blk_below KR_14_15_16_17_18_19_20_21_22_23.out hb24)
              have Kg16_17_18_19_20_21_22_23_24 := Aside0.mk (blk_below Kg16_17_18_19_20_21_22_23.out hb24)
              have HB24 := Aside0.mk (below_step HB23.out hb24)
              have HXV_24 := Aside0.mk hxv24
              clear hxv24 hb24
              simp only [Act.put, List.setIfInBounds_toArray, List.set_cons_zero, List.set_cons_succ]
              refine Flow.seqL (E := fun u v => Below u.heap.size u v) 4 4 [(some 49, []), (some 50, []), (some 51, [1]), (some 52, [0, 2]), (some 48, [3]), (some 53, [4]), (some 54, [4]), (some 55, [4]), (some 11, []), (none, [8, 5, 3, 0, 1, 2, 3, 4, 5, 8]), (some 12, [6, 9, 0, 1, 2, 3, 4, 5, 6, 8, 9]), (some 13, [7, 10, 0, 1, 2, 3, 4, 5, 6, 7, 8, 9, 10])] (fun iQ vQ wQ => match iQ with | 4 => vQ = (.tuple #[.agg #[.slice A1 L.length c1, .int .i64 r, .int .i64 hits, .int .i64 h1], .string (strOfNums []), .bool false]) | 5 => vQ = (.agg #[.slice A1 L.length c1, .int .i64 r, .int .i64 hits, .int .i64 h1]) | 6 => vQ = (.string (strOfNums [])) | 7 => vQ = (.bool false) | _ => True) rfl (by decide) (by kernel_rfl) (Below.refl _ _) (fun _ _ _ h k => h.trans (k.mono h.size)) (fun _ _ _ _ h _ => h) ?_ ?_
              · refine ⟨?_, ?_, ?_, ?_, trivial⟩
                · intro a w' hx hu hd K hK; have e52 : a.tmps.getD 52 undef = (.tuple #[.agg #[.slice A1 L.length c1, .int .i64 r, .int .i64 hits, .int .i64 h1], .string (strOfNums []), .bool false]) := hu 52 rfl; exact Flow.run1 rfl (Flow.r_move rfl e52) (hK _ _ (Below.refl _ _) rfl)
                · intro a w' hx hu hd K hK; have e48 := Flow.got (hd 4 rfl) 48 rfl; exact Flow.run1 rfl (extr rfl e48 rfl) (hK _ _ (Below.refl _ _) rfl)
                · intro a w' hx hu hd K hK; have e48 := Flow.got (hd 4 rfl) 48 rfl; exact Flow.run1 rfl (extr rfl e48 rfl) (hK _ _ (Below.refl _ _) rfl)
                · intro a w' hx hu hd K hK; have e48 := Flow.got (hd 4 rfl) 48 rfl; exact Flow.run1 rfl (extr rfl e48 rfl) (hK _ _ (Below.refl _ _) rfl)
              intro vs W25 hb25 hT
              have v4 := Flow.eqn (hT 4 (by decide) (by decide))
              have v5 := Flow.eqn (hT 5 (by decide) (by decide))
              have v6 := Flow.eqn (hT 6 (by decide) (by decide))
              have v7 := Flow.eqn (hT 7 (by decide) (by decide))
              simp only [Flow.putsT, v4, v5, v6, v7, Act.put, List.setIfInBounds_toArray, List.set_cons_zero, List.set_cons_succ, List.drop_succ_cons, List.drop_zero, List.take_succ_cons, List.take_zero]
              clear hT v4 v5 v6 v7
              have HB25 := Aside0.mk (below_step HB24.out hb25)
              have HCI_25 := Aside0.mk (CI.below HCI_24.out hb25)
              have HXV_25 := Aside0.mk (XV.below HXV_24.out hb25)
              have KR_14_15_16_17_18_19_20_21_22_23_24_25 := Aside0.mk (blk_below KR_14_15_16_17_18_19_20_21_22_23_24.out hb25)
              have Kg16_17_18_19_20_21_22_23_24_25 := Aside0.mk (blk_below Kg16_17_18_19_20_21_22_23_24.out hb25)
              clear hb25
              refine ealloc rfl rfl zero45_is ?_
              intro g26 hg26 W26 hk26 hb26
              have Kg26 := Aside0.mk hk26
              have Ng26_g10 := Aside0.mk (show g10 ≠ g26 by have := (Array.getElem?_eq_some_iff.1 KR_14_15_16_17_18_19_20_21_22_23_24_25.out).1; omega)
              have Ng10_g26 := Aside0.mk (Ne.symm Ng26_g10.out)
              have Ng26_g16 := Aside0.mk (show g16 ≠ g26 by have := (Array.getElem?_eq_some_iff.1 Kg16_17_18_19_20_21_22_23_24_25.out).1; omega)
              have Ng16_g26 := Aside0.mk (Ne.symm Ng26_g16.out)
              have HXV_e26 := Aside0.mk (XV.elder HXV_25.out g26 (by rw [hg26]; exact Nat.le_refl _))
              have HB26 := Aside0.mk (below_step HB25.out hb26)
              have HCI_26 := Aside0.mk (CI.below HCI_25.out hb26)
              have HXV_26 := Aside0.mk (XV.below HXV_e26.out hb26)
              have KR_14_15_16_17_18_19_20_21_22_23_24_25_26 := Aside0.mk (blk_below KR_14_15_16_17_18_19_20_21_22_23_24_25.out hb26)
              have Kg16_17_18_19_20_21_22_23_24_25_26 := Aside0.mk (blk_below Kg16_17_18_19_20_21_22_23_24_25.out hb26)
              clear hb26
              have Gg26 := Aside0.mk (show w.heap.size ≤ g26 by rw [hg26]; exact HB25.out.size)
              clear hg26 hk26
              simp only [Act.put, List.setIfInBounds_toArray, List.set_cons_zero, List.set_cons_succ]
              refine Cells.store_whole rfl rfl 45 _ _ rfl g26 [.slice A1 L.length c1, .int .i64 r, .int .i64 hits, .int .i64 h1] #[.slice none 0 0, .int .i64 0, .int .i64 0, .int .i64 0] rfl rfl Kg26.out rfl size45 rfl ?_
              intro W27 hk27 hf27 hb27
              have HCI_27 := Aside0.mk (CI.far HCI_26.out Kg26.out (by decide) (by decide) hf27)
              have HXV_27 := Aside0.mk (XV.store HXV_26.out (by simp) hf27)
              have HB27 := Aside0.mk (HB26.out.trans (hb27 _ Gg26.out))
              have KR_14_15_16_17_18_19_20_21_22_23_24_25_26_27 := Aside0.mk ((hf27 _ Ng26_g10.out).trans KR_14_15_16_17_18_19_20_21_22_23_24_25_26.out)
              have Kg16_17_18_19_20_21_22_23_24_25_26_27 := Aside0.mk ((hf27 _ Ng26_g16.out).trans Kg16_17_18_19_20_21_22_23_24_25_26.out)
              have Kg26_27 := Aside0.mk hk27
              clear hk27 hf27 hb27
              refine Flow.seqL (E := fun u v => Below u.heap.size u v) 10 2 [(some 49, []), (some 50, []), (some 51, [1]), (some 52, [0, 2]), (some 48, [3]), (some 53, [4]), (some 54, [4]), (some 55, [4]), (some 11, []), (none, [8, 5, 3, 0, 1, 2, 3, 4, 5, 8]), (some 12, [6, 9, 0, 1, 2, 3, 4, 5, 6, 8, 9]), (some 13, [7, 10, 0, 1, 2, 3, 4, 5, 6, 7, 8, 9, 10])] (fun iQ vQ wQ => match iQ with | 10 => vQ = (.string (strOfNums [])) | 11 => vQ = (.bool false) | _ => True) rfl (by decide) (by kernel_rfl) (Below.refl _ _) (fun _ _ _ h k => h.trans (k.mono h.size)) (fun _ _ _ _ h _ => h) ?_ ?_
              · refine ⟨?_, ?_, trivial⟩
                · intro a w' hx hu hd K hK; have e54 : a.tmps.getD 54 undef = (.string (strOfNums [])) := hu 54 rfl; exact Flow.run1 rfl (Flow.r_assign rfl e54) (hK _ _ (Below.refl _ _) rfl)
                · intro a w' hx hu hd K hK; have e55 : a.tmps.getD 55 undef = (.bool false) := hu 55 rfl; exact Flow.run1 rfl (Flow.r_assign rfl e55) (hK _ _ (Below.refl _ _) rfl)
              intro vs W28 hb28 hT
              have v10 := Flow.eqn (hT 10 (by decide) (by decide))
              have v11 := Flow.eqn (hT 11 (by decide) (by decide))
              simp only [Flow.putsT, v10, v11, Act.put, List.setIfInBounds_toArray, List.set_cons_zero, List.set_cons_succ, List.drop_succ_cons, List.drop_zero, List.take_succ_cons, List.take_zero]
              clear hT v10 v11
              have HB28 := Aside0.mk (below_step HB27.out hb28)
              have HCI_28 := Aside0.mk (CI.below HCI_27.out hb28)
              have HXV_28 := Aside0.mk (XV.below HXV_27.out hb28)
              have KR_14_15_16_17_18_19_20_21_22_23_24_25_26_27_28 := Aside0.mk (blk_below KR_14_15_16_17_18_19_20_21_22_23_24_25_26_27.out hb28)
              have Kg16_17_18_19_20_21_22_23_24_25_26_27_28 := Aside0.mk (blk_below Kg16_17_18_19_20_21_22_23_24_25_26_27.out hb28)
              have Kg26_27_28 := Aside0.mk (blk_below Kg26_27.out hb28)
              clear hb28
              go_upto_region 12 with fail
              refine Flow.seqT_head (E := fun u v => Below u.heap.size u v) 1 [(some 56, []), (none, [0, 0])] (fun iQ vQ wQ => match iQ with | 0 => vQ = (.agg #[.slice A1 L.length c1, .int .i64 r, .int .i64 hits, .int .i64 h1]) | _ => True) rfl (by decide) (by kernel_rfl) (Below.refl _ _) (fun _ _ _ h k => h.trans (k.mono h.size)) (fun _ _ _ _ h _ => h) ?_ ?_
              · refine ⟨?_, trivial⟩
                · intro a w' hx hu hd K hK; have e11 : a.tmps.getD 11 undef = (.pointer (some ⟨g26, 0, none⟩)) := hu 11 rfl; exact Flow.run1 rfl (ldrow rfl e11 (lies_block (blk_below Kg26_27_28.out hx)) Try.underlying45 rfl size45) (hK _ _ (Below.refl _ _) rfl)
              intro vs W29 hb29 hT
              have v0 := Flow.eqn (hT 0 (by decide))
              simp only [Flow.putsT, v0, Act.put, List.setIfInBounds_toArray, List.set_cons_zero, List.set_cons_succ, List.drop_succ_cons, List.drop_zero, List.take_succ_cons, List.take_zero]
              clear hT v0
              have HB29 := Aside0.mk (below_step HB28.out hb29)
              have HCI_29 := Aside0.mk (CI.below HCI_28.out hb29)
              have HXV_29 := Aside0.mk (XV.below HXV_28.out hb29)
              have KR_14_15_16_17_18_19_20_21_22_23_24_25_26_27_28_29 := Aside0.mk (blk_below KR_14_15_16_17_18_19_20_21_22_23_24_25_26_27_28.out hb29)
              have Kg16_17_18_19_20_21_22_23_24_25_26_27_28_29 := Aside0.mk (blk_below Kg16_17_18_19_20_21_22_23_24_25_26_27_28.out hb29)
              have Kg26_27_28_29 := Aside0.mk (blk_below Kg26_27_28.out hb29)
              clear hb29
              refine Cells.store_whole rfl rfl 45 _ _ rfl g10 [.slice A1 L.length c1, .int .i64 r, .int .i64 hits, .int .i64 h1] #[.slice Av nL cv, .int .i64 r, .int .i64 hits, .int .i64 misses] rfl rfl KR_14_15_16_17_18_19_20_21_22_23_24_25_26_27_28_29.out rfl size45 rfl ?_
              intro W30 hk30 hf30 hb30
              have HCI_30 := Aside0.mk (CI.far HCI_29.out KR_14_15_16_17_18_19_20_21_22_23_24_25_26_27_28_29.out (by decide) (by decide) hf30)
              have HXV_30 := Aside0.mk (XV.store HXV_29.out (by simp) hf30)
              have HB30 := Aside0.mk (HB29.out.trans (hb30 _ Gg10.out))
              have Kg16_17_18_19_20_21_22_23_24_25_26_27_28_29_30 := Aside0.mk ((hf30 _ Ng10_g16.out).trans Kg16_17_18_19_20_21_22_23_24_25_26_27_28_29.out)
              have Kg26_27_28_29_30 := Aside0.mk ((hf30 _ Ng10_g26.out).trans Kg26_27_28_29.out)
              have Kg10_30 := Aside0.mk hk30
              clear hk30 hf30 hb30
              go_upto_region 13 with fail
              refine Flow.seqT (E := fun u v => Below u.heap.size u v) [(some 57, []), (some 58, [0]), (some 59, []), (some 60, [1, 2]), (some 61, [3]), (some 62, [4]), (some 63, [4]), (some 64, [5, 6, 4]), (some 65, [4, 7])] (fun iQ vQ wQ => match iQ with | 0 => vQ = (.slice none 0 0) | 1 => vQ = (.string (strOfNums [])) | 2 => vQ = (.string (strOfNums [])) | 3 => vQ = (.bool false) | 4 => vQ = (.bool false) | 5 => vQ = (.bool false) | 6 => vQ = (.bool false) | 7 => vQ = (.bool false) | 8 => vQ = (.bool false) | _ => True) rfl (by kernel_rfl) (Below.refl _ _) (fun _ _ _ h k => h.trans (k.mono h.size)) (fun _ _ _ _ h _ => h) ?_ ?_
              · refine ⟨?_, ?_, ?_, ?_, ?_, ?_, ?_, ?_, ?_, trivial⟩
                · intro a w' hx hu hd K hK; have e9 : a.tmps.getD 9 undef = (.slice none 0 0) := hu 9 rfl; exact Flow.run1 rfl (Flow.r_move rfl e9) (hK _ _ (Below.refl _ _) rfl)
                · intro a w' hx hu hd K hK; have e57 := Flow.got (hd 0 rfl) 57 rfl; exact Flow.run1 rfl (cvs rfl e57 (Kd.C_string Try.underlying27 Try.underlying5 Try.underlying9 (Kd.C_nil _ _))) (hK _ _ (Below.refl _ _) rfl)
                · intro a w' hx hu hd K hK; have e12 : a.tmps.getD 12 undef = (.string (strOfNums [])) := hu 12 rfl; exact Flow.run1 rfl (Flow.r_move rfl e12) (hK _ _ (Below.refl _ _) rfl)
                · intro a w' hx hu hd K hK; have e58 := Flow.got (hd 1 rfl) 58 rfl; have e59 := Flow.got (hd 2 rfl) 59 rfl; exact Flow.run1 rfl (sneq rfl e58 e59 (bne_self_eq_false _)) (hK _ _ (Below.refl _ _) rfl)
                · intro a w' hx hu hd K hK; have e60 := Flow.got (hd 3 rfl) 60 rfl; exact Flow.run1 rfl (Flow.r_move rfl e60) (hK _ _ (Below.refl _ _) rfl)
                · intro a w' hx hu hd K hK; have e10 : a.tmps.getD 10 undef = (.bool false) := hu 10 rfl; have e61 := Flow.got (hd 4 rfl) 61 rfl; exact Flow.run1 (Flow.want_of (k := 61) rfl e61) (Flow.r_move rfl e10) (hK _ _ (Below.refl _ _) rfl)
                · intro a w' hx hu hd K hK; have e13 : a.tmps.getD 13 undef = (.bool false) := hu 13 rfl; have e61 := Flow.got (hd 4 rfl) 61 rfl; exact Flow.run1 (Flow.want_of (k := 61) rfl e61) (Flow.r_move rfl e13) (hK _ _ (Below.refl _ _) rfl)
                · intro a w' hx hu hd K hK; have e62 := Flow.got (hd 5 rfl) 62 rfl; have e63 := Flow.got (hd 6 rfl) 63 rfl; have e61 := Flow.got (hd 4 rfl) 61 rfl; exact Flow.run1 (Flow.want_of (k := 61) rfl e61) (bneb Try.underlying4 rfl e62 e63) (hK _ _ (Below.refl _ _) rfl)
                · intro a w' hx hu hd K hK; have e61 := Flow.got (hd 4 rfl) 61 rfl; have e64 := Flow.got (hd 7 rfl) 64 rfl; exact Flow.run1 rfl (Flow.r_pick rfl e61 e64) (hK _ _ (Below.refl _ _) rfl)
              intro vs W31 hb31 hT
              have v0 := Flow.eqn (hT 0 (by decide))
              have v1 := Flow.eqn (hT 1 (by decide))
              have v2 := Flow.eqn (hT 2 (by decide))
              have v3 := Flow.eqn (hT 3 (by decide))
              have v4 := Flow.eqn (hT 4 (by decide))
              have v5 := Flow.eqn (hT 5 (by decide))
              have v6 := Flow.eqn (hT 6 (by decide))
              have v7 := Flow.eqn (hT 7 (by decide))
              have v8 := Flow.eqn (hT 8 (by decide))
              simp only [Flow.putsT, v0, v1, v2, v3, v4, v5, v6, v7, v8, Act.put, List.setIfInBounds_toArray, List.set_cons_zero, List.set_cons_succ]
              clear hT v0 v1 v2 v3 v4 v5 v6 v7 v8
              have HB31 := Aside0.mk (below_step HB30.out hb31)
              have HCI_31 := Aside0.mk (CI.below HCI_30.out hb31)
              have HXV_31 := Aside0.mk (XV.below HXV_30.out hb31)
              have Kg16_17_18_19_20_21_22_23_24_25_26_27_28_29_30_31 := Aside0.mk (blk_below Kg16_17_18_19_20_21_22_23_24_25_26_27_28_29_30.out hb31)
              have Kg26_27_28_29_30_31 := Aside0.mk (blk_below Kg26_27_28_29_30.out hb31)
              have Kg10_30_31 := Aside0.mk (blk_below Kg10_30.out hb31)
              clear hb31
              go_wp2_with fail
              go_meet
              exact ⟨HB31, _, _, _, _, HCI_31, Kg10_30_31, ⟨HXV_31.out.tail.tail⟩, ⟨HLR.out⟩⟩
            | some d =>
              obtain ⟨h1, h1H⟩ : ∃ q, Aside0 (hits + 1 = q) := ⟨_, ⟨rfl⟩⟩
              obtain ⟨L1, HL1⟩ : ∃ q, Aside0 ((x.f1, d) :: fwo x.f1 L = q) := ⟨_, ⟨rfl⟩⟩
              go_upto_region 10 with fail
              refine Flow.seqT_head (E := fun u v => Below u.heap.size u v) 3 [(some 42, []), (some 43, []), (some 44, [1]), (some 45, [0, 2]), (some 41, [3]), (some 46, [4]), (some 47, [4]), (some 9, [5, 3, 0, 1, 2, 3, 4, 5]), (some 10, [6, 7, 0, 1, 2, 3, 4, 5, 6, 7])] (fun iQ vQ wQ => match iQ with | 0 => vQ = (.pointer (some ⟨gC, 0, none⟩)) | 1 => vQ = (.pointer (some ⟨g16, 1, none⟩)) | 2 => vQ = (.agg #[.int .i64 x.f1.f0, .int .i64 x.f1.f1, .int .i64 x.f1.f2]) | _ => True) rfl (by decide) (by kernel_rfl) (Below.refl _ _) (fun _ _ _ h k => h.trans (k.mono h.size)) (fun _ _ _ _ h _ => h) ?_ ?_
              · refine ⟨?_, ?_, ?_, trivial⟩
                · intro a w' hx hu hd K hK; have e5 : a.tmps.getD 5 undef = (.pointer (some ⟨gC, 0, none⟩)) := hu 5 rfl; exact Flow.run1 rfl (Flow.r_move rfl e5) (hK _ _ (Below.refl _ _) rfl)
                · intro a w' hx hu hd K hK; have e8 : a.tmps.getD 8 undef = (.pointer (some ⟨g16, 0, none⟩)) := hu 8 rfl; exact Flow.run1 rfl (fa rfl e8 (fa38_1 _ _ _)) (hK _ _ (Below.refl _ _) rfl)
                · intro a w' hx hu hd K hK; have e43 := Flow.got (hd 1 rfl) 43 rfl; exact Flow.run1 rfl (ldrow (c := [.int .i64 x.f1.f0, .int .i64 x.f1.f1, .int .i64 x.f1.f2]) rfl e43 (lies_part (blk_below Kg16_17_18_19.out hx) rfl) Try.underlying36 rfl size36) (hK _ _ (Below.refl _ _) rfl)
              intro vs W32 hb32 hT
              have v0 := Flow.eqn (hT 0 (by decide))
              have v1 := Flow.eqn (hT 1 (by decide))
              have v2 := Flow.eqn (hT 2 (by decide))
              simp only [Flow.putsT, v0, v1, v2, Act.put, List.setIfInBounds_toArray, List.set_cons_zero, List.set_cons_succ, List.drop_succ_cons, List.drop_zero, List.take_succ_cons, List.take_zero]
              clear hT v0 v1 v2
              have HB32 := Aside0.mk (below_step HB19.out hb32)
              have HCI_32 := Aside0.mk (CI.below HCI_19.out hb32)
              have HXV_32 := Aside0.mk (XV.below HXV_19.out hb32)
              have KR_14_15_16_17_18_19_32 := Aside0.mk (blk_below KR_14_15_16_17_18_19.out hb32)
              have Kg16_17_18_19_32 := Aside0.mk (blk_below Kg16_17_18_19.out hb32)
              clear hb32
              refine ecall rfl rfl Try.func19 (by kernel_rfl) rfl (args := #[.pointer (some ⟨gC, 0, none⟩), .agg #[.int .i64 x.f1.f0, .int .i64 x.f1.f1, .int .i64 x.f1.f2]]) (by first | (simp only [List.map_toArray, List.map_cons, List.map_nil, Act.eval]; done) | (simp only [List.map_toArray, List.map_cons, List.map_nil, Act.eval]; rfl)) (get_some_i x.f1 HGx.out d L1 _ HCI_32.out (by omega) HFO.out HL1.out) ?_
              rintro e W33 ⟨vg, rfl, hrv33, hci33, hkb33⟩
              refine ⟨_, rfl, ?_⟩
              rw [h1H.out] at hci33
              have HXV_33 := Aside0.mk (XV.kb HXV_32.out (by simp) (by simp) hkb33)
              have KR_14_15_16_17_18_19_32_33 := Aside0.mk (hkb33.blk KR_14_15_16_17_18_19_32.out (HCI_32.out.apart KR_14_15_16_17_18_19_32.out (by decide)))
              have Kg16_17_18_19_32_33 := Aside0.mk (hkb33.blk Kg16_17_18_19_32.out (HCI_32.out.apart Kg16_17_18_19_32.out (by decide)))
              have HB33 := Aside0.mk (below_kb HB32.out (Nat.le_refl _) hkb33 HGC.out HGM.out)
              have HCI_33 := Aside0.mk hci33
              obtain ⟨Ag, cg, rfl⟩ := u8R.slice (u8R.of hrv33)
              have HU8_33 := Aside0.mk (u8R.of hrv33)
              clear hrv33
              clear hci33 hkb33
              simp only [Act.put, List.setIfInBounds_toArray, List.set_cons_zero, List.set_cons_succ]
              refine Flow.seqL (E := fun u v => Below u.heap.size u v) 4 5 [(some 42, []), (some 43, []), (some 44, [1]), (some 45, [0, 2]), (some 41, [3]), (some 46, [4]), (some 47, [4]), (some 9, [5, 3, 0, 1, 2, 3, 4, 5]), (some 10, [6, 7, 0, 1, 2, 3, 4, 5, 6, 7])] (fun iQ vQ wQ => match iQ with | 4 => vQ = (.tuple #[.slice Ag d.length cg, .bool true]) | 5 => vQ = (.slice Ag d.length cg) | 6 => vQ = (.bool true) | 7 => vQ = (.slice Ag d.length cg) | 8 => vQ = (.bool true) | _ => True) rfl (by decide) (by kernel_rfl) (Below.refl _ _) (fun _ _ _ h k => h.trans (k.mono h.size)) (fun _ _ _ _ h _ => h) ?_ ?_
              · refine ⟨?_, ?_, ?_, ?_, ?_, trivial⟩
                · intro a w' hx hu hd K hK; have e45 : a.tmps.getD 45 undef = (.tuple #[.slice Ag d.length cg, .bool true]) := hu 45 rfl; exact Flow.run1 rfl (Flow.r_move rfl e45) (hK _ _ (Below.refl _ _) rfl)
                · intro a w' hx hu hd K hK; have e41 := Flow.got (hd 4 rfl) 41 rfl; exact Flow.run1 rfl (extr rfl e41 rfl) (hK _ _ (Below.refl _ _) rfl)
                · intro a w' hx hu hd K hK; have e41 := Flow.got (hd 4 rfl) 41 rfl; exact Flow.run1 rfl (extr rfl e41 rfl) (hK _ _ (Below.refl _ _) rfl)
                · intro a w' hx hu hd K hK; have e46 := Flow.got (hd 5 rfl) 46 rfl; exact Flow.run1 rfl (Flow.r_assign rfl e46) (hK _ _ (Below.refl _ _) rfl)
                · intro a w' hx hu hd K hK; have e47 := Flow.got (hd 6 rfl) 47 rfl; exact Flow.run1 rfl (Flow.r_assign rfl e47) (hK _ _ (Below.refl _ _) rfl)
              intro vs W34 hb34 hT
              have v4 := Flow.eqn (hT 4 (by decide) (by decide))
              have v5 := Flow.eqn (hT 5 (by decide) (by decide))
              have v6 := Flow.eqn (hT 6 (by decide) (by decide))
              have v7 := Flow.eqn (hT 7 (by decide) (by decide))
              have v8 := Flow.eqn (hT 8 (by decide) (by decide))
              simp only [Flow.putsT, v4, v5, v6, v7, v8, Act.put, List.setIfInBounds_toArray, List.set_cons_zero, List.set_cons_succ, List.drop_succ_cons, List.drop_zero, List.take_succ_cons, List.take_zero]
              clear hT v4 v5 v6 v7 v8
              have HB34 := Aside0.mk (below_step HB33.out hb34)
              have HCI_34 := Aside0.mk (CI.below HCI_33.out hb34)
              have HXV_34 := Aside0.mk (XV.below HXV_33.out hb34)
              have HU8_34 := Aside0.mk (u8R.below HU8_33.out hb34)
              have KR_14_15_16_17_18_19_32_33_34 := Aside0.mk (blk_below KR_14_15_16_17_18_19_32_33.out hb34)
              have Kg16_17_18_19_32_33_34 := Aside0.mk (blk_below Kg16_17_18_19_32_33.out hb34)
              clear hb34
              go_upto_region 11 with fail
              refine Flow.seqT_head (E := fun u v => Below u.heap.size u v) 3 [(some 49, []), (some 50, []), (some 51, [1]), (some 52, [0, 2]), (some 48, [3]), (some 53, [4]), (some 54, [4]), (some 55, [4]), (some 11, []), (none, [8, 5, 3, 0, 1, 2, 3, 4, 5, 8]), (some 12, [6, 9, 0, 1, 2, 3, 4, 5, 6, 8, 9]), (some 13, [7, 10, 0, 1, 2, 3, 4, 5, 6, 7, 8, 9, 10])] (fun iQ vQ wQ => match iQ with | 0 => vQ = (.agg #[.slice Av nL cv, .int .i64 r, .int .i64 hits, .int .i64 misses]) | 1 => vQ = (.pointer (some ⟨g16, 1, none⟩)) | 2 => vQ = (.agg #[.int .i64 x.f1.f0, .int .i64 x.f1.f1, .int .i64 x.f1.f2]) | _ => True) rfl (by decide) (by kernel_rfl) (Below.refl _ _) (fun _ _ _ h k => h.trans (k.mono h.size)) (fun _ _ _ _ h _ => h) ?_ ?_
              · refine ⟨?_, ?_, ?_, trivial⟩
                · intro a w' hx hu hd K hK; have e6 : a.tmps.getD 6 undef = (.pointer (some ⟨g10, 0, none⟩)) := hu 6 rfl; exact Flow.run1 rfl (ldrow rfl e6 (lies_block (blk_below KR_14_15_16_17_18_19_32_33_34.out hx)) Try.underlying45 rfl size45) (hK _ _ (Below.refl _ _) rfl)
                · intro a w' hx hu hd K hK; have e8 : a.tmps.getD 8 undef = (.pointer (some ⟨g16, 0, none⟩)) := hu 8 rfl; exact Flow.run1 rfl (fa rfl e8 (fa38_1 _ _ _)) (hK _ _ (Below.refl _ _) rfl)
                · intro a w' hx hu hd K hK; have e50 := Flow.got (hd 1 rfl) 50 rfl; exact Flow.run1 rfl (ldrow (c := [.int .i64 x.f1.f0, .int .i64 x.f1.f1, .int .i64 x.f1.f2]) rfl e50 (lies_part (blk_below Kg16_17_18_19_32_33_34.out hx) rfl) Try.underlying36 rfl size36) (hK _ _ (Below.refl _ _) rfl)
              intro vs W35 hb35 hT
              have v0 := Flow.eqn (hT 0 (by decide))
              have v1 := Flow.eqn (hT 1 (by decide))
              have v2 := Flow.eqn (hT 2 (by decide))
              simp only [Flow.putsT, v0, v1, v2, Act.put, List.setIfInBounds_toArray, List.set_cons_zero, List.set_cons_succ, List.drop_succ_cons, List.drop_zero, List.take_succ_cons, List.take_zero]
              clear hT v0 v1 v2
              have HB35 := Aside0.mk (below_step HB34.out hb35)
              have HCI_35 := Aside0.mk (CI.below HCI_34.out hb35)
              have HXV_35 := Aside0.mk (XV.below HXV_34.out hb35)
              have HU8_35 := Aside0.mk (u8R.below HU8_34.out hb35)
              have KR_14_15_16_17_18_19_32_33_34_35 := Aside0.mk (blk_below KR_14_15_16_17_18_19_32_33_34.out hb35)
              have Kg16_17_18_19_32_33_34_35 := Aside0.mk (blk_below Kg16_17_18_19_32_33_34.out hb35)
              clear hb35
              refine ecall rfl rfl Try.func22 (by kernel_rfl) rfl (args := #[.agg #[.slice Av nL cv, .int .i64 r, .int .i64 hits, .int .i64 misses], .agg #[.int .i64 x.f1.f0, .int .i64 x.f1.f1, .int .i64 x.f1.f2]]) (by first | (simp only [List.map_toArray, List.map_cons, List.map_nil, Act.eval]; done) | (simp only [List.map_toArray, List.map_cons, List.map_nil, Act.eval]; rfl)) (rget_some r hits misses _ HXV_35.out (by intro j hj; simp only [List.mem_cons, List.not_mem_nil, or_false] at hj; exact (fun h => h.elim (fun h => h ▸ blk_lt Kg16_17_18_19_32_33_34_35.out) (fun h => h.elim (fun h => h ▸ blk_lt KR_14_15_16_17_18_19_32_33_34_35.out) (fun h => h.elim (fun h => h ▸ HCI_35.out.lt.1) (fun h => h ▸ HCI_35.out.lt.2)))) hj) (by omega) (by omega) HFO.out) ?_
              rintro e W36 ⟨v1, rfl, hxv36, hb36⟩
              refine ⟨_, rfl, ?_⟩
              rw [h1H.out]
              rw [HL1.out] at hxv36
              obtain ⟨A1, c1, rfl⟩ := hxv36.slice
              have HCI_36 := Aside0.mk (CI.below HCI_35.out hb36)
              have HU8_36 := Aside0.mk (u8R.below HU8_35.out hb36)
              have KR_14_15_16_17_18_19_32_33_34_35_36 := Aside0.mk (blk_below KR_14_15_16_17_18_19_32_33_34_35.out hb36)
              have Kg16_17_18_19_32_33_34_35_36 := Aside0.mk (blk_below Kg16_17_18_19_32_33_34_35.out hb36)
              have HB36 := Aside0.mk (below_step HB35.out hb36)
              have HXV_36 := Aside0.mk hxv36
              clear hxv36 hb36
              simp only [Act.put, List.setIfInBounds_toArray, List.set_cons_zero, List.set_cons_succ]
              refine Flow.seqL (E := fun u v => Below u.heap.size u v) 4 4 [(some 49, []), (some 50, []), (some 51, [1]), (some 52, [0, 2]), (some 48, [3]), (some 53, [4]), (some 54, [4]), (some 55, [4]), (some 11, []), (none, [8, 5, 3, 0, 1, 2, 3, 4, 5, 8]), (some 12, [6, 9, 0, 1, 2, 3, 4, 5, 6, 8, 9]), (some 13, [7, 10, 0, 1, 2, 3, 4, 5, 6, 7, 8, 9, 10])] (fun iQ vQ wQ => match iQ with | 4 => vQ = (.tuple #[.agg #[.slice A1 L1.length c1, .int .i64 r, .int .i64 h1, .int .i64 misses], .string (strOfNums d), .bool true]) | 5 => vQ = (.agg #[.slice A1 L1.length c1, .int .i64 r, .int .i64 h1, .int .i64 misses]) | 6 => vQ = (.string (strOfNums d)) | 7 => vQ = (.bool true) | _ => True) rfl (by decide) (by kernel_rfl) (Below.refl _ _) (fun _ _ _ h k => h.trans (k.mono h.size)) (fun _ _ _ _ h _ => h) ?_ ?_
              · refine ⟨?_, ?_, ?_, ?_, trivial⟩
                · intro a w' hx hu hd K hK; have e52 : a.tmps.getD 52 undef = (.tuple #[.agg #[.slice A1 L1.length c1, .int .i64 r, .int .i64 h1, .int .i64 misses], .string (strOfNums d), .bool true]) := hu 52 rfl; exact Flow.run1 rfl (Flow.r_move rfl e52) (hK _ _ (Below.refl _ _) rfl)
                · intro a w' hx hu hd K hK; have e48 := Flow.got (hd 4 rfl) 48 rfl; exact Flow.run1 rfl (extr rfl e48 rfl) (hK _ _ (Below.refl _ _) rfl)
                · intro a w' hx hu hd K hK; have e48 := Flow.got (hd 4 rfl) 48 rfl; exact Flow.run1 rfl (extr rfl e48 rfl) (hK _ _ (Below.refl _ _) rfl)
                · intro a w' hx hu hd K hK; have e48 := Flow.got (hd 4 rfl) 48 rfl; exact Flow.run1 rfl (extr rfl e48 rfl) (hK _ _ (Below.refl _ _) rfl)
              intro vs W37 hb37 hT
              have v4 := Flow.eqn (hT 4 (by decide) (by decide))
              have v5 := Flow.eqn (hT 5 (by decide) (by decide))
              have v6 := Flow.eqn (hT 6 (by decide) (by decide))
              have v7 := Flow.eqn (hT 7 (by decide) (by decide))
              simp only [Flow.putsT, v4, v5, v6, v7, Act.put, List.setIfInBounds_toArray, List.set_cons_zero, List.set_cons_succ, List.drop_succ_cons, List.drop_zero, List.take_succ_cons, List.take_zero]
              clear hT v4 v5 v6 v7
              have HB37 := Aside0.mk (below_step HB36.out hb37)
              have HCI_37 := Aside0.mk (CI.below HCI_36.out hb37)
              have HU8_37 := Aside0.mk (u8R.below HU8_36.out hb37)
              have HXV_37 := Aside0.mk (XV.below HXV_36.out hb37)
              have KR_14_15_16_17_18_19_32_33_34_35_36_37 := Aside0.mk (blk_below KR_14_15_16_17_18_19_32_33_34_35_36.out hb37)
              have Kg16_17_18_19_32_33_34_35_36_37 := Aside0.mk (blk_below Kg16_17_18_19_32_33_34_35_36.out hb37)
              clear hb37
              refine ealloc rfl rfl zero45_is ?_
              intro g38 hg38 W38 hk38 hb38
              have Kg38 := Aside0.mk hk38
              have Ng38_g10 := Aside0.mk (show g10 ≠ g38 by have := (Array.getElem?_eq_some_iff.1 KR_14_15_16_17_18_19_32_33_34_35_36_37.out).1; omega)
              have Ng10_g38 := Aside0.mk (Ne.symm Ng38_g10.out)
              have Ng38_g16 := Aside0.mk (show g16 ≠ g38 by have := (Array.getElem?_eq_some_iff.1 Kg16_17_18_19_32_33_34_35_36_37.out).1; omega)
              have Ng16_g38 := Aside0.mk (Ne.symm Ng38_g16.out)
              have HXV_e38 := Aside0.mk (XV.elder HXV_37.out g38 (by rw [hg38]; exact Nat.le_refl _))
              have HB38 := Aside0.mk (below_step HB37.out hb38)
              have HCI_38 := Aside0.mk (CI.below HCI_37.out hb38)
              have HU8_38 := Aside0.mk (u8R.below HU8_37.out hb38)
              have HXV_38 := Aside0.mk (XV.below HXV_e38.out hb38)
              have KR_14_15_16_17_18_19_32_33_34_35_36_37_38 := Aside0.mk (blk_below KR_14_15_16_17_18_19_32_33_34_35_36_37.out hb38)
              have Kg16_17_18_19_32_33_34_35_36_37_38 := Aside0.mk (blk_below Kg16_17_18_19_32_33_34_35_36_37.out hb38)
              clear hb38
              have Gg38 := Aside0.mk (show w.heap.size ≤ g38 by rw [hg38]; exact HB37.out.size)
              clear hg38 hk38
              simp only [Act.put, List.setIfInBounds_toArray, List.set_cons_zero, List.set_cons_succ]
              refine Cells.store_whole rfl rfl 45 _ _ rfl g38 [.slice A1 L1.length c1, .int .i64 r, .int .i64 h1, .int .i64 misses] #[.slice none 0 0, .int .i64 0, .int .i64 0, .int .i64 0] rfl rfl Kg38.out rfl size45 rfl ?_
              intro W39 hk39 hf39 hb39
              have HCI_39 := Aside0.mk (CI.far HCI_38.out Kg38.out (by decide) (by decide) hf39)
              have HU8_39 := Aside0.mk (u8R.far HU8_38.out Kg38.out (by decide) hf39)
              have HXV_39 := Aside0.mk (XV.store HXV_38.out (by simp) hf39)
              have HB39 := Aside0.mk (HB38.out.trans (hb39 _ Gg38.out))
              have KR_14_15_16_17_18_19_32_33_34_35_36_37_38_39 := Aside0.mk ((hf39 _ Ng38_g10.out).trans KR_14_15_16_17_18_19_32_33_34_35_36_37_38.out)
              have Kg16_17_18_19_32_33_34_35_36_37_38_39 := Aside0.mk ((hf39 _ Ng38_g16.out).trans Kg16_17_18_19_32_33_34_35_36_37_38.out)
              have Kg38_39 := Aside0.mk hk39
              clear hk39 hf39 hb39
              refine Flow.seqL (E := fun u v => Below u.heap.size u v) 10 2 [(some 49, []), (some 50, []), (some 51, [1]), (some 52, [0, 2]), (some 48, [3]), (some 53, [4]), (some 54, [4]), (some 55, [4]), (some 11, []), (none, [8, 5, 3, 0, 1, 2, 3, 4, 5, 8]), (some 12, [6, 9, 0, 1, 2, 3, 4, 5, 6, 8, 9]), (some 13, [7, 10, 0, 1, 2, 3, 4, 5, 6, 7, 8, 9, 10])] (fun iQ vQ wQ => match iQ with | 10 => vQ = (.string (strOfNums d)) | 11 => vQ = (.bool true) | _ => True) rfl (by decide) (by kernel_rfl) (Below.refl _ _) (fun _ _ _ h k => h.trans (k.mono h.size)) (fun _ _ _ _ h _ => h) ?_ ?_
              · refine ⟨?_, ?_, trivial⟩
                · intro a w' hx hu hd K hK; have e54 : a.tmps.getD 54 undef = (.string (strOfNums d)) := hu 54 rfl; exact Flow.run1 rfl (Flow.r_assign rfl e54) (hK _ _ (Below.refl _ _) rfl)
                · intro a w' hx hu hd K hK; have e55 : a.tmps.getD 55 undef = (.bool true) := hu 55 rfl; exact Flow.run1 rfl (Flow.r_assign rfl e55) (hK _ _ (Below.refl _ _) rfl)
              intro vs W40 hb40 hT
              have v10 := Flow.eqn (hT 10 (by decide) (by decide))
              have v11 := Flow.eqn (hT 11 (by decide) (by decide))
              simp only [Flow.putsT, v10, v11, Act.put, List.setIfInBounds_toArray, List.set_cons_zero, List.set_cons_succ, List.drop_succ_cons, List.drop_zero, List.take_succ_cons, List.take_zero]
              clear hT v10 v11
              have HB40 := Aside0.mk (below_step HB39.out hb40)
              have HCI_40 := Aside0.mk (CI.below HCI_39.out hb40)
              have HU8_40 := Aside0.mk (u8R.below HU8_39.out hb40)
              have HXV_40 := Aside0.mk (XV.below HXV_39.out hb40)
              have KR_14_15_16_17_18_19_32_33_34_35_36_37_38_39_40 := Aside0.mk (blk_below KR_14_15_16_17_18_19_32_33_34_35_36_37_38_39.out hb40)
              have Kg16_17_18_19_32_33_34_35_36_37_38_39_40 := Aside0.mk (blk_below Kg16_17_18_19_32_33_34_35_36_37_38_39.out hb40)
              have Kg38_39_40 := Aside0.mk (blk_below Kg38_39.out hb40)
              clear hb40
              go_upto_region 12 with fail
              refine Flow.seqT_head (E := fun u v => Below u.heap.size u v) 1 [(some 56, []), (none, [0, 0])] (fun iQ vQ wQ => match iQ with | 0 => vQ = (.agg #[.slice A1 L1.length c1, .int .i64 r, .int .i64 h1, .int .i64 misses]) | _ => True) rfl (by decide) (by kernel_rfl) (Below.refl _ _) (fun _ _ _ h k => h.trans (k.mono h.size)) (fun _ _ _ _ h _ => h) ?_ ?_
              · refine ⟨?_, trivial⟩
                · intro a w' hx hu hd K hK; have e11 : a.tmps.getD 11 undef = (.pointer (some ⟨g38, 0, none⟩)) := hu 11 rfl; exact Flow.run1 rfl (ldrow rfl e11 (lies_block (blk_below Kg38_39_40.out hx)) Try.underlying45 rfl size45) (hK _ _ (Below.refl _ _) rfl)
              intro vs W41 hb41 hT
              have v0 := Flow.eqn (hT 0 (by decide))
              simp only [Flow.putsT, v0, Act.put, List.setIfInBounds_toArray, List.set_cons_zero, List.set_cons_succ, List.drop_succ_cons, List.drop_zero, List.take_succ_cons, List.take_zero]
              clear hT v0
              have HB41 := Aside0.mk (below_step HB40.out hb41)
              have HCI_41 := Aside0.mk (CI.below HCI_40.out hb41)
              have HU8_41 := Aside0.mk (u8R.below HU8_40.out hb41)
              have HXV_41 := Aside0.mk (XV.below HXV_40.out hb41)
              have KR_14_15_16_17_18_19_32_33_34_35_36_37_38_39_40_41 := Aside0.mk (blk_below KR_14_15_16_17_18_19_32_33_34_35_36_37_38_39_40.out hb41)
              have Kg16_17_18_19_32_33_34_35_36_37_38_39_40_41 := Aside0.mk (blk_below Kg16_17_18_19_32_33_34_35_36_37_38_39_40.out hb41)
              have Kg38_39_40_41 := Aside0.mk (blk_below Kg38_39_40.out hb41)
              clear hb41
              refine Cells.store_whole rfl rfl 45 _ _ rfl g10 [.slice A1 L1.length c1, .int .i64 r, .int .i64 h1, .int .i64 misses] #[.slice Av nL cv, .int .i64 r, .int .i64 hits, .int .i64 misses] rfl rfl KR_14_15_16_17_18_19_32_33_34_35_36_37_38_39_40_41.out rfl size45 rfl ?_
              intro W42 hk42 hf42 hb42
              have HCI_42 := Aside0.mk (CI.far HCI_41.out KR_14_15_16_17_18_19_32_33_34_35_36_37_38_39_40_41.out (by decide) (by decide) hf42)
              have HU8_42 := Aside0.mk (u8R.far HU8_41.out KR_14_15_16_17_18_19_32_33_34_35_36_37_38_39_40_41.out (by decide) hf42)
              have HXV_42 := Aside0.mk (XV.store HXV_41.out (by simp) hf42)
              have HB42 := Aside0.mk (HB41.out.trans (hb42 _ Gg10.out))
              have Kg16_17_18_19_32_33_34_35_36_37_38_39_40_41_42 := Aside0.mk ((hf42 _ Ng10_g16.out).trans Kg16_17_18_19_32_33_34_35_36_37_38_39_40_41.out)
              have Kg38_39_40_41_42 := Aside0.mk ((hf42 _ Ng10_g38.out).trans Kg38_39_40_41.out)
              have Kg10_42 := Aside0.mk hk42
              clear hk42 hf42 hb42
              go_upto_region 13 with fail
              refine Flow.seqT (E := fun u v => Below u.heap.size u v) [(some 57, []), (some 58, [0]), (some 59, []), (some 60, [1, 2]), (some 61, [3]), (some 62, [4]), (some 63, [4]), (some 64, [5, 6, 4]), (some 65, [4, 7])] (fun iQ vQ wQ => match iQ with | 0 => vQ = (.slice Ag d.length cg) | 1 => vQ = (.string (strOfNums d)) | 2 => vQ = (.string (strOfNums d)) | 3 => vQ = (.bool false) | 4 => vQ = (.bool false) | 5 => vQ = (.bool true) | 6 => vQ = (.bool true) | 7 => vQ = (.bool false) | 8 => vQ = (.bool false) | _ => True) rfl (by kernel_rfl) (Below.refl _ _) (fun _ _ _ h k => h.trans (k.mono h.size)) (fun _ _ _ _ h _ => h) ?_ ?_
              · refine ⟨?_, ?_, ?_, ?_, ?_, ?_, ?_, ?_, ?_, trivial⟩
                · intro a w' hx hu hd K hK; have e9 : a.tmps.getD 9 undef = (.slice Ag d.length cg) := hu 9 rfl; exact Flow.run1 rfl (Flow.r_move rfl e9) (hK _ _ (Below.refl _ _) rfl)
                · intro a w' hx hu hd K hK; have e57 := Flow.got (hd 0 rfl) 57 rfl; exact Flow.run1 rfl (cvs rfl e57 (Kd.C_string Try.underlying27 Try.underlying5 Try.underlying9 (Kd.R_reads' (u8R.below HU8_42.out hx)).2.2)) (hK _ _ (Below.refl _ _) rfl)
                · intro a w' hx hu hd K hK; have e12 : a.tmps.getD 12 undef = (.string (strOfNums d)) := hu 12 rfl; exact Flow.run1 rfl (Flow.r_move rfl e12) (hK _ _ (Below.refl _ _) rfl)
                · intro a w' hx hu hd K hK; have e58 := Flow.got (hd 1 rfl) 58 rfl; have e59 := Flow.got (hd 2 rfl) 59 rfl; exact Flow.run1 rfl (sneq rfl e58 e59 (bne_self_eq_false _)) (hK _ _ (Below.refl _ _) rfl)
                · intro a w' hx hu hd K hK; have e60 := Flow.got (hd 3 rfl) 60 rfl; exact Flow.run1 rfl (Flow.r_move rfl e60) (hK _ _ (Below.refl _ _) rfl)
                · intro a w' hx hu hd K hK; have e10 : a.tmps.getD 10 undef = (.bool true) := hu 10 rfl; have e61 := Flow.got (hd 4 rfl) 61 rfl; exact Flow.run1 (Flow.want_of (k := 61) rfl e61) (Flow.r_move rfl e10) (hK _ _ (Below.refl _ _) rfl)
                · intro a w' hx hu hd K hK; have e13 : a.tmps.getD 13 undef = (.bool true) := hu 13 rfl; have e61 := Flow.got (hd 4 rfl) 61 rfl; exact Flow.run1 (Flow.want_of (k := 61) rfl e61) (Flow.r_move rfl e13) (hK _ _ (Below.refl _ _) rfl)
                · intro a w' hx hu hd K hK; have e62 := Flow.got (hd 5 rfl) 62 rfl; have e63 := Flow.got (hd 6 rfl) 63 rfl; have e61 := Flow.got (hd 4 rfl) 61 rfl; exact Flow.run1 (Flow.want_of (k := 61) rfl e61) (bneb Try.underlying4 rfl e62 e63) (hK _ _ (Below.refl _ _) rfl)
                · intro a w' hx hu hd K hK; have e61 := Flow.got (hd 4 rfl) 61 rfl; have e64 := Flow.got (hd 7 rfl) 64 rfl; exact Flow.run1 rfl (Flow.r_pick rfl e61 e64) (hK _ _ (Below.refl _ _) rfl)
              intro vs W43 hb43 hT
              have v0 := Flow.eqn (hT 0 (by decide))
              have v1 := Flow.eqn (hT 1 (by decide))
              have v2 := Flow.eqn (hT 2 (by decide))
              have v3 := Flow.eqn (hT 3 (by decide))
              have v4 := Flow.eqn (hT 4 (by decide))
              have v5 := Flow.eqn (hT 5 (by decide))
              have v6 := Flow.eqn (hT 6 (by decide))
              have v7 := Flow.eqn (hT 7 (by decide))
              have v8 := Flow.eqn (hT 8 (by decide))
              simp only [Flow.putsT, v0, v1, v2, v3, v4, v5, v6, v7, v8, Act.put, List.setIfInBounds_toArray, List.set_cons_zero, List.set_cons_succ]
              clear hT v0 v1 v2 v3 v4 v5 v6 v7 v8
              have HB43 := Aside0.mk (below_step HB42.out hb43)
              have HCI_43 := Aside0.mk (CI.below HCI_42.out hb43)
              have HU8_43 := Aside0.mk (u8R.below HU8_42.out hb43)
              have HXV_43 := Aside0.mk (XV.below HXV_42.out hb43)
              have Kg16_17_18_19_32_33_34_35_36_37_38_39_40_41_42_43 := Aside0.mk (blk_below Kg16_17_18_19_32_33_34_35_36_37_38_39_40_41_42.out hb43)
              have Kg38_39_40_41_42_43 := Aside0.mk (blk_below Kg38_39_40_41_42.out hb43)
              have Kg10_42_43 := Aside0.mk (blk_below Kg10_42.out hb43)
              clear hb43
              go_wp2_with fail
              go_meet
              exact ⟨HB43, _, _, _, _, HCI_43, Kg10_42_43, ⟨HXV_43.out.tail.tail⟩, ⟨by have := HLR.out; rw [← HL1.out, List.length_cons]; have := fwo_lt HFO.out; omega⟩⟩
          · have HD0 := Aside0.mk hd0
            clear hd0
            go_upto_region 9 with fail
            refine Flow.seqT (E := fun u v => Below u.heap.size u v) [(some 40, []), (some 39, [0])] (fun iQ vQ wQ => match iQ with | 0 => vQ = (.bool false) | 1 => vQ = (.bool false) | _ => True) rfl (by kernel_rfl) (Below.refl _ _) (fun _ _ _ h k => h.trans (k.mono h.size)) (fun _ _ _ _ h _ => h) ?_ ?_
            · refine ⟨?_, ?_, trivial⟩
              · intro a w' hx hu hd K hK; have e38 : a.tmps.getD 38 undef = (.int .i64 x.f0) := hu 38 rfl; exact Flow.run1 rfl (no (eql rfl e38 rfl) (beq_eq_false_iff_ne.2 HD0.out)) (hK _ _ (Below.refl _ _) rfl)
              · intro a w' hx hu hd K hK; have e40 := Flow.got (hd 0 rfl) 40 rfl; exact Flow.run1 rfl (Flow.r_assign rfl e40) (hK _ _ (Below.refl _ _) rfl)
            intro vs W44 hb44 hT
            have v0 := Flow.eqn (hT 0 (by decide))
            have v1 := Flow.eqn (hT 1 (by decide))
            simp only [Flow.putsT, v0, v1, Act.put, List.setIfInBounds_toArray, List.set_cons_zero, List.set_cons_succ]
            clear hT v0 v1
            have HB44 := Aside0.mk (below_step HB18.out hb44)
            have HCI_44 := Aside0.mk (CI.below HCI_18.out hb44)
            have HXV_44 := Aside0.mk (XV.below HXV_18.out hb44)
            have KR_14_15_16_17_18_44 := Aside0.mk (blk_below KR_14_15_16_17_18.out hb44)
            have Kg16_17_18_44 := Aside0.mk (blk_below Kg16_17_18.out hb44)
            clear hb44
            by_cases hd1 : x.f0 = 1
            · have HD1 := Aside0.mk hd1
              clear hd1
              go_upto_region 15 with fail
              refine Flow.seqT (E := fun u v => Below u.heap.size u v) [(some 67, []), (some 66, [0])] (fun iQ vQ wQ => match iQ with | 0 => vQ = (.bool true) | 1 => vQ = (.bool true) | _ => True) rfl (by kernel_rfl) (Below.refl _ _) (fun _ _ _ h k => h.trans (k.mono h.size)) (fun _ _ _ _ h _ => h) ?_ ?_
              · refine ⟨?_, ?_, trivial⟩
                · intro a w' hx hu hd K hK; have e38 : a.tmps.getD 38 undef = (.int .i64 x.f0) := hu 38 rfl; exact Flow.run1 rfl (yes (eql rfl e38 rfl) (beq_iff_eq.2 HD1.out)) (hK _ _ (Below.refl _ _) rfl)
                · intro a w' hx hu hd K hK; have e67 := Flow.got (hd 0 rfl) 67 rfl; exact Flow.run1 rfl (Flow.r_assign rfl e67) (hK _ _ (Below.refl _ _) rfl)
              intro vs W45 hb45 hT
              have v0 := Flow.eqn (hT 0 (by decide))
              have v1 := Flow.eqn (hT 1 (by decide))
              simp only [Flow.putsT, v0, v1, Act.put, List.setIfInBounds_toArray, List.set_cons_zero, List.set_cons_succ]
              clear hT v0 v1
              have HB45 := Aside0.mk (below_step HB44.out hb45)
              have HCI_45 := Aside0.mk (CI.below HCI_44.out hb45)
              have HXV_45 := Aside0.mk (XV.below HXV_44.out hb45)
              have KR_14_15_16_17_18_44_45 := Aside0.mk (blk_below KR_14_15_16_17_18_44.out hb45)
              have Kg16_17_18_44_45 := Aside0.mk (blk_below Kg16_17_18_44.out hb45)
              clear hb45
              obtain ⟨L1, HL1⟩ : ∃ q, Aside0 (putL r x.f1 x.f2 L = q) := ⟨_, ⟨rfl⟩⟩
              go_upto_region 16 with fail
              refine Flow.seqT_head (E := fun u v => Below u.heap.size u v) 5 [(some 68, []), (some 69, []), (some 70, [1]), (some 71, []), (some 72, [3]), (some 73, [0, 2, 4])] (fun iQ vQ wQ => match iQ with | 0 => vQ = (.pointer (some ⟨gC, 0, none⟩)) | 1 => vQ = (.pointer (some ⟨g16, 1, none⟩)) | 2 => vQ = (.agg #[.int .i64 x.f1.f0, .int .i64 x.f1.f1, .int .i64 x.f1.f2]) | 3 => vQ = (.pointer (some ⟨g16, 4, none⟩)) | 4 => vQ = (.slice Bx nbx cbx) | _ => True) rfl (by decide) (by kernel_rfl) (Below.refl _ _) (fun _ _ _ h k => h.trans (k.mono h.size)) (fun _ _ _ _ h _ => h) ?_ ?_
              · refine ⟨?_, ?_, ?_, ?_, ?_, trivial⟩
                · intro a w' hx hu hd K hK; have e5 : a.tmps.getD 5 undef = (.pointer (some ⟨gC, 0, none⟩)) := hu 5 rfl; exact Flow.run1 rfl (Flow.r_move rfl e5) (hK _ _ (Below.refl _ _) rfl)
                · intro a w' hx hu hd K hK; have e8 : a.tmps.getD 8 undef = (.pointer (some ⟨g16, 0, none⟩)) := hu 8 rfl; exact Flow.run1 rfl (fa rfl e8 (fa38_1 _ _ _)) (hK _ _ (Below.refl _ _) rfl)
                · intro a w' hx hu hd K hK; have e69 := Flow.got (hd 1 rfl) 69 rfl; exact Flow.run1 rfl (ldrow (c := [.int .i64 x.f1.f0, .int .i64 x.f1.f1, .int .i64 x.f1.f2]) rfl e69 (lies_part (blk_below Kg16_17_18_44_45.out hx) rfl) Try.underlying36 rfl size36) (hK _ _ (Below.refl _ _) rfl)
                · intro a w' hx hu hd K hK; have e8 : a.tmps.getD 8 undef = (.pointer (some ⟨g16, 0, none⟩)) := hu 8 rfl; exact Flow.run1 rfl (fa rfl e8 (fa38_2 _ _ _)) (hK _ _ (Below.refl _ _) rfl)
                · intro a w' hx hu hd K hK; have e71 := Flow.got (hd 3 rfl) 71 rfl; exact Flow.run1 rfl (ld rfl e71 ((blk_cell (blk_below Kg16_17_18_44_45.out hx) 4).trans rfl) Try.underlying27 rfl) (hK _ _ (Below.refl _ _) rfl)
              intro vs W46 hb46 hT
              have v0 := Flow.eqn (hT 0 (by decide))
              have v1 := Flow.eqn (hT 1 (by decide))
              have v2 := Flow.eqn (hT 2 (by decide))
              have v3 := Flow.eqn (hT 3 (by decide))
              have v4 := Flow.eqn (hT 4 (by decide))
              simp only [Flow.putsT, v0, v1, v2, v3, v4, Act.put, List.setIfInBounds_toArray, List.set_cons_zero, List.set_cons_succ, List.drop_succ_cons, List.drop_zero, List.take_succ_cons, List.take_zero]
              clear hT v0 v1 v2 v3 v4
              have HB46 := Aside0.mk (below_step HB45.out hb46)
              have HCI_46 := Aside0.mk (CI.below HCI_45.out hb46)
              have HXV_46 := Aside0.mk (XV.below HXV_45.out hb46)
              have KR_14_15_16_17_18_44_45_46 := Aside0.mk (blk_below KR_14_15_16_17_18_44_45.out hb46)
              have Kg16_17_18_44_45_46 := Aside0.mk (blk_below Kg16_17_18_44_45.out hb46)
              clear hb46
              refine ecall rfl rfl Try.func18 (by kernel_rfl) rfl (args := #[.pointer (some ⟨gC, 0, none⟩), .agg #[.int .i64 x.f1.f0, .int .i64 x.f1.f1, .int .i64 x.f1.f2], .slice Bx nbx cbx]) (by first | (simp only [List.map_toArray, List.map_cons, List.map_nil, Act.eval]; done) | (simp only [List.map_toArray, List.map_cons, List.map_nil, Act.eval]; rfl)) (put_i x.f1 HGx.out Bx nbx cbx x.f2 L1 _ (fun w9 hkb => Kd.C_below HCCx.out (below_kb HB46.out (Nat.le_refl _) hkb HGC.out HGM.out)) HNBx.out HCBx.out (by have := HDx.out; omega) HCI_46.out (by omega) HL1.out) ?_
              rintro e W47 ⟨rfl, hci47, hkb47⟩
              refine ⟨_, rfl, ?_⟩
              have HXV_47 := Aside0.mk (XV.kb HXV_46.out (by simp) (by simp) hkb47)
              have KR_14_15_16_17_18_44_45_46_47 := Aside0.mk (hkb47.blk KR_14_15_16_17_18_44_45_46.out (HCI_46.out.apart KR_14_15_16_17_18_44_45_46.out (by decide)))
              have Kg16_17_18_44_45_46_47 := Aside0.mk (hkb47.blk Kg16_17_18_44_45_46.out (HCI_46.out.apart Kg16_17_18_44_45_46.out (by decide)))
              have HB47 := Aside0.mk (below_kb HB46.out (Nat.le_refl _) hkb47 HGC.out HGM.out)
              have HCI_47 := Aside0.mk hci47
              clear hci47 hkb47
              simp only [Act.put, List.setIfInBounds_toArray, List.set_cons_zero, List.set_cons_succ]
              go_upto_region 17 with fail
              refine Flow.seqT_head (E := fun u v => Below u.heap.size u v) 6 [(some 74, []), (some 75, []), (some 76, [1]), (some 77, []), (some 78, [3]), (some 79, [4]), (some 80, [0, 2, 5]), (none, [6, 6, 0, 1, 2, 3, 4, 5, 6])] (fun iQ vQ wQ => match iQ with | 0 => vQ = (.agg #[.slice Av nL cv, .int .i64 r, .int .i64 hits, .int .i64 misses]) | 1 => vQ = (.pointer (some ⟨g16, 1, none⟩)) | 2 => vQ = (.agg #[.int .i64 x.f1.f0, .int .i64 x.f1.f1, .int .i64 x.f1.f2]) | 3 => vQ = (.pointer (some ⟨g16, 4, none⟩)) | 4 => vQ = (.slice Bx nbx cbx) | 5 => vQ = (.string (strOfNums x.f2)) | _ => True) rfl (by decide) (by kernel_rfl) (Below.refl _ _) (fun _ _ _ h k => h.trans (k.mono h.size)) (fun _ _ _ _ h _ => h) ?_ ?_
              · refine ⟨?_, ?_, ?_, ?_, ?_, ?_, trivial⟩
                · intro a w' hx hu hd K hK; have e6 : a.tmps.getD 6 undef = (.pointer (some ⟨g10, 0, none⟩)) := hu 6 rfl; exact Flow.run1 rfl (ldrow rfl e6 (lies_block (blk_below KR_14_15_16_17_18_44_45_46_47.out hx)) Try.underlying45 rfl size45) (hK _ _ (Below.refl _ _) rfl)
                · intro a w' hx hu hd K hK; have e8 : a.tmps.getD 8 undef = (.pointer (some ⟨g16, 0, none⟩)) := hu 8 rfl; exact Flow.run1 rfl (fa rfl e8 (fa38_1 _ _ _)) (hK _ _ (Below.refl _ _) rfl)
                · intro a w' hx hu hd K hK; have e75 := Flow.got (hd 1 rfl) 75 rfl; exact Flow.run1 rfl (ldrow (c := [.int .i64 x.f1.f0, .int .i64 x.f1.f1, .int .i64 x.f1.f2]) rfl e75 (lies_part (blk_below Kg16_17_18_44_45_46_47.out hx) rfl) Try.underlying36 rfl size36) (hK _ _ (Below.refl _ _) rfl)
                · intro a w' hx hu hd K hK; have e8 : a.tmps.getD 8 undef = (.pointer (some ⟨g16, 0, none⟩)) := hu 8 rfl; exact Flow.run1 rfl (fa rfl e8 (fa38_2 _ _ _)) (hK _ _ (Below.refl _ _) rfl)
                · intro a w' hx hu hd K hK; have e77 := Flow.got (hd 3 rfl) 77 rfl; exact Flow.run1 rfl (ld rfl e77 ((blk_cell (blk_below Kg16_17_18_44_45_46_47.out hx) 4).trans rfl) Try.underlying27 rfl) (hK _ _ (Below.refl _ _) rfl)
                · intro a w' hx hu hd K hK; have e78 := Flow.got (hd 4 rfl) 78 rfl; exact Flow.run1 rfl (cvs rfl e78 (Kd.C_string Try.underlying27 Try.underlying5 Try.underlying9 (Kd.C_below HCCx.out (below_step HB47.out hx)))) (hK _ _ (Below.refl _ _) rfl)
              intro vs W48 hb48 hT
              have v0 := Flow.eqn (hT 0 (by decide))
              have v1 := Flow.eqn (hT 1 (by decide))
              have v2 := Flow.eqn (hT 2 (by decide))
              have v3 := Flow.eqn (hT 3 (by decide))
              have v4 := Flow.eqn (hT 4 (by decide))
              have v5 := Flow.eqn (hT 5 (by decide))
              simp only [Flow.putsT, v0, v1, v2, v3, v4, v5, Act.put, List.setIfInBounds_toArray, List.set_cons_zero, List.set_cons_succ, List.drop_succ_cons, List.drop_zero, List.take_succ_cons, List.take_zero]
              clear hT v0 v1 v2 v3 v4 v5
              have HB48 := Aside0.mk (below_step HB47.out hb48)
              have HCI_48 := Aside0.mk (CI.below HCI_47.out hb48)
              have HXV_48 := Aside0.mk (XV.below HXV_47.out hb48)
              have KR_14_15_16_17_18_44_45_46_47_48 := Aside0.mk (blk_below KR_14_15_16_17_18_44_45_46_47.out hb48)
              have Kg16_17_18_44_45_46_47_48 := Aside0.mk (blk_below Kg16_17_18_44_45_46_47.out hb48)
              clear hb48
              refine ecall rfl rfl Try.func23 (by kernel_rfl) rfl (args := #[.agg #[.slice Av nL cv, .int .i64 r, .int .i64 hits, .int .i64 misses], .agg #[.int .i64 x.f1.f0, .int .i64 x.f1.f1, .int .i64 x.f1.f2], .string (strOfNums x.f2)]) (by first | (simp only [List.map_toArray, List.map_cons, List.map_nil, Act.eval]; done) | (simp only [List.map_toArray, List.map_cons, List.map_nil, Act.eval]; rfl)) (rput_x r hits misses _ HXV_48.out (by intro j hj; simp only [List.mem_cons, List.not_mem_nil, or_false] at hj; exact (fun h => h.elim (fun h => h ▸ blk_lt Kg16_17_18_44_45_46_47_48.out) (fun h => h.elim (fun h => h ▸ blk_lt KR_14_15_16_17_18_44_45_46_47_48.out) (fun h => h.elim (fun h => h ▸ HCI_48.out.lt.1) (fun h => h ▸ HCI_48.out.lt.2)))) hj) (by omega) hr6 HLR.out) ?_
              rintro e W49 ⟨v1, rfl, hxv49, hb49⟩
              refine ⟨_, rfl, ?_⟩
              rw [HL1.out] at hxv49
              obtain ⟨A1, c1, rfl⟩ := hxv49.slice
              have HCI_49 := Aside0.mk (CI.below HCI_48.out hb49)
              have KR_14_15_16_17_18_44_45_46_47_48_49 := Aside0.mk (blk_below KR_14_15_16_17_18_44_45_46_47_48.out hb49)
              have Kg16_17_18_44_45_46_47_48_49 := Aside0.mk (blk_below Kg16_17_18_44_45_46_47_48.out hb49)
              have HB49 := Aside0.mk (below_step HB48.out hb49)
              have HXV_49 := Aside0.mk hxv49
              clear hxv49 hb49
              simp only [Act.put, List.setIfInBounds_toArray, List.set_cons_zero, List.set_cons_succ]
              refine Cells.store_whole rfl rfl 45 _ _ rfl g10 [.slice A1 L1.length c1, .int .i64 r, .int .i64 hits, .int .i64 misses] #[.slice Av nL cv, .int .i64 r, .int .i64 hits, .int .i64 misses] rfl rfl KR_14_15_16_17_18_44_45_46_47_48_49.out rfl size45 rfl ?_
              intro W50 hk50 hf50 hb50
              have HCI_50 := Aside0.mk (CI.far HCI_49.out KR_14_15_16_17_18_44_45_46_47_48_49.out (by decide) (by decide) hf50)
              have HXV_50 := Aside0.mk (XV.store HXV_49.out (by simp) hf50)
              have HB50 := Aside0.mk (HB49.out.trans (hb50 _ Gg10.out))
              have Kg16_17_18_44_45_46_47_48_49_50 := Aside0.mk ((hf50 _ Ng10_g16.out).trans Kg16_17_18_44_45_46_47_48_49.out)
              have Kg10_50 := Aside0.mk hk50
              clear hk50 hf50 hb50
              go_wp2_with fail
              go_meet
              exact ⟨HB50, _, _, _, _, HCI_50, Kg10_50, ⟨HXV_50.out.tail⟩, ⟨by rw [← HL1.out]; exact putL_le HLR.out⟩⟩
            · have HD1 := Aside0.mk hd1
              clear hd1
              go_upto_region 15 with fail
              refine Flow.seqT (E := fun u v => Below u.heap.size u v) [(some 67, []), (some 66, [0])] (fun iQ vQ wQ => match iQ with | 0 => vQ = (.bool false) | 1 => vQ = (.bool false) | _ => True) rfl (by kernel_rfl) (Below.refl _ _) (fun _ _ _ h k => h.trans (k.mono h.size)) (fun _ _ _ _ h _ => h) ?_ ?_
              · refine ⟨?_, ?_, trivial⟩
                · intro a w' hx hu hd K hK; have e38 : a.tmps.getD 38 undef = (.int .i64 x.f0) := hu 38 rfl; exact Flow.run1 rfl (no (eql rfl e38 rfl) (beq_eq_false_iff_ne.2 HD1.out)) (hK _ _ (Below.refl _ _) rfl)
                · intro a w' hx hu hd K hK; have e67 := Flow.got (hd 0 rfl) 67 rfl; exact Flow.run1 rfl (Flow.r_assign rfl e67) (hK _ _ (Below.refl _ _) rfl)
              intro vs W51 hb51 hT
              have v0 := Flow.eqn (hT 0 (by decide))
              have v1 := Flow.eqn (hT 1 (by decide))
              simp only [Flow.putsT, v0, v1, Act.put, List.setIfInBounds_toArray, List.set_cons_zero, List.set_cons_succ]
              clear hT v0 v1
              have HB51 := Aside0.mk (below_step HB44.out hb51)
              have HCI_51 := Aside0.mk (CI.below HCI_44.out hb51)
              have HXV_51 := Aside0.mk (XV.below HXV_44.out hb51)
              have KR_14_15_16_17_18_44_51 := Aside0.mk (blk_below KR_14_15_16_17_18_44.out hb51)
              have Kg16_17_18_44_51 := Aside0.mk (blk_below Kg16_17_18_44.out hb51)
              clear hb51
              by_cases hd2 : x.f0 = 2
              · have HD2 := Aside0.mk hd2
                clear hd2
                go_upto_region 18 with fail
                refine Flow.seqT (E := fun u v => Below u.heap.size u v) [(some 82, []), (some 81, [0])] (fun iQ vQ wQ => match iQ with | 0 => vQ = (.bool true) | 1 => vQ = (.bool true) | _ => True) rfl (by kernel_rfl) (Below.refl _ _) (fun _ _ _ h k => h.trans (k.mono h.size)) (fun _ _ _ _ h _ => h) ?_ ?_
                · refine ⟨?_, ?_, trivial⟩
                  · intro a w' hx hu hd K hK; have e38 : a.tmps.getD 38 undef = (.int .i64 x.f0) := hu 38 rfl; exact Flow.run1 rfl (yes (eql rfl e38 rfl) (beq_iff_eq.2 HD2.out)) (hK _ _ (Below.refl _ _) rfl)
                  · intro a w' hx hu hd K hK; have e82 := Flow.got (hd 0 rfl) 82 rfl; exact Flow.run1 rfl (Flow.r_assign rfl e82) (hK _ _ (Below.refl _ _) rfl)
                intro vs W52 hb52 hT
                have v0 := Flow.eqn (hT 0 (by decide))
                have v1 := Flow.eqn (hT 1 (by decide))
                simp only [Flow.putsT, v0, v1, Act.put, List.setIfInBounds_toArray, List.set_cons_zero, List.set_cons_succ]
                clear hT v0 v1
                have HB52 := Aside0.mk (below_step HB51.out hb52)
                have HCI_52 := Aside0.mk (CI.below HCI_51.out hb52)
                have HXV_52 := Aside0.mk (XV.below HXV_51.out hb52)
                have KR_14_15_16_17_18_44_51_52 := Aside0.mk (blk_below KR_14_15_16_17_18_44_51.out hb52)
                have Kg16_17_18_44_51_52 := Aside0.mk (blk_below Kg16_17_18_44_51.out hb52)
                clear hb52
                obtain ⟨L1, HL1⟩ : ∃ q, Aside0 (dropL x.f1.f0 L = q) := ⟨_, ⟨rfl⟩⟩
                obtain ⟨q, HQ⟩ : ∃ q, Aside0 ((L.length : Int) - (dropL x.f1.f0 L).length = q) := ⟨_, ⟨rfl⟩⟩
                go_upto_region 19 with fail
                refine Flow.seqT_head (E := fun u v => Below u.heap.size u v) 4 [(some 84, []), (some 85, []), (some 86, [1]), (some 87, [2]), (some 88, [0, 3]), (some 83, [4]), (some 89, [5]), (some 90, [5]), (some 14, []), (none, [8, 6, 4, 0, 1, 2, 3, 4, 5, 6, 8]), (some 15, [7, 9, 0, 1, 2, 3, 4, 5, 6, 7, 8, 9])] (fun iQ vQ wQ => match iQ with | 0 => vQ = (.agg #[.slice Av nL cv, .int .i64 r, .int .i64 hits, .int .i64 misses]) | 1 => vQ = (.pointer (some ⟨g16, 1, none⟩)) | 2 => vQ = (.pointer (some ⟨g16, 1, none⟩)) | 3 => vQ = (.int .i64 x.f1.f0) | _ => True) rfl (by decide) (by kernel_rfl) (Below.refl _ _) (fun _ _ _ h k => h.trans (k.mono h.size)) (fun _ _ _ _ h _ => h) ?_ ?_
                · refine ⟨?_, ?_, ?_, ?_, trivial⟩
                  · intro a w' hx hu hd K hK; have e6 : a.tmps.getD 6 undef = (.pointer (some ⟨g10, 0, none⟩)) := hu 6 rfl; exact Flow.run1 rfl (ldrow rfl e6 (lies_block (blk_below KR_14_15_16_17_18_44_51_52.out hx)) Try.underlying45 rfl size45) (hK _ _ (Below.refl _ _) rfl)
                  · intro a w' hx hu hd K hK; have e8 : a.tmps.getD 8 undef = (.pointer (some ⟨g16, 0, none⟩)) := hu 8 rfl; exact Flow.run1 rfl (fa rfl e8 (fa38_1 _ _ _)) (hK _ _ (Below.refl _ _) rfl)
                  · intro a w' hx hu hd K hK; have e85 := Flow.got (hd 1 rfl) 85 rfl; exact Flow.run1 rfl (fa rfl e85 (fa36_0 _ _ _)) (hK _ _ (Below.refl _ _) rfl)
                  · intro a w' hx hu hd K hK; have e86 := Flow.got (hd 2 rfl) 86 rfl; exact Flow.run1 rfl (ld rfl e86 ((blk_cell (blk_below Kg16_17_18_44_51_52.out hx) 1).trans rfl) Try.underlying3 rfl) (hK _ _ (Below.refl _ _) rfl)
                intro vs W53 hb53 hT
                have v0 := Flow.eqn (hT 0 (by decide))
                have v1 := Flow.eqn (hT 1 (by decide))
                have v2 := Flow.eqn (hT 2 (by decide))
                have v3 := Flow.eqn (hT 3 (by decide))
                simp only [Flow.putsT, v0, v1, v2, v3, Act.put, List.setIfInBounds_toArray, List.set_cons_zero, List.set_cons_succ, List.drop_succ_cons, List.drop_zero, List.take_succ_cons, List.take_zero]
                clear hT v0 v1 v2 v3
                have HB53 := Aside0.mk (below_step HB52.out hb53)
                have HCI_53 := Aside0.mk (CI.below HCI_52.out hb53)
                have HXV_53 := Aside0.mk (XV.below HXV_52.out hb53)
                have KR_14_15_16_17_18_44_51_52_53 := Aside0.mk (blk_below KR_14_15_16_17_18_44_51_52.out hb53)
                have Kg16_17_18_44_51_52_53 := Aside0.mk (blk_below Kg16_17_18_44_51_52.out hb53)
                clear hb53
                refine ecall rfl rfl Try.func24 (by kernel_rfl) rfl (args := #[.agg #[.slice Av nL cv, .int .i64 r, .int .i64 hits, .int .i64 misses], .int .i64 x.f1.f0]) (by first | (simp only [List.map_toArray, List.map_cons, List.map_nil, Act.eval]; done) | (simp only [List.map_toArray, List.map_cons, List.map_nil, Act.eval]; rfl)) (rdrop_x x.f1.f0 r hits misses _ HXV_53.out (by intro j hj; simp only [List.mem_cons, List.not_mem_nil, or_false] at hj; exact (fun h => h.elim (fun h => h ▸ blk_lt Kg16_17_18_44_51_52_53.out) (fun h => h.elim (fun h => h ▸ blk_lt KR_14_15_16_17_18_44_51_52_53.out) (fun h => h.elim (fun h => h ▸ HCI_53.out.lt.1) (fun h => h ▸ HCI_53.out.lt.2)))) hj) (by omega)) ?_
                rintro e W54 ⟨v1, rfl, hxv54, hb54⟩
                refine ⟨_, rfl, ?_⟩
                rw [HL1.out] at hxv54
                rw [HQ.out]
                obtain ⟨A1, c1, rfl⟩ := hxv54.slice
                have HCI_54 := Aside0.mk (CI.below HCI_53.out hb54)
                have KR_14_15_16_17_18_44_51_52_53_54 := Aside0.mk (blk_below KR_14_15_16_17_18_44_51_52_53.out hb54)
                have Kg16_17_18_44_51_52_53_54 := Aside0.mk (blk_below Kg16_17_18_44_51_52_53.out hb54)
                have HB54 := Aside0.mk (below_step HB53.out hb54)
                have HXV_54 := Aside0.mk hxv54
                clear hxv54 hb54
                simp only [Act.put, List.setIfInBounds_toArray, List.set_cons_zero, List.set_cons_succ]
                refine Flow.seqL (E := fun u v => Below u.heap.size u v) 5 3 [(some 84, []), (some 85, []), (some 86, [1]), (some 87, [2]), (some 88, [0, 3]), (some 83, [4]), (some 89, [5]), (some 90, [5]), (some 14, []), (none, [8, 6, 4, 0, 1, 2, 3, 4, 5, 6, 8]), (some 15, [7, 9, 0, 1, 2, 3, 4, 5, 6, 7, 8, 9])] (fun iQ vQ wQ => match iQ with | 5 => vQ = (.tuple #[.agg #[.slice A1 L1.length c1, .int .i64 r, .int .i64 hits, .int .i64 misses], .int .i64 q]) | 6 => vQ = (.agg #[.slice A1 L1.length c1, .int .i64 r, .int .i64 hits, .int .i64 misses]) | 7 => vQ = (.int .i64 q) | _ => True) rfl (by decide) (by kernel_rfl) (Below.refl _ _) (fun _ _ _ h k => h.trans (k.mono h.size)) (fun _ _ _ _ h _ => h) ?_ ?_
                · refine ⟨?_, ?_, ?_, trivial⟩
                  · intro a w' hx hu hd K hK; have e88 : a.tmps.getD 88 undef = (.tuple #[.agg #[.slice A1 L1.length c1, .int .i64 r, .int .i64 hits, .int .i64 misses], .int .i64 q]) := hu 88 rfl; exact Flow.run1 rfl (Flow.r_move rfl e88) (hK _ _ (Below.refl _ _) rfl)
                  · intro a w' hx hu hd K hK; have e83 := Flow.got (hd 5 rfl) 83 rfl; exact Flow.run1 rfl (extr rfl e83 rfl) (hK _ _ (Below.refl _ _) rfl)
                  · intro a w' hx hu hd K hK; have e83 := Flow.got (hd 5 rfl) 83 rfl; exact Flow.run1 rfl (extr rfl e83 rfl) (hK _ _ (Below.refl _ _) rfl)
                intro vs W55 hb55 hT
                have v5 := Flow.eqn (hT 5 (by decide) (by decide))
                have v6 := Flow.eqn (hT 6 (by decide) (by decide))
                have v7 := Flow.eqn (hT 7 (by decide) (by decide))
                simp only [Flow.putsT, v5, v6, v7, Act.put, List.setIfInBounds_toArray, List.set_cons_zero, List.set_cons_succ, List.drop_succ_cons, List.drop_zero, List.take_succ_cons, List.take_zero]
                clear hT v5 v6 v7
                have HB55 := Aside0.mk (below_step HB54.out hb55)
                have HCI_55 := Aside0.mk (CI.below HCI_54.out hb55)
                have HXV_55 := Aside0.mk (XV.below HXV_54.out hb55)
                have KR_14_15_16_17_18_44_51_52_53_54_55 := Aside0.mk (blk_below KR_14_15_16_17_18_44_51_52_53_54.out hb55)
                have Kg16_17_18_44_51_52_53_54_55 := Aside0.mk (blk_below Kg16_17_18_44_51_52_53_54.out hb55)
                clear hb55
                refine ealloc rfl rfl zero45_is ?_
                intro g56 hg56 W56 hk56 hb56
                have Kg56 := Aside0.mk hk56
                have Ng56_g10 := Aside0.mk (show g10 ≠ g56 by have := (Array.getElem?_eq_some_iff.1 KR_14_15_16_17_18_44_51_52_53_54_55.out).1; omega)
                have Ng10_g56 := Aside0.mk (Ne.symm Ng56_g10.out)
                have Ng56_g16 := Aside0.mk (show g16 ≠ g56 by have := (Array.getElem?_eq_some_iff.1 Kg16_17_18_44_51_52_53_54_55.out).1; omega)
                have Ng16_g56 := Aside0.mk (Ne.symm Ng56_g16.out)
                have HXV_e56 := Aside0.mk (XV.elder HXV_55.out g56 (by rw [hg56]; exact Nat.le_refl _))
                have HB56 := Aside0.mk (below_step HB55.out hb56)
                have HCI_56 := Aside0.mk (CI.below HCI_55.out hb56)
                have HXV_56 := Aside0.mk (XV.below HXV_e56.out hb56)
                have KR_14_15_16_17_18_44_51_52_53_54_55_56 := Aside0.mk (blk_below KR_14_15_16_17_18_44_51_52_53_54_55.out hb56)
                have Kg16_17_18_44_51_52_53_54_55_56 := Aside0.mk (blk_below Kg16_17_18_44_51_52_53_54_55.out hb56)
                clear hb56
                have Gg56 := Aside0.mk (show w.heap.size ≤ g56 by rw [hg56]; exact HB55.out.size)
                clear hg56 hk56
                simp only [Act.put, List.setIfInBounds_toArray, List.set_cons_zero, List.set_cons_succ]
                refine Cells.store_whole rfl rfl 45 _ _ rfl g56 [.slice A1 L1.length c1, .int .i64 r, .int .i64 hits, .int .i64 misses] #[.slice none 0 0, .int .i64 0, .int .i64 0, .int .i64 0] rfl rfl Kg56.out rfl size45 rfl ?_
                intro W57 hk57 hf57 hb57
                have HCI_57 := Aside0.mk (CI.far HCI_56.out Kg56.out (by decide) (by decide) hf57)
                have HXV_57 := Aside0.mk (XV.store HXV_56.out (by simp) hf57)
                have HB57 := Aside0.mk (HB56.out.trans (hb57 _ Gg56.out))
                have KR_14_15_16_17_18_44_51_52_53_54_55_56_57 := Aside0.mk ((hf57 _ Ng56_g10.out).trans KR_14_15_16_17_18_44_51_52_53_54_55_56.out)
                have Kg16_17_18_44_51_52_53_54_55_56_57 := Aside0.mk ((hf57 _ Ng56_g16.out).trans Kg16_17_18_44_51_52_53_54_55_56.out)
                have Kg56_57 := Aside0.mk hk57
                clear hk57 hf57 hb57
                refine Flow.seqL (E := fun u v => Below u.heap.size u v) 10 1 [(some 84, []), (some 85, []), (some 86, [1]), (some 87, [2]), (some 88, [0, 3]), (some 83, [4]), (some 89, [5]), (some 90, [5]), (some 14, []), (none, [8, 6, 4, 0, 1, 2, 3, 4, 5, 6, 8]), (some 15, [7, 9, 0, 1, 2, 3, 4, 5, 6, 7, 8, 9])] (fun iQ vQ wQ => match iQ with | 10 => vQ = (.int .i64 q) | _ => True) rfl (by decide) (by kernel_rfl) (Below.refl _ _) (fun _ _ _ h k => h.trans (k.mono h.size)) (fun _ _ _ _ h _ => h) ?_ ?_
                · refine ⟨?_, trivial⟩
                  · intro a w' hx hu hd K hK; have e90 : a.tmps.getD 90 undef = (.int .i64 q) := hu 90 rfl; exact Flow.run1 rfl (Flow.r_assign rfl e90) (hK _ _ (Below.refl _ _) rfl)
                intro vs W58 hb58 hT
                have v10 := Flow.eqn (hT 10 (by decide) (by decide))
                simp only [Flow.putsT, v10, Act.put, List.setIfInBounds_toArray, List.set_cons_zero, List.set_cons_succ, List.drop_succ_cons, List.drop_zero, List.take_succ_cons, List.take_zero]
                clear hT v10
                have HB58 := Aside0.mk (below_step HB57.out hb58)
                have HCI_58 := Aside0.mk (CI.below HCI_57.out hb58)
                have HXV_58 := Aside0.mk (XV.below HXV_57.out hb58)
                have KR_14_15_16_17_18_44_51_52_53_54_55_56_57_58 := Aside0.mk (blk_below KR_14_15_16_17_18_44_51_52_53_54_55_56_57.out hb58)
                have Kg16_17_18_44_51_52_53_54_55_56_57_58 := Aside0.mk (blk_below Kg16_17_18_44_51_52_53_54_55_56_57.out hb58)
                have Kg56_57_58 := Aside0.mk (blk_below Kg56_57.out hb58)
                clear hb58
                go_upto_region 20 with fail
                refine Flow.seqT_head (E := fun u v => Below u.heap.size u v) 1 [(some 91, []), (none, [0, 0])] (fun iQ vQ wQ => match iQ with | 0 => vQ = (.agg #[.slice A1 L1.length c1, .int .i64 r, .int .i64 hits, .int .i64 misses]) | _ => True) rfl (by decide) (by kernel_rfl) (Below.refl _ _) (fun _ _ _ h k => h.trans (k.mono h.size)) (fun _ _ _ _ h _ => h) ?_ ?_
                · refine ⟨?_, trivial⟩
                  · intro a w' hx hu hd K hK; have e14 : a.tmps.getD 14 undef = (.pointer (some ⟨g56, 0, none⟩)) := hu 14 rfl; exact Flow.run1 rfl (ldrow rfl e14 (lies_block (blk_below Kg56_57_58.out hx)) Try.underlying45 rfl size45) (hK _ _ (Below.refl _ _) rfl)
                intro vs W59 hb59 hT
                have v0 := Flow.eqn (hT 0 (by decide))
                simp only [Flow.putsT, v0, Act.put, List.setIfInBounds_toArray, List.set_cons_zero, List.set_cons_succ, List.drop_succ_cons, List.drop_zero, List.take_succ_cons, List.take_zero]
                clear hT v0
                have HB59 := Aside0.mk (below_step HB58.out hb59)
                have HCI_59 := Aside0.mk (CI.below HCI_58.out hb59)
                have HXV_59 := Aside0.mk (XV.below HXV_58.out hb59)
                have KR_14_15_16_17_18_44_51_52_53_54_55_56_57_58_59 := Aside0.mk (blk_below KR_14_15_16_17_18_44_51_52_53_54_55_56_57_58.out hb59)
                have Kg16_17_18_44_51_52_53_54_55_56_57_58_59 := Aside0.mk (blk_below Kg16_17_18_44_51_52_53_54_55_56_57_58.out hb59)
                have Kg56_57_58_59 := Aside0.mk (blk_below Kg56_57_58.out hb59)
                clear hb59
                refine Cells.store_whole rfl rfl 45 _ _ rfl g10 [.slice A1 L1.length c1, .int .i64 r, .int .i64 hits, .int .i64 misses] #[.slice Av nL cv, .int .i64 r, .int .i64 hits, .int .i64 misses] rfl rfl KR_14_15_16_17_18_44_51_52_53_54_55_56_57_58_59.out rfl size45 rfl ?_
                intro W60 hk60 hf60 hb60
                have HCI_60 := Aside0.mk (CI.far HCI_59.out KR_14_15_16_17_18_44_51_52_53_54_55_56_57_58_59.out (by decide) (by decide) hf60)
                have HXV_60 := Aside0.mk (XV.store HXV_59.out (by simp) hf60)
                have HB60 := Aside0.mk (HB59.out.trans (hb60 _ Gg10.out))
                have Kg16_17_18_44_51_52_53_54_55_56_57_58_59_60 := Aside0.mk ((hf60 _ Ng10_g16.out).trans Kg16_17_18_44_51_52_53_54_55_56_57_58_59.out)
                have Kg56_57_58_59_60 := Aside0.mk ((hf60 _ Ng10_g56.out).trans Kg56_57_58_59.out)
                have Kg10_60 := Aside0.mk hk60
                clear hk60 hf60 hb60
                go_upto_region 21 with fail
                refine Flow.seqT_head (E := fun u v => Below u.heap.size u v) 4 [(some 92, []), (some 93, []), (some 94, [1]), (some 95, [2]), (some 96, [0, 3]), (some 97, []), (some 98, [4, 5])] (fun iQ vQ wQ => match iQ with | 0 => vQ = (.pointer (some ⟨gC, 0, none⟩)) | 1 => vQ = (.pointer (some ⟨g16, 1, none⟩)) | 2 => vQ = (.pointer (some ⟨g16, 1, none⟩)) | 3 => vQ = (.int .i64 x.f1.f0) | _ => True) rfl (by decide) (by kernel_rfl) (Below.refl _ _) (fun _ _ _ h k => h.trans (k.mono h.size)) (fun _ _ _ _ h _ => h) ?_ ?_
                · refine ⟨?_, ?_, ?_, ?_, trivial⟩
                  · intro a w' hx hu hd K hK; have e5 : a.tmps.getD 5 undef = (.pointer (some ⟨gC, 0, none⟩)) := hu 5 rfl; exact Flow.run1 rfl (Flow.r_move rfl e5) (hK _ _ (Below.refl _ _) rfl)
                  · intro a w' hx hu hd K hK; have e8 : a.tmps.getD 8 undef = (.pointer (some ⟨g16, 0, none⟩)) := hu 8 rfl; exact Flow.run1 rfl (fa rfl e8 (fa38_1 _ _ _)) (hK _ _ (Below.refl _ _) rfl)
                  · intro a w' hx hu hd K hK; have e93 := Flow.got (hd 1 rfl) 93 rfl; exact Flow.run1 rfl (fa rfl e93 (fa36_0 _ _ _)) (hK _ _ (Below.refl _ _) rfl)
                  · intro a w' hx hu hd K hK; have e94 := Flow.got (hd 2 rfl) 94 rfl; exact Flow.run1 rfl (ld rfl e94 ((blk_cell (blk_below Kg16_17_18_44_51_52_53_54_55_56_57_58_59_60.out hx) 1).trans rfl) Try.underlying3 rfl) (hK _ _ (Below.refl _ _) rfl)
                intro vs W61 hb61 hT
                have v0 := Flow.eqn (hT 0 (by decide))
                have v1 := Flow.eqn (hT 1 (by decide))
                have v2 := Flow.eqn (hT 2 (by decide))
                have v3 := Flow.eqn (hT 3 (by decide))
                simp only [Flow.putsT, v0, v1, v2, v3, Act.put, List.setIfInBounds_toArray, List.set_cons_zero, List.set_cons_succ, List.drop_succ_cons, List.drop_zero, List.take_succ_cons, List.take_zero]
                clear hT v0 v1 v2 v3
                have HB61 := Aside0.mk (below_step HB60.out hb61)
                have HCI_61 := Aside0.mk (CI.below HCI_60.out hb61)
                have HXV_61 := Aside0.mk (XV.below HXV_60.out hb61)
                have Kg16_17_18_44_51_52_53_54_55_56_57_58_59_60_61 := Aside0.mk (blk_below Kg16_17_18_44_51_52_53_54_55_56_57_58_59_60.out hb61)
                have Kg56_57_58_59_60_61 := Aside0.mk (blk_below Kg56_57_58_59_60.out hb61)
                have Kg10_60_61 := Aside0.mk (blk_below Kg10_60.out hb61)
                clear hb61
                refine ecall rfl rfl Try.func25 (by kernel_rfl) rfl (args := #[.pointer (some ⟨gC, 0, none⟩), .int .i64 x.f1.f0]) (by first | (simp only [List.map_toArray, List.map_cons, List.map_nil, Act.eval]; done) | (simp only [List.map_toArray, List.map_cons, List.map_nil, Act.eval]; rfl)) (drop_i x.f1.f0 _ HCI_61.out (by omega)) ?_
                rintro e W62 ⟨rfl, hci62, hkb62⟩
                refine ⟨_, rfl, ?_⟩
                rw [HL1.out] at hci62
                rw [HQ.out]
                have HXV_62 := Aside0.mk (XV.kb HXV_61.out (by simp) (by simp) hkb62)
                have Kg16_17_18_44_51_52_53_54_55_56_57_58_59_60_61_62 := Aside0.mk (hkb62.blk Kg16_17_18_44_51_52_53_54_55_56_57_58_59_60_61.out (HCI_61.out.apart Kg16_17_18_44_51_52_53_54_55_56_57_58_59_60_61.out (by decide)))
                have Kg56_57_58_59_60_61_62 := Aside0.mk (hkb62.blk Kg56_57_58_59_60_61.out (HCI_61.out.apart Kg56_57_58_59_60_61.out (by decide)))
                have Kg10_60_61_62 := Aside0.mk (hkb62.blk Kg10_60_61.out (HCI_61.out.apart Kg10_60_61.out (by decide)))
                have HB62 := Aside0.mk (below_kb HB61.out (Nat.le_refl _) hkb62 HGC.out HGM.out)
                have HCI_62 := Aside0.mk hci62
                clear hci62 hkb62
                simp only [Act.put, List.setIfInBounds_toArray, List.set_cons_zero, List.set_cons_succ]
                refine Flow.seqL (E := fun u v => Below u.heap.size u v) 5 2 [(some 92, []), (some 93, []), (some 94, [1]), (some 95, [2]), (some 96, [0, 3]), (some 97, []), (some 98, [4, 5])] (fun iQ vQ wQ => match iQ with | 5 => vQ = (.int .i64 q) | 6 => vQ = (.bool false) | _ => True) rfl (by decide) (by kernel_rfl) (Below.refl _ _) (fun _ _ _ h k => h.trans (k.mono h.size)) (fun _ _ _ _ h _ => h) ?_ ?_
                · refine ⟨?_, ?_, trivial⟩
                  · intro a w' hx hu hd K hK; have e15 : a.tmps.getD 15 undef = (.int .i64 q) := hu 15 rfl; exact Flow.run1 rfl (Flow.r_move rfl e15) (hK _ _ (Below.refl _ _) rfl)
                  · intro a w' hx hu hd K hK; have e96 : a.tmps.getD 96 undef = (.int .i64 q) := hu 96 rfl; have e97 := Flow.got (hd 5 rfl) 97 rfl; exact Flow.run1 rfl (no (neq rfl e96 e97) (bne_eq_false_iff_eq.2 rfl)) (hK _ _ (Below.refl _ _) rfl)
                intro vs W63 hb63 hT
                have v5 := Flow.eqn (hT 5 (by decide) (by decide))
                have v6 := Flow.eqn (hT 6 (by decide) (by decide))
                simp only [Flow.putsT, v5, v6, Act.put, List.setIfInBounds_toArray, List.set_cons_zero, List.set_cons_succ, List.drop_succ_cons, List.drop_zero, List.take_succ_cons, List.take_zero]
                clear hT v5 v6
                have HB63 := Aside0.mk (below_step HB62.out hb63)
                have HCI_63 := Aside0.mk (CI.below HCI_62.out hb63)
                have HXV_63 := Aside0.mk (XV.below HXV_62.out hb63)
                have Kg16_17_18_44_51_52_53_54_55_56_57_58_59_60_61_62_63 := Aside0.mk (blk_below Kg16_17_18_44_51_52_53_54_55_56_57_58_59_60_61_62.out hb63)
                have Kg56_57_58_59_60_61_62_63 := Aside0.mk (blk_below Kg56_57_58_59_60_61_62.out hb63)
                have Kg10_60_61_62_63 := Aside0.mk (blk_below Kg10_60_61_62.out hb63)
                clear hb63
                go_wp2_with fail
                go_meet
                exact ⟨HB63, _, _, _, _, ⟨HCI_63.out.more (by omega)⟩, Kg10_60_61_62_63, ⟨HXV_63.out.tail.tail⟩, ⟨by rw [← HL1.out]; exact Nat.le_trans (List.length_filter_le _ _) HLR.out⟩⟩
              · have HD2 := Aside0.mk hd2
                clear hd2
                go_upto_region 18 with fail
                refine Flow.seqT (E := fun u v => Below u.heap.size u v) [(some 82, []), (some 81, [0])] (fun iQ vQ wQ => match iQ with | 0 => vQ = (.bool false) | 1 => vQ = (.bool false) | _ => True) rfl (by kernel_rfl) (Below.refl _ _) (fun _ _ _ h k => h.trans (k.mono h.size)) (fun _ _ _ _ h _ => h) ?_ ?_
                · refine ⟨?_, ?_, trivial⟩
                  · intro a w' hx hu hd K hK; have e38 : a.tmps.getD 38 undef = (.int .i64 x.f0) := hu 38 rfl; exact Flow.run1 rfl (no (eql rfl e38 rfl) (beq_eq_false_iff_ne.2 HD2.out)) (hK _ _ (Below.refl _ _) rfl)
                  · intro a w' hx hu hd K hK; have e82 := Flow.got (hd 0 rfl) 82 rfl; exact Flow.run1 rfl (Flow.r_assign rfl e82) (hK _ _ (Below.refl _ _) rfl)
                intro vs W64 hb64 hT
                have v0 := Flow.eqn (hT 0 (by decide))
                have v1 := Flow.eqn (hT 1 (by decide))
                simp only [Flow.putsT, v0, v1, Act.put, List.setIfInBounds_toArray, List.set_cons_zero, List.set_cons_succ]
                clear hT v0 v1
                have HB64 := Aside0.mk (below_step HB51.out hb64)
                have HCI_64 := Aside0.mk (CI.below HCI_51.out hb64)
                have HXV_64 := Aside0.mk (XV.below HXV_51.out hb64)
                have KR_14_15_16_17_18_44_51_64 := Aside0.mk (blk_below KR_14_15_16_17_18_44_51.out hb64)
                have Kg16_17_18_44_51_64 := Aside0.mk (blk_below Kg16_17_18_44_51.out hb64)
                clear hb64
                by_cases hd3 : x.f0 = 3
                · have HD3 := Aside0.mk hd3
                  clear hd3
                  go_upto_region 23 with fail
                  refine Flow.seqT (E := fun u v => Below u.heap.size u v) [(some 100, []), (some 99, [0])] (fun iQ vQ wQ => match iQ with | 0 => vQ = (.bool true) | 1 => vQ = (.bool true) | _ => True) rfl (by kernel_rfl) (Below.refl _ _) (fun _ _ _ h k => h.trans (k.mono h.size)) (fun _ _ _ _ h _ => h) ?_ ?_
                  · refine ⟨?_, ?_, trivial⟩
                    · intro a w' hx hu hd K hK; have e38 : a.tmps.getD 38 undef = (.int .i64 x.f0) := hu 38 rfl; exact Flow.run1 rfl (yes (eql rfl e38 rfl) (beq_iff_eq.2 HD3.out)) (hK _ _ (Below.refl _ _) rfl)
                    · intro a w' hx hu hd K hK; have e100 := Flow.got (hd 0 rfl) 100 rfl; exact Flow.run1 rfl (Flow.r_assign rfl e100) (hK _ _ (Below.refl _ _) rfl)
                  intro vs W65 hb65 hT
                  have v0 := Flow.eqn (hT 0 (by decide))
                  have v1 := Flow.eqn (hT 1 (by decide))
                  simp only [Flow.putsT, v0, v1, Act.put, List.setIfInBounds_toArray, List.set_cons_zero, List.set_cons_succ]
                  clear hT v0 v1
                  have HB65 := Aside0.mk (below_step HB64.out hb65)
                  have HCI_65 := Aside0.mk (CI.below HCI_64.out hb65)
                  have HXV_65 := Aside0.mk (XV.below HXV_64.out hb65)
                  have KR_14_15_16_17_18_44_51_64_65 := Aside0.mk (blk_below KR_14_15_16_17_18_44_51_64.out hb65)
                  have Kg16_17_18_44_51_64_65 := Aside0.mk (blk_below Kg16_17_18_44_51_64.out hb65)
                  clear hb65
                  go_upto_region 24 with fail
                  refine Flow.seqT_head (E := fun u v => Below u.heap.size u v) 1 [(some 101, []), (some 102, [0])] (fun iQ vQ wQ => match iQ with | 0 => vQ = (.pointer (some ⟨gC, 0, none⟩)) | _ => True) rfl (by decide) (by kernel_rfl) (Below.refl _ _) (fun _ _ _ h k => h.trans (k.mono h.size)) (fun _ _ _ _ h _ => h) ?_ ?_
                  · refine ⟨?_, trivial⟩
                    · intro a w' hx hu hd K hK; have e5 : a.tmps.getD 5 undef = (.pointer (some ⟨gC, 0, none⟩)) := hu 5 rfl; exact Flow.run1 rfl (Flow.r_move rfl e5) (hK _ _ (Below.refl _ _) rfl)
                  intro vs W66 hb66 hT
                  have v0 := Flow.eqn (hT 0 (by decide))
                  simp only [Flow.putsT, v0, Act.put, List.setIfInBounds_toArray, List.set_cons_zero, List.set_cons_succ, List.drop_succ_cons, List.drop_zero, List.take_succ_cons, List.take_zero]
                  clear hT v0
                  have HB66 := Aside0.mk (below_step HB65.out hb66)
                  have HCI_66 := Aside0.mk (CI.below HCI_65.out hb66)
                  have HXV_66 := Aside0.mk (XV.below HXV_65.out hb66)
                  have KR_14_15_16_17_18_44_51_64_65_66 := Aside0.mk (blk_below KR_14_15_16_17_18_44_51_64_65.out hb66)
                  have Kg16_17_18_44_51_64_65_66 := Aside0.mk (blk_below Kg16_17_18_44_51_64_65.out hb66)
                  clear hb66
                  refine ecall rfl rfl Try.func26 (by kernel_rfl) rfl (args := #[.pointer (some ⟨gC, 0, none⟩)]) (by first | (simp only [List.map_toArray, List.map_cons, List.map_nil, Act.eval]; done) | (simp only [List.map_toArray, List.map_cons, List.map_nil, Act.eval]; rfl)) (clear_i _ HCI_66.out) ?_
                  rintro e W67 ⟨rfl, hci67, hkb67⟩
                  refine ⟨_, rfl, ?_⟩
                  have HXV_67 := Aside0.mk (XV.kb HXV_66.out (by simp) (by simp) hkb67)
                  have KR_14_15_16_17_18_44_51_64_65_66_67 := Aside0.mk (hkb67.blk KR_14_15_16_17_18_44_51_64_65_66.out (HCI_66.out.apart KR_14_15_16_17_18_44_51_64_65_66.out (by decide)))
                  have Kg16_17_18_44_51_64_65_66_67 := Aside0.mk (hkb67.blk Kg16_17_18_44_51_64_65_66.out (HCI_66.out.apart Kg16_17_18_44_51_64_65_66.out (by decide)))
                  have HB67 := Aside0.mk (below_kb HB66.out (Nat.le_refl _) hkb67 HGC.out HGM.out)
                  have HCI_67 := Aside0.mk hci67
                  clear hci67 hkb67
                  simp only [Act.put, List.setIfInBounds_toArray, List.set_cons_zero, List.set_cons_succ]
                  go_upto_region 25 with fail
                  refine Flow.seqT_head (E := fun u v => Below u.heap.size u v) 1 [(some 103, []), (none, [0])] (fun iQ vQ wQ => match iQ with | 0 => vQ = (.pointer (some ⟨g10, 0, none⟩)) | _ => True) rfl (by decide) (by kernel_rfl) (Below.refl _ _) (fun _ _ _ h k => h.trans (k.mono h.size)) (fun _ _ _ _ h _ => h) ?_ ?_
                  · refine ⟨?_, trivial⟩
                    · intro a w' hx hu hd K hK; have e6 : a.tmps.getD 6 undef = (.pointer (some ⟨g10, 0, none⟩)) := hu 6 rfl; exact Flow.run1 rfl (fa rfl e6 (fa45_0 _ _ _)) (hK _ _ (Below.refl _ _) rfl)
                  intro vs W68 hb68 hT
                  have v0 := Flow.eqn (hT 0 (by decide))
                  simp only [Flow.putsT, v0, Act.put, List.setIfInBounds_toArray, List.set_cons_zero, List.set_cons_succ, List.drop_succ_cons, List.drop_zero, List.take_succ_cons, List.take_zero]
                  clear hT v0
                  have HB68 := Aside0.mk (below_step HB67.out hb68)
                  have HCI_68 := Aside0.mk (CI.below HCI_67.out hb68)
                  have HXV_68 := Aside0.mk (XV.below HXV_67.out hb68)
                  have KR_14_15_16_17_18_44_51_64_65_66_67_68 := Aside0.mk (blk_below KR_14_15_16_17_18_44_51_64_65_66_67.out hb68)
                  have Kg16_17_18_44_51_64_65_66_67_68 := Aside0.mk (blk_below Kg16_17_18_44_51_64_65_66_67.out hb68)
                  clear hb68
                  refine put_event rfl rfl 43 _ _ rfl g10 (0) (.slice none 0 0) #[.slice Av nL cv, .int .i64 r, .int .i64 hits, .int .i64 misses] #[.slice none 0 0, .int .i64 r, .int .i64 hits, .int .i64 misses] rfl rfl rfl size43 KR_14_15_16_17_18_44_51_64_65_66_67_68.out (show 0 < 4 by decide) rfl ?_
                  intro W69 hk69 hf69 hb69
                  have HCI_69 := Aside0.mk (CI.far HCI_68.out KR_14_15_16_17_18_44_51_64_65_66_67_68.out (by decide) (by decide) hf69)
                  have HXV_69 := Aside0.mk (XV.store HXV_68.out (by simp) hf69)
                  have HB69 := Aside0.mk (HB68.out.trans (hb69 _ Gg10.out))
                  have Kg10_69 := Aside0.mk hk69
                  have Kg16_17_18_44_51_64_65_66_67_68_69 := Aside0.mk ((hf69 _ Ng10_g16.out).trans Kg16_17_18_44_51_64_65_66_67_68.out)
                  clear hk69 hf69 hb69
                  go_wp2_with fail
                  go_meet
                  exact ⟨HB69, _, _, _, _, ⟨HCI_69.out.more (by omega)⟩, Kg10_69, ⟨XV.nil _ _⟩, ⟨Nat.zero_le _⟩⟩
                · have HD3 := Aside0.mk hd3
                  clear hd3
                  go_upto_region 23 with fail
                  refine Flow.seqT (E := fun u v => Below u.heap.size u v) [(some 100, []), (some 99, [0])] (fun iQ vQ wQ => match iQ with | 0 => vQ = (.bool false) | 1 => vQ = (.bool false) | _ => True) rfl (by kernel_rfl) (Below.refl _ _) (fun _ _ _ h k => h.trans (k.mono h.size)) (fun _ _ _ _ h _ => h) ?_ ?_
                  · refine ⟨?_, ?_, trivial⟩
                    · intro a w' hx hu hd K hK; have e38 : a.tmps.getD 38 undef = (.int .i64 x.f0) := hu 38 rfl; exact Flow.run1 rfl (no (eql rfl e38 rfl) (beq_eq_false_iff_ne.2 HD3.out)) (hK _ _ (Below.refl _ _) rfl)
                    · intro a w' hx hu hd K hK; have e100 := Flow.got (hd 0 rfl) 100 rfl; exact Flow.run1 rfl (Flow.r_assign rfl e100) (hK _ _ (Below.refl _ _) rfl)
                  intro vs W70 hb70 hT
                  have v0 := Flow.eqn (hT 0 (by decide))
                  have v1 := Flow.eqn (hT 1 (by decide))
                  simp only [Flow.putsT, v0, v1, Act.put, List.setIfInBounds_toArray, List.set_cons_zero, List.set_cons_succ]
                  clear hT v0 v1
                  have HB70 := Aside0.mk (below_step HB64.out hb70)
                  have HCI_70 := Aside0.mk (CI.below HCI_64.out hb70)
                  have HXV_70 := Aside0.mk (XV.below HXV_64.out hb70)
                  have KR_14_15_16_17_18_44_51_64_70 := Aside0.mk (blk_below KR_14_15_16_17_18_44_51_64.out hb70)
                  have Kg16_17_18_44_51_64_70 := Aside0.mk (blk_below Kg16_17_18_44_51_64.out hb70)
                  clear hb70
                  go_wp2_with fail
                  go_meet
                  exact ⟨HB70, _, _, _, _, ⟨HCI_70.out.more (by omega)⟩, KR_14_15_16_17_18_44_51_64_70, ⟨HXV_70.out.tail⟩, ⟨HLR.out⟩⟩
        case rest =>
          clear hc0 hm0 hln
          obtain ⟨HBC, L, hits, misses, v, HCI, KR, HXV, HLR⟩ := hcut
          have hln := HCI.out.len
          obtain ⟨Av, cv, rfl⟩ := HXV.out.slice
          obtain ⟨nL, HNL⟩ : ∃ q, Aside0 (L.length = q) := ⟨_, ⟨rfl⟩⟩
          rw [HNL.out] at KR HXV
          have hnl := HNL.out
          go_upto_region 26 with fail
          refine Flow.seqT_head (E := fun u v => Below u.heap.size u v) 1 [(some 104, []), (some 105, [0]), (some 16, [1, 1, 0, 1])] (fun iQ vQ wQ => match iQ with | 0 => vQ = (.pointer (some ⟨gC, 0, none⟩)) | _ => True) rfl (by decide) (by kernel_rfl) (Below.refl _ _) (fun _ _ _ h k => h.trans (k.mono h.size)) (fun _ _ _ _ h _ => h) ?_ ?_
          · refine ⟨?_, trivial⟩
            · intro a w' hx hu hd K hK; have e5 : a.tmps.getD 5 undef = (.pointer (some ⟨gC, 0, none⟩)) := hu 5 rfl; exact Flow.run1 rfl (Flow.r_move rfl e5) (hK _ _ (Below.refl _ _) rfl)
          intro vs W71 hb71 hT
          have v0 := Flow.eqn (hT 0 (by decide))
          simp only [Flow.putsT, v0, Act.put, List.setIfInBounds_toArray, List.set_cons_zero, List.set_cons_succ, List.drop_succ_cons, List.drop_zero, List.take_succ_cons, List.take_zero]
          clear hT v0
          have HB71 := Aside0.mk (below_step HBC.out hb71)
          have HCI_71 := Aside0.mk (CI.below HCI.out hb71)
          have HXV_71 := Aside0.mk (XV.below HXV.out hb71)
          have KR_71 := Aside0.mk (blk_below KR.out hb71)
          clear hb71
          refine ecall rfl rfl Try.func27 (by kernel_rfl) rfl (args := #[.pointer (some ⟨gC, 0, none⟩)]) (by first | (simp only [List.map_toArray, List.map_cons, List.map_nil, Act.eval]; done) | (simp only [List.map_toArray, List.map_cons, List.map_nil, Act.eval]; rfl)) (keys_i _ HCI_71.out (by omega)) ?_
          rintro e W72 ⟨vk, rfl, hkr, hb72⟩
          refine ⟨_, rfl, ?_⟩
          obtain ⟨Ak, ck, rfl⟩ := hkr.slice
          rw [List.length_map, HNL.out] at hkr ⊢
          have HKR := Aside0.mk hkr
          clear hkr
          have HCI_72 := Aside0.mk (CI.below HCI_71.out hb72)
          have HXV_72 := Aside0.mk (XV.below HXV_71.out hb72)
          have KR_71_72 := Aside0.mk (blk_below KR_71.out hb72)
          have HB72 := Aside0.mk (below_step HB71.out hb72)
          clear hb72
          simp only [Act.put, List.setIfInBounds_toArray, List.set_cons_zero, List.set_cons_succ]
          refine Flow.seqL (E := fun u v => Below u.heap.size u v) 2 1 [(some 104, []), (some 105, [0]), (some 16, [1, 1, 0, 1])] (fun iQ vQ wQ => match iQ with | 2 => vQ = (.slice Ak nL ck) | _ => True) rfl (by decide) (by kernel_rfl) (Below.refl _ _) (fun _ _ _ h k => h.trans (k.mono h.size)) (fun _ _ _ _ h _ => h) ?_ ?_
          · refine ⟨?_, trivial⟩
            · intro a w' hx hu hd K hK; have e105 : a.tmps.getD 105 undef = (.slice Ak nL ck) := hu 105 rfl; exact Flow.run1 rfl (Flow.r_assign rfl e105) (hK _ _ (Below.refl _ _) rfl)
          intro vs W73 hb73 hT
          have v2 := Flow.eqn (hT 2 (by decide) (by decide))
          simp only [Flow.putsT, v2, Act.put, List.setIfInBounds_toArray, List.set_cons_zero, List.set_cons_succ, List.drop_succ_cons, List.drop_zero, List.take_succ_cons, List.take_zero]
          clear hT v2
          have HB73 := Aside0.mk (below_step HB72.out hb73)
          have HCI_73 := Aside0.mk (CI.below HCI_72.out hb73)
          have HXV_73 := Aside0.mk (XV.below HXV_72.out hb73)
          have HKR_73 := Aside0.mk (KRow.below HKR.out hb73)
          have KR_71_72_73 := Aside0.mk (blk_below KR_71_72.out hb73)
          clear hb73
          go_upto_region 27 with fail
          refine Flow.seqT (E := fun u v => Below u.heap.size u v) [(some 107, []), (some 108, [0]), (some 106, [1]), (some 109, [2]), (some 110, [2]), (some 17, [3, 1, 0, 1, 2, 3]), (some 18, [4, 5, 0, 1, 2, 3, 4, 5])] (fun iQ vQ wQ => match iQ with | 0 => vQ = (.pointer (some ⟨gC, 0, none⟩)) | 1 => vQ = (.tuple #[.int .i64 hits, .int .i64 misses]) | 2 => vQ = (.tuple #[.int .i64 hits, .int .i64 misses]) | 3 => vQ = (.int .i64 hits) | 4 => vQ = (.int .i64 misses) | 5 => vQ = (.int .i64 hits) | 6 => vQ = (.int .i64 misses) | _ => True) rfl (by kernel_rfl) (Below.refl _ _) (fun _ _ _ h k => h.trans (k.mono h.size)) (fun _ _ _ _ h _ => h) ?_ ?_
          · refine ⟨?_, ?_, ?_, ?_, ?_, ?_, ?_, trivial⟩
            · intro a w' hx hu hd K hK; have e5 : a.tmps.getD 5 undef = (.pointer (some ⟨gC, 0, none⟩)) := hu 5 rfl; exact Flow.run1 rfl (Flow.r_move rfl e5) (hK _ _ (Below.refl _ _) rfl)
            · intro a w' hx hu hd K hK; have e107 := Flow.got (hd 0 rfl) 107 rfl; refine Flow.want rfl ?_; refine Flow.val_call rfl Try.func28 (by kernel_rfl) rfl (by first | (simp only [List.map_toArray, List.map_cons, List.map_nil, Act.eval, e107]; done) | (simp only [List.map_toArray, List.map_cons, List.map_nil, Act.eval, e107]; rfl)) (counts_i w' (CI.below HCI_73.out hx)) ?_; rintro e w2 ⟨rfl, hb2⟩; exact ⟨_, rfl, hK _ _ hb2 rfl⟩
            · intro a w' hx hu hd K hK; have e108 := Flow.got (hd 1 rfl) 108 rfl; exact Flow.run1 rfl (Flow.r_move rfl e108) (hK _ _ (Below.refl _ _) rfl)
            · intro a w' hx hu hd K hK; have e106 := Flow.got (hd 2 rfl) 106 rfl; exact Flow.run1 rfl (extr rfl e106 rfl) (hK _ _ (Below.refl _ _) rfl)
            · intro a w' hx hu hd K hK; have e106 := Flow.got (hd 2 rfl) 106 rfl; exact Flow.run1 rfl (extr rfl e106 rfl) (hK _ _ (Below.refl _ _) rfl)
            · intro a w' hx hu hd K hK; have e109 := Flow.got (hd 3 rfl) 109 rfl; exact Flow.run1 rfl (Flow.r_assign rfl e109) (hK _ _ (Below.refl _ _) rfl)
            · intro a w' hx hu hd K hK; have e110 := Flow.got (hd 4 rfl) 110 rfl; exact Flow.run1 rfl (Flow.r_assign rfl e110) (hK _ _ (Below.refl _ _) rfl)
          intro vs W74 hb74 hT
          have v0 := Flow.eqn (hT 0 (by decide))
          have v1 := Flow.eqn (hT 1 (by decide))
          have v2 := Flow.eqn (hT 2 (by decide))
          have v3 := Flow.eqn (hT 3 (by decide))
          have v4 := Flow.eqn (hT 4 (by decide))
          have v5 := Flow.eqn (hT 5 (by decide))
          have v6 := Flow.eqn (hT 6 (by decide))
          simp only [Flow.putsT, v0, v1, v2, v3, v4, v5, v6, Act.put, List.setIfInBounds_toArray, List.set_cons_zero, List.set_cons_succ]
          clear hT v0 v1 v2 v3 v4 v5 v6
          have HB74 := Aside0.mk (below_step HB73.out hb74)
          have HCI_74 := Aside0.mk (CI.below HCI_73.out hb74)
          have HXV_74 := Aside0.mk (XV.below HXV_73.out hb74)
          have HKR_74 := Aside0.mk (KRow.below HKR_73.out hb74)
          have KR_71_72_73_74 := Aside0.mk (blk_below KR_71_72_73.out hb74)
          clear hb74
          go_upto_region 28 with fail
          refine Flow.flowT (E := fun u v => Below u.heap.size u v) [(some 111, []), (some 112, [0]), (some 113, []), (some 114, [2]), (some 115, [3]), (some 116, [1, 4]), (some 117, [5, 1]), (some 118, [6]), (some 119, [7, 6]), (some 120, [6]), (some 121, [9, 6]), (some 122, [10, 6]), (some 123, [8, 11, 6]), (some 124, [6, 12]), (some 125, [13, 6]), (some 126, [14]), (some 127, [14]), (some 128, [16, 14]), (some 129, [15, 17, 14]), (some 130, [14, 18]), (some 131, [19, 14]), (some 132, [20]), (some 133, [20]), (some 134, [22, 20]), (some 135, [21, 23, 20]), (some 136, [20, 24])] (fun iQ vQ wQ => match iQ with | 0 => vQ = (.pointer (some ⟨gC, 0, none⟩)) | 1 => vQ = (.int .i64 nL) | 2 => vQ = (.pointer (some ⟨g10, 0, none⟩)) | 3 => vQ = (.slice Av nL cv) | 4 => vQ = (.int .i64 nL) | 5 => vQ = (.bool false) | 6 => vQ = (.bool false) | 7 => vQ = (.slice Ak nL ck) | 8 => vQ = (.int .i64 nL) | 9 => vQ = (.pointer (some ⟨g10, 0, none⟩)) | 10 => vQ = (.slice Av nL cv) | 11 => vQ = (.int .i64 nL) | 12 => vQ = (.bool false) | 13 => vQ = (.bool false) | 14 => vQ = (.bool false) | 15 => vQ = (.int .i64 hits) | 16 => vQ = (.pointer (some ⟨g10, 2, none⟩)) | 17 => vQ = (.int .i64 hits) | 18 => vQ = (.bool false) | 19 => vQ = (.bool false) | 20 => vQ = (.bool false) | 21 => vQ = (.int .i64 misses) | 22 => vQ = (.pointer (some ⟨g10, 3, none⟩)) | 23 => vQ = (.int .i64 misses) | 24 => vQ = (.bool false) | 25 => vQ = (.bool false) | _ => True) rfl (by kernel_rfl) (by kernel_rfl) (by kernel_rfl) ((Below.refl _ _).drew) (fun _ _ _ h k => h.trans (k.mono h.size)) (fun _ _ _ _ h _ => h) ?_ ?_
          · refine ⟨?_, ?_, ?_, ?_, ?_, ?_, ?_, ?_, ?_, ?_, ?_, ?_, ?_, ?_, ?_, ?_, ?_, ?_, ?_, ?_, ?_, ?_, ?_, ?_, ?_, ?_, trivial⟩
            · intro a w' hx hu hd K hK; have e5 : a.tmps.getD 5 undef = (.pointer (some ⟨gC, 0, none⟩)) := hu 5 rfl; exact Flow.run1 rfl (Flow.r_move rfl e5) (hK _ _ (Below.refl _ _) rfl)
            · intro a w' hx hu hd K hK; have e111 := Flow.got (hd 0 (by decide)) 111 rfl; refine Flow.want rfl ?_; refine Flow.val_call rfl Try.func20 (by kernel_rfl) rfl (by first | (simp only [List.map_toArray, List.map_cons, List.map_nil, Act.eval, e111]; done) | (simp only [List.map_toArray, List.map_cons, List.map_nil, Act.eval, e111]; rfl)) (len_i w' (CI.below HCI_74.out hx)) ?_; rintro e w2 ⟨rfl, hb2⟩; rw [HNL.out]; exact ⟨_, rfl, hK _ _ hb2 rfl⟩
            · intro a w' hx hu hd K hK; have e6 : a.tmps.getD 6 undef = (.pointer (some ⟨g10, 0, none⟩)) := hu 6 rfl; exact Flow.run1 rfl (fa rfl e6 (fa45_0 _ _ _)) (hK _ _ (Below.refl _ _) rfl)
            · intro a w' hx hu hd K hK; have e113 := Flow.got (hd 2 (by decide)) 113 rfl; exact Flow.run1 rfl (ld rfl e113 ((blk_cell (blk_below KR_71_72_73_74.out hx) 0).trans rfl) Try.underlying43 rfl) (hK _ _ (Below.refl _ _) rfl)
            · intro a w' hx hu hd K hK; have e114 := Flow.got (hd 3 (by decide)) 114 rfl; exact Flow.run1 rfl (lenL Try.underlying43 rfl e114) (hK _ _ (Below.refl _ _) rfl)
            · intro a w' hx hu hd K hK; have e112 := Flow.got (hd 1 (by decide)) 112 rfl; have e115 := Flow.got (hd 4 (by decide)) 115 rfl; exact Flow.run1 rfl (no (neq rfl e112 e115) (bne_eq_false_iff_eq.2 rfl)) (hK _ _ (Below.refl _ _) rfl)
            · intro a w' hx hu hd K hK; have e116 := Flow.got (hd 5 (by decide)) 116 rfl; exact Flow.run1 rfl (Flow.r_move rfl e116) (hK _ _ (Below.refl _ _) rfl)
            · intro a w' hx hu hd K hK; have e16 : a.tmps.getD 16 undef = (.slice Ak nL ck) := hu 16 rfl; have e117 := Flow.got (hd 6 (by decide)) 117 rfl; exact Flow.run1 (Flow.want_of (k := 117) rfl e117) (Flow.r_move rfl e16) (hK _ _ (Below.refl _ _) rfl)
            · intro a w' hx hu hd K hK; have e118 := Flow.got (hd 7 (by decide)) 118 rfl; have e117 := Flow.got (hd 6 (by decide)) 117 rfl; exact Flow.run1 (Flow.want_of (k := 117) rfl e117) (lenL Try.underlying53 rfl e118) (hK _ _ (Below.refl _ _) rfl)
            · intro a w' hx hu hd K hK; have e6 : a.tmps.getD 6 undef = (.pointer (some ⟨g10, 0, none⟩)) := hu 6 rfl; have e117 := Flow.got (hd 6 (by decide)) 117 rfl; exact Flow.run1 (Flow.want_of (k := 117) rfl e117) (fa rfl e6 (fa45_0 _ _ _)) (hK _ _ (Below.refl _ _) rfl)
            · intro a w' hx hu hd K hK; have e120 := Flow.got (hd 9 (by decide)) 120 rfl; have e117 := Flow.got (hd 6 (by decide)) 117 rfl; exact Flow.run1 (Flow.want_of (k := 117) rfl e117) (ld rfl e120 ((blk_cell (blk_below KR_71_72_73_74.out hx) 0).trans rfl) Try.underlying43 rfl) (hK _ _ (Below.refl _ _) rfl)
            · intro a w' hx hu hd K hK; have e121 := Flow.got (hd 10 (by decide)) 121 rfl; have e117 := Flow.got (hd 6 (by decide)) 117 rfl; exact Flow.run1 (Flow.want_of (k := 117) rfl e117) (lenL Try.underlying43 rfl e121) (hK _ _ (Below.refl _ _) rfl)
            · intro a w' hx hu hd K hK; have e119 := Flow.got (hd 8 (by decide)) 119 rfl; have e122 := Flow.got (hd 11 (by decide)) 122 rfl; have e117 := Flow.got (hd 6 (by decide)) 117 rfl; exact Flow.run1 (Flow.want_of (k := 117) rfl e117) (no (neq rfl e119 e122) (bne_eq_false_iff_eq.2 rfl)) (hK _ _ (Below.refl _ _) rfl)
            · intro a w' hx hu hd K hK; have e117 := Flow.got (hd 6 (by decide)) 117 rfl; have e123 := Flow.got (hd 12 (by decide)) 123 rfl; exact Flow.run1 rfl (Flow.r_pick rfl e117 e123) (hK _ _ (Below.refl _ _) rfl)
            · intro a w' hx hu hd K hK; have e124 := Flow.got (hd 13 (by decide)) 124 rfl; exact Flow.run1 rfl (Flow.r_move rfl e124) (hK _ _ (Below.refl _ _) rfl)
            · intro a w' hx hu hd K hK; have e17 : a.tmps.getD 17 undef = (.int .i64 hits) := hu 17 rfl; have e125 := Flow.got (hd 14 (by decide)) 125 rfl; exact Flow.run1 (Flow.want_of (k := 125) rfl e125) (Flow.r_move rfl e17) (hK _ _ (Below.refl _ _) rfl)
            · intro a w' hx hu hd K hK; have e6 : a.tmps.getD 6 undef = (.pointer (some ⟨g10, 0, none⟩)) := hu 6 rfl; have e125 := Flow.got (hd 14 (by decide)) 125 rfl; exact Flow.run1 (Flow.want_of (k := 125) rfl e125) (fa rfl e6 (fa45_2 _ _ _)) (hK _ _ (Below.refl _ _) rfl)
            · intro a w' hx hu hd K hK; have e127 := Flow.got (hd 16 (by decide)) 127 rfl; have e125 := Flow.got (hd 14 (by decide)) 125 rfl; exact Flow.run1 (Flow.want_of (k := 125) rfl e125) (ld rfl e127 ((blk_cell (blk_below KR_71_72_73_74.out hx) 2).trans rfl) Try.underlying3 rfl) (hK _ _ (Below.refl _ _) rfl)
            · intro a w' hx hu hd K hK; have e126 := Flow.got (hd 15 (by decide)) 126 rfl; have e128 := Flow.got (hd 17 (by decide)) 128 rfl; have e125 := Flow.got (hd 14 (by decide)) 125 rfl; exact Flow.run1 (Flow.want_of (k := 125) rfl e125) (no (neq rfl e126 e128) (bne_eq_false_iff_eq.2 rfl)) (hK _ _ (Below.refl _ _) rfl)
            · intro a w' hx hu hd K hK; have e125 := Flow.got (hd 14 (by decide)) 125 rfl; have e129 := Flow.got (hd 18 (by decide)) 129 rfl; exact Flow.run1 rfl (Flow.r_pick rfl e125 e129) (hK _ _ (Below.refl _ _) rfl)
            · intro a w' hx hu hd K hK; have e130 := Flow.got (hd 19 (by decide)) 130 rfl; exact Flow.run1 rfl (Flow.r_move rfl e130) (hK _ _ (Below.refl _ _) rfl)
            · intro a w' hx hu hd K hK; have e18 : a.tmps.getD 18 undef = (.int .i64 misses) := hu 18 rfl; have e131 := Flow.got (hd 20 (by decide)) 131 rfl; exact Flow.run1 (Flow.want_of (k := 131) rfl e131) (Flow.r_move rfl e18) (hK _ _ (Below.refl _ _) rfl)
            · intro a w' hx hu hd K hK; have e6 : a.tmps.getD 6 undef = (.pointer (some ⟨g10, 0, none⟩)) := hu 6 rfl; have e131 := Flow.got (hd 20 (by decide)) 131 rfl; exact Flow.run1 (Flow.want_of (k := 131) rfl e131) (fa rfl e6 (fa45_3 _ _ _)) (hK _ _ (Below.refl _ _) rfl)
            · intro a w' hx hu hd K hK; have e133 := Flow.got (hd 22 (by decide)) 133 rfl; have e131 := Flow.got (hd 20 (by decide)) 131 rfl; exact Flow.run1 (Flow.want_of (k := 131) rfl e131) (ld rfl e133 ((blk_cell (blk_below KR_71_72_73_74.out hx) 3).trans rfl) Try.underlying3 rfl) (hK _ _ (Below.refl _ _) rfl)
            · intro a w' hx hu hd K hK; have e132 := Flow.got (hd 21 (by decide)) 132 rfl; have e134 := Flow.got (hd 23 (by decide)) 134 rfl; have e131 := Flow.got (hd 20 (by decide)) 131 rfl; exact Flow.run1 (Flow.want_of (k := 131) rfl e131) (no (neq rfl e132 e134) (bne_eq_false_iff_eq.2 rfl)) (hK _ _ (Below.refl _ _) rfl)
            · intro a w' hx hu hd K hK; have e131 := Flow.got (hd 20 (by decide)) 131 rfl; have e135 := Flow.got (hd 24 (by decide)) 135 rfl; exact Flow.run1 rfl (Flow.r_pick rfl e131 e135) (hK _ _ (Below.refl _ _) rfl)
          intro vs W75 hb75 hT
          have v0 := Flow.eqn (hT 0 (by decide))
          have v1 := Flow.eqn (hT 1 (by decide))
          have v2 := Flow.eqn (hT 2 (by decide))
          have v3 := Flow.eqn (hT 3 (by decide))
          have v4 := Flow.eqn (hT 4 (by decide))
          have v5 := Flow.eqn (hT 5 (by decide))
          have v6 := Flow.eqn (hT 6 (by decide))
          have v7 := Flow.eqn (hT 7 (by decide))
          have v8 := Flow.eqn (hT 8 (by decide))
          have v9 := Flow.eqn (hT 9 (by decide))
          have v10 := Flow.eqn (hT 10 (by decide))
          have v11 := Flow.eqn (hT 11 (by decide))
          have v12 := Flow.eqn (hT 12 (by decide))
          have v13 := Flow.eqn (hT 13 (by decide))
          have v14 := Flow.eqn (hT 14 (by decide))
          have v15 := Flow.eqn (hT 15 (by decide))
          have v16 := Flow.eqn (hT 16 (by decide))
          have v17 := Flow.eqn (hT 17 (by decide))
          have v18 := Flow.eqn (hT 18 (by decide))
          have v19 := Flow.eqn (hT 19 (by decide))
          have v20 := Flow.eqn (hT 20 (by decide))
          have v21 := Flow.eqn (hT 21 (by decide))
          have v22 := Flow.eqn (hT 22 (by decide))
          have v23 := Flow.eqn (hT 23 (by decide))
          have v24 := Flow.eqn (hT 24 (by decide))
          have v25 := Flow.eqn (hT 25 (by decide))
          simp only [Flow.putsT, v0, v1, v2, v3, v4, v5, v6, v7, v8, v9, v10, v11, v12, v13, v14, v15, v16, v17, v18, v19, v20, v21, v22, v23, v24, v25, Act.put, List.setIfInBounds_toArray, List.set_cons_zero, List.set_cons_succ]
          clear hT v0 v1 v2 v3 v4 v5 v6 v7 v8 v9 v10 v11 v12 v13 v14 v15 v16 v17 v18 v19 v20 v21 v22 v23 v24 v25
          have HB75 := Aside0.mk (below_step HB74.out hb75)
          have HCI_75 := Aside0.mk (CI.below HCI_74.out hb75)
          have HXV_75 := Aside0.mk (XV.below HXV_74.out hb75)
          have HKR_75 := Aside0.mk (KRow.below HKR_74.out hb75)
          have KR_71_72_73_74_75 := Aside0.mk (blk_below KR_71_72_73_74.out hb75)
          clear hb75
          go_upto_region 30 with fail
          refine Flow.seqT (E := fun u v => Below u.heap.size u v) [(some 19, [])] (fun iQ vQ wQ => match iQ with | 0 => vQ = (.int .i64 0) | _ => True) rfl (by kernel_rfl) (Below.refl _ _) (fun _ _ _ h k => h.trans (k.mono h.size)) (fun _ _ _ _ h _ => h) ?_ ?_
          · refine ⟨?_, trivial⟩
            · intro a w' hx hu hd K hK; exact Flow.run1 rfl (Flow.r_assign rfl rfl) (hK _ _ (Below.refl _ _) rfl)
          intro vs W76 hb76 hT
          have v0 := Flow.eqn (hT 0 (by decide))
          simp only [Flow.putsT, v0, Act.put, List.setIfInBounds_toArray, List.set_cons_zero, List.set_cons_succ]
          clear hT v0
          have HB76 := Aside0.mk (below_step HB75.out hb76)
          have HCI_76 := Aside0.mk (CI.below HCI_75.out hb76)
          have HXV_76 := Aside0.mk (XV.below HXV_75.out hb76)
          have HKR_76 := Aside0.mk (KRow.below HKR_75.out hb76)
          have KR_71_72_73_74_75_76 := Aside0.mk (blk_below KR_71_72_73_74_75.out hb76)
          clear hb76
          go_wp2
          go_loopg [19] nL (fun g v19 wr => ∃ j : Nat, j ≤ nL ∧ Aside0 (g = nL - j) ∧ v19 = .int .i64 j ∧ Aside0 (Below w.heap.size w wr) ∧ Aside0 (CI wr gC gM r hits misses (i + 1) L) ∧ Aside0 (wr.heap[g10]? = some (.cells #[.slice Av nL cv, .int .i64 r, .int .i64 hits, .int .i64 misses] 45 (0, 0))) ∧ Aside0 (XV wr [g10, gC, gM] (.slice Av nL cv) (tos L)) ∧ Aside0 (KRow wr (.slice Ak nL ck) (L.map (·.1))))
          case atStart => exact ⟨0, Nat.zero_le _, ⟨rfl⟩, rfl, HB76, HCI_76, KR_71_72_73_74_75_76, HXV_76, HKR_76⟩
          case round =>
            clear HB76 HCI_76 KR_71_72_73_74_75_76 HXV_76 HKR_76
            obtain ⟨j, hj, HGJ, rfl, HBQ, HCQ, KQ, HXQ, HKQ⟩ := hrel
            by_cases hjt : j < nL
            · have hjt2 : (j : Int) < nL := by omega
              obtain ⟨y, HY⟩ : ∃ q, Aside0 (L[j]? = some q) := ⟨_, ⟨List.getElem?_eq_getElem (by have := HNL.out; omega)⟩⟩
              go_upto_region 31 with fail
              refine Flow.seqT (E := fun u v => Below u.heap.size u v) [(some 137, []), (some 138, []), (some 139, [1]), (some 140, [0, 2])] (fun iQ vQ wQ => match iQ with | 0 => vQ = (.int .i64 j) | 1 => vQ = (.slice Ak nL ck) | 2 => vQ = (.int .i64 nL) | 3 => vQ = (.bool true) | _ => True) rfl (by kernel_rfl) (Below.refl _ _) (fun _ _ _ h k => h.trans (k.mono h.size)) (fun _ _ _ _ h _ => h) ?_ ?_
              · refine ⟨?_, ?_, ?_, ?_, trivial⟩
                · intro a w' hx hu hd K hK; have e19 : a.tmps.getD 19 undef = (.int .i64 j) := hu 19 rfl; exact Flow.run1 rfl (Flow.r_move rfl e19) (hK _ _ (Below.refl _ _) rfl)
                · intro a w' hx hu hd K hK; have e16 : a.tmps.getD 16 undef = (.slice Ak nL ck) := hu 16 rfl; exact Flow.run1 rfl (Flow.r_move rfl e16) (hK _ _ (Below.refl _ _) rfl)
                · intro a w' hx hu hd K hK; have e138 := Flow.got (hd 1 rfl) 138 rfl; exact Flow.run1 rfl (lenL Try.underlying53 rfl e138) (hK _ _ (Below.refl _ _) rfl)
                · intro a w' hx hu hd K hK; have e137 := Flow.got (hd 0 rfl) 137 rfl; have e139 := Flow.got (hd 2 rfl) 139 rfl; exact Flow.run1 rfl (yes (lss rfl e137 e139) (decide_eq_true hjt2)) (hK _ _ (Below.refl _ _) rfl)
              intro vs W77 hb77 hT
              have v0 := Flow.eqn (hT 0 (by decide))
              have v1 := Flow.eqn (hT 1 (by decide))
              have v2 := Flow.eqn (hT 2 (by decide))
              have v3 := Flow.eqn (hT 3 (by decide))
              simp only [Flow.putsT, v0, v1, v2, v3, Act.put, List.setIfInBounds_toArray, List.set_cons_zero, List.set_cons_succ]
              clear hT v0 v1 v2 v3
              have HB77 := Aside0.mk (below_step HBQ.out hb77)
              have HCI_77 := Aside0.mk (CI.below HCQ.out hb77)
              have HXV_77 := Aside0.mk (XV.below HXQ.out hb77)
              have HKR_77 := Aside0.mk (KRow.below HKQ.out hb77)
              have KQ_77 := Aside0.mk (blk_below KQ.out hb77)
              clear hb77
              obtain ⟨adv, rfl⟩ := C_some (HXV_77.out.reads).2.2 (by omega)
              have HLV := Aside0.mk (at58 HXV_77.out HY.out)
              obtain ⟨gk, cur, hAk, hkk, hkp⟩ := HKR_77.out.open_ (by omega)
              subst hAk
              obtain ⟨adk, hadk⟩ : ∃ q, (⟨gk, 0, none⟩ : Addr) = q := ⟨_, rfl⟩
              have HLK := hkp.lies hkk (j := j) (k := y.1) (by rw [List.getElem?_map, HY.out]; rfl)
              rw [hadk] at HLK HKR_77 ⊢
              have HLK := Aside0.mk HLK
              clear hkk hkp
              go_upto_region 33 with fail
              refine Flow.flowT (E := fun u v => Below u.heap.size u v) [(some 143, []), (some 144, []), (some 145, [0, 1]), (some 146, [2]), (some 147, []), (some 148, [4]), (some 149, []), (some 150, [5, 6]), (some 151, [7]), (some 152, [8]), (some 153, [3, 9])] (fun iQ vQ wQ => match iQ with | 0 => vQ = (.slice (some adk) nL ck) | 1 => vQ = (.int .i64 j) | 2 => vQ = (.pointer (some (adk.add (j * 3)))) | 3 => vQ = (.agg #[.int .i64 y.1.f0, .int .i64 y.1.f1, .int .i64 y.1.f2]) | 4 => vQ = (.pointer (some ⟨g10, 0, none⟩)) | 5 => vQ = (.slice (some adv) nL cv) | 6 => vQ = (.int .i64 j) | 7 => vQ = (.pointer (some (adv.add (j * 4)))) | 8 => vQ = (.pointer (some ((adv.add (j * 4)).add 0))) | 9 => vQ = (.agg #[.int .i64 y.1.f0, .int .i64 y.1.f1, .int .i64 y.1.f2]) | 10 => vQ = (.bool false) | _ => True) rfl (by kernel_rfl) (by kernel_rfl) (by kernel_rfl) ((Below.refl _ _).drew) (fun _ _ _ h k => h.trans (k.mono h.size)) (fun _ _ _ _ h _ => h) ?_ ?_
              · refine ⟨?_, ?_, ?_, ?_, ?_, ?_, ?_, ?_, ?_, ?_, ?_, trivial⟩
                · intro a w' hx hu hd K hK; have e16 : a.tmps.getD 16 undef = (.slice (some adk) nL ck) := hu 16 rfl; exact Flow.run1 rfl (Flow.r_move rfl e16) (hK _ _ (Below.refl _ _) rfl)
                · intro a w' hx hu hd K hK; have e19 : a.tmps.getD 19 undef = (.int .i64 j) := hu 19 rfl; exact Flow.run1 rfl (Flow.r_move rfl e19) (hK _ _ (Below.refl _ _) rfl)
                · intro a w' hx hu hd K hK; have e143 := Flow.got (hd 0 (by decide)) 143 rfl; have e144 := Flow.got (hd 1 (by decide)) 144 rfl; exact Flow.run1 rfl (ix (i := j) Try.underlying53 size36 rfl e143 e144 hjt) (hK _ _ (Below.refl _ _) rfl)
                · intro a w' hx hu hd K hK; have e145 := Flow.got (hd 2 (by decide)) 145 rfl; exact Flow.run1 rfl (ldrow rfl e145 (lies_below HLK.out hx) Try.underlying36 rfl size36) (hK _ _ (Below.refl _ _) rfl)
                · intro a w' hx hu hd K hK; have e6 : a.tmps.getD 6 undef = (.pointer (some ⟨g10, 0, none⟩)) := hu 6 rfl; exact Flow.run1 rfl (fa rfl e6 (fa45_0 _ _ _)) (hK _ _ (Below.refl _ _) rfl)
                · intro a w' hx hu hd K hK; have e147 := Flow.got (hd 4 (by decide)) 147 rfl; exact Flow.run1 rfl (ld rfl e147 ((blk_cell (blk_below KQ_77.out hx) 0).trans rfl) Try.underlying43 rfl) (hK _ _ (Below.refl _ _) rfl)
                · intro a w' hx hu hd K hK; have e19 : a.tmps.getD 19 undef = (.int .i64 j) := hu 19 rfl; exact Flow.run1 rfl (Flow.r_move rfl e19) (hK _ _ (Below.refl _ _) rfl)
                · intro a w' hx hu hd K hK; have e148 := Flow.got (hd 5 (by decide)) 148 rfl; have e149 := Flow.got (hd 6 (by decide)) 149 rfl; exact Flow.run1 rfl (ix (i := j) Try.underlying43 size58 rfl e148 e149 hjt) (hK _ _ (Below.refl _ _) rfl)
                · intro a w' hx hu hd K hK; have e150 := Flow.got (hd 7 (by decide)) 150 rfl; exact Flow.run1 rfl (fa rfl e150 (fad58_0 _ _)) (hK _ _ (Below.refl _ _) rfl)
                · intro a w' hx hu hd K hK; have e151 := Flow.got (hd 8 (by decide)) 151 rfl; exact Flow.run1 rfl (ldrow (c := [.int .i64 y.1.f0, .int .i64 y.1.f1, .int .i64 y.1.f2]) rfl e151 (lies_sub (lies_below HLV.out hx) 0 rfl) Try.underlying36 rfl size36) (hK _ _ (Below.refl _ _) rfl)
                · intro a w' hx hu hd K hK; have e146 := Flow.got (hd 3 (by decide)) 146 rfl; have e152 := Flow.got (hd 9 (by decide)) 152 rfl; exact Flow.run1 rfl (ne36 (k := y.1) rfl e146 e152) (hK _ _ (Below.refl _ _) rfl)
              intro vs W78 hb78 hT
              have v0 := Flow.eqn (hT 0 (by decide))
              have v1 := Flow.eqn (hT 1 (by decide))
              have v2 := Flow.eqn (hT 2 (by decide))
              have v3 := Flow.eqn (hT 3 (by decide))
              have v4 := Flow.eqn (hT 4 (by decide))
              have v5 := Flow.eqn (hT 5 (by decide))
              have v6 := Flow.eqn (hT 6 (by decide))
              have v7 := Flow.eqn (hT 7 (by decide))
              have v8 := Flow.eqn (hT 8 (by decide))
              have v9 := Flow.eqn (hT 9 (by decide))
              have v10 := Flow.eqn (hT 10 (by decide))
              simp only [Flow.putsT, v0, v1, v2, v3, v4, v5, v6, v7, v8, v9, v10, Act.put, List.setIfInBounds_toArray, List.set_cons_zero, List.set_cons_succ]
              clear hT v0 v1 v2 v3 v4 v5 v6 v7 v8 v9 v10
              have HB78 := Aside0.mk (below_step HB77.out hb78)
              have HCI_78 := Aside0.mk (CI.below HCI_77.out hb78)
              have HXV_78 := Aside0.mk (XV.below HXV_77.out hb78)
              have HKR_78 := Aside0.mk (KRow.below HKR_77.out hb78)
              have KQ_77_78 := Aside0.mk (blk_below KQ_77.out hb78)
              clear hb78
              obtain ⟨j1, J1H⟩ : ∃ x, Aside0 (j + 1 = x) := ⟨_, ⟨rfl⟩⟩
              have hj1 := J1H.out
              go_upto_region 32 with fail
              refine Flow.seqT (E := fun u v => Below u.heap.size u v) [(some 141, []), (some 142, [0]), (some 19, [1, 0, 1])] (fun iQ vQ wQ => match iQ with | 0 => vQ = (.int .i64 j) | 1 => vQ = (.int .i64 j1) | 2 => vQ = (.int .i64 j1) | _ => True) rfl (by kernel_rfl) (Below.refl _ _) (fun _ _ _ h k => h.trans (k.mono h.size)) (fun _ _ _ _ h _ => h) ?_ ?_
              · refine ⟨?_, ?_, ?_, trivial⟩
                · intro a w' hx hu hd K hK; have e19 : a.tmps.getD 19 undef = (.int .i64 j) := hu 19 rfl; exact Flow.run1 rfl (Flow.r_move rfl e19) (hK _ _ (Below.refl _ _) rfl)
                · intro a w' hx hu hd K hK; have e141 := Flow.got (hd 0 rfl) 141 rfl; exact Flow.run1 rfl (addk rfl e141 rfl (by omega) (by omega) (by omega)) (hK _ _ (Below.refl _ _) rfl)
                · intro a w' hx hu hd K hK; have e142 := Flow.got (hd 1 rfl) 142 rfl; exact Flow.run1 rfl (Flow.r_assign rfl e142) (hK _ _ (Below.refl _ _) rfl)
              intro vs W79 hb79 hT
              have v0 := Flow.eqn (hT 0 (by decide))
              have v1 := Flow.eqn (hT 1 (by decide))
              have v2 := Flow.eqn (hT 2 (by decide))
              simp only [Flow.putsT, v0, v1, v2, Act.put, List.setIfInBounds_toArray, List.set_cons_zero, List.set_cons_succ]
              clear hT v0 v1 v2
              have HB79 := Aside0.mk (below_step HB78.out hb79)
              have HCI_79 := Aside0.mk (CI.below HCI_78.out hb79)
              have HXV_79 := Aside0.mk (XV.below HXV_78.out hb79)
              have HKR_79 := Aside0.mk (KRow.below HKR_78.out hb79)
              have KQ_77_78_79 := Aside0.mk (blk_below KQ_77_78.out hb79)
              clear hb79
              subst hadk
              go_wp2
              go_roundg (nL - (j + 1))
              case measure => have := HGJ.out; omega
              case rel => exact ⟨j1, by omega, ⟨by rw [← hj1]⟩, rfl, HB79, HCI_79, KQ_77_78_79, HXV_79, HKR_79⟩
            · obtain rfl : j = nL := by omega
              have hjt2 : ¬ ((j : Nat) : Int) < j := by omega
              go_upto_region 31 with fail
              refine Flow.seqT (E := fun u v => Below u.heap.size u v) [(some 137, []), (some 138, []), (some 139, [1]), (some 140, [0, 2])] (fun iQ vQ wQ => match iQ with | 0 => vQ = (.int .i64 j) | 1 => vQ = (.slice Ak j ck) | 2 => vQ = (.int .i64 j) | 3 => vQ = (.bool false) | _ => True) rfl (by kernel_rfl) (Below.refl _ _) (fun _ _ _ h k => h.trans (k.mono h.size)) (fun _ _ _ _ h _ => h) ?_ ?_
              · refine ⟨?_, ?_, ?_, ?_, trivial⟩
                · intro a w' hx hu hd K hK; have e19 : a.tmps.getD 19 undef = (.int .i64 j) := hu 19 rfl; exact Flow.run1 rfl (Flow.r_move rfl e19) (hK _ _ (Below.refl _ _) rfl)
                · intro a w' hx hu hd K hK; have e16 : a.tmps.getD 16 undef = (.slice Ak j ck) := hu 16 rfl; exact Flow.run1 rfl (Flow.r_move rfl e16) (hK _ _ (Below.refl _ _) rfl)
                · intro a w' hx hu hd K hK; have e138 := Flow.got (hd 1 rfl) 138 rfl; exact Flow.run1 rfl (lenL Try.underlying53 rfl e138) (hK _ _ (Below.refl _ _) rfl)
                · intro a w' hx hu hd K hK; have e137 := Flow.got (hd 0 rfl) 137 rfl; have e139 := Flow.got (hd 2 rfl) 139 rfl; exact Flow.run1 rfl (no (lss rfl e137 e139) (decide_eq_false hjt2)) (hK _ _ (Below.refl _ _) rfl)
              intro vs W80 hb80 hT
              have v0 := Flow.eqn (hT 0 (by decide))
              have v1 := Flow.eqn (hT 1 (by decide))
              have v2 := Flow.eqn (hT 2 (by decide))
              have v3 := Flow.eqn (hT 3 (by decide))
              simp only [Flow.putsT, v0, v1, v2, v3, Act.put, List.setIfInBounds_toArray, List.set_cons_zero, List.set_cons_succ]
              clear hT v0 v1 v2 v3
              have HB80 := Aside0.mk (below_step HBQ.out hb80)
              have HCI_80 := Aside0.mk (CI.below HCQ.out hb80)
              have HXV_80 := Aside0.mk (XV.below HXQ.out hb80)
              have HKR_80 := Aside0.mk (KRow.below HKQ.out hb80)
              have KQ_80 := Aside0.mk (blk_below KQ.out hb80)
              clear hb80
              obtain ⟨i1, I1H⟩ : ∃ x, Aside0 (i + 1 = x) := ⟨_, ⟨rfl⟩⟩
              have hi1 := I1H.out
              go_upto_region 6 with fail
              refine Flow.seqT (E := fun u v => Below u.heap.size u v) [(some 31, []), (some 32, [0]), (some 7, [1, 0, 1])] (fun iQ vQ wQ => match iQ with | 0 => vQ = (.int .i64 i) | 1 => vQ = (.int .i64 i1) | 2 => vQ = (.int .i64 i1) | _ => True) rfl (by kernel_rfl) (Below.refl _ _) (fun _ _ _ h k => h.trans (k.mono h.size)) (fun _ _ _ _ h _ => h) ?_ ?_
              · refine ⟨?_, ?_, ?_, trivial⟩
                · intro a w' hx hu hd K hK; have e7 : a.tmps.getD 7 undef = (.int .i64 i) := hu 7 rfl; exact Flow.run1 rfl (Flow.r_move rfl e7) (hK _ _ (Below.refl _ _) rfl)
                · intro a w' hx hu hd K hK; have e31 := Flow.got (hd 0 rfl) 31 rfl; exact Flow.run1 rfl (addk rfl e31 rfl (by omega) (by omega) (by omega)) (hK _ _ (Below.refl _ _) rfl)
                · intro a w' hx hu hd K hK; have e32 := Flow.got (hd 1 rfl) 32 rfl; exact Flow.run1 rfl (Flow.r_assign rfl e32) (hK _ _ (Below.refl _ _) rfl)
              intro vs W81 hb81 hT
              have v0 := Flow.eqn (hT 0 (by decide))
              have v1 := Flow.eqn (hT 1 (by decide))
              have v2 := Flow.eqn (hT 2 (by decide))
              simp only [Flow.putsT, v0, v1, v2, Act.put, List.setIfInBounds_toArray, List.set_cons_zero, List.set_cons_succ]
              clear hT v0 v1 v2
              have HB81 := Aside0.mk (below_step HB80.out hb81)
              have HCI_81 := Aside0.mk (CI.below HCI_80.out hb81)
              have HXV_81 := Aside0.mk (XV.below HXV_80.out hb81)
              have HKR_81 := Aside0.mk (KRow.below HKR_80.out hb81)
              have KQ_80_81 := Aside0.mk (blk_below KQ_80.out hb81)
              clear hb81
              go_wp2
              go_roundg (n - (i + 1))
              case measure => have := HGI.out; omega
              case rel => exact ⟨i1, by omega, ⟨by rw [← hi1]⟩, rfl, HB81, L, hits, misses, _, ⟨hi1 ▸ HCI_81.out⟩, KQ_80_81, HXV_81, HLR⟩
      · obtain rfl : i = n := by omega
        have hlt2 : ¬ ((i : Nat) : Int) < i := by omega
        go_upto_region 5 with fail
        refine Flow.seqT (E := fun u v => Below u.heap.size u v) [(some 27, []), (some 28, []), (some 29, [1]), (some 30, [0, 2])] (fun iQ vQ wQ => match iQ with | 0 => vQ = (.int .i64 i) | 1 => vQ = (.slice A i c) | 2 => vQ = (.int .i64 i) | 3 => vQ = (.bool false) | _ => True) rfl (by kernel_rfl) (Below.refl _ _) (fun _ _ _ h k => h.trans (k.mono h.size)) (fun _ _ _ _ h _ => h) ?_ ?_
        · refine ⟨?_, ?_, ?_, ?_, trivial⟩
          · intro a w' hx hu hd K hK; have e7 : a.tmps.getD 7 undef = (.int .i64 i) := hu 7 rfl; exact Flow.run1 rfl (Flow.r_move rfl e7) (hK _ _ (Below.refl _ _) rfl)
          · intro a w' hx hu hd K hK; have e1 : a.tmps.getD 1 undef = (.slice A i c) := hu 1 rfl; exact Flow.run1 rfl (Flow.r_move rfl e1) (hK _ _ (Below.refl _ _) rfl)
          · intro a w' hx hu hd K hK; have e28 := Flow.got (hd 1 rfl) 28 rfl; exact Flow.run1 rfl (lenL Try.underlying31 rfl e28) (hK _ _ (Below.refl _ _) rfl)
          · intro a w' hx hu hd K hK; have e27 := Flow.got (hd 0 rfl) 27 rfl; have e29 := Flow.got (hd 2 rfl) 29 rfl; exact Flow.run1 rfl (no (lss rfl e27 e29) (decide_eq_false hlt2)) (hK _ _ (Below.refl _ _) rfl)
        intro vs W82 hb82 hT
        have v0 := Flow.eqn (hT 0 (by decide))
        have v1 := Flow.eqn (hT 1 (by decide))
        have v2 := Flow.eqn (hT 2 (by decide))
        have v3 := Flow.eqn (hT 3 (by decide))
        simp only [Flow.putsT, v0, v1, v2, v3, Act.put, List.setIfInBounds_toArray, List.set_cons_zero, List.set_cons_succ]
        clear hT v0 v1 v2 v3
        have HB82 := Aside0.mk (below_step HBR.out hb82)
        have HCI_82 := Aside0.mk (CI.below HCI.out hb82)
        clear hb82
        go_upto_region 35 with fail
        refine Flow.seqT (E := fun u v => Below u.heap.size u v) [(some 154, []), (some 4, [0, 0, 0])] (fun iQ vQ wQ => match iQ with | 0 => vQ = (.bool true) | 1 => vQ = (.bool true) | _ => True) rfl (by kernel_rfl) (Below.refl _ _) (fun _ _ _ h k => h.trans (k.mono h.size)) (fun _ _ _ _ h _ => h) ?_ ?_
        · refine ⟨?_, ?_, trivial⟩
          · intro a w' hx hu hd K hK; refine Flow.want rfl ?_; refine Flow.val_call rfl Try.func16 (by kernel_rfl) rfl (by first | (simp only [List.map_toArray, List.map_cons, List.map_nil, Act.eval]; done) | (simp only [List.map_toArray, List.map_cons, List.map_nil, Act.eval]; rfl)) (live_c w') ?_; rintro e w2 ⟨rfl, hb2⟩; exact ⟨_, rfl, hK _ _ hb2 rfl⟩
          · intro a w' hx hu hd K hK; have e154 := Flow.got (hd 0 rfl) 154 rfl; exact Flow.run1 rfl (Flow.r_assign rfl e154) (hK _ _ (Below.refl _ _) rfl)
        intro vs W83 hb83 hT
        have v0 := Flow.eqn (hT 0 (by decide))
        have v1 := Flow.eqn (hT 1 (by decide))
        simp only [Flow.putsT, v0, v1, Act.put, List.setIfInBounds_toArray, List.set_cons_zero, List.set_cons_succ]
        clear hT v0 v1
        have HB83 := Aside0.mk (below_step HB82.out hb83)
        have HCI_83 := Aside0.mk (CI.below HCI_82.out hb83)
        clear hb83
        go_wp2_with fail
        exact bodyPost_ret (results_tmp Try.results5 _ _ _) rfl ⟨rfl, HB83.out⟩
end Go.Proofs.Ytlhmpmmblnbmbaa.Cac
