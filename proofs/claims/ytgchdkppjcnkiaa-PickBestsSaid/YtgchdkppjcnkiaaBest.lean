/- The place of the log that holds: the program's loop over all logs, by the logs' numbers alone. -/
import Derived.Test.YtgchdkppjcnkiaaNewer
import Derived.Test.YtgchdkppjcnkiaaFlow
namespace Go.Proofs.Ytgchdkppjcnkiaa.Newer
open Go.RowKit Go.Proofs.Ytgchdkppjcnkiaa.PPickBests Go.Proofs.Ytgchdkppjcnkiaa.Cells Go.Proofs.YtgchdkppjcnkiaaW.PrintWords Go.Proofs.YtgchdkppjcnkiaaW.PrintLast Go.Proofs.YtgchdkppjcnkiaaW.PrintMore
attribute [local go_sem] max2_int min2_int max_two min_two max_three min_three max_four min_four
/-- which of two is newer -/
def nS (x y : S35) : Bool := nw x.f2 x.f0.f1 x.f0.f2 y.f2 y.f0.f1 y.f0.f2
/-- the best of the first k -/
def bk (l : List S35) : Nat → Int
  | 0 => -1
  | k + 1 => if (rd_T35 l k).f2 ≥ 1 ∧ (bk l k < 0 ∨ nS (rd_T35 l k) (rd_T35 l (bk l k)) = true) then (k : Int) else bk l k
theorem bk_yes (l : List S35) (k : Nat) (h : (rd_T35 l k).f2 ≥ 1 ∧ (bk l k < 0 ∨ nS (rd_T35 l k) (rd_T35 l (bk l k)) = true)) : bk l (k + 1) = k := if_pos h
theorem bk_no (l : List S35) (k : Nat) (h : ¬ ((rd_T35 l k).f2 ≥ 1 ∧ (bk l k < 0 ∨ nS (rd_T35 l k) (rd_T35 l (bk l k)) = true))) : bk l (k + 1) = bk l k := if_neg h
theorem bk_lo (l : List S35) : ∀ k, -1 ≤ bk l k
  | 0 => by simp [bk]
  | k + 1 => by unfold bk; split; omega; exact bk_lo l k
theorem bk_hi (l : List S35) : ∀ k, bk l k < k
  | 0 => by simp [bk]
  | k + 1 => by unfold bk; have := bk_hi l k; split <;> omega
def zero35 : Value := (.agg #[(.int .i64 0), (.int .i64 0), (.int .i64 0), (.int .i64 0), (.int .i64 0), (.int .i64 0), (.int .i64 0), (.int .i64 0), (.int .i64 0), (.int .i64 0), (.int .i64 0), (.int .i64 0), (.int .i64 0), (.slice none 0 0), (.slice none 0 0), (.int .i64 0), (.int .i64 0)])
theorem zero35_is : (Try.prog.info? 35).map (·.zero) = some (some zero35) := by kernel_rfl
/-- What a place of the row gives: the cells, and the three numbers in them. -/
theorem elem {w : World} {A : Option Addr} {n : Nat} {l : List S35} (h : Kd.C k35 w A n l) (i : Int) (h0 : 0 ≤ i) (h1 : i < n) : ∃ ad c, A = some ad ∧ c.length = 17 ∧ Lies w (ad.add (i.toNat * 17)) c ∧ (∀ v ∈ c, v.oneCell' = true) ∧
    ∃ (h : c.toArray.size = 17), c.toArray[16]'(by omega) = .int .i64 (rd_T35 l i).f2 ∧ c.toArray[11]'(by omega) = .int .i64 (rd_T35 l i).f0.f1 ∧ c.toArray[12]'(by omega) = .int .i64 (rd_T35 l i).f0.f2 := by
  obtain ⟨ad, c, hA, hc, hk, hcell⟩ := Kd.C_get h z35 i h0 h1
  have hone := k35.K_one hk
  obtain ⟨A13, c13, A14, c14, rfl, _⟩ := k35_open hk
  refine ⟨ad, _, hA, rfl, fun j u hj => ?_, hone, rfl, rfl, rfl, rfl⟩
  have := hcell j u hj
  rw [add_add]; exact this
set_option maxHeartbeats 8000000 in
theorem best_c (l : List S35) (A : Option Addr) (cap : Nat) (w : World) (hl : Kd.C k35 w A l.length l) (hlen : l.length ≤ 9223372036854775807) :
    Calls Try.prog 21 #[.slice A l.length cap] w fun e w' => e = .returned (.tuple #[.int .i64 (mx (bk l l.length) 0), .bool (decide (bk l l.length ≥ 0))]) ∧ Below w.heap.size w w' := by
  have hu35 := Try.underlying35
  have HL := Aside0.mk hl
  clear hl
  go_enter Try.func21, Try.ntmps21
  go_wp2
  go_loopw [4, 9] (fun b i wr => ∃ k : Nat, k ≤ l.length ∧ i = .int .i64 k ∧ b = .int .i64 (bk l k) ∧ Aside0 (Below w.heap.size w wr)) (fun _ i _ => l.length - (intOf i).toNat)
  case atStart => exact ⟨0, Nat.zero_le _, rfl, rfl, ⟨Below.refl _ _⟩⟩
  case round =>
    obtain ⟨k, hk, rfl, rfl, HB⟩ := hrel
    have hklo := bk_lo l k
    have hkhi := bk_hi l k
    by_cases hlt : k < l.length
    · obtain ⟨ad, c, hA, hcl, hlies, hone, hcs, h16, h11, h12⟩ := elem HL.out k (by omega) (by omega)
      subst hA
      rw [Int.toNat_natCast] at hlies
      have hlies2 := lies_below hlies HB.out
      have HO := Aside0.mk hone
      clear hone hlies
      by_cases cf : (rd_T35 l k).f2 ≥ 1
      · have hf : decide ((rd_T35 l k).f2 ≥ 1) = true := decide_eq_true cf
        by_cases cn : bk l k < 0
        · have hneg : decide (bk l k < 0) = true := decide_eq_true cn
          have HS := Aside0.mk (bk_yes l k ⟨cf, .inl cn⟩)
          clear cf cn
          go_wp2_with (first | ((with_reducible refine gate_dst (N := 13) rfl ?_); refine load_at rfl 35 _ rfl (ad.add (k * 17)) rfl c _ hlies2 Try.underlying35 rfl (by rw [hcl]; exact size35) ?_) | ((with_reducible refine gate_dst (N := 6) rfl ?_); refine alloc_event rfl (N := 6) rfl 35 rfl zero35 zero35_is ?_; intro g hg wa kg hba; have HB3 := Aside0.mk (below_step HB.out hba); have GW := Aside0.mk (show w.heap.size ≤ g by rw [hg]; exact HB.out.size); clear hg hba) | ((with_reducible refine store_event rfl rfl 35 _ _ rfl g c zero35.cells ?sx ?sy kg ?ss ?si HO.out ?_); (case sx => rfl); (case sy => rfl); (case ss => rw [hcl]; rfl); (case si => rw [hcl]; exact size35); intro w3 bg hfar hb3; have HB4 := Aside0.mk (HB3.out.trans (hb3 _ GW.out)); clear kg HB3 hfar hb3))
          refine Flow.flowT (E := fun u v => Below u.heap.size u v) [(some 14, []), (some 15, [0]), (some 16, [1, 1]), (some 17, [2]), (some 18, [3, 2]), (some 19, [4, 2, 2]), (some 20, [5]), (some 21, [5]), (some 22, [5]), (some 23, [7, 8, 5]), (some 24, [9, 5]), (some 25, [6, 10, 5, 5]), (some 26, [5, 11, 2]), (some 27, [2, 12])] (fun i v _ => match i with | 0 => v = (.agg c.toArray) | 1 => v = (.bool true) | 2 => v = (.bool true) | 3 => v = (.int .i64 (bk l k)) | 4 => v = (.bool true) | 5 => v = (.bool true) | 6 => v = undef | 7 => v = undef | 8 => v = undef | 9 => v = undef | 10 => v = undef | 11 => v = undef | 12 => v = (.bool true) | 13 => v = (.bool true) | _ => True) rfl (by kernel_rfl) (by kernel_rfl) (by kernel_rfl) ((Below.refl _ _).drew) (fun _ _ _ h k => h.trans (k.mono h.size)) (fun _ _ _ _ h _ => h) ?_ ?_
          · refine ⟨?_, ?_, ?_, ?_, ?_, ?_, ?_, ?_, ?_, ?_, ?_, ?_, ?_, ?_, trivial⟩
            · intro a w' hx hu hd K hK
              have e6 : a.tmps.getD 6 undef = (.pointer (some ⟨g, 0, none⟩)) := hu 6 rfl
              refine Flow.want rfl ?_
              exact Flow.val_run (run_load_row (cs := c.toArray) rfl e6 Try.underlying35 rfl (by rw [hcs]; exact size35) (blk_below bg hx)) (hK _ _ (Below.refl _ _) rfl)
            · intro a w' hx hu hd K hK
              have e14 : a.tmps.getD 14 undef = (.agg c.toArray) := by obtain ⟨_, t, q⟩ := hd 0 (by decide); exact (q 14 rfl).trans t
              refine Flow.want rfl ?_
              refine Flow.val_call rfl Try.func30 (by kernel_rfl) rfl (by simp only [List.map_toArray, List.map_cons, List.map_nil, Act.eval, e14]) (found_c _ hcs _ h16 w') ?_
              rintro e w2 ⟨rfl, hb2⟩
              rw [hf]
              exact ⟨_, rfl, hK _ _ hb2 (by rfl)⟩
            · intro a w' hx hu hd K hK
              have e15 : a.tmps.getD 15 undef = (.bool true) := by obtain ⟨_, t, q⟩ := hd 1 (by decide); exact (q 15 rfl).trans t
              refine Flow.want rfl ?_
              exact Flow.val_move rfl e15 (hK _ _ (Below.refl _ _) rfl)
            · intro a w' hx hu hd K hK
              have e4 : a.tmps.getD 4 undef = (.int .i64 (bk l k)) := hu 4 rfl
              have e16 : a.tmps.getD 16 undef = (.bool true) := by obtain ⟨_, t, q⟩ := hd 2 (by decide); exact (q 16 rfl).trans t
              refine Flow.want (Flow.want_of (k := 16) rfl e16) ?_
              exact Flow.val_move rfl e4 (hK _ _ (Below.refl _ _) rfl)
            · intro a w' hx hu hd K hK
              have e17 : a.tmps.getD 17 undef = (.int .i64 (bk l k)) := by obtain ⟨_, t, q⟩ := hd 3 (by decide); exact (q 17 rfl).trans t
              have e16 : a.tmps.getD 16 undef = (.bool true) := by obtain ⟨_, t, q⟩ := hd 2 (by decide); exact (q 16 rfl).trans t
              refine Flow.want (Flow.want_of (k := 16) rfl e16) ?_
              exact Flow.val_run (by unfold execOp; simp only [Act.eval, e17]; rw [← hneg]; rfl) (hK _ _ (Below.refl _ _) rfl)
            · intro a w' hx hu hd K hK
              have e18 : a.tmps.getD 18 undef = (.bool true) := by obtain ⟨_, t, q⟩ := hd 4 (by decide); exact (q 18 rfl).trans t
              have e16 : a.tmps.getD 16 undef = (.bool true) := by obtain ⟨_, t, q⟩ := hd 2 (by decide); exact (q 16 rfl).trans t
              refine Flow.want (Flow.want_of (k := 16) rfl e16) ?_
              exact Flow.val_move rfl e18 (hK _ _ (Below.refl _ _) rfl)
            · intro a w' hx hu hd K hK
              have e6 : a.tmps.getD 6 undef = (.pointer (some ⟨g, 0, none⟩)) := hu 6 rfl
              have e19 : a.tmps.getD 19 undef = (.bool true) := by obtain ⟨_, t, q⟩ := hd 5 (by decide); exact (q 19 rfl).trans t
              exact Flow.spare (Flow.spare_of (k := 19) rfl e19 rfl) (hK _ _ (Below.refl _ _) rfl)
            · intro a w' hx hu hd K hK
              have e0 : a.tmps.getD 0 undef = (.slice (some ad) l.length cap) := hu 0 rfl
              have e19 : a.tmps.getD 19 undef = (.bool true) := by obtain ⟨_, t, q⟩ := hd 5 (by decide); exact (q 19 rfl).trans t
              exact Flow.spare (Flow.spare_of (k := 19) rfl e19 rfl) (hK _ _ (Below.refl _ _) rfl)
            · intro a w' hx hu hd K hK
              have e4 : a.tmps.getD 4 undef = (.int .i64 (bk l k)) := hu 4 rfl
              have e19 : a.tmps.getD 19 undef = (.bool true) := by obtain ⟨_, t, q⟩ := hd 5 (by decide); exact (q 19 rfl).trans t
              exact Flow.spare (Flow.spare_of (k := 19) rfl e19 rfl) (hK _ _ (Below.refl _ _) rfl)
            · intro a w' hx hu hd K hK
              have e21 : a.tmps.getD 21 undef = undef := by obtain ⟨_, t, q⟩ := hd 7 (by decide); exact (q 21 rfl).trans t
              have e22 : a.tmps.getD 22 undef = undef := by obtain ⟨_, t, q⟩ := hd 8 (by decide); exact (q 22 rfl).trans t
              have e19 : a.tmps.getD 19 undef = (.bool true) := by obtain ⟨_, t, q⟩ := hd 5 (by decide); exact (q 19 rfl).trans t
              exact Flow.spare (Flow.spare_of (k := 19) rfl e19 rfl) (hK _ _ (Below.refl _ _) rfl)
            · intro a w' hx hu hd K hK
              have e23 : a.tmps.getD 23 undef = undef := by obtain ⟨_, t, q⟩ := hd 9 (by decide); exact (q 23 rfl).trans t
              have e19 : a.tmps.getD 19 undef = (.bool true) := by obtain ⟨_, t, q⟩ := hd 5 (by decide); exact (q 19 rfl).trans t
              exact Flow.spare (Flow.spare_of (k := 19) rfl e19 rfl) (hK _ _ (Below.refl _ _) rfl)
            · intro a w' hx hu hd K hK
              have e20 : a.tmps.getD 20 undef = undef := by obtain ⟨_, t, q⟩ := hd 6 (by decide); exact (q 20 rfl).trans t
              have e24 : a.tmps.getD 24 undef = undef := by obtain ⟨_, t, q⟩ := hd 10 (by decide); exact (q 24 rfl).trans t
              have e19 : a.tmps.getD 19 undef = (.bool true) := by obtain ⟨_, t, q⟩ := hd 5 (by decide); exact (q 19 rfl).trans t
              exact Flow.spare (Flow.spare_of (k := 19) rfl e19 rfl) (hK _ _ (Below.refl _ _) rfl)
            · intro a w' hx hu hd K hK
              have e19 : a.tmps.getD 19 undef = (.bool true) := by obtain ⟨_, t, q⟩ := hd 5 (by decide); exact (q 19 rfl).trans t
              have e25 : a.tmps.getD 25 undef = undef := by obtain ⟨_, t, q⟩ := hd 11 (by decide); exact (q 25 rfl).trans t
              have e16 : a.tmps.getD 16 undef = (.bool true) := by obtain ⟨_, t, q⟩ := hd 2 (by decide); exact (q 16 rfl).trans t
              refine Flow.want (Flow.want_of (k := 16) rfl e16) ?_
              exact Flow.val_pick rfl e19 rfl (hK _ _ (Below.refl _ _) rfl)
            · intro a w' hx hu hd K hK
              have e16 : a.tmps.getD 16 undef = (.bool true) := by obtain ⟨_, t, q⟩ := hd 2 (by decide); exact (q 16 rfl).trans t
              have e26 : a.tmps.getD 26 undef = (.bool true) := by obtain ⟨_, t, q⟩ := hd 12 (by decide); exact (q 26 rfl).trans t
              refine Flow.want rfl ?_
              exact Flow.val_pick rfl e16 e26 (hK _ _ (Below.refl _ _) rfl)
          · intro vs w' hb hT
            have v0 : vs 0 = (.agg c.toArray) := hT 0 (by decide)
            have v1 : vs 1 = (.bool true) := hT 1 (by decide)
            have v2 : vs 2 = (.bool true) := hT 2 (by decide)
            have v3 : vs 3 = (.int .i64 (bk l k)) := hT 3 (by decide)
            have v4 : vs 4 = (.bool true) := hT 4 (by decide)
            have v5 : vs 5 = (.bool true) := hT 5 (by decide)
            have v6 : vs 6 = undef := hT 6 (by decide)
            have v7 : vs 7 = undef := hT 7 (by decide)
            have v8 : vs 8 = undef := hT 8 (by decide)
            have v9 : vs 9 = undef := hT 9 (by decide)
            have v10 : vs 10 = undef := hT 10 (by decide)
            have v11 : vs 11 = undef := hT 11 (by decide)
            have v12 : vs 12 = (.bool true) := hT 12 (by decide)
            have v13 : vs 13 = (.bool true) := hT 13 (by decide)
            simp only [Flow.putsT, v0, v1, v2, v3, v4, v5, v6, v7, v8, v9, v10, v11, v12, v13, Act.put, List.setIfInBounds_toArray, List.set_cons_zero, List.set_cons_succ]
            clear hT v0 v1 v2 v3 v4 v5 v6 v7 v8 v9 v10 v11 v12 v13
            go_wp2
            go_roundw
            case rel => exact ⟨k + 1, hlt, by go_num, by rw [HS.out], ⟨below_step HB4.out hb⟩⟩
            case measure => simp [intOf]; omega
        · have hneg : decide (bk l k < 0) = false := decide_eq_false cn
          have hn0 : 0 ≤ bk l k := by omega
          have hnl : bk l k < (l.length : Int) := by omega
          obtain ⟨ad', cb, hA', hcbl, lb, _, hcbs, b16, b11, b12⟩ := elem HL.out (bk l k) hn0 hnl
          obtain rfl := Option.some.inj hA'
          by_cases cw : nS (rd_T35 l k) (rd_T35 l (bk l k)) = true
          · have hnw : nw (rd_T35 l k).f2 (rd_T35 l k).f0.f1 (rd_T35 l k).f0.f2 (rd_T35 l (bk l k)).f2 (rd_T35 l (bk l k)).f0.f1 (rd_T35 l (bk l k)).f0.f2 = true := cw
            have HS := Aside0.mk (bk_yes l k ⟨cf, .inr cw⟩)
            clear cf cn cw
            go_wp2_with (first | ((with_reducible refine gate_dst (N := 13) rfl ?_); refine load_at rfl 35 _ rfl (ad.add (k * 17)) rfl c _ hlies2 Try.underlying35 rfl (by rw [hcl]; exact size35) ?_) | ((with_reducible refine gate_dst (N := 6) rfl ?_); refine alloc_event rfl (N := 6) rfl 35 rfl zero35 zero35_is ?_; intro g hg wa kg hba; have HB3 := Aside0.mk (below_step HB.out hba); have GW := Aside0.mk (show w.heap.size ≤ g by rw [hg]; exact HB.out.size); clear hg hba) | ((with_reducible refine store_event rfl rfl 35 _ _ rfl g c zero35.cells ?sx ?sy kg ?ss ?si HO.out ?_); (case sx => rfl); (case sy => rfl); (case ss => rw [hcl]; rfl); (case si => rw [hcl]; exact size35); intro w3 bg hfar hb3; have HB4 := Aside0.mk (HB3.out.trans (hb3 _ GW.out)); clear kg HB3 hfar hb3))
            refine Flow.flowT (E := fun u v => Below u.heap.size u v) [(some 14, []), (some 15, [0]), (some 16, [1, 1]), (some 17, [2]), (some 18, [3, 2]), (some 19, [4, 2, 2]), (some 20, [5]), (some 21, [5]), (some 22, [5]), (some 23, [7, 8, 5]), (some 24, [9, 5]), (some 25, [6, 10, 5, 5]), (some 26, [5, 11, 2]), (some 27, [2, 12])] (fun i v _ => match i with | 0 => v = (.agg c.toArray) | 1 => v = (.bool true) | 2 => v = (.bool true) | 3 => v = (.int .i64 (bk l k)) | 4 => v = (.bool false) | 5 => v = (.bool false) | 6 => v = (.agg c.toArray) | 7 => v = (.slice (some ad) l.length cap) | 8 => v = (.int .i64 (bk l k)) | 9 => v = (.pointer (some (ad.add ((bk l k).toNat * 17)))) | 10 => v = (.agg cb.toArray) | 11 => v = (.bool true) | 12 => v = (.bool true) | 13 => v = (.bool true) | _ => True) rfl (by kernel_rfl) (by kernel_rfl) (by kernel_rfl) ((Below.refl _ _).drew) (fun _ _ _ h k => h.trans (k.mono h.size)) (fun _ _ _ _ h _ => h) ?_ ?_
            · refine ⟨?_, ?_, ?_, ?_, ?_, ?_, ?_, ?_, ?_, ?_, ?_, ?_, ?_, ?_, trivial⟩
              · intro a w' hx hu hd K hK
                have e6 : a.tmps.getD 6 undef = (.pointer (some ⟨g, 0, none⟩)) := hu 6 rfl
                refine Flow.want rfl ?_
                exact Flow.val_run (run_load_row (cs := c.toArray) rfl e6 Try.underlying35 rfl (by rw [hcs]; exact size35) (blk_below bg hx)) (hK _ _ (Below.refl _ _) rfl)
              · intro a w' hx hu hd K hK
                have e14 : a.tmps.getD 14 undef = (.agg c.toArray) := by obtain ⟨_, t, q⟩ := hd 0 (by decide); exact (q 14 rfl).trans t
                refine Flow.want rfl ?_
                refine Flow.val_call rfl Try.func30 (by kernel_rfl) rfl (by simp only [List.map_toArray, List.map_cons, List.map_nil, Act.eval, e14]) (found_c _ hcs _ h16 w') ?_
                rintro e w2 ⟨rfl, hb2⟩
                rw [hf]
                exact ⟨_, rfl, hK _ _ hb2 (by rfl)⟩
              · intro a w' hx hu hd K hK
                have e15 : a.tmps.getD 15 undef = (.bool true) := by obtain ⟨_, t, q⟩ := hd 1 (by decide); exact (q 15 rfl).trans t
                refine Flow.want rfl ?_
                exact Flow.val_move rfl e15 (hK _ _ (Below.refl _ _) rfl)
              · intro a w' hx hu hd K hK
                have e4 : a.tmps.getD 4 undef = (.int .i64 (bk l k)) := hu 4 rfl
                have e16 : a.tmps.getD 16 undef = (.bool true) := by obtain ⟨_, t, q⟩ := hd 2 (by decide); exact (q 16 rfl).trans t
                refine Flow.want (Flow.want_of (k := 16) rfl e16) ?_
                exact Flow.val_move rfl e4 (hK _ _ (Below.refl _ _) rfl)
              · intro a w' hx hu hd K hK
                have e17 : a.tmps.getD 17 undef = (.int .i64 (bk l k)) := by obtain ⟨_, t, q⟩ := hd 3 (by decide); exact (q 17 rfl).trans t
                have e16 : a.tmps.getD 16 undef = (.bool true) := by obtain ⟨_, t, q⟩ := hd 2 (by decide); exact (q 16 rfl).trans t
                refine Flow.want (Flow.want_of (k := 16) rfl e16) ?_
                exact Flow.val_run (by unfold execOp; simp only [Act.eval, e17]; rw [← hneg]; rfl) (hK _ _ (Below.refl _ _) rfl)
              · intro a w' hx hu hd K hK
                have e18 : a.tmps.getD 18 undef = (.bool false) := by obtain ⟨_, t, q⟩ := hd 4 (by decide); exact (q 18 rfl).trans t
                have e16 : a.tmps.getD 16 undef = (.bool true) := by obtain ⟨_, t, q⟩ := hd 2 (by decide); exact (q 16 rfl).trans t
                refine Flow.want (Flow.want_of (k := 16) rfl e16) ?_
                exact Flow.val_move rfl e18 (hK _ _ (Below.refl _ _) rfl)
              · intro a w' hx hu hd K hK
                have e6 : a.tmps.getD 6 undef = (.pointer (some ⟨g, 0, none⟩)) := hu 6 rfl
                have e19 : a.tmps.getD 19 undef = (.bool false) := by obtain ⟨_, t, q⟩ := hd 5 (by decide); exact (q 19 rfl).trans t
                refine Flow.want (Flow.want_of (k := 19) rfl e19) ?_
                exact Flow.val_run (run_load_row (cs := c.toArray) rfl e6 Try.underlying35 rfl (by rw [hcs]; exact size35) (blk_below bg hx)) (hK _ _ (Below.refl _ _) rfl)
              · intro a w' hx hu hd K hK
                have e0 : a.tmps.getD 0 undef = (.slice (some ad) l.length cap) := hu 0 rfl
                have e19 : a.tmps.getD 19 undef = (.bool false) := by obtain ⟨_, t, q⟩ := hd 5 (by decide); exact (q 19 rfl).trans t
                refine Flow.want (Flow.want_of (k := 19) rfl e19) ?_
                exact Flow.val_move rfl e0 (hK _ _ (Below.refl _ _) rfl)
              · intro a w' hx hu hd K hK
                have e4 : a.tmps.getD 4 undef = (.int .i64 (bk l k)) := hu 4 rfl
                have e19 : a.tmps.getD 19 undef = (.bool false) := by obtain ⟨_, t, q⟩ := hd 5 (by decide); exact (q 19 rfl).trans t
                refine Flow.want (Flow.want_of (k := 19) rfl e19) ?_
                exact Flow.val_move rfl e4 (hK _ _ (Below.refl _ _) rfl)
              · intro a w' hx hu hd K hK
                have e21 : a.tmps.getD 21 undef = (.slice (some ad) l.length cap) := by obtain ⟨_, t, q⟩ := hd 7 (by decide); exact (q 21 rfl).trans t
                have e22 : a.tmps.getD 22 undef = (.int .i64 (bk l k)) := by obtain ⟨_, t, q⟩ := hd 8 (by decide); exact (q 22 rfl).trans t
                have e19 : a.tmps.getD 19 undef = (.bool false) := by obtain ⟨_, t, q⟩ := hd 5 (by decide); exact (q 19 rfl).trans t
                refine Flow.want (Flow.want_of (k := 19) rfl e19) ?_
                exact Flow.val_run (by unfold execOp; simp only [Act.eval, e21, e22]; go_simp) (hK _ _ (Below.refl _ _) rfl)
              · intro a w' hx hu hd K hK
                have e23 : a.tmps.getD 23 undef = (.pointer (some (ad.add ((bk l k).toNat * 17)))) := by obtain ⟨_, t, q⟩ := hd 9 (by decide); exact (q 23 rfl).trans t
                have e19 : a.tmps.getD 19 undef = (.bool false) := by obtain ⟨_, t, q⟩ := hd 5 (by decide); exact (q 19 rfl).trans t
                refine Flow.want (Flow.want_of (k := 19) rfl e19) ?_
                exact Flow.val_run (run_load_lies rfl e23 Try.underlying35 rfl (by rw [hcbl]; exact size35) (lies_below (lies_below lb HB4.out) hx)) (hK _ _ (Below.refl _ _) rfl)
              · intro a w' hx hu hd K hK
                have e20 : a.tmps.getD 20 undef = (.agg c.toArray) := by obtain ⟨_, t, q⟩ := hd 6 (by decide); exact (q 20 rfl).trans t
                have e24 : a.tmps.getD 24 undef = (.agg cb.toArray) := by obtain ⟨_, t, q⟩ := hd 10 (by decide); exact (q 24 rfl).trans t
                have e19 : a.tmps.getD 19 undef = (.bool false) := by obtain ⟨_, t, q⟩ := hd 5 (by decide); exact (q 19 rfl).trans t
                refine Flow.want (Flow.want_of (k := 19) rfl e19) ?_
                refine Flow.val_call rfl Try.func15 (by kernel_rfl) rfl (by simp only [List.map_toArray, List.map_cons, List.map_nil, Act.eval, e20, e24]) (newer_c _ _ hcs hcbs _ _ _ _ _ _ h16 h11 h12 b16 b11 b12 w') ?_
                rintro e w2 ⟨rfl, hb2⟩
                rw [hnw]
                exact ⟨_, rfl, hK _ _ hb2 (by rfl)⟩
              · intro a w' hx hu hd K hK
                have e19 : a.tmps.getD 19 undef = (.bool false) := by obtain ⟨_, t, q⟩ := hd 5 (by decide); exact (q 19 rfl).trans t
                have e25 : a.tmps.getD 25 undef = (.bool true) := by obtain ⟨_, t, q⟩ := hd 11 (by decide); exact (q 25 rfl).trans t
                have e16 : a.tmps.getD 16 undef = (.bool true) := by obtain ⟨_, t, q⟩ := hd 2 (by decide); exact (q 16 rfl).trans t
                refine Flow.want (Flow.want_of (k := 16) rfl e16) ?_
                exact Flow.val_pick rfl e19 e25 (hK _ _ (Below.refl _ _) rfl)
              · intro a w' hx hu hd K hK
                have e16 : a.tmps.getD 16 undef = (.bool true) := by obtain ⟨_, t, q⟩ := hd 2 (by decide); exact (q 16 rfl).trans t
                have e26 : a.tmps.getD 26 undef = (.bool true) := by obtain ⟨_, t, q⟩ := hd 12 (by decide); exact (q 26 rfl).trans t
                refine Flow.want rfl ?_
                exact Flow.val_pick rfl e16 e26 (hK _ _ (Below.refl _ _) rfl)
            · intro vs w' hb hT
              have v0 : vs 0 = (.agg c.toArray) := hT 0 (by decide)
              have v1 : vs 1 = (.bool true) := hT 1 (by decide)
              have v2 : vs 2 = (.bool true) := hT 2 (by decide)
              have v3 : vs 3 = (.int .i64 (bk l k)) := hT 3 (by decide)
              have v4 : vs 4 = (.bool false) := hT 4 (by decide)
              have v5 : vs 5 = (.bool false) := hT 5 (by decide)
              have v6 : vs 6 = (.agg c.toArray) := hT 6 (by decide)
              have v7 : vs 7 = (.slice (some ad) l.length cap) := hT 7 (by decide)
              have v8 : vs 8 = (.int .i64 (bk l k)) := hT 8 (by decide)
              have v9 : vs 9 = (.pointer (some (ad.add ((bk l k).toNat * 17)))) := hT 9 (by decide)
              have v10 : vs 10 = (.agg cb.toArray) := hT 10 (by decide)
              have v11 : vs 11 = (.bool true) := hT 11 (by decide)
              have v12 : vs 12 = (.bool true) := hT 12 (by decide)
              have v13 : vs 13 = (.bool true) := hT 13 (by decide)
              simp only [Flow.putsT, v0, v1, v2, v3, v4, v5, v6, v7, v8, v9, v10, v11, v12, v13, Act.put, List.setIfInBounds_toArray, List.set_cons_zero, List.set_cons_succ]
              clear hT v0 v1 v2 v3 v4 v5 v6 v7 v8 v9 v10 v11 v12 v13
              go_wp2
              go_roundw
              case rel => exact ⟨k + 1, hlt, by go_num, by rw [HS.out], ⟨below_step HB4.out hb⟩⟩
              case measure => simp [intOf]; omega
          · have hnw : nw (rd_T35 l k).f2 (rd_T35 l k).f0.f1 (rd_T35 l k).f0.f2 (rd_T35 l (bk l k)).f2 (rd_T35 l (bk l k)).f0.f1 (rd_T35 l (bk l k)).f0.f2 = false := Bool.eq_false_iff.mpr cw
            have HS := Aside0.mk (bk_no l k (fun hh => hh.2.elim cn cw))
            clear cf cn cw
            go_wp2_with (first | ((with_reducible refine gate_dst (N := 13) rfl ?_); refine load_at rfl 35 _ rfl (ad.add (k * 17)) rfl c _ hlies2 Try.underlying35 rfl (by rw [hcl]; exact size35) ?_) | ((with_reducible refine gate_dst (N := 6) rfl ?_); refine alloc_event rfl (N := 6) rfl 35 rfl zero35 zero35_is ?_; intro g hg wa kg hba; have HB3 := Aside0.mk (below_step HB.out hba); have GW := Aside0.mk (show w.heap.size ≤ g by rw [hg]; exact HB.out.size); clear hg hba) | ((with_reducible refine store_event rfl rfl 35 _ _ rfl g c zero35.cells ?sx ?sy kg ?ss ?si HO.out ?_); (case sx => rfl); (case sy => rfl); (case ss => rw [hcl]; rfl); (case si => rw [hcl]; exact size35); intro w3 bg hfar hb3; have HB4 := Aside0.mk (HB3.out.trans (hb3 _ GW.out)); clear kg HB3 hfar hb3))
            refine Flow.flowT (E := fun u v => Below u.heap.size u v) [(some 14, []), (some 15, [0]), (some 16, [1, 1]), (some 17, [2]), (some 18, [3, 2]), (some 19, [4, 2, 2]), (some 20, [5]), (some 21, [5]), (some 22, [5]), (some 23, [7, 8, 5]), (some 24, [9, 5]), (some 25, [6, 10, 5, 5]), (some 26, [5, 11, 2]), (some 27, [2, 12])] (fun i v _ => match i with | 0 => v = (.agg c.toArray) | 1 => v = (.bool true) | 2 => v = (.bool true) | 3 => v = (.int .i64 (bk l k)) | 4 => v = (.bool false) | 5 => v = (.bool false) | 6 => v = (.agg c.toArray) | 7 => v = (.slice (some ad) l.length cap) | 8 => v = (.int .i64 (bk l k)) | 9 => v = (.pointer (some (ad.add ((bk l k).toNat * 17)))) | 10 => v = (.agg cb.toArray) | 11 => v = (.bool false) | 12 => v = (.bool false) | 13 => v = (.bool false) | _ => True) rfl (by kernel_rfl) (by kernel_rfl) (by kernel_rfl) ((Below.refl _ _).drew) (fun _ _ _ h k => h.trans (k.mono h.size)) (fun _ _ _ _ h _ => h) ?_ ?_
            · refine ⟨?_, ?_, ?_, ?_, ?_, ?_, ?_, ?_, ?_, ?_, ?_, ?_, ?_, ?_, trivial⟩
              · intro a w' hx hu hd K hK
                have e6 : a.tmps.getD 6 undef = (.pointer (some ⟨g, 0, none⟩)) := hu 6 rfl
                refine Flow.want rfl ?_
                exact Flow.val_run (run_load_row (cs := c.toArray) rfl e6 Try.underlying35 rfl (by rw [hcs]; exact size35) (blk_below bg hx)) (hK _ _ (Below.refl _ _) rfl)
              · intro a w' hx hu hd K hK
                have e14 : a.tmps.getD 14 undef = (.agg c.toArray) := by obtain ⟨_, t, q⟩ := hd 0 (by decide); exact (q 14 rfl).trans t
                refine Flow.want rfl ?_
                refine Flow.val_call rfl Try.func30 (by kernel_rfl) rfl (by simp only [List.map_toArray, List.map_cons, List.map_nil, Act.eval, e14]) (found_c _ hcs _ h16 w') ?_
                rintro e w2 ⟨rfl, hb2⟩
                rw [hf]
                exact ⟨_, rfl, hK _ _ hb2 (by rfl)⟩
              · intro a w' hx hu hd K hK
                have e15 : a.tmps.getD 15 undef = (.bool true) := by obtain ⟨_, t, q⟩ := hd 1 (by decide); exact (q 15 rfl).trans t
                refine Flow.want rfl ?_
                exact Flow.val_move rfl e15 (hK _ _ (Below.refl _ _) rfl)
              · intro a w' hx hu hd K hK
                have e4 : a.tmps.getD 4 undef = (.int .i64 (bk l k)) := hu 4 rfl
                have e16 : a.tmps.getD 16 undef = (.bool true) := by obtain ⟨_, t, q⟩ := hd 2 (by decide); exact (q 16 rfl).trans t
                refine Flow.want (Flow.want_of (k := 16) rfl e16) ?_
                exact Flow.val_move rfl e4 (hK _ _ (Below.refl _ _) rfl)
              · intro a w' hx hu hd K hK
                have e17 : a.tmps.getD 17 undef = (.int .i64 (bk l k)) := by obtain ⟨_, t, q⟩ := hd 3 (by decide); exact (q 17 rfl).trans t
                have e16 : a.tmps.getD 16 undef = (.bool true) := by obtain ⟨_, t, q⟩ := hd 2 (by decide); exact (q 16 rfl).trans t
                refine Flow.want (Flow.want_of (k := 16) rfl e16) ?_
                exact Flow.val_run (by unfold execOp; simp only [Act.eval, e17]; rw [← hneg]; rfl) (hK _ _ (Below.refl _ _) rfl)
              · intro a w' hx hu hd K hK
                have e18 : a.tmps.getD 18 undef = (.bool false) := by obtain ⟨_, t, q⟩ := hd 4 (by decide); exact (q 18 rfl).trans t
                have e16 : a.tmps.getD 16 undef = (.bool true) := by obtain ⟨_, t, q⟩ := hd 2 (by decide); exact (q 16 rfl).trans t
                refine Flow.want (Flow.want_of (k := 16) rfl e16) ?_
                exact Flow.val_move rfl e18 (hK _ _ (Below.refl _ _) rfl)
              · intro a w' hx hu hd K hK
                have e6 : a.tmps.getD 6 undef = (.pointer (some ⟨g, 0, none⟩)) := hu 6 rfl
                have e19 : a.tmps.getD 19 undef = (.bool false) := by obtain ⟨_, t, q⟩ := hd 5 (by decide); exact (q 19 rfl).trans t
                refine Flow.want (Flow.want_of (k := 19) rfl e19) ?_
                exact Flow.val_run (run_load_row (cs := c.toArray) rfl e6 Try.underlying35 rfl (by rw [hcs]; exact size35) (blk_below bg hx)) (hK _ _ (Below.refl _ _) rfl)
              · intro a w' hx hu hd K hK
                have e0 : a.tmps.getD 0 undef = (.slice (some ad) l.length cap) := hu 0 rfl
                have e19 : a.tmps.getD 19 undef = (.bool false) := by obtain ⟨_, t, q⟩ := hd 5 (by decide); exact (q 19 rfl).trans t
                refine Flow.want (Flow.want_of (k := 19) rfl e19) ?_
                exact Flow.val_move rfl e0 (hK _ _ (Below.refl _ _) rfl)
              · intro a w' hx hu hd K hK
                have e4 : a.tmps.getD 4 undef = (.int .i64 (bk l k)) := hu 4 rfl
                have e19 : a.tmps.getD 19 undef = (.bool false) := by obtain ⟨_, t, q⟩ := hd 5 (by decide); exact (q 19 rfl).trans t
                refine Flow.want (Flow.want_of (k := 19) rfl e19) ?_
                exact Flow.val_move rfl e4 (hK _ _ (Below.refl _ _) rfl)
              · intro a w' hx hu hd K hK
                have e21 : a.tmps.getD 21 undef = (.slice (some ad) l.length cap) := by obtain ⟨_, t, q⟩ := hd 7 (by decide); exact (q 21 rfl).trans t
                have e22 : a.tmps.getD 22 undef = (.int .i64 (bk l k)) := by obtain ⟨_, t, q⟩ := hd 8 (by decide); exact (q 22 rfl).trans t
                have e19 : a.tmps.getD 19 undef = (.bool false) := by obtain ⟨_, t, q⟩ := hd 5 (by decide); exact (q 19 rfl).trans t
                refine Flow.want (Flow.want_of (k := 19) rfl e19) ?_
                exact Flow.val_run (by unfold execOp; simp only [Act.eval, e21, e22]; go_simp) (hK _ _ (Below.refl _ _) rfl)
              · intro a w' hx hu hd K hK
                have e23 : a.tmps.getD 23 undef = (.pointer (some (ad.add ((bk l k).toNat * 17)))) := by obtain ⟨_, t, q⟩ := hd 9 (by decide); exact (q 23 rfl).trans t
                have e19 : a.tmps.getD 19 undef = (.bool false) := by obtain ⟨_, t, q⟩ := hd 5 (by decide); exact (q 19 rfl).trans t
                refine Flow.want (Flow.want_of (k := 19) rfl e19) ?_
                exact Flow.val_run (run_load_lies rfl e23 Try.underlying35 rfl (by rw [hcbl]; exact size35) (lies_below (lies_below lb HB4.out) hx)) (hK _ _ (Below.refl _ _) rfl)
              · intro a w' hx hu hd K hK
                have e20 : a.tmps.getD 20 undef = (.agg c.toArray) := by obtain ⟨_, t, q⟩ := hd 6 (by decide); exact (q 20 rfl).trans t
                have e24 : a.tmps.getD 24 undef = (.agg cb.toArray) := by obtain ⟨_, t, q⟩ := hd 10 (by decide); exact (q 24 rfl).trans t
                have e19 : a.tmps.getD 19 undef = (.bool false) := by obtain ⟨_, t, q⟩ := hd 5 (by decide); exact (q 19 rfl).trans t
                refine Flow.want (Flow.want_of (k := 19) rfl e19) ?_
                refine Flow.val_call rfl Try.func15 (by kernel_rfl) rfl (by simp only [List.map_toArray, List.map_cons, List.map_nil, Act.eval, e20, e24]) (newer_c _ _ hcs hcbs _ _ _ _ _ _ h16 h11 h12 b16 b11 b12 w') ?_
                rintro e w2 ⟨rfl, hb2⟩
                rw [hnw]
                exact ⟨_, rfl, hK _ _ hb2 (by rfl)⟩
              · intro a w' hx hu hd K hK
                have e19 : a.tmps.getD 19 undef = (.bool false) := by obtain ⟨_, t, q⟩ := hd 5 (by decide); exact (q 19 rfl).trans t
                have e25 : a.tmps.getD 25 undef = (.bool false) := by obtain ⟨_, t, q⟩ := hd 11 (by decide); exact (q 25 rfl).trans t
                have e16 : a.tmps.getD 16 undef = (.bool true) := by obtain ⟨_, t, q⟩ := hd 2 (by decide); exact (q 16 rfl).trans t
                refine Flow.want (Flow.want_of (k := 16) rfl e16) ?_
                exact Flow.val_pick rfl e19 e25 (hK _ _ (Below.refl _ _) rfl)
              · intro a w' hx hu hd K hK
                have e16 : a.tmps.getD 16 undef = (.bool true) := by obtain ⟨_, t, q⟩ := hd 2 (by decide); exact (q 16 rfl).trans t
                have e26 : a.tmps.getD 26 undef = (.bool false) := by obtain ⟨_, t, q⟩ := hd 12 (by decide); exact (q 26 rfl).trans t
                refine Flow.want rfl ?_
                exact Flow.val_pick rfl e16 e26 (hK _ _ (Below.refl _ _) rfl)
            · intro vs w' hb hT
              have v0 : vs 0 = (.agg c.toArray) := hT 0 (by decide)
              have v1 : vs 1 = (.bool true) := hT 1 (by decide)
              have v2 : vs 2 = (.bool true) := hT 2 (by decide)
              have v3 : vs 3 = (.int .i64 (bk l k)) := hT 3 (by decide)
              have v4 : vs 4 = (.bool false) := hT 4 (by decide)
              have v5 : vs 5 = (.bool false) := hT 5 (by decide)
              have v6 : vs 6 = (.agg c.toArray) := hT 6 (by decide)
              have v7 : vs 7 = (.slice (some ad) l.length cap) := hT 7 (by decide)
              have v8 : vs 8 = (.int .i64 (bk l k)) := hT 8 (by decide)
              have v9 : vs 9 = (.pointer (some (ad.add ((bk l k).toNat * 17)))) := hT 9 (by decide)
              have v10 : vs 10 = (.agg cb.toArray) := hT 10 (by decide)
              have v11 : vs 11 = (.bool false) := hT 11 (by decide)
              have v12 : vs 12 = (.bool false) := hT 12 (by decide)
              have v13 : vs 13 = (.bool false) := hT 13 (by decide)
              simp only [Flow.putsT, v0, v1, v2, v3, v4, v5, v6, v7, v8, v9, v10, v11, v12, v13, Act.put, List.setIfInBounds_toArray, List.set_cons_zero, List.set_cons_succ]
              clear hT v0 v1 v2 v3 v4 v5 v6 v7 v8 v9 v10 v11 v12 v13
              go_wp2
              go_roundw
              case rel => exact ⟨k + 1, hlt, by go_num, by rw [HS.out], ⟨below_step HB4.out hb⟩⟩
              case measure => simp [intOf]; omega
      · have hf : decide ((rd_T35 l k).f2 ≥ 1) = false := decide_eq_false cf
        have HS := Aside0.mk (bk_no l k (by rintro ⟨h, _⟩; exact cf h))
        clear cf
        go_wp2_with (first | ((with_reducible refine gate_dst (N := 13) rfl ?_); refine load_at rfl 35 _ rfl (ad.add (k * 17)) rfl c _ hlies2 Try.underlying35 rfl (by rw [hcl]; exact size35) ?_) | ((with_reducible refine gate_dst (N := 6) rfl ?_); refine alloc_event rfl (N := 6) rfl 35 rfl zero35 zero35_is ?_; intro g hg wa kg hba; have HB3 := Aside0.mk (below_step HB.out hba); have GW := Aside0.mk (show w.heap.size ≤ g by rw [hg]; exact HB.out.size); clear hg hba) | ((with_reducible refine store_event rfl rfl 35 _ _ rfl g c zero35.cells ?sx ?sy kg ?ss ?si HO.out ?_); (case sx => rfl); (case sy => rfl); (case ss => rw [hcl]; rfl); (case si => rw [hcl]; exact size35); intro w3 bg hfar hb3; have HB4 := Aside0.mk (HB3.out.trans (hb3 _ GW.out)); clear kg HB3 hfar hb3))
        refine Flow.flowT (E := fun u v => Below u.heap.size u v) [(some 14, []), (some 15, [0]), (some 16, [1, 1]), (some 17, [2]), (some 18, [3, 2]), (some 19, [4, 2, 2]), (some 20, [5]), (some 21, [5]), (some 22, [5]), (some 23, [7, 8, 5]), (some 24, [9, 5]), (some 25, [6, 10, 5, 5]), (some 26, [5, 11, 2]), (some 27, [2, 12])] (fun i v _ => match i with | 0 => v = (.agg c.toArray) | 1 => v = (.bool false) | 2 => v = (.bool false) | 3 => v = undef | 4 => v = undef | 5 => v = undef | 6 => v = undef | 7 => v = undef | 8 => v = undef | 9 => v = undef | 10 => v = undef | 11 => v = undef | 12 => v = undef | 13 => v = (.bool false) | _ => True) rfl (by kernel_rfl) (by kernel_rfl) (by kernel_rfl) ((Below.refl _ _).drew) (fun _ _ _ h k => h.trans (k.mono h.size)) (fun _ _ _ _ h _ => h) ?_ ?_
        · refine ⟨?_, ?_, ?_, ?_, ?_, ?_, ?_, ?_, ?_, ?_, ?_, ?_, ?_, ?_, trivial⟩
          · intro a w' hx hu hd K hK
            have e6 : a.tmps.getD 6 undef = (.pointer (some ⟨g, 0, none⟩)) := hu 6 rfl
            refine Flow.want rfl ?_
            exact Flow.val_run (run_load_row (cs := c.toArray) rfl e6 Try.underlying35 rfl (by rw [hcs]; exact size35) (blk_below bg hx)) (hK _ _ (Below.refl _ _) rfl)
          · intro a w' hx hu hd K hK
            have e14 : a.tmps.getD 14 undef = (.agg c.toArray) := by obtain ⟨_, t, q⟩ := hd 0 (by decide); exact (q 14 rfl).trans t
            refine Flow.want rfl ?_
            refine Flow.val_call rfl Try.func30 (by kernel_rfl) rfl (by simp only [List.map_toArray, List.map_cons, List.map_nil, Act.eval, e14]) (found_c _ hcs _ h16 w') ?_
            rintro e w2 ⟨rfl, hb2⟩
            rw [hf]
            exact ⟨_, rfl, hK _ _ hb2 (by rfl)⟩
          · intro a w' hx hu hd K hK
            have e15 : a.tmps.getD 15 undef = (.bool false) := by obtain ⟨_, t, q⟩ := hd 1 (by decide); exact (q 15 rfl).trans t
            refine Flow.want rfl ?_
            exact Flow.val_move rfl e15 (hK _ _ (Below.refl _ _) rfl)
          · intro a w' hx hu hd K hK
            have e4 : a.tmps.getD 4 undef = (.int .i64 (bk l k)) := hu 4 rfl
            have e16 : a.tmps.getD 16 undef = (.bool false) := by obtain ⟨_, t, q⟩ := hd 2 (by decide); exact (q 16 rfl).trans t
            exact Flow.spare (Flow.spare_of (k := 16) rfl e16 rfl) (hK _ _ (Below.refl _ _) rfl)
          · intro a w' hx hu hd K hK
            have e17 : a.tmps.getD 17 undef = undef := by obtain ⟨_, t, q⟩ := hd 3 (by decide); exact (q 17 rfl).trans t
            have e16 : a.tmps.getD 16 undef = (.bool false) := by obtain ⟨_, t, q⟩ := hd 2 (by decide); exact (q 16 rfl).trans t
            exact Flow.spare (Flow.spare_of (k := 16) rfl e16 rfl) (hK _ _ (Below.refl _ _) rfl)
          · intro a w' hx hu hd K hK
            have e18 : a.tmps.getD 18 undef = undef := by obtain ⟨_, t, q⟩ := hd 4 (by decide); exact (q 18 rfl).trans t
            have e16 : a.tmps.getD 16 undef = (.bool false) := by obtain ⟨_, t, q⟩ := hd 2 (by decide); exact (q 16 rfl).trans t
            exact Flow.spare (Flow.spare_of (k := 16) rfl e16 rfl) (hK _ _ (Below.refl _ _) rfl)
          · intro a w' hx hu hd K hK
            have e6 : a.tmps.getD 6 undef = (.pointer (some ⟨g, 0, none⟩)) := hu 6 rfl
            have e19 : a.tmps.getD 19 undef = undef := by obtain ⟨_, t, q⟩ := hd 5 (by decide); exact (q 19 rfl).trans t
            exact Flow.spare (Flow.spare_undef (k := 19) rfl e19) (hK _ _ (Below.refl _ _) rfl)
          · intro a w' hx hu hd K hK
            have e0 : a.tmps.getD 0 undef = (.slice (some ad) l.length cap) := hu 0 rfl
            have e19 : a.tmps.getD 19 undef = undef := by obtain ⟨_, t, q⟩ := hd 5 (by decide); exact (q 19 rfl).trans t
            exact Flow.spare (Flow.spare_undef (k := 19) rfl e19) (hK _ _ (Below.refl _ _) rfl)
          · intro a w' hx hu hd K hK
            have e4 : a.tmps.getD 4 undef = (.int .i64 (bk l k)) := hu 4 rfl
            have e19 : a.tmps.getD 19 undef = undef := by obtain ⟨_, t, q⟩ := hd 5 (by decide); exact (q 19 rfl).trans t
            exact Flow.spare (Flow.spare_undef (k := 19) rfl e19) (hK _ _ (Below.refl _ _) rfl)
          · intro a w' hx hu hd K hK
            have e21 : a.tmps.getD 21 undef = undef := by obtain ⟨_, t, q⟩ := hd 7 (by decide); exact (q 21 rfl).trans t
            have e22 : a.tmps.getD 22 undef = undef := by obtain ⟨_, t, q⟩ := hd 8 (by decide); exact (q 22 rfl).trans t
            have e19 : a.tmps.getD 19 undef = undef := by obtain ⟨_, t, q⟩ := hd 5 (by decide); exact (q 19 rfl).trans t
            exact Flow.spare (Flow.spare_undef (k := 19) rfl e19) (hK _ _ (Below.refl _ _) rfl)
          · intro a w' hx hu hd K hK
            have e23 : a.tmps.getD 23 undef = undef := by obtain ⟨_, t, q⟩ := hd 9 (by decide); exact (q 23 rfl).trans t
            have e19 : a.tmps.getD 19 undef = undef := by obtain ⟨_, t, q⟩ := hd 5 (by decide); exact (q 19 rfl).trans t
            exact Flow.spare (Flow.spare_undef (k := 19) rfl e19) (hK _ _ (Below.refl _ _) rfl)
          · intro a w' hx hu hd K hK
            have e20 : a.tmps.getD 20 undef = undef := by obtain ⟨_, t, q⟩ := hd 6 (by decide); exact (q 20 rfl).trans t
            have e24 : a.tmps.getD 24 undef = undef := by obtain ⟨_, t, q⟩ := hd 10 (by decide); exact (q 24 rfl).trans t
            have e19 : a.tmps.getD 19 undef = undef := by obtain ⟨_, t, q⟩ := hd 5 (by decide); exact (q 19 rfl).trans t
            exact Flow.spare (Flow.spare_undef (k := 19) rfl e19) (hK _ _ (Below.refl _ _) rfl)
          · intro a w' hx hu hd K hK
            have e19 : a.tmps.getD 19 undef = undef := by obtain ⟨_, t, q⟩ := hd 5 (by decide); exact (q 19 rfl).trans t
            have e25 : a.tmps.getD 25 undef = undef := by obtain ⟨_, t, q⟩ := hd 11 (by decide); exact (q 25 rfl).trans t
            have e16 : a.tmps.getD 16 undef = (.bool false) := by obtain ⟨_, t, q⟩ := hd 2 (by decide); exact (q 16 rfl).trans t
            exact Flow.spare (Flow.spare_of (k := 16) rfl e16 rfl) (hK _ _ (Below.refl _ _) rfl)
          · intro a w' hx hu hd K hK
            have e16 : a.tmps.getD 16 undef = (.bool false) := by obtain ⟨_, t, q⟩ := hd 2 (by decide); exact (q 16 rfl).trans t
            have e26 : a.tmps.getD 26 undef = undef := by obtain ⟨_, t, q⟩ := hd 12 (by decide); exact (q 26 rfl).trans t
            refine Flow.want rfl ?_
            exact Flow.val_pick rfl e16 rfl (hK _ _ (Below.refl _ _) rfl)
        · intro vs w' hb hT
          have v0 : vs 0 = (.agg c.toArray) := hT 0 (by decide)
          have v1 : vs 1 = (.bool false) := hT 1 (by decide)
          have v2 : vs 2 = (.bool false) := hT 2 (by decide)
          have v3 : vs 3 = undef := hT 3 (by decide)
          have v4 : vs 4 = undef := hT 4 (by decide)
          have v5 : vs 5 = undef := hT 5 (by decide)
          have v6 : vs 6 = undef := hT 6 (by decide)
          have v7 : vs 7 = undef := hT 7 (by decide)
          have v8 : vs 8 = undef := hT 8 (by decide)
          have v9 : vs 9 = undef := hT 9 (by decide)
          have v10 : vs 10 = undef := hT 10 (by decide)
          have v11 : vs 11 = undef := hT 11 (by decide)
          have v12 : vs 12 = undef := hT 12 (by decide)
          have v13 : vs 13 = (.bool false) := hT 13 (by decide)
          simp only [Flow.putsT, v0, v1, v2, v3, v4, v5, v6, v7, v8, v9, v10, v11, v12, v13, Act.put, List.setIfInBounds_toArray, List.set_cons_zero, List.set_cons_succ]
          clear hT v0 v1 v2 v3 v4 v5 v6 v7 v8 v9 v10 v11 v12 v13
          go_wp2
          go_roundw
          case rel => exact ⟨k + 1, hlt, by go_num, by rw [HS.out], ⟨below_step HB4.out hb⟩⟩
          case measure => simp [intOf]; omega
    · obtain rfl : k = l.length := by omega
      obtain ⟨m, hm⟩ : ∃ m : Int, (if bk l l.length < 0 then 0 else bk l l.length) = m := ⟨_, rfl⟩
      go_wp2
      go_ret2
      refine ⟨?_, HB.out⟩
      rw [← hm]; rfl
end Go.Proofs.Ytgchdkppjcnkiaa.Newer
