/- The place of the log that holds, by the document's definition, walked: the first one of which none is newer. -/
import Derived.Test.YtgchdkppjcnkiaaLive
import Derived.Deep.LoopGhost
namespace Go.Proofs.Ytgchdkppjcnkiaa.Newer
open Go.RowKit Go.Proofs.Ytgchdkppjcnkiaa.PPickBests Go.Proofs.Ytgchdkppjcnkiaa.Cells Go.Proofs.YtgchdkppjcnkiaaW.PrintWords Go.Proofs.YtgchdkppjcnkiaaW.PrintLast Go.Proofs.YtgchdkppjcnkiaaW.PrintMore
/-- is there one, and is none of the first k newer? -/
def okb (l : List S35) (i : Nat) : Nat → Bool
  | 0 => decide ((rd_T35 l i).f2 > 0)
  | k + 1 => okb l i k && !nS (rd_T35 l k) (rd_T35 l i)
/-- the first such place from i on -/
def fb (l : List S35) : Nat → Nat → Int × Bool
  | 0, _ => (0, false)
  | d + 1, i => if okb l i l.length = true then ((i : Int), true) else fb l d (i + 1)
theorem field16 {w : World} {ad : Addr} {c : List Value} {v : Value} (h : Lies w ad c) (hc : c[16]? = some v) : w.cell? ⟨ad.block, ad.off + 16, none⟩ = some v := by
  have := h 16 v hc
  simpa [Addr.add] using this
set_option maxHeartbeats 8000000 in
theorem rbest_c (l : List S35) (A : Option Addr) (cap : Nat) (w : World) (hl : Kd.C k35 w A l.length l) (hlen : l.length ≤ 9223372036854775807) :
    Calls Try.prog 22 #[.slice A l.length cap] w fun e w' => e = .returned (.tuple #[.int .i64 (fb l l.length 0).1, .bool (fb l l.length 0).2]) ∧ Below w.heap.size w w' := by
  have hu35 := Try.underlying35
  have HL := Aside0.mk hl
  clear hl
  obtain ⟨res, hres⟩ : ∃ r, fb l l.length 0 = r := ⟨_, rfl⟩
  rw [hres]
  have HR := Aside0.mk hres
  clear hres
  go_enter Try.func22, Try.ntmps22
  go_wp2
  go_loopw [4] (fun b wr => ∃ i : Nat, i ≤ l.length ∧ b = .int .i64 i ∧ Aside0 (Below w.heap.size w wr) ∧ Aside0 (fb l (l.length - i) i = res)) (fun b _ => l.length - (intOf b).toNat)
  case atStart => exact ⟨0, Nat.zero_le _, rfl, ⟨Below.refl _ _⟩, HR⟩
  case round =>
    obtain ⟨i, hi, rfl, HB, HF⟩ := hrel
    by_cases hlt : i < l.length
    · obtain ⟨ad, ci, hA, hil, li, hone, his, i16, i11, i12⟩ := elem HL.out i (by omega) (by omega)
      subst hA
      rw [Int.toNat_natCast] at li
      have hc16 : ci[16]? = some (.int .i64 (rd_T35 l i).f2) := by
        rw [← i16]; simp
      have hcell := field16 (lies_below li HB.out) hc16
      have HI := Aside0.mk li
      clear hone hc16 li
      go_wp2
      obtain ⟨wo, rfl⟩ : ∃ wo : World, wo = wr := ⟨_, rfl⟩
      go_loopw [5, 6] (fun b c wr => ∃ j : Nat, j ≤ l.length ∧ c = .int .i64 j ∧ b = .bool (okb l i j) ∧ Aside0 (Below w.heap.size w wr)) (fun _ c _ => l.length - (intOf c).toNat)
      case atStart => exact ⟨0, Nat.zero_le _, rfl, rfl, HB⟩
      case round =>
        obtain ⟨j, hj, rfl, rfl, HC⟩ := hrel
        by_cases jlt : j < l.length
        · obtain ⟨ad', cj, hA', hjl, lj, _, hjs, j16, j11, j12⟩ := elem HL.out j (by omega) (by omega)
          obtain rfl := Option.some.inj hA'
          clear hA'
          rw [Int.toNat_natCast] at lj
          have li := HI.out
          cases hok : okb l i j with
          | true =>
            by_cases cw : nS (rd_T35 l j) (rd_T35 l i) = true
            · have hnw : nw (rd_T35 l j).f2 (rd_T35 l j).f0.f1 (rd_T35 l j).f0.f2 (rd_T35 l i).f2 (rd_T35 l i).f0.f1 (rd_T35 l i).f0.f2 = true := cw
              have HS := Aside0.mk (show okb l i (j + 1) = false by show (okb l i j && _) = false; rw [cw]; simp)
              clear cw hok
              go_wp2
              refine Flow.flowT (E := fun u v => Below u.heap.size u v) [(some 25, []), (some 26, [0]), (some 27, [1]), (some 28, [1]), (some 29, [2, 3, 1]), (some 30, [4, 1]), (some 31, [1]), (some 32, [1]), (some 33, [6, 7, 1]), (some 34, [8, 1]), (some 35, [5, 9, 1, 1]), (some 36, [10, 1]), (some 37, [1, 11]), (some 5, [12, 10, 0, 1, 2, 3, 4, 5, 6, 7, 8, 9, 10, 11, 12])] (fun iQ vQ _ => match iQ with | 0 => vQ = (.bool true) | 1 => vQ = (.bool true) | 2 => vQ = (.slice (some ad) l.length cap) | 3 => vQ = (.int .i64 (j : Int)) | 4 => vQ = (.pointer (some (ad.add (j * 17)))) | 5 => vQ = (.agg cj.toArray) | 6 => vQ = (.slice (some ad) l.length cap) | 7 => vQ = (.int .i64 (i : Int)) | 8 => vQ = (.pointer (some (ad.add (i * 17)))) | 9 => vQ = (.agg ci.toArray) | 10 => vQ = (.bool true) | 11 => vQ = (.bool false) | 12 => vQ = (.bool false) | 13 => vQ = (.bool false) | _ => True) rfl (by kernel_rfl) (by kernel_rfl) (by kernel_rfl) ((Below.refl _ _).drew) (fun _ _ _ h k => h.trans (k.mono h.size)) (fun _ _ _ _ h _ => h) ?_ ?_
              · refine ⟨?_, ?_, ?_, ?_, ?_, ?_, ?_, ?_, ?_, ?_, ?_, ?_, ?_, ?_, trivial⟩
                · intro a w' hx hu hd K hK
                  have e5 : a.tmps.getD 5 undef = (.bool true) := hu 5 rfl
                  refine Flow.want rfl ?_
                  exact Flow.val_move rfl e5 (hK _ _ (Below.refl _ _) rfl)
                · intro a w' hx hu hd K hK
                  have e25 : a.tmps.getD 25 undef = (.bool true) := by obtain ⟨_, t, q⟩ := hd 0 (by decide); exact (q 25 rfl).trans t
                  refine Flow.want rfl ?_
                  exact Flow.val_move rfl e25 (hK _ _ (Below.refl _ _) rfl)
                · intro a w' hx hu hd K hK
                  have e0 : a.tmps.getD 0 undef = (.slice (some ad) l.length cap) := hu 0 rfl
                  have e26 : a.tmps.getD 26 undef = (.bool true) := by obtain ⟨_, t, q⟩ := hd 1 (by decide); exact (q 26 rfl).trans t
                  refine Flow.want (Flow.want_of (k := 26) rfl e26) ?_
                  exact Flow.val_move rfl e0 (hK _ _ (Below.refl _ _) rfl)
                · intro a w' hx hu hd K hK
                  have e6 : a.tmps.getD 6 undef = (.int .i64 (j : Int)) := hu 6 rfl
                  have e26 : a.tmps.getD 26 undef = (.bool true) := by obtain ⟨_, t, q⟩ := hd 1 (by decide); exact (q 26 rfl).trans t
                  refine Flow.want (Flow.want_of (k := 26) rfl e26) ?_
                  exact Flow.val_move rfl e6 (hK _ _ (Below.refl _ _) rfl)
                · intro a w' hx hu hd K hK
                  have e27 : a.tmps.getD 27 undef = (.slice (some ad) l.length cap) := by obtain ⟨_, t, q⟩ := hd 2 (by decide); exact (q 27 rfl).trans t
                  have e28 : a.tmps.getD 28 undef = (.int .i64 (j : Int)) := by obtain ⟨_, t, q⟩ := hd 3 (by decide); exact (q 28 rfl).trans t
                  have e26 : a.tmps.getD 26 undef = (.bool true) := by obtain ⟨_, t, q⟩ := hd 1 (by decide); exact (q 26 rfl).trans t
                  refine Flow.want (Flow.want_of (k := 26) rfl e26) ?_
                  exact Flow.val_run (by unfold execOp; simp only [Act.eval, e27, e28]; go_simp) (hK _ _ (Below.refl _ _) rfl)
                · intro a w' hx hu hd K hK
                  have e29 : a.tmps.getD 29 undef = (.pointer (some (ad.add (j * 17)))) := by obtain ⟨_, t, q⟩ := hd 4 (by decide); exact (q 29 rfl).trans t
                  have e26 : a.tmps.getD 26 undef = (.bool true) := by obtain ⟨_, t, q⟩ := hd 1 (by decide); exact (q 26 rfl).trans t
                  refine Flow.want (Flow.want_of (k := 26) rfl e26) ?_
                  exact Flow.val_run (run_load_lies rfl e29 Try.underlying35 rfl (by rw [hjl]; exact size35) (lies_below (lies_below lj HC.out) hx)) (hK _ _ (Below.refl _ _) rfl)
                · intro a w' hx hu hd K hK
                  have e0 : a.tmps.getD 0 undef = (.slice (some ad) l.length cap) := hu 0 rfl
                  have e26 : a.tmps.getD 26 undef = (.bool true) := by obtain ⟨_, t, q⟩ := hd 1 (by decide); exact (q 26 rfl).trans t
                  refine Flow.want (Flow.want_of (k := 26) rfl e26) ?_
                  exact Flow.val_move rfl e0 (hK _ _ (Below.refl _ _) rfl)
                · intro a w' hx hu hd K hK
                  have e4 : a.tmps.getD 4 undef = (.int .i64 (i : Int)) := hu 4 rfl
                  have e26 : a.tmps.getD 26 undef = (.bool true) := by obtain ⟨_, t, q⟩ := hd 1 (by decide); exact (q 26 rfl).trans t
                  refine Flow.want (Flow.want_of (k := 26) rfl e26) ?_
                  exact Flow.val_move rfl e4 (hK _ _ (Below.refl _ _) rfl)
                · intro a w' hx hu hd K hK
                  have e31 : a.tmps.getD 31 undef = (.slice (some ad) l.length cap) := by obtain ⟨_, t, q⟩ := hd 6 (by decide); exact (q 31 rfl).trans t
                  have e32 : a.tmps.getD 32 undef = (.int .i64 (i : Int)) := by obtain ⟨_, t, q⟩ := hd 7 (by decide); exact (q 32 rfl).trans t
                  have e26 : a.tmps.getD 26 undef = (.bool true) := by obtain ⟨_, t, q⟩ := hd 1 (by decide); exact (q 26 rfl).trans t
                  refine Flow.want (Flow.want_of (k := 26) rfl e26) ?_
                  exact Flow.val_run (by unfold execOp; simp only [Act.eval, e31, e32]; go_simp) (hK _ _ (Below.refl _ _) rfl)
                · intro a w' hx hu hd K hK
                  have e33 : a.tmps.getD 33 undef = (.pointer (some (ad.add (i * 17)))) := by obtain ⟨_, t, q⟩ := hd 8 (by decide); exact (q 33 rfl).trans t
                  have e26 : a.tmps.getD 26 undef = (.bool true) := by obtain ⟨_, t, q⟩ := hd 1 (by decide); exact (q 26 rfl).trans t
                  refine Flow.want (Flow.want_of (k := 26) rfl e26) ?_
                  exact Flow.val_run (run_load_lies rfl e33 Try.underlying35 rfl (by rw [hil]; exact size35) (lies_below (lies_below li HC.out) hx)) (hK _ _ (Below.refl _ _) rfl)
                · intro a w' hx hu hd K hK
                  have e30 : a.tmps.getD 30 undef = (.agg cj.toArray) := by obtain ⟨_, t, q⟩ := hd 5 (by decide); exact (q 30 rfl).trans t
                  have e34 : a.tmps.getD 34 undef = (.agg ci.toArray) := by obtain ⟨_, t, q⟩ := hd 9 (by decide); exact (q 34 rfl).trans t
                  have e26 : a.tmps.getD 26 undef = (.bool true) := by obtain ⟨_, t, q⟩ := hd 1 (by decide); exact (q 26 rfl).trans t
                  refine Flow.want (Flow.want_of (k := 26) rfl e26) ?_
                  refine Flow.val_call rfl Try.func16 (by kernel_rfl) rfl (by simp only [List.map_toArray, List.map_cons, List.map_nil, Act.eval, e30, e34]) (rnewer_c _ _ hjs his _ _ _ _ _ _ j16 j11 j12 i16 i11 i12 w') ?_
                  rintro e w2 ⟨rfl, hb2⟩
                  rw [hnw]
                  exact ⟨_, rfl, hK _ _ hb2 (by rfl)⟩
                · intro a w' hx hu hd K hK
                  have e35 : a.tmps.getD 35 undef = (.bool true) := by obtain ⟨_, t, q⟩ := hd 10 (by decide); exact (q 35 rfl).trans t
                  have e26 : a.tmps.getD 26 undef = (.bool true) := by obtain ⟨_, t, q⟩ := hd 1 (by decide); exact (q 26 rfl).trans t
                  refine Flow.want (Flow.want_of (k := 26) rfl e26) ?_
                  exact Flow.val_not rfl e35 (hK _ _ (Below.refl _ _) rfl)
                · intro a w' hx hu hd K hK
                  have e26 : a.tmps.getD 26 undef = (.bool true) := by obtain ⟨_, t, q⟩ := hd 1 (by decide); exact (q 26 rfl).trans t
                  have e36 : a.tmps.getD 36 undef = (.bool false) := by obtain ⟨_, t, q⟩ := hd 11 (by decide); exact (q 36 rfl).trans t
                  refine Flow.want rfl ?_
                  exact Flow.val_pick rfl e26 e36 (hK _ _ (Below.refl _ _) rfl)
                · intro a w' hx hu hd K hK
                  have e37 : a.tmps.getD 37 undef = (.bool false) := by obtain ⟨_, t, q⟩ := hd 12 (by decide); exact (q 37 rfl).trans t
                  refine Flow.want rfl ?_
                  exact Flow.val_assign rfl e37 (hK _ _ (Below.refl _ _) rfl)
              · intro vs w' hb hT
                have v0 : vs 0 = (.bool true) := hT 0 (by decide)
                have v1 : vs 1 = (.bool true) := hT 1 (by decide)
                have v2 : vs 2 = (.slice (some ad) l.length cap) := hT 2 (by decide)
                have v3 : vs 3 = (.int .i64 (j : Int)) := hT 3 (by decide)
                have v4 : vs 4 = (.pointer (some (ad.add (j * 17)))) := hT 4 (by decide)
                have v5 : vs 5 = (.agg cj.toArray) := hT 5 (by decide)
                have v6 : vs 6 = (.slice (some ad) l.length cap) := hT 6 (by decide)
                have v7 : vs 7 = (.int .i64 (i : Int)) := hT 7 (by decide)
                have v8 : vs 8 = (.pointer (some (ad.add (i * 17)))) := hT 8 (by decide)
                have v9 : vs 9 = (.agg ci.toArray) := hT 9 (by decide)
                have v10 : vs 10 = (.bool true) := hT 10 (by decide)
                have v11 : vs 11 = (.bool false) := hT 11 (by decide)
                have v12 : vs 12 = (.bool false) := hT 12 (by decide)
                have v13 : vs 13 = (.bool false) := hT 13 (by decide)
                simp only [Flow.putsT, v0, v1, v2, v3, v4, v5, v6, v7, v8, v9, v10, v11, v12, v13, Act.put, List.setIfInBounds_toArray, List.set_cons_zero, List.set_cons_succ]
                clear hT v0 v1 v2 v3 v4 v5 v6 v7 v8 v9 v10 v11 v12 v13
                go_wp2
                go_roundw
                case rel => exact ⟨j + 1, jlt, by go_num, by rw [HS.out], ⟨below_step HC.out hb⟩⟩
                case measure => simp [intOf]; omega
            · have hnw : nw (rd_T35 l j).f2 (rd_T35 l j).f0.f1 (rd_T35 l j).f0.f2 (rd_T35 l i).f2 (rd_T35 l i).f0.f1 (rd_T35 l i).f0.f2 = false := Bool.eq_false_iff.mpr cw
              have HS := Aside0.mk (show okb l i (j + 1) = true by show (okb l i j && _) = true; rw [hok, Bool.eq_false_iff.mpr cw]; rfl)
              clear cw hok
              go_wp2
              refine Flow.flowT (E := fun u v => Below u.heap.size u v) [(some 25, []), (some 26, [0]), (some 27, [1]), (some 28, [1]), (some 29, [2, 3, 1]), (some 30, [4, 1]), (some 31, [1]), (some 32, [1]), (some 33, [6, 7, 1]), (some 34, [8, 1]), (some 35, [5, 9, 1, 1]), (some 36, [10, 1]), (some 37, [1, 11]), (some 5, [12, 10, 0, 1, 2, 3, 4, 5, 6, 7, 8, 9, 10, 11, 12])] (fun iQ vQ _ => match iQ with | 0 => vQ = (.bool true) | 1 => vQ = (.bool true) | 2 => vQ = (.slice (some ad) l.length cap) | 3 => vQ = (.int .i64 (j : Int)) | 4 => vQ = (.pointer (some (ad.add (j * 17)))) | 5 => vQ = (.agg cj.toArray) | 6 => vQ = (.slice (some ad) l.length cap) | 7 => vQ = (.int .i64 (i : Int)) | 8 => vQ = (.pointer (some (ad.add (i * 17)))) | 9 => vQ = (.agg ci.toArray) | 10 => vQ = (.bool false) | 11 => vQ = (.bool true) | 12 => vQ = (.bool true) | 13 => vQ = (.bool true) | _ => True) rfl (by kernel_rfl) (by kernel_rfl) (by kernel_rfl) ((Below.refl _ _).drew) (fun _ _ _ h k => h.trans (k.mono h.size)) (fun _ _ _ _ h _ => h) ?_ ?_
              · refine ⟨?_, ?_, ?_, ?_, ?_, ?_, ?_, ?_, ?_, ?_, ?_, ?_, ?_, ?_, trivial⟩
                · intro a w' hx hu hd K hK
                  have e5 : a.tmps.getD 5 undef = (.bool true) := hu 5 rfl
                  refine Flow.want rfl ?_
                  exact Flow.val_move rfl e5 (hK _ _ (Below.refl _ _) rfl)
                · intro a w' hx hu hd K hK
                  have e25 : a.tmps.getD 25 undef = (.bool true) := by obtain ⟨_, t, q⟩ := hd 0 (by decide); exact (q 25 rfl).trans t
                  refine Flow.want rfl ?_
                  exact Flow.val_move rfl e25 (hK _ _ (Below.refl _ _) rfl)
                · intro a w' hx hu hd K hK
                  have e0 : a.tmps.getD 0 undef = (.slice (some ad) l.length cap) := hu 0 rfl
                  have e26 : a.tmps.getD 26 undef = (.bool true) := by obtain ⟨_, t, q⟩ := hd 1 (by decide); exact (q 26 rfl).trans t
                  refine Flow.want (Flow.want_of (k := 26) rfl e26) ?_
                  exact Flow.val_move rfl e0 (hK _ _ (Below.refl _ _) rfl)
                · intro a w' hx hu hd K hK
                  have e6 : a.tmps.getD 6 undef = (.int .i64 (j : Int)) := hu 6 rfl
                  have e26 : a.tmps.getD 26 undef = (.bool true) := by obtain ⟨_, t, q⟩ := hd 1 (by decide); exact (q 26 rfl).trans t
                  refine Flow.want (Flow.want_of (k := 26) rfl e26) ?_
                  exact Flow.val_move rfl e6 (hK _ _ (Below.refl _ _) rfl)
                · intro a w' hx hu hd K hK
                  have e27 : a.tmps.getD 27 undef = (.slice (some ad) l.length cap) := by obtain ⟨_, t, q⟩ := hd 2 (by decide); exact (q 27 rfl).trans t
                  have e28 : a.tmps.getD 28 undef = (.int .i64 (j : Int)) := by obtain ⟨_, t, q⟩ := hd 3 (by decide); exact (q 28 rfl).trans t
                  have e26 : a.tmps.getD 26 undef = (.bool true) := by obtain ⟨_, t, q⟩ := hd 1 (by decide); exact (q 26 rfl).trans t
                  refine Flow.want (Flow.want_of (k := 26) rfl e26) ?_
                  exact Flow.val_run (by unfold execOp; simp only [Act.eval, e27, e28]; go_simp) (hK _ _ (Below.refl _ _) rfl)
                · intro a w' hx hu hd K hK
                  have e29 : a.tmps.getD 29 undef = (.pointer (some (ad.add (j * 17)))) := by obtain ⟨_, t, q⟩ := hd 4 (by decide); exact (q 29 rfl).trans t
                  have e26 : a.tmps.getD 26 undef = (.bool true) := by obtain ⟨_, t, q⟩ := hd 1 (by decide); exact (q 26 rfl).trans t
                  refine Flow.want (Flow.want_of (k := 26) rfl e26) ?_
                  exact Flow.val_run (run_load_lies rfl e29 Try.underlying35 rfl (by rw [hjl]; exact size35) (lies_below (lies_below lj HC.out) hx)) (hK _ _ (Below.refl _ _) rfl)
                · intro a w' hx hu hd K hK
                  have e0 : a.tmps.getD 0 undef = (.slice (some ad) l.length cap) := hu 0 rfl
                  have e26 : a.tmps.getD 26 undef = (.bool true) := by obtain ⟨_, t, q⟩ := hd 1 (by decide); exact (q 26 rfl).trans t
                  refine Flow.want (Flow.want_of (k := 26) rfl e26) ?_
                  exact Flow.val_move rfl e0 (hK _ _ (Below.refl _ _) rfl)
                · intro a w' hx hu hd K hK
                  have e4 : a.tmps.getD 4 undef = (.int .i64 (i : Int)) := hu 4 rfl
                  have e26 : a.tmps.getD 26 undef = (.bool true) := by obtain ⟨_, t, q⟩ := hd 1 (by decide); exact (q 26 rfl).trans t
                  refine Flow.want (Flow.want_of (k := 26) rfl e26) ?_
                  exact Flow.val_move rfl e4 (hK _ _ (Below.refl _ _) rfl)
                · intro a w' hx hu hd K hK
                  have e31 : a.tmps.getD 31 undef = (.slice (some ad) l.length cap) := by obtain ⟨_, t, q⟩ := hd 6 (by decide); exact (q 31 rfl).trans t
                  have e32 : a.tmps.getD 32 undef = (.int .i64 (i : Int)) := by obtain ⟨_, t, q⟩ := hd 7 (by decide); exact (q 32 rfl).trans t
                  have e26 : a.tmps.getD 26 undef = (.bool true) := by obtain ⟨_, t, q⟩ := hd 1 (by decide); exact (q 26 rfl).trans t
                  refine Flow.want (Flow.want_of (k := 26) rfl e26) ?_
                  exact Flow.val_run (by unfold execOp; simp only [Act.eval, e31, e32]; go_simp) (hK _ _ (Below.refl _ _) rfl)
                · intro a w' hx hu hd K hK
                  have e33 : a.tmps.getD 33 undef = (.pointer (some (ad.add (i * 17)))) := by obtain ⟨_, t, q⟩ := hd 8 (by decide); exact (q 33 rfl).trans t
                  have e26 : a.tmps.getD 26 undef = (.bool true) := by obtain ⟨_, t, q⟩ := hd 1 (by decide); exact (q 26 rfl).trans t
                  refine Flow.want (Flow.want_of (k := 26) rfl e26) ?_
                  exact Flow.val_run (run_load_lies rfl e33 Try.underlying35 rfl (by rw [hil]; exact size35) (lies_below (lies_below li HC.out) hx)) (hK _ _ (Below.refl _ _) rfl)
                · intro a w' hx hu hd K hK
                  have e30 : a.tmps.getD 30 undef = (.agg cj.toArray) := by obtain ⟨_, t, q⟩ := hd 5 (by decide); exact (q 30 rfl).trans t
                  have e34 : a.tmps.getD 34 undef = (.agg ci.toArray) := by obtain ⟨_, t, q⟩ := hd 9 (by decide); exact (q 34 rfl).trans t
                  have e26 : a.tmps.getD 26 undef = (.bool true) := by obtain ⟨_, t, q⟩ := hd 1 (by decide); exact (q 26 rfl).trans t
                  refine Flow.want (Flow.want_of (k := 26) rfl e26) ?_
                  refine Flow.val_call rfl Try.func16 (by kernel_rfl) rfl (by simp only [List.map_toArray, List.map_cons, List.map_nil, Act.eval, e30, e34]) (rnewer_c _ _ hjs his _ _ _ _ _ _ j16 j11 j12 i16 i11 i12 w') ?_
                  rintro e w2 ⟨rfl, hb2⟩
                  rw [hnw]
                  exact ⟨_, rfl, hK _ _ hb2 (by rfl)⟩
                · intro a w' hx hu hd K hK
                  have e35 : a.tmps.getD 35 undef = (.bool false) := by obtain ⟨_, t, q⟩ := hd 10 (by decide); exact (q 35 rfl).trans t
                  have e26 : a.tmps.getD 26 undef = (.bool true) := by obtain ⟨_, t, q⟩ := hd 1 (by decide); exact (q 26 rfl).trans t
                  refine Flow.want (Flow.want_of (k := 26) rfl e26) ?_
                  exact Flow.val_not rfl e35 (hK _ _ (Below.refl _ _) rfl)
                · intro a w' hx hu hd K hK
                  have e26 : a.tmps.getD 26 undef = (.bool true) := by obtain ⟨_, t, q⟩ := hd 1 (by decide); exact (q 26 rfl).trans t
                  have e36 : a.tmps.getD 36 undef = (.bool true) := by obtain ⟨_, t, q⟩ := hd 11 (by decide); exact (q 36 rfl).trans t
                  refine Flow.want rfl ?_
                  exact Flow.val_pick rfl e26 e36 (hK _ _ (Below.refl _ _) rfl)
                · intro a w' hx hu hd K hK
                  have e37 : a.tmps.getD 37 undef = (.bool true) := by obtain ⟨_, t, q⟩ := hd 12 (by decide); exact (q 37 rfl).trans t
                  refine Flow.want rfl ?_
                  exact Flow.val_assign rfl e37 (hK _ _ (Below.refl _ _) rfl)
              · intro vs w' hb hT
                have v0 : vs 0 = (.bool true) := hT 0 (by decide)
                have v1 : vs 1 = (.bool true) := hT 1 (by decide)
                have v2 : vs 2 = (.slice (some ad) l.length cap) := hT 2 (by decide)
                have v3 : vs 3 = (.int .i64 (j : Int)) := hT 3 (by decide)
                have v4 : vs 4 = (.pointer (some (ad.add (j * 17)))) := hT 4 (by decide)
                have v5 : vs 5 = (.agg cj.toArray) := hT 5 (by decide)
                have v6 : vs 6 = (.slice (some ad) l.length cap) := hT 6 (by decide)
                have v7 : vs 7 = (.int .i64 (i : Int)) := hT 7 (by decide)
                have v8 : vs 8 = (.pointer (some (ad.add (i * 17)))) := hT 8 (by decide)
                have v9 : vs 9 = (.agg ci.toArray) := hT 9 (by decide)
                have v10 : vs 10 = (.bool false) := hT 10 (by decide)
                have v11 : vs 11 = (.bool true) := hT 11 (by decide)
                have v12 : vs 12 = (.bool true) := hT 12 (by decide)
                have v13 : vs 13 = (.bool true) := hT 13 (by decide)
                simp only [Flow.putsT, v0, v1, v2, v3, v4, v5, v6, v7, v8, v9, v10, v11, v12, v13, Act.put, List.setIfInBounds_toArray, List.set_cons_zero, List.set_cons_succ]
                clear hT v0 v1 v2 v3 v4 v5 v6 v7 v8 v9 v10 v11 v12 v13
                go_wp2
                go_roundw
                case rel => exact ⟨j + 1, jlt, by go_num, by rw [HS.out], ⟨below_step HC.out hb⟩⟩
                case measure => simp [intOf]; omega
          | false =>
            have HS := Aside0.mk (show okb l i (j + 1) = false by show (okb l i j && _) = false; rw [hok]; rfl)
            clear hok
            go_wp2
            refine Flow.flowT (E := fun u v => Below u.heap.size u v) [(some 25, []), (some 26, [0]), (some 27, [1]), (some 28, [1]), (some 29, [2, 3, 1]), (some 30, [4, 1]), (some 31, [1]), (some 32, [1]), (some 33, [6, 7, 1]), (some 34, [8, 1]), (some 35, [5, 9, 1, 1]), (some 36, [10, 1]), (some 37, [1, 11]), (some 5, [12, 10, 0, 1, 2, 3, 4, 5, 6, 7, 8, 9, 10, 11, 12])] (fun iQ vQ _ => match iQ with | 0 => vQ = (.bool false) | 1 => vQ = (.bool false) | 2 => vQ = undef | 3 => vQ = undef | 4 => vQ = undef | 5 => vQ = undef | 6 => vQ = undef | 7 => vQ = undef | 8 => vQ = undef | 9 => vQ = undef | 10 => vQ = undef | 11 => vQ = undef | 12 => vQ = (.bool false) | 13 => vQ = (.bool false) | _ => True) rfl (by kernel_rfl) (by kernel_rfl) (by kernel_rfl) ((Below.refl _ _).drew) (fun _ _ _ h k => h.trans (k.mono h.size)) (fun _ _ _ _ h _ => h) ?_ ?_
            · refine ⟨?_, ?_, ?_, ?_, ?_, ?_, ?_, ?_, ?_, ?_, ?_, ?_, ?_, ?_, trivial⟩
              · intro a w' hx hu hd K hK
                have e5 : a.tmps.getD 5 undef = (.bool false) := hu 5 rfl
                refine Flow.want rfl ?_
                exact Flow.val_move rfl e5 (hK _ _ (Below.refl _ _) rfl)
              · intro a w' hx hu hd K hK
                have e25 : a.tmps.getD 25 undef = (.bool false) := by obtain ⟨_, t, q⟩ := hd 0 (by decide); exact (q 25 rfl).trans t
                refine Flow.want rfl ?_
                exact Flow.val_move rfl e25 (hK _ _ (Below.refl _ _) rfl)
              · intro a w' hx hu hd K hK
                have e0 : a.tmps.getD 0 undef = (.slice (some ad) l.length cap) := hu 0 rfl
                have e26 : a.tmps.getD 26 undef = (.bool false) := by obtain ⟨_, t, q⟩ := hd 1 (by decide); exact (q 26 rfl).trans t
                exact Flow.spare (Flow.spare_of (k := 26) rfl e26 rfl) (hK _ _ (Below.refl _ _) rfl)
              · intro a w' hx hu hd K hK
                have e6 : a.tmps.getD 6 undef = (.int .i64 (j : Int)) := hu 6 rfl
                have e26 : a.tmps.getD 26 undef = (.bool false) := by obtain ⟨_, t, q⟩ := hd 1 (by decide); exact (q 26 rfl).trans t
                exact Flow.spare (Flow.spare_of (k := 26) rfl e26 rfl) (hK _ _ (Below.refl _ _) rfl)
              · intro a w' hx hu hd K hK
                have e27 : a.tmps.getD 27 undef = undef := by obtain ⟨_, t, q⟩ := hd 2 (by decide); exact (q 27 rfl).trans t
                have e28 : a.tmps.getD 28 undef = undef := by obtain ⟨_, t, q⟩ := hd 3 (by decide); exact (q 28 rfl).trans t
                have e26 : a.tmps.getD 26 undef = (.bool false) := by obtain ⟨_, t, q⟩ := hd 1 (by decide); exact (q 26 rfl).trans t
                exact Flow.spare (Flow.spare_of (k := 26) rfl e26 rfl) (hK _ _ (Below.refl _ _) rfl)
              · intro a w' hx hu hd K hK
                have e29 : a.tmps.getD 29 undef = undef := by obtain ⟨_, t, q⟩ := hd 4 (by decide); exact (q 29 rfl).trans t
                have e26 : a.tmps.getD 26 undef = (.bool false) := by obtain ⟨_, t, q⟩ := hd 1 (by decide); exact (q 26 rfl).trans t
                exact Flow.spare (Flow.spare_of (k := 26) rfl e26 rfl) (hK _ _ (Below.refl _ _) rfl)
              · intro a w' hx hu hd K hK
                have e0 : a.tmps.getD 0 undef = (.slice (some ad) l.length cap) := hu 0 rfl
                have e26 : a.tmps.getD 26 undef = (.bool false) := by obtain ⟨_, t, q⟩ := hd 1 (by decide); exact (q 26 rfl).trans t
                exact Flow.spare (Flow.spare_of (k := 26) rfl e26 rfl) (hK _ _ (Below.refl _ _) rfl)
              · intro a w' hx hu hd K hK
                have e4 : a.tmps.getD 4 undef = (.int .i64 (i : Int)) := hu 4 rfl
                have e26 : a.tmps.getD 26 undef = (.bool false) := by obtain ⟨_, t, q⟩ := hd 1 (by decide); exact (q 26 rfl).trans t
                exact Flow.spare (Flow.spare_of (k := 26) rfl e26 rfl) (hK _ _ (Below.refl _ _) rfl)
              · intro a w' hx hu hd K hK
                have e31 : a.tmps.getD 31 undef = undef := by obtain ⟨_, t, q⟩ := hd 6 (by decide); exact (q 31 rfl).trans t
                have e32 : a.tmps.getD 32 undef = undef := by obtain ⟨_, t, q⟩ := hd 7 (by decide); exact (q 32 rfl).trans t
                have e26 : a.tmps.getD 26 undef = (.bool false) := by obtain ⟨_, t, q⟩ := hd 1 (by decide); exact (q 26 rfl).trans t
                exact Flow.spare (Flow.spare_of (k := 26) rfl e26 rfl) (hK _ _ (Below.refl _ _) rfl)
              · intro a w' hx hu hd K hK
                have e33 : a.tmps.getD 33 undef = undef := by obtain ⟨_, t, q⟩ := hd 8 (by decide); exact (q 33 rfl).trans t
                have e26 : a.tmps.getD 26 undef = (.bool false) := by obtain ⟨_, t, q⟩ := hd 1 (by decide); exact (q 26 rfl).trans t
                exact Flow.spare (Flow.spare_of (k := 26) rfl e26 rfl) (hK _ _ (Below.refl _ _) rfl)
              · intro a w' hx hu hd K hK
                have e30 : a.tmps.getD 30 undef = undef := by obtain ⟨_, t, q⟩ := hd 5 (by decide); exact (q 30 rfl).trans t
                have e34 : a.tmps.getD 34 undef = undef := by obtain ⟨_, t, q⟩ := hd 9 (by decide); exact (q 34 rfl).trans t
                have e26 : a.tmps.getD 26 undef = (.bool false) := by obtain ⟨_, t, q⟩ := hd 1 (by decide); exact (q 26 rfl).trans t
                exact Flow.spare (Flow.spare_of (k := 26) rfl e26 rfl) (hK _ _ (Below.refl _ _) rfl)
              · intro a w' hx hu hd K hK
                have e35 : a.tmps.getD 35 undef = undef := by obtain ⟨_, t, q⟩ := hd 10 (by decide); exact (q 35 rfl).trans t
                have e26 : a.tmps.getD 26 undef = (.bool false) := by obtain ⟨_, t, q⟩ := hd 1 (by decide); exact (q 26 rfl).trans t
                exact Flow.spare (Flow.spare_of (k := 26) rfl e26 rfl) (hK _ _ (Below.refl _ _) rfl)
              · intro a w' hx hu hd K hK
                have e26 : a.tmps.getD 26 undef = (.bool false) := by obtain ⟨_, t, q⟩ := hd 1 (by decide); exact (q 26 rfl).trans t
                have e36 : a.tmps.getD 36 undef = undef := by obtain ⟨_, t, q⟩ := hd 11 (by decide); exact (q 36 rfl).trans t
                refine Flow.want rfl ?_
                exact Flow.val_pick rfl e26 rfl (hK _ _ (Below.refl _ _) rfl)
              · intro a w' hx hu hd K hK
                have e37 : a.tmps.getD 37 undef = (.bool false) := by obtain ⟨_, t, q⟩ := hd 12 (by decide); exact (q 37 rfl).trans t
                refine Flow.want rfl ?_
                exact Flow.val_assign rfl e37 (hK _ _ (Below.refl _ _) rfl)
            · intro vs w' hb hT
              have v0 : vs 0 = (.bool false) := hT 0 (by decide)
              have v1 : vs 1 = (.bool false) := hT 1 (by decide)
              have v2 : vs 2 = undef := hT 2 (by decide)
              have v3 : vs 3 = undef := hT 3 (by decide)
              have v4 : vs 4 = undef := hT 4 (by decide)
              have v5 : vs 5 = undef := hT 5 (by decide)
              have v6 : vs 6 = undef := hT 6 (by decide)
              have v7 : vs 7 = undef := hT 7 (by decide)
              have v8 : vs 8 = undef := hT 8 (by decide)
              have v9 : vs 9 = undef := hT 9 (by decide)
              have v10 : vs 10 = undef := hT 10 (by decide)
              have v11 : vs 11 = undef := hT 11 (by decide)
              have v12 : vs 12 = (.bool false) := hT 12 (by decide)
              have v13 : vs 13 = (.bool false) := hT 13 (by decide)
              simp only [Flow.putsT, v0, v1, v2, v3, v4, v5, v6, v7, v8, v9, v10, v11, v12, v13, Act.put, List.setIfInBounds_toArray, List.set_cons_zero, List.set_cons_succ]
              clear hT v0 v1 v2 v3 v4 v5 v6 v7 v8 v9 v10 v11 v12 v13
              go_wp2
              go_roundw
              case rel => exact ⟨j + 1, jlt, by go_num, by rw [HS.out], ⟨below_step HC.out hb⟩⟩
              case measure => simp [intOf]; omega
        · obtain rfl : j = l.length := by omega
          cases hok : okb l i l.length with
          | true =>
            have hr : fb l (l.length - i) i = ((i : Int), true) := by
              rw [show l.length - i = (l.length - i - 1) + 1 by omega]
              unfold fb
              rw [if_pos hok]
            have HE := Aside0.mk ((HF.out).symm.trans hr)
            clear hok hr
            go_wp2
            go_ret2
            exact ⟨by rw [HE.out]; rfl, HC.out⟩
          | false =>
            have hr : fb l (l.length - i) i = fb l (l.length - (i + 1)) (i + 1) := by
              rw [show l.length - i = (l.length - (i + 1)) + 1 by omega]
              conv => lhs; unfold fb
              rw [if_neg (by rw [hok]; decide)]
            have HE := Aside0.mk (hr.symm.trans HF.out)
            clear hok hr
            go_wp2
            go_roundw
            case rel => exact ⟨i + 1, by omega, by go_num, HC, HE⟩
            case measure => simp [intOf]; omega
    · obtain rfl : i = l.length := by omega
      have HE := Aside0.mk (show ((0 : Int), false) = res by rw [← HF.out, Nat.sub_self]; rfl)
      go_wp2
      go_ret2
      exact ⟨by rw [← HE.out]; rfl, HB.out⟩
end Go.Proofs.Ytgchdkppjcnkiaa.Newer
