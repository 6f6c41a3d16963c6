/- The words of any text, walked. -/
import Derived.Test.YtlhmpmmblnbmbaaDoorPConsoleParsesx0
import Derived.Test.YtlhmpmmblnbmbaaDoorWordsPlain
import Derived.Lib.OthersKept
namespace Go.Proofs.YtlhmpmmblnbmbaaDoor.Con
open Go.Lib Go.RowKit Go.Proofs.YtlhmpmmblnbmbaaDoor.PConsoleParses Go.Proofs.YtlhmpmmblnbmbaaDoorW.PrintWords Go.Proofs.YtlhmpmmblnbmbaaDoorW.PrintLast Go.Proofs.YtlhmpmmblnbmbaaDoorW.PrintMore WordsPlain
theorem R_iter {α : Type} {d : Kd α} {e base k0 : Nat} {ok : Nat → Prop} {w : World} {v : Value} {xs : List α} (h : d.R e w base ok v xs) (hk : k0 < base) (s : ByteArray) (p : Nat) : d.R e (w.iterAt k0 s p) base ok v xs :=
  Kd.R_mono (Kd.R_move (Kd.R_bound h) (fun k hb => iterAt_other _ _ _ _ _ (by have := hb.2.1; omega))) (fun _ hk => hk.1)
set_option maxHeartbeats 4000000 in
set_option maxRecDepth 100000 in
theorem words_calls (s : ByteArray) (hs : s.size ≤ 1000000) (w : World) :
    Calls Tryd.prog 45 #[.string s] w fun e w' => ∃ v0_ : Value, e = .returned v0_ ∧ Kd.R Kd.string 9 w' w.heap.size (fun _ => True) v0_ (words s) ∧ Below w.heap.size w w' := by
  go_enter Tryd.func45, Tryd.ntmps45
  go_wp2
  go_loopg [3, 4] s.size (fun g v3 v4 wr => ∃ pos : Nat, pos ≤ s.size ∧ Aside0 (g = s.size - pos) ∧ v4 = .int .i64 (scan s pos).1 ∧ Aside0 (wr.heap[w.heap.size]? = some (.stringIter s pos)) ∧ Aside0 (Kd.R Kd.string 9 wr (w.heap.size + 1) (fun _ => True) v3 (scan s pos).2) ∧ Aside0 (Below w.heap.size w wr) ∧ Aside0 (w.heap.size + 1 ≤ wr.heap.size))
  case atStart => exact ⟨0, Nat.zero_le _, ⟨rfl⟩, rfl, ⟨World.iter_heap _ _ _⟩, ⟨Kd.R_nil _ _ _ _ _⟩, ⟨(Below.refl _ _).alloc (Nat.le_refl _) _⟩, ⟨by simp [World.iter]⟩⟩
  case round =>
    obtain ⟨pos, hp, HG, rfl, HI, HR, HB, HZ⟩ := hrel
    have lo := scan_lo s pos
    have hi := scan_hi s pos
    have hl := scan_len s pos
    by_cases hlt : pos < s.size
    · obtain ⟨n1, n2, hst⟩ := WordsPlain.step s pos hlt
      have hnx := fun ty => run_next_any_at (P := Tryd.prog) wr w.heap.size s pos ty HI.out hlt
      have hi2 := iterAt_heap wr w.heap.size s pos (pos + (Utf8.decode s pos).2) HI.out
      have hr2 := R_iter HR.out (Nat.lt_succ_self _) s (pos + (Utf8.decode s pos).2)
      have hb2 := below_iterAt HB.out (Nat.le_refl _) s (pos + (Utf8.decode s pos).2)
      have hz2 := iterAt_size wr w.heap.size s (pos + (Utf8.decode s pos).2)
      obtain ⟨c, hc⟩ : ∃ c, (Utf8.decode s pos).1 = c := ⟨_, rfl⟩
      obtain ⟨n, hn⟩ : ∃ n, (Utf8.decode s pos).2 = n := ⟨_, rfl⟩
      rw [hc] at hst
      rw [hn] at hst hi2 hr2 hb2 hz2 n1 n2
      simp only [hc, hn] at hnx
      obtain ⟨wi, hwi⟩ : ∃ wi, wr.iterAt w.heap.size s (pos + n) = wi := ⟨_, rfl⟩
      rw [hwi] at hi2 hr2 hb2 hz2
      simp only [hwi] at hnx
      have HI2 := Aside0.mk hi2
      have HR2 := Aside0.mk hr2
      have HB2 := Aside0.mk hb2
      have HZ2 := Aside0.mk (show w.heap.size + 1 ≤ wi.heap.size by rw [hz2]; exact HZ.out)
      clear hi2 hr2 hb2 hz2 hwi hc hn HI HR HB HZ
      have HG2 := Aside0.mk (show ∃ g1, gk = g1 + 1 by refine ⟨gk - 1, ?_⟩; have := HG.out; omega)
      obtain ⟨f, hf⟩ : ∃ f, (scan s pos).1 = f := ⟨_, rfl⟩
      obtain ⟨l1, hl1⟩ : ∃ l, (scan s pos).2 = l := ⟨_, rfl⟩
      rw [hf] at lo hi
      rw [hl1] at hl HR2
      rw [hf]
      obtain ⟨g1, rfl⟩ := HG2.out
      rcases hst with ⟨rfl, hby, rfl⟩ | ⟨hne, hby⟩
      · have hs1 := scan_blank s pos hby
        rw [hf, hl1] at hs1
        by_cases hf0 : f ≥ 0
        · have hd1 : decide (f ≥ 0) = true := decide_eq_true hf0
          have hd2 : decide (0 ≤ f) = true := decide_eq_true hf0
          rw [if_pos hf0] at hs1
          have hsl := run_slice_string (P := Tryd.prog) wi 9 s .i64 .i64 f pos Tryd.underlying9 (by omega) (by omega) (by omega)
          have HS := Aside0.mk hs1
          clear hs1 hby hf hl1
          go_wp2_with (first | ((with_reducible refine gate_builtin (b := .append) (xs := #[.tmp 28, .tmp 33]) rfl ?_); (try (refine gate_guard (by rfl) ?_; dsimp only)); at_builtin; refine Kd.R_append Kd.string (w0 := wi) (w.heap.size + 1) rfl (.tmp 28) (.tmp 33) 79 9 (.string ⟨#[]⟩) 16 rfl Tryd.underlying79 info9 rfl (by decide) (by omega) u3 l1 (s.extract f.toNat pos) [.string (s.extract f.toNat pos)] (fun _ => True) (fun _ => False) rfl rfl ?aP (fun _ hk => hk.elim) ?aF ?aO ?aB ?aS ?aL ?_; (case aP => exact rfl); (case aB => exact Below.refl _ _); (case aF => exact (fun _ _ => trivial)); (case aO => exact HR2.out); (case aS => exact HZ2.out); (case aL => omega); intro v113 w9 ho hb hg hat; have HR3 := Aside0.mk ho; have HI3 := Aside0.mk ((hb.block _ (Nat.lt_succ_self _)).trans HI2.out); have HB3 := Aside0.mk (HB2.out.trans (hb.mono (Nat.le_succ _))); have HZ3 := Aside0.mk (Nat.le_trans HZ2.out hb.size); clear ho hb hg hat HR2 HI2 HB2 HZ2))
          go_roundg (s.size - (pos + 1))
          case measure => have := HG.out; omega
          case rel => exact ⟨pos + 1, by omega, ⟨rfl⟩, by rw [HS.out], HI3, ⟨by rw [HS.out]; exact HR3.out⟩, HB3, HZ3⟩
        · have hd1 : decide (f ≥ 0) = false := decide_eq_false hf0
          have hd2 : decide (0 ≤ f) = false := decide_eq_false hf0
          rw [if_neg hf0] at hs1
          have HS := Aside0.mk hs1
          clear hs1 hby
          go_wp2
          go_roundg (s.size - (pos + 1))
          case measure => have := HG.out; omega
          case rel => exact ⟨pos + 1, by omega, ⟨rfl⟩, by rw [HS.out, hf], HI2, ⟨by rw [HS.out, hl1]; exact HR2.out⟩, HB2, HZ2⟩
      · have hs1 := scan_skip s pos n n1 hby
        rw [hf, hl1] at hs1
        have hc1 : ((c : Int) != 32) = true := bne_iff_ne.mpr (by omega)
        have hc2 : ((c : Int) == 32) = false := beq_eq_false_iff_ne.mpr (by omega)
        by_cases hf0 : f < 0
        · have hd1 : decide (f < 0) = true := decide_eq_true hf0
          rw [if_pos hf0] at hs1
          have HS := Aside0.mk hs1
          clear hs1 hby hf hl1 hne
          go_wp2
          go_roundg (s.size - (pos + n))
          case measure => have := HG.out; omega
          case rel => exact ⟨pos + n, n2, ⟨rfl⟩, by rw [HS.out], HI2, ⟨by rw [HS.out]; exact HR2.out⟩, HB2, HZ2⟩
        · have hd1 : decide (f < 0) = false := decide_eq_false hf0
          rw [if_neg hf0] at hs1
          have HS := Aside0.mk hs1
          clear hs1 hby hf hl1 hne
          go_wp2
          go_roundg (s.size - (pos + n))
          case measure => have := HG.out; omega
          case rel => exact ⟨pos + n, n2, ⟨rfl⟩, by rw [HS.out], HI2, ⟨by rw [HS.out]; exact HR2.out⟩, HB2, HZ2⟩
    · obtain rfl : pos = s.size := by omega
      have hnx := fun ty => run_next_end_at (P := Tryd.prog) wr w.heap.size s s.size ty HI.out hlt
      have hw : words s = if (scan s s.size).1 ≥ 0 then (scan s s.size).2 ++ [s.extract (scan s s.size).1.toNat s.size] else (scan s s.size).2 := rfl
      obtain ⟨f, hf⟩ : ∃ f, (scan s s.size).1 = f := ⟨_, rfl⟩
      obtain ⟨l1, hl1⟩ : ∃ l, (scan s s.size).2 = l := ⟨_, rfl⟩
      rw [hf] at lo hi
      rw [hl1] at hl HR
      rw [hf, hl1] at hw
      rw [hf]
      have HI2 := HI
      have HR2 := HR
      have HB2 := HB
      have HZ2 := HZ
      obtain ⟨wi, hwi⟩ : ∃ wi, wr = wi := ⟨_, rfl⟩
      subst hwi
      by_cases hf0 : f ≥ 0
      · have hd1 : decide (f ≥ 0) = true := decide_eq_true hf0
        have hd2 : decide (0 ≤ f) = true := decide_eq_true hf0
        rw [if_pos hf0] at hw
        have hsl := run_slice_string_l (P := Tryd.prog) (w := wr) (t := 9) (s := s) Tryd.underlying9 .i64 f (by omega) (by omega)
        have HW := Aside0.mk hw
        clear hf hl1 hw
        go_wp2_with (first | ((with_reducible refine gate_builtin (b := .append) (xs := #[.tmp 37, .tmp 41]) rfl ?_); (try (refine gate_guard (by rfl) ?_; dsimp only)); at_builtin; refine Kd.R_append Kd.string (w0 := wr) (w.heap.size + 1) rfl (.tmp 37) (.tmp 41) 79 9 (.string ⟨#[]⟩) 16 rfl Tryd.underlying79 info9 rfl (by decide) (by omega) u3 l1 (s.extract f.toNat s.size) [.string (s.extract f.toNat s.size)] (fun _ => True) (fun _ => False) rfl rfl ?aP (fun _ hk => hk.elim) ?aF ?aO ?aB ?aS ?aL ?_; (case aP => exact rfl); (case aB => exact Below.refl _ _); (case aF => exact (fun _ _ => trivial)); (case aO => exact HR2.out); (case aS => exact HZ2.out); (case aL => omega); intro v113 w9 ho hb hg hat; have HR3 := Aside0.mk ho; have HI3 := Aside0.mk ((hb.block _ (Nat.lt_succ_self _)).trans HI2.out); have HB3 := Aside0.mk (HB2.out.trans (hb.mono (Nat.le_succ _))); have HZ3 := Aside0.mk (Nat.le_trans HZ2.out hb.size); clear ho hb hg hat HR2 HI2 HB2 HZ2))
        go_ret
        exact ⟨_, rfl, by rw [HW.out]; exact Kd.R_lower HR3.out (Nat.le_succ _), HB3.out⟩
      · have hd1 : decide (f ≥ 0) = false := decide_eq_false hf0
        have hd2 : decide (0 ≤ f) = false := decide_eq_false hf0
        rw [if_neg hf0] at hw
        have HW := Aside0.mk hw
        clear hf hl1 hw
        go_wp2
        go_ret
        exact ⟨_, rfl, by rw [HW.out]; exact Kd.R_lower HR2.out (Nat.le_succ _), HB2.out⟩
end Go.Proofs.YtlhmpmmblnbmbaaDoor.Con
