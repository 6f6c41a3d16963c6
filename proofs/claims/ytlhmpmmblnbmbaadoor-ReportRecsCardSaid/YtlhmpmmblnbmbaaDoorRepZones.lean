/- The zones as one text: report.Zones walked. -/
import Derived.Test.YtlhmpmmblnbmbaaDoorRepLook
namespace Go.Proofs.YtlhmpmmblnbmbaaDoor.Rep
open Go.Lib Go.RowKit Go.Proofs.YtlhmpmmblnbmbaaDoor.Cells Go.Proofs.YtlhmpmmblnbmbaaDoorW.PrintWords Go.Proofs.YtlhmpmmblnbmbaaDoorW.PrintLast Go.Proofs.YtlhmpmmblnbmbaaDoorW.PrintMore
structure S24 where
  f0 : Int
  f1 : Int
  f2 : Int
def k24 : Kd S24 := Kd.iso (Kd.pair (Kd.int .i64) (Kd.pair (Kd.int .i64) (Kd.int .i64))) (fun x : S24 => (x.f0, x.f1, x.f2))
theorem k24_open {w : World} {x : S24} {cs : List Value} (h : k24.K w x cs) : cs = [.int .i64 x.f0, .int .i64 x.f1, .int .i64 x.f2] := by
  obtain ⟨_, _, rfl, rfl, ⟨_, _, rfl, rfl, rfl⟩⟩ := h
  exact rfl
def G24 (x : S24) : Prop := I64 x.f0 ∧ I64 x.f1 ∧ I64 x.f2
def z24 : S24 := ⟨0, 0, 0⟩
theorem elem24 {w : World} {A : Option Addr} {n : Nat} {l : List S24} (h : Kd.C k24 w A n l) (i : Nat) (h1 : i < n) : ∃ ad, A = some ad ∧ Lies w (ad.add (i * 3)) [.int .i64 (l.getD i z24).f0, .int .i64 (l.getD i z24).f1, .int .i64 (l.getD i z24).f2] := by
  obtain ⟨ad, c, hA, hc, hk, hcell⟩ := Kd.C_get h z24 (i : Int) (by omega) (by omega)
  obtain rfl := k24_open hk
  refine ⟨ad, hA, fun j u hj => ?_⟩
  have := hcell j u hj
  rw [Addr.add_add]
  exact this
theorem builder_below {T e : TypeId} {B b : Nat} {bs : List Value} {w w' : World} (h : Go.Lib.IsBuilderF T e B b bs w) (hb : Below w.heap.size w w') : Go.Lib.IsBuilderF T e B b bs w' := by
  have one : ∀ p, Go.Lib.BuilderAtF T e B b p bs w → Go.Lib.BuilderAtF T e B b p bs w' := by
    rintro p ⟨h1, v, h2, h3, h4⟩
    refine ⟨h1, v, blk_below h2 hb, ?_, h4⟩
    obtain ⟨q1, q2⟩ := h3
    refine ⟨q1, ?_⟩
    rcases q2 with q2 | ⟨g, cap, cur, fz, q3, q4, q5, q6⟩
    · exact .inl q2
    · refine .inr ⟨g, cap, cur, fz, q3, q4, ?_, q6⟩
      have hlt : g < w.heap.size := by
        by_cases hh : g < w.heap.size
        · exact hh
        · rw [Array.getElem?_eq_none (by omega)] at q5; cases q5
      rw [hb.block g hlt]; exact q5
  exact h.elim (fun x => .inl (one _ x)) (fun x => .inr (one _ x))
/-- the first n zones, a line each -/
def zonesB (l : List S24) : Nat → ByteArray
  | 0 => ⟨#[]⟩
  | n + 1 => zonesB l n ++ (zoneB n (l.getD n z24).f0 (l.getD n z24).f1 (l.getD n z24).f2 ++ ⟨#[10]⟩)
theorem zone_size (z a b c : Int) (hz : I64 z) (hb : I64 b) (hc : I64 c) : (zoneB z a b c).size ≤ 100 := by
  have hz1 := itoa_size z hz
  have hb1 := itoa_size b hb
  have hc1 := itoa_size c hc
  have ha1 := state_size a
  rw [zone_eq]
  simp only [ByteArray.size_append]
  have h2 : (⟨#[58, 32]⟩ : ByteArray).size = 2 := rfl
  have h3 : (⟨#[32]⟩ : ByteArray).size = 1 := rfl
  have h5 : (⟨#[32, 103, 101, 110, 32]⟩ : ByteArray).size = 5 := rfl
  omega
theorem zones_size (l : List S24) (hg : ∀ i, G24 (l.getD i z24)) : ∀ n, n ≤ 1000 → (zonesB l n).size ≤ 101 * n
  | 0, _ => Nat.zero_le _
  | n + 1, h => by
    have ih := zones_size l hg n (by omega)
    have := zone_size n (l.getD n z24).f0 _ _ (by unfold I64; omega) (hg n).2.1 (hg n).2.2
    have h1 : (⟨#[10]⟩ : ByteArray).size = 1 := rfl
    show (zonesB l n ++ (zoneB n (l.getD n z24).f0 (l.getD n z24).f1 (l.getD n z24).f2 ++ ⟨#[10]⟩)).size ≤ _
    rw [ByteArray.size_append, ByteArray.size_append]; omega
def zero71 : Value := .agg #[.pointer none, .slice none 0 0]
theorem zero71_is : (Tryd.prog.info? 71).map (·.zero) = some (some zero71) := by kernel_rfl
def zero24 : Value := .agg #[.int .i64 0, .int .i64 0, .int .i64 0]
theorem zero24_is : (Tryd.prog.info? 24).map (·.zero) = some (some zero24) := by kernel_rfl
theorem size24 : (Tryd.prog.info? 24).map (·.size) = some 3 := by kernel_rfl
theorem builder_new {w : World} {b B : Nat} (hB : B ≤ b) (h : w.heap[b]? = some (.cells zero71.cells 71 (0, 0))) : Go.Lib.IsBuilderF 71 5 B b [] w :=
  .inl ⟨hB, .slice none 0 0, h, World.ownsRowF_nil _ _ _ _, by simp [Value.ownBlock]⟩
theorem bytes_more (s t : ByteArray) : Go.Lib.byteCells s.data.toList ++ Go.Lib.strCells t = Go.Lib.byteCells (s ++ t).data.toList := by
  rw [Go.Lib.strCells_eq, ByteArray.data_append, Array.toList_append]
  simp [Go.Lib.byteCells]
set_option maxHeartbeats 4000000 in
set_option maxRecDepth 100000 in
theorem zones_c (l : List S24) (A : Option Addr) (c : Nat) (hlen : l.length ≤ 1000) (hg : ∀ i, G24 (l.getD i z24)) (w : World) (hl : Kd.C k24 w A l.length l) (h : POW w) : Calls Tryd.prog 10 #[.slice A l.length c] w fun e w' => e = .returned (.string (zonesB l l.length)) ∧ Below w.heap.size w w' := by
  have hu24 := Tryd.underlying24
  have hu22 := Tryd.underlying22
  have hu71 := Tryd.underlying71
  obtain ⟨n, HN⟩ : ∃ n, Aside0 (l.length = n) := ⟨_, ⟨rfl⟩⟩
  rw [HN.out] at hlen hl ⊢
  have HL := Aside0.mk hl
  have HG := Aside0.mk hg
  have HPW := Aside0.mk h
  clear hl hg h
  go_enter Tryd.func10, Tryd.ntmps10
  go_wp2_with (first | ((with_reducible refine gate_dst (N := 3) rfl ?_); refine Cells.alloc_event rfl (N := 3) rfl 71 rfl zero71 zero71_is ?_; intro b hb wa kb hba; have HB := Aside0.mk hba; have HBU := Aside0.mk (builder_new (B := w.heap.size) (by rw [hb]; exact Nat.le_refl _) kb); clear hb kb hba))
  go_loopg [8] n (fun g v wr => ∃ i : Nat, i ≤ n ∧ Aside0 (g = n - i) ∧ v = .int .i64 i ∧ Aside0 (Below w.heap.size w wr) ∧ Aside0 (Go.Lib.IsBuilderF 71 5 w.heap.size b (Go.Lib.byteCells (zonesB l i).data.toList) wr))
  case atStart => exact ⟨0, Nat.zero_le _, ⟨rfl⟩, rfl, HB, HBU⟩
  case round =>
    clear HB HBU
    obtain ⟨i, hi, HGK, rfl, HB, HBU⟩ := hrel
    by_cases hlt : i < n
    · obtain ⟨ad, hA, hlies⟩ := elem24 HL.out i hlt
      subst hA
      have hlies2 := lies_below hlies HB.out
      clear hlies
      obtain ⟨s, hs⟩ : ∃ s, l.getD i z24 = s := ⟨_, rfl⟩
      have HGS := Aside0.mk (show G24 s from hs ▸ HG.out i)
      rw [hs] at hlies2
      have HZ := Aside0.mk (show zonesB l (i + 1) = zonesB l i ++ (zoneB i s.f0 s.f1 s.f2 ++ ⟨#[10]⟩) by rw [← hs]; rfl)
      have HZS := Aside0.mk (zones_size l HG.out i (by omega))
      have HIZ := Aside0.mk (show I64 (i : Int) by unfold I64; omega)
      obtain ⟨zt, hzt⟩ : ∃ t, zoneB i s.f0 s.f1 s.f2 = t := ⟨_, rfl⟩
      have hzs := zone_size i s.f0 s.f1 s.f2 HIZ.out HGS.out.2.1 HGS.out.2.2
      rw [hzt] at hzs
      have HZT := Aside0.mk hzt
      have hc2 : (9223372036854775807 < zt.size + (⟨#[10]⟩ : ByteArray).size) = False := eq_false (by have : (⟨#[10]⟩ : ByteArray).size = 1 := rfl; omega)
      have hc3 : (9223372036854775807 < zt.size + 1) = False := eq_false (by omega)
      have HLEN := Aside0.mk (show (Go.Lib.byteCells (zonesB l i).data.toList).length + (zt ++ (⟨#[10]⟩ : ByteArray)).size ≤ 140737488355328 by
        have h9 : (⟨#[10]⟩ : ByteArray).size = 1 := rfl
        have h7 := HZS.out
        rw [ByteArray.size_append]
        unfold Go.Lib.byteCells
        rw [List.length_map, Array.length_toList]
        have h8 : (zonesB l i).data.size = (zonesB l i).size := ByteArray.size_data
        omega)
      have HBM := Aside0.mk (show Go.Lib.byteCells (zonesB l i).data.toList ++ Go.Lib.strCells (zt ++ ⟨#[10]⟩) = Go.Lib.byteCells (zonesB l (i + 1)).data.toList by rw [bytes_more, HZ.out, HZT.out])
      clear hs hzt
      go_wp2_with (first | ((with_reducible refine gate_dst (N := 12) rfl ?_); refine load_at rfl 24 _ rfl (ad.add (i * 3)) rfl [.int .i64 s.f0, .int .i64 s.f1, .int .i64 s.f2] _ hlies2 Tryd.underlying24 rfl size24 ?_) | ((with_reducible refine gate_dst (N := 5) rfl ?_); refine Cells.alloc_event rfl (N := 5) rfl 24 rfl zero24 zero24_is ?_; intro g hg wd kd hbd; have HD := Aside0.mk hbd; have HG2 := Aside0.mk hg; clear hbd hg) | ((with_reducible refine Cells.store_whole rfl rfl 24 _ _ rfl g [.int .i64 s.f0, .int .i64 s.f1, .int .i64 s.f2] zero24.cells ?sx ?sy kd ?ss ?si ?s1 ?_); (case sx => rfl); (case sy => rfl); (case ss => rfl); (case si => exact size24); (case s1 => rfl); intro we ke hfar hb3; have HE := Aside0.mk (HD.out.trans (hb3 _ (by rw [HG2.out]; exact Nat.le_refl _))); clear kd hfar hb3 HD) | ((with_reducible refine gate_dst (N := 14) rfl ?_); refine Cells.load_at rfl 24 _ rfl ⟨g, 0, none⟩ rfl [.int .i64 s.f0, .int .i64 s.f1, .int .i64 s.f2] _ (lies_block ke) Tryd.underlying24 rfl size24 ?_) | (go_at_call 11; refine (zone_c i s.f0 s.f1 s.f2 HIZ.out HGS.out.2.1 HGS.out.2.2 _ (HPW.out.below (below_step HB.out HE.out))).mono ?_; rintro e wf ⟨rfl, hbf⟩; rw [HZT.out]; have HF := Aside0.mk (below_step HE.out hbf); clear hbf ke) | (go_at_call 39; have hcon := Tryd.Builder_WriteString_k w.heap.size b _ (zt ++ ⟨#[10]⟩) _ (builder_below HBU.out HF.out) HLEN.out (below_step HB.out HF.out).size; refine hcon.mono ?_; clear hcon; rintro e wg ⟨rfl, hbu, hbg, -⟩; rw [HBM.out] at hbu; have HBU2 := Aside0.mk (Or.inr hbu : Go.Lib.IsBuilderF 71 5 w.heap.size b (Go.Lib.byteCells (zonesB l (i + 1)).data.toList) wg); have HB2 := Aside0.mk ((below_step HB.out HF.out).trans hbg); clear hbu hbg))
      go_roundg (n - (i + 1))
      case measure => have := HGK.out; omega
      case rel => exact ⟨i + 1, hlt, ⟨rfl⟩, by go_num, HB2, HBU2⟩
    · obtain rfl : i = n := by omega
      go_wp2_with (go_at_call 40; have hcon := Tryd.Builder_String_any_k w.heap.size b _ _ HBU.out HB.out.size; refine hcon.mono ?_; clear hcon; rintro e wg ⟨rfl, -, hbg, -⟩)
      go_ret
      exact ⟨rfl, HB.out.trans hbg⟩
end Go.Proofs.YtlhmpmmblnbmbaaDoor.Rep
