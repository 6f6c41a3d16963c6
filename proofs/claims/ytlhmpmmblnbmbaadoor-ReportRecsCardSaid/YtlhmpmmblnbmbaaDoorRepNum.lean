/- The document's way of writing a number answers as the library's. -/
import Derived.Test.YtlhmpmmblnbmbaaDoorRep
import Derived.Lib.ItoaLen
import Derived.Laws.DeepStrings4
namespace Go.Proofs.YtlhmpmmblnbmbaaDoor.Rep
open Go.Lib Go.RowKit Go.Proofs.YtlhmpmmblnbmbaaDoor.Cells Go.Proofs.YtlhmpmmblnbmbaaDoorW.PrintWords Go.Proofs.YtlhmpmmblnbmbaaDoorW.PrintLast Go.Proofs.YtlhmpmmblnbmbaaDoorW.PrintMore
def DIG : ByteArray := ⟨#[48, 49, 50, 51, 52, 53, 54, 55, 56, 57]⟩
theorem dig_ext (d : Nat) (h : d < 10) : (DIG.extract d (d + 1)).data.toList = [UInt8.ofNat (48 + d)] := by
  have : ∀ d : Fin 10, (DIG.extract d.val (d.val + 1)).data.toList = [UInt8.ofNat (48 + d.val)] := by decide +kernel
  exact this ⟨d, h⟩
theorem dec_big (u : Nat) (h : ¬ u < 10) : Go.Lib.decDigits u = Go.Lib.decDigits (u / 10) ++ [UInt8.ofNat (48 + u % 10)] := by rw [Go.Lib.decDigits, dif_neg h]
theorem dec_len (u : Nat) (h : u < 18446744073709551616) : (Go.Lib.decDigits u).length ≤ 20 := by rw [Go.Lib.decDigits_length]; exact Go.Lib.nDigits_le20 u h
/-- one more digit ahead -/
theorem dig_more (u : Nat) (h : ¬ u < 10) (acc : ByteArray) : Go.Lib.decDigits (u / 10) ++ (DIG.extract (u % 10) (u % 10 + 1) ++ acc).data.toList = Go.Lib.decDigits u ++ acc.data.toList := by
  rw [dec_big u h, ByteArray.data_append, Array.toList_append, dig_ext _ (Nat.mod_lt _ (by omega)), List.append_assoc]
theorem dig_last (u : Nat) (h : u < 10) (acc : ByteArray) (l : List UInt8) (e : Go.Lib.decDigits u ++ acc.data.toList = l) : DIG.extract u (u + 1) ++ acc = ⟨l.toArray⟩ := by
  rw [Go.Lib.decDigits_one h, ← dig_ext u h, ← Array.toList_append, ← ByteArray.data_append] at e
  rw [← e]
theorem dig_run (W : World) (i : Int) (h0 : 0 ≤ i) (h1 : i < 10) : (Instr.slice 9 (.string ⟨#[48, 49, 50, 51, 52, 53, 54, 55, 56, 57]⟩) (some (.int .i64 i)) (some (.int .i64 (i + 1))) none).run Tryd.prog W = .ok (.string (DIG.extract i.toNat (i.toNat + 1))) W := by
  have hs : (DIG.size : Int) = 10 := rfl
  have e : (i + 1).toNat = i.toNat + 1 := by omega
  have := run_slice_string_if (P := Tryd.prog) W 9 DIG .i64 .i64 i (i + 1) Tryd.underlying9
  rw [if_pos (by omega), if_pos (by omega), e] at this
  exact this
set_option maxHeartbeats 4000000 in
set_option maxRecDepth 100000 in
theorem rnum_c (n : Int) (hn : I64 n) (w : World) : Calls Tryd.prog 38 #[.int .i64 n] w fun e w' => e = .returned (.string (itoaB n)) ∧ Below w.heap.size w w' := by
  have hu1 := Tryd.underlying3
  have hu2 := Tryd.underlying9
  have hu3 := Tryd.underlying110
  obtain ⟨hn0, hn1⟩ := hn
  by_cases hneg : n < 0
  · obtain ⟨m, hm⟩ : ∃ m : Nat, n = -(m : Int) := ⟨n.natAbs, by omega⟩
    have hm2 : m ≤ 9223372036854775808 := by omega
    subst hm
    have hd0 : decide ((-(m : Int) : Int) < 0) = true := decide_eq_true (by omega)
    have hw0 : IntKind.u64.wrap (-IntKind.u64.wrap (-(m : Int))) = m := by rw [IntKind.wrap_u64, IntKind.wrap_u64]; omega
    go_enter Tryd.func38, Tryd.ntmps38
    go_wp2
    go_loopg [3, 4] m (fun g v3 v4 wr => ∃ (u : Nat) (acc : ByteArray), u < 18446744073709551616 ∧ v3 = .string acc ∧ v4 = .int .u64 u ∧ Aside0 (g = u) ∧ Aside0 (Go.Lib.decDigits u ++ acc.data.toList = Go.Lib.decDigits m) ∧ Aside0 (wr = w))
    case atStart => exact ⟨m, _, by omega, rfl, rfl, ⟨rfl⟩, ⟨by simp⟩, ⟨rfl⟩⟩
    case round =>
      obtain ⟨u, acc, hu, rfl, rfl, HG, HE, HW⟩ := hrel
      have hal : acc.size ≤ 20 := by
        have h1 := congrArg List.length HE.out
        have h2 := dec_len m (by omega)
        rw [List.length_append] at h1
        have h3 : acc.data.toList.length = acc.size := rfl
        omega
      by_cases hlt : u < 10
      · have hd1 : decide ((u : Int) ≥ 10) = false := decide_eq_false (by omega)
        have hd2 : decide ((10 : Int) ≤ (u : Int)) = false := decide_eq_false (by omega)
        have hw2 : wrap64 (u : Int) = u := by unfold wrap64; omega
        have hw3 : wrap64 ((u : Int) + 1) = u + 1 := by unfold wrap64; omega
        have ht : ((u : Int) + 1).toNat = u + 1 := by omega
        have hsl := fun W => dig_run W (u : Int) (by omega) (by omega)
        have hx1 := dig_last u hlt acc _ HE.out
        rw [Int.toNat_natCast] at hsl
        obtain ⟨x, hx⟩ : ∃ x, DIG.extract u (u + 1) = x := ⟨_, rfl⟩
        have hxs : x.size ≤ 10 := by rw [← hx, ByteArray.size_extract]; exact Nat.le_trans (Nat.sub_le _ _) (Nat.min_le_right _ _)
        rw [hx] at hsl hx1
        have HX := Aside0.mk hx1
        have hap : (x ++ acc).size ≤ 30 := by rw [ByteArray.size_append]; omega
        have hc1 : x.size + acc.size ≤ 9223372036854775807 := by omega
        have hc2 : (9223372036854775807 < x.size + acc.size) = False := eq_false (by omega)
        have hc3 : 1 + (x ++ acc).size ≤ 9223372036854775807 := by omega
        have hc4 : (9223372036854775807 < 1 + (x ++ acc).size) = False := eq_false (by omega)
        clear hx hx1
        go_wp2
        go_ret
        obtain rfl := HW.out
        refine ⟨?_, Below.refl _ _⟩
        show Ending.returned (.string (_ ++ (x ++ acc))) = _; rw [HX.out]; have e : itoaB (-(m : Int)) = ⟨#[45]⟩ ++ ⟨(Go.Lib.decDigits m).toArray⟩ := (by unfold itoaB; rw [Go.Lib.itoa_neg m (by omega)]; apply ByteArray.ext; simp); rw [e]
      · have hd1 : decide ((u : Int) ≥ 10) = true := decide_eq_true (by omega)
        have hd2 : decide ((10 : Int) ≤ (u : Int)) = true := decide_eq_true (by omega)
        have hsl := fun W => dig_run W ((u : Int) % 10) (by omega) (by omega)
        have htn : ((u : Int) % 10).toNat = u % 10 := by omega
        rw [htn] at hsl
        clear htn
        have hx1 := dig_more u hlt acc
        obtain ⟨x, hx⟩ : ∃ x, DIG.extract (u % 10) (u % 10 + 1) = x := ⟨_, rfl⟩
        have hxs : x.size ≤ 10 := by rw [← hx, ByteArray.size_extract]; exact Nat.le_trans (Nat.sub_le _ _) (Nat.min_le_right _ _)
        rw [hx, HE.out] at hx1
        rw [hx] at hsl
        have HX := Aside0.mk hx1
        have hc1 : x.size + acc.size ≤ 9223372036854775807 := by omega
        have hc2 : (9223372036854775807 < x.size + acc.size) = False := eq_false (by omega)
        clear hx hx1
        have HG2 := Aside0.mk (show ∃ g1, gk = g1 + 1 from ⟨gk - 1, by have := HG.out; omega⟩)
        obtain ⟨g1, rfl⟩ := HG2.out
        go_wp2
        go_roundg (u / 10)
        case measure => have := HG.out; omega
        case rel => exact ⟨u / 10, x ++ acc, by omega, rfl, by go_num, ⟨rfl⟩, HX, HW⟩

  · obtain ⟨m, hm⟩ : ∃ m : Nat, n = (m : Int) := ⟨n.natAbs, by omega⟩
    have hm2 : m ≤ 9223372036854775808 := by omega
    subst hm
    have hd0 : decide (((m : Int) : Int) < 0) = false := decide_eq_false (by omega)
    go_enter Tryd.func38, Tryd.ntmps38
    go_wp2
    go_loopg [3, 4] m (fun g v3 v4 wr => ∃ (u : Nat) (acc : ByteArray), u < 18446744073709551616 ∧ v3 = .string acc ∧ v4 = .int .u64 u ∧ Aside0 (g = u) ∧ Aside0 (Go.Lib.decDigits u ++ acc.data.toList = Go.Lib.decDigits m) ∧ Aside0 (wr = w))
    case atStart => exact ⟨m, _, by omega, rfl, by go_num, ⟨rfl⟩, ⟨by simp⟩, ⟨rfl⟩⟩
    case round =>
      obtain ⟨u, acc, hu, rfl, rfl, HG, HE, HW⟩ := hrel
      have hal : acc.size ≤ 20 := by
        have h1 := congrArg List.length HE.out
        have h2 := dec_len m (by omega)
        rw [List.length_append] at h1
        have h3 : acc.data.toList.length = acc.size := rfl
        omega
      by_cases hlt : u < 10
      · have hd1 : decide ((u : Int) ≥ 10) = false := decide_eq_false (by omega)
        have hd2 : decide ((10 : Int) ≤ (u : Int)) = false := decide_eq_false (by omega)
        have hw2 : wrap64 (u : Int) = u := by unfold wrap64; omega
        have hw3 : wrap64 ((u : Int) + 1) = u + 1 := by unfold wrap64; omega
        have ht : ((u : Int) + 1).toNat = u + 1 := by omega
        have hsl := fun W => dig_run W (u : Int) (by omega) (by omega)
        have hx1 := dig_last u hlt acc _ HE.out
        rw [Int.toNat_natCast] at hsl
        obtain ⟨x, hx⟩ : ∃ x, DIG.extract u (u + 1) = x := ⟨_, rfl⟩
        have hxs : x.size ≤ 10 := by rw [← hx, ByteArray.size_extract]; exact Nat.le_trans (Nat.sub_le _ _) (Nat.min_le_right _ _)
        rw [hx] at hsl hx1
        have HX := Aside0.mk hx1
        have hap : (x ++ acc).size ≤ 30 := by rw [ByteArray.size_append]; omega
        have hc1 : x.size + acc.size ≤ 9223372036854775807 := by omega
        have hc2 : (9223372036854775807 < x.size + acc.size) = False := eq_false (by omega)
        have hc3 : 1 + (x ++ acc).size ≤ 9223372036854775807 := by omega
        have hc4 : (9223372036854775807 < 1 + (x ++ acc).size) = False := eq_false (by omega)
        clear hx hx1
        go_wp2
        go_ret
        obtain rfl := HW.out
        refine ⟨?_, Below.refl _ _⟩
        show Ending.returned (.string (x ++ acc)) = _; rw [HX.out]; unfold itoaB; rw [Go.Lib.itoa_nonneg]
      · have hd1 : decide ((u : Int) ≥ 10) = true := decide_eq_true (by omega)
        have hd2 : decide ((10 : Int) ≤ (u : Int)) = true := decide_eq_true (by omega)
        have hsl := fun W => dig_run W ((u : Int) % 10) (by omega) (by omega)
        have htn : ((u : Int) % 10).toNat = u % 10 := by omega
        rw [htn] at hsl
        clear htn
        have hx1 := dig_more u hlt acc
        obtain ⟨x, hx⟩ : ∃ x, DIG.extract (u % 10) (u % 10 + 1) = x := ⟨_, rfl⟩
        have hxs : x.size ≤ 10 := by rw [← hx, ByteArray.size_extract]; exact Nat.le_trans (Nat.sub_le _ _) (Nat.min_le_right _ _)
        rw [hx, HE.out] at hx1
        rw [hx] at hsl
        have HX := Aside0.mk hx1
        have hc1 : x.size + acc.size ≤ 9223372036854775807 := by omega
        have hc2 : (9223372036854775807 < x.size + acc.size) = False := eq_false (by omega)
        clear hx hx1
        have HG2 := Aside0.mk (show ∃ g1, gk = g1 + 1 from ⟨gk - 1, by have := HG.out; omega⟩)
        obtain ⟨g1, rfl⟩ := HG2.out
        go_wp2
        go_roundg (u / 10)
        case measure => have := HG.out; omega
        case rel => exact ⟨u / 10, x ++ acc, by omega, rfl, by go_num, ⟨rfl⟩, HX, HW⟩

end Go.Proofs.YtlhmpmmblnbmbaaDoor.Rep
