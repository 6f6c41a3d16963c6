/- The law's own example, and: unlike zones have unlike texts. -/
import Derived.Test.YtlhmpmmblnbmbaaDoorRepZones
namespace Go.Proofs.YtlhmpmmblnbmbaaDoor.Rep
open Go.Lib Go.RowKit Go.Proofs.YtlhmpmmblnbmbaaDoor.Cells Go.Proofs.YtlhmpmmblnbmbaaDoorW.PrintWords Go.Proofs.YtlhmpmmblnbmbaaDoorW.PrintLast Go.Proofs.YtlhmpmmblnbmbaaDoorW.PrintMore
theorem itoa_dig (d : Nat) (h : d < 10) : itoaB (d : Int) = ⟨#[UInt8.ofNat (48 + d)]⟩ := by
  unfold itoaB
  rw [Go.Lib.itoa_nonneg, Go.Lib.decDigits_one h]
def LINE : ByteArray := ⟨#[50, 58, 32, 99, 108, 111, 115, 101, 100, 32, 53, 32, 103, 101, 110, 32, 49]⟩
theorem live_text : zoneB 2 2 5 1 = LINE := by
  have e2 : itoaB 2 = ⟨#[50]⟩ := itoa_dig 2 (by decide)
  have e5 : itoaB 5 = ⟨#[53]⟩ := itoa_dig 5 (by decide)
  have e1 : itoaB 1 = ⟨#[49]⟩ := itoa_dig 1 (by decide)
  rw [zone_eq, e2, e5, e1]
  decide +kernel
set_option maxHeartbeats 4000000 in
set_option maxRecDepth 100000 in
theorem live_c (w : World) (h : POW w) : Calls Tryd.prog 8 #[] w fun e w' => e = .returned (.bool true) ∧ Below w.heap.size w w' := by
  have hu := Tryd.underlying24
  have HPW := Aside0.mk h
  clear h
  go_enter Tryd.func8, Tryd.ntmps8
  go_wp2_with (go_at_call 11; have hcon := zone_c 2 2 5 1 (by unfold I64; omega) (by unfold I64; omega) (by unfold I64; omega) _ HPW.out; refine hcon.mono ?_; clear hcon; rw [live_text]; rintro e wf ⟨rfl, hbf⟩; unfold LINE)
  go_ret
  exact ⟨rfl, hbf⟩
end Go.Proofs.YtlhmpmmblnbmbaaDoor.Rep
