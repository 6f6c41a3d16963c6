/- What a log says, as a text: the plain part. -/
import Derived.Test.YtlhmpmmblnbmbaaDoorRepLogZ
set_option linter.unusedVariables false
set_option linter.unusedSimpArgs false
namespace Go.Proofs.YtlhmpmmblnbmbaaDoor.Rep
open Go.Lib Go.RowKit Go.Proofs.YtlhmpmmblnbmbaaDoor.Ev Go.Proofs.YtlhmpmmblnbmbaaDoor.Cells Go.Proofs.YtlhmpmmblnbmbaaDoorW.PrintWords Go.Proofs.YtlhmpmmblnbmbaaDoorW.PrintLast Go.Proofs.YtlhmpmmblnbmbaaDoorW.PrintMore
structure S82 where
  f0 : Int
  f1 : Int
  f2 : Bool
  f3 : Int
  f4 : Bool
  f5 : List S84
def k82 : Kd S82 := Kd.iso (Kd.pair (Kd.int .i64) (Kd.pair (Kd.int .i64) (Kd.pair Kd.bool (Kd.pair (Kd.int .i64) (Kd.pair Kd.bool (Kd.slice 84 k84)))))) (fun x : S82 => (x.f0, x.f1, x.f2, x.f3, x.f4, x.f5))
def z82 : S82 := ⟨0, 0, false, 0, false, []⟩
def G82 (x : S82) : Prop := I64 x.f0 ∧ I64 x.f1 ∧ I64 x.f3 ∧ ∀ i, G84 (x.f5.getD i z84)
theorem k82_open {w : World} {x : S82} {cs : List Value} (h : k82.K w x cs) : ∃ A c, cs = [.int .i64 x.f0, .int .i64 x.f1, .bool x.f2, .int .i64 x.f3, .bool x.f4, .slice A x.f5.length c] ∧ Kd.C k84 w A x.f5.length x.f5 ∧ x.f5.length ≤ c := by
  obtain ⟨_, _, rfl, rfl, ⟨_, _, rfl, rfl, ⟨_, _, rfl, rfl, ⟨_, _, rfl, rfl, ⟨_, _, rfl, rfl, ⟨A, c, rfl, hl, hc⟩⟩⟩⟩⟩⟩ := h
  exact ⟨A, c, rfl, hc, hl⟩
theorem elem82 {w : World} {A : Option Addr} {n : Nat} {l : List S82} (h : Kd.C k82 w A n l) (i : Nat) (h1 : i < n) : ∃ ad B c, A = some ad ∧ Lies w (ad.add (i * 6)) [.int .i64 (l.getD i z82).f0, .int .i64 (l.getD i z82).f1, .bool (l.getD i z82).f2, .int .i64 (l.getD i z82).f3, .bool (l.getD i z82).f4, .slice B (l.getD i z82).f5.length c] ∧ Kd.C k84 w B (l.getD i z82).f5.length (l.getD i z82).f5 ∧ (l.getD i z82).f5.length ≤ c := by
  obtain ⟨ad, c, hA, hc, hk, hcell⟩ := Kd.C_get h z82 (i : Int) (by omega) (by omega)
  rw [Int.toNat_natCast] at hk hcell
  obtain ⟨B, c2, rfl, h2, h3⟩ := k82_open hk
  refine ⟨ad, B, c2, hA, fun j u hj => ?_, h2, h3⟩
  have := hcell j u hj
  rw [Addr.add_add]
  exact this
theorem elemI {w : World} {A : Option Addr} {n : Nat} {l : List Int} (h : Kd.C (Kd.int .i64) w A n l) (i : Nat) (h1 : i < n) : ∃ ad, A = some ad ∧ w.cell? (ad.add (i * 1)) = some (.int .i64 (l.getD i 0)) := by
  obtain ⟨ad, hA, hc⟩ := Kd.at_int h (i : Int) (by omega) (by omega)
  refine ⟨ad, hA, ?_⟩
  rw [Int.toNat_natCast] at hc
  rw [Nat.mul_one, hc]; simp [rd]
def nam3 : List ByteArray := [⟨#[119, 104, 111, 108, 101]⟩, ⟨#[108, 111, 115, 116]⟩, ⟨#[114, 101, 98, 117, 105, 108, 100]⟩]
def MEM : ByteArray := ⟨#[109, 101, 109, 98, 101, 114, 115]⟩
def statL (l : List Int) : List ByteArray := MEM :: l.map fun n => nameB n nam3
def headB (e s : Int) : ByteArray := wordsB [⟨#[101, 112, 111, 99, 104]⟩, itoaB e, ⟨#[115, 101, 113]⟩, itoaB s] ++ ⟨#[10]⟩
def zlineB (i : Nat) (z : S82) : ByteArray := itoaB i ++ ⟨#[58, 32]⟩ ++ zlB z.f0 z.f1 z.f2 z.f3 z.f4 z.f5 ++ ⟨#[10]⟩
def zlinesB (l : List S82) : Nat → ByteArray
  | 0 => ⟨#[]⟩
  | n + 1 => zlinesB l n ++ zlineB n (l.getD n z82)
def logB (e s : Int) (st : List Int) (l : List S82) : ByteArray := headB e s ++ wordsB (statL st) ++ ⟨#[10]⟩ ++ zlinesB l l.length
theorem nam3_size (n : Int) : (nameB n nam3).size ≤ 7 := by
  unfold nameB
  split
  · decide
  · obtain ⟨k, hk⟩ : ∃ k, n.toNat = k := ⟨_, rfl⟩
    rw [hk]
    rcases k with _ | _ | _ | k
    · decide
    · decide
    · decide
    · rw [List.getD_eq_getElem?_getD, List.getElem?_eq_none (by simp [nam3])]; decide
theorem statL_size (l : List Int) : (wordsB (statL l)).size ≤ 8 * (l.length + 1) := by
  have := wordsB_size 7 (statL l) (fun s hs => by
    rcases List.mem_cons.1 hs with rfl | hs
    · decide
    · obtain ⟨n, _, rfl⟩ := List.mem_map.1 hs
      exact nam3_size n)
  simpa [statL] using this
theorem statL_snoc (l : List Int) (k : Nat) (h : k < l.length) : wordsB (statL (l.take (k + 1))) = wordsB (statL (l.take k)) ++ ⟨#[32]⟩ ++ nameB (l.getD k 0) nam3 := by
  rw [List.take_succ_eq_append_getElem h, List.getD_eq_getElem?_getD, List.getElem?_eq_getElem h]
  unfold statL
  rw [List.map_append]
  exact wordsB_snoc MEM _ _
theorem statL_push (l : List Int) (k : Nat) (h : k < l.length) : statL (l.take k) ++ [nameB (l.getD k 0) nam3] = statL (l.take (k + 1)) := by
  rw [List.take_succ_eq_append_getElem h, List.getD_eq_getElem?_getD, List.getElem?_eq_getElem h]
  unfold statL
  rw [List.map_append]; rfl
theorem headB_size (e s : Int) (he : I64 e) (hs : I64 s) : (headB e s).size ≤ 60 := by
  have a1 := itoa_size e he
  have a2 := itoa_size s hs
  unfold headB
  rw [words4]
  have h1 : (⟨#[32]⟩ : ByteArray).size = 1 := rfl
  have h2 : (⟨#[10]⟩ : ByteArray).size = 1 := rfl
  have h3 : (⟨#[101, 112, 111, 99, 104]⟩ : ByteArray).size = 5 := rfl
  have h4 : (⟨#[115, 101, 113]⟩ : ByteArray).size = 3 := rfl
  simp only [ByteArray.size_append]
  omega
theorem zline_size (i : Nat) (hi : i ≤ 100000) (z : S82) (hz : G82 z) (hn : z.f5.length ≤ 1000) : (zlineB i z).size ≤ 50000 := by
  have a1 := itoa_size i (by unfold I64; omega)
  have a2 := zlB_size z.f0 z.f1 hz.1 hz.2.1 z.f2 z.f3 hz.2.2.1 z.f4 z.f5 hz.2.2.2
  have h1 : (⟨#[58, 32]⟩ : ByteArray).size = 2 := rfl
  have h2 : (⟨#[10]⟩ : ByteArray).size = 1 := rfl
  unfold zlineB
  simp only [ByteArray.size_append]
  omega
theorem zlines_size (l : List S82) (hz : ∀ i, G82 (l.getD i z82)) (hn : ∀ i, (l.getD i z82).f5.length ≤ 1000) : ∀ n, n ≤ 1000 → (zlinesB l n).size ≤ 50000 * n
  | 0, _ => Nat.zero_le _
  | n + 1, h => by
    have ih := zlines_size l hz hn n (by omega)
    have := zline_size n (by omega) (l.getD n z82) (hz n) (hn n)
    show (zlinesB l n ++ zlineB n (l.getD n z82)).size ≤ _
    rw [ByteArray.size_append]; omega
theorem wordsB_app1 (x : ByteArray) (l : List ByteArray) (h : l ≠ []) : wordsB (l ++ [x]) = wordsB l ++ ⟨#[32]⟩ ++ x := by
  cases l with
  | nil => exact absurd rfl h
  | cons a l => exact wordsB_snoc a x l
theorem wordsB_app2 (x y : ByteArray) (l : List ByteArray) (h : l ≠ []) : wordsB (l ++ [x, y]) = wordsB l ++ ⟨#[32]⟩ ++ x ++ ⟨#[32]⟩ ++ y := by
  rw [show l ++ [x, y] = (l ++ [x]) ++ [y] by simp, wordsB_app1 y _ (by simp), wordsB_app1 x l h]
theorem zl2_ne (zg zs : Int) (b : Bool) : zl2 zg zs b ≠ [] := by unfold zl2 zl1; simp
theorem zl3_ne (zg zs : Int) (b zf : Bool) (zw : Int) : zl3 zg zs b zf zw ≠ [] := by unfold zl3; simp [zl2_ne]
theorem zl4_ne (zg zs : Int) (b zf : Bool) (zw : Int) (zh : Bool) : zl4 zg zs b zf zw zh ≠ [] := by unfold zl4; simp [zl3_ne]
theorem lit2 {x y : List UInt8} : (⟨(x ++ y).toArray⟩ : ByteArray) = ⟨x.toArray⟩ ++ ⟨y.toArray⟩ := by apply ByteArray.ext; simp
theorem tz1 (zg : Int) : (⟨#[58, 32, 103, 101, 110, 32]⟩ : ByteArray) ++ itoaB zg = ⟨#[58, 32]⟩ ++ wordsB (zl1 zg) := by
  unfold zl1
  rw [wordsB_cons, wordsB_one]; apply ByteArray.ext; apply Array.toList_inj.1; simp
theorem tz2t (zg zs : Int) : wordsB (zl2 zg zs true) = wordsB (zl1 zg) ++ ⟨#[32, 110, 111, 110, 101]⟩ := by
  unfold zl2 slotL
  rw [if_pos rfl, wordsB_app1 _ _ (by simp [zl1])]; apply ByteArray.ext; apply Array.toList_inj.1; simp
theorem tz2f (zg zs : Int) : wordsB (zl2 zg zs false) = wordsB (zl1 zg) ++ ⟨#[32, 115, 108, 111, 116, 32]⟩ ++ itoaB zs := by
  unfold zl2 slotL
  rw [if_neg (by simp), wordsB_app2 _ _ _ (by simp [zl1])]; apply ByteArray.ext; apply Array.toList_inj.1; simp
theorem tz3t (zg zs : Int) (b : Bool) (zw : Int) : wordsB (zl3 zg zs b true zw) = wordsB (zl2 zg zs b) ++ ⟨#[32, 102, 117, 108, 108, 32]⟩ ++ itoaB zw := by
  unfold zl3 fullL
  rw [if_pos rfl, wordsB_app2 _ _ _ (zl2_ne _ _ _)]; apply ByteArray.ext; apply Array.toList_inj.1; simp
theorem tz3f (zg zs : Int) (b : Bool) (zw : Int) : wordsB (zl3 zg zs b false zw) = wordsB (zl2 zg zs b) := by
  unfold zl3 fullL
  rw [if_neg (by simp), List.append_nil]
theorem tz4t (zg zs : Int) (b zf : Bool) (zw : Int) : wordsB (zl4 zg zs b zf zw true) = wordsB (zl3 zg zs b zf zw) ++ ⟨#[32, 119, 104, 111, 108, 101]⟩ := by
  unfold zl4 wholeL
  rw [if_pos rfl, wordsB_app1 _ _ (zl3_ne _ _ _ _ _)]; apply ByteArray.ext; apply Array.toList_inj.1; simp
theorem tz4f (zg zs : Int) (b zf : Bool) (zw : Int) : wordsB (zl4 zg zs b zf zw false) = wordsB (zl3 zg zs b zf zw) := by
  unfold zl4 wholeL
  rw [if_neg (by simp), List.append_nil]
theorem tzp (zg zs : Int) (b zf : Bool) (zw : Int) (zh : Bool) (l : List S84) (k : Nat) (h : k < l.length) : wordsB (zl4 zg zs b zf zw zh ++ parL (l.take (k + 1))) = wordsB (zl4 zg zs b zf zw zh ++ parL (l.take k)) ++ ⟨#[32, 112, 97, 114, 32]⟩ ++ itoaB (l.getD k z84).f0 := by
  rw [← parL_snoc l k h, ← List.append_assoc, wordsB_app2 _ _ _ (by simp [zl4_ne])]; apply ByteArray.ext; apply Array.toList_inj.1; simp
theorem tzs (zg zs : Int) (hg : I64 zg) (hs : I64 zs) (b : Bool) (hb : decide (zs < 0) = b) (zf : Bool) (zw : Int) (hw : I64 zw) (zh : Bool) (l : List S84) (hl : ∀ i, G84 (l.getD i z84)) (hn : l.length ≤ 1000) (k : Nat) : (wordsB (zl4 zg zs b zf zw zh ++ parL (l.take k))).size ≤ 50000 := by
  subst hb
  have := zlB_size zg zs hg hs zf zw hw zh (l.take k) (fun i => by
    by_cases hi : i < k
    · rw [List.getD_eq_getElem?_getD, List.getElem?_take_of_lt hi, ← List.getD_eq_getElem?_getD]; exact hl i
    · rw [List.getD_eq_getElem?_getD, List.getElem?_take_eq_none (by omega)]; show I64 0; unfold I64; omega)
  rw [List.length_take] at this
  exact Nat.le_trans this (by omega)
end Go.Proofs.YtlhmpmmblnbmbaaDoor.Rep
