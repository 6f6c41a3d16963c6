/- Own work and lines of the print, as much as imageLoads_holds needs: part 5. -/
import Derived.Test.YtlhmpmmblnbmbaaGreatClmL4
import Derived.Laws.BytesArg
import Derived.Laws.StructEq
import Derived.Laws.Concat
import Derived.Laws.IdiomStrings
set_option linter.unusedVariables false
set_option linter.unusedSimpArgs false
set_option maxRecDepth 100000
namespace Go.Proofs.YtlhmpmmblnbmbaaGreat.Img
open Go.Proofs.YtlhmpmmblnbmbaaGreat.Sx Go.Proofs.YtlhmpmmblnbmbaaGreat.Byt Go.Proofs.YtlhmpmmblnbmbaaGreat.Dev Go.Proofs.YtlhmpmmblnbmbaaGreat.Pck Go.Proofs.YtlhmpmmblnbmbaaGreat.Cnf Go.Proofs.YtlhmpmmblnbmbaaGreat.Bus Go.Lib
def flR : List Pm → Nat → Sg → Int × Sg
  | [], _, s => (0, s)
  | _ :: r, i, s => if (cFl i s).1 ≠ 0 then cFl i s else flR r (i + 1) (cFl i s).2
def kR : List Pm → Nat → Sg → Sg
  | [], _, s => s
  | p :: r, i, s => kR r (i + 1) (if p.zs = [] then cK i s else s)
/-- What laying answers, and leaves. -/
def layR (c : Cf) (ms : List Pm) (s : Sg) : Int × Sg :=
  if (eachR actD 0 ms s).1 ≠ 0 then eachR actD 0 ms s else
  if (eachR (actS c.block) 0 ms (eachR actD 0 ms s).2).1 ≠ 0 then eachR (actS c.block) 0 ms (eachR actD 0 ms s).2 else
  if (flR ms 0 (eachR (actS c.block) 0 ms (eachR actD 0 ms s).2).2).1 ≠ 0 then flR ms 0 (eachR (actS c.block) 0 ms (eachR actD 0 ms s).2).2 else
  if (eachR (actR c.block) 0 ms (flR ms 0 (eachR (actS c.block) 0 ms (eachR actD 0 ms s).2).2).2).1 ≠ 0 then eachR (actR c.block) 0 ms (flR ms 0 (eachR (actS c.block) 0 ms (eachR actD 0 ms s).2).2).2 else
  (0, kR ms 0 (eachR (actR c.block) 0 ms (flR ms 0 (eachR (actS c.block) 0 ms (eachR actD 0 ms s).2).2).2).2)
theorem cFl_cnt (m : Nat) (s : Sg) : (cFl m s).2.2 ≤ s.2 + 1 := by
  unfold cFl
  split
  · exact Int.le_refl _
  · show s.2 ≤ s.2 + 1; omega
theorem lay_c {g b : Nat} {O : Nat → Prop} {M : List Dc} {n : Int} {c : Cf} {A : Option Addr} {k : Nat} {ms : List Pm} (w : World) (hB : BusC w g O M n) (hn : n ≤ 1000) (hrow : MRow w b (.slice A ms.length k) ms) (hlen : M.length = ms.length) (hml : ms.length ≤ 16) (hzl : ∀ m ∈ ms, m.zs.length ≤ 64) (hok : ∀ m ∈ ms, ∀ z ∈ m.zs, z.Ok c) (hcb : 1 ≤ c.block ∧ c.block ≤ 4096) :
    Calls Tryz.prog 43 #[.pointer (some ⟨g, 0, none⟩), c.val, .slice A ms.length k] w fun e w' => e = .returned (.int .i64 (layR c ms (M, n)).1) ∧ BusC w' g O (layR c ms (M, n)).2.1 (layR c ms (M, n)).2.2 ∧ Chg O w w' := by
  refine J.enter Tryz.func43 rfl [] [.one (.v (.pointer (some ⟨g, 0, none⟩))), .agg c.cs, .one (.v (.slice A ms.length k))] 66 (known_nil w) ?_
  refine J.new 34 [.v (.pointer (some ⟨g, 0, none⟩))] [] (fun g3 hg3 hn3 => ?_)
  refine J.new 23 c.cs [⟨g3, 34, [.v (.pointer (some ⟨g, 0, none⟩))]⟩] (fun g4 hg4 hn4 => ?_)
  refine J.new 65 [.v .nilFunc] [⟨g3, 34, [.v (.pointer (some ⟨g, 0, none⟩))]⟩, ⟨g4, 23, c.cs⟩] (fun g7 hg7 hn7 => ?_)
  refine J.drop [(2, .one (.v (.slice A ms.length k))), (3, .one (.ptr 0 0)), (4, .one (.ptr 1 0)), (7, .one (.ptr 2 0)), (8, .one (.v (.func (.func 83) #[] #[.pointer (some ⟨g7, 0, none⟩), .pointer (some ⟨g3, 0, none⟩)]))), (9, .one (.v (.func (.func 84) #[] #[.pointer (some ⟨g7, 0, none⟩), .pointer (some ⟨g4, 0, none⟩)]))), (10, .one (.v (.func (.func 86) #[] #[.pointer (some ⟨g7, 0, none⟩), .pointer (some ⟨g4, 0, none⟩)]))), (22, .one (.v (.slice A ms.length k))), (23, .one (.v (.func (.func 83) #[] #[.pointer (some ⟨g7, 0, none⟩), .pointer (some ⟨g3, 0, none⟩)])))] [⟨g3, 34, [.v (.pointer (some ⟨g, 0, none⟩))]⟩, ⟨g4, 23, c.cs⟩, ⟨g7, 65, [.v (wrV g3)]⟩] [] (fun w1 hk1 hr1 => ?_)
  have hx1 : Ext w w1 := hr1.ext' (fun x hx => by
    simp only [List.append_nil, List.mem_cons, List.not_mem_nil, or_false] at hx
    rcases hx with rfl | rfl | rfl
    · exact .inl hg3
    · exact .inl hg4
    · exact .inl hg7)
  have hk1 : Known [⟨g3, 34, [.v (.pointer (some ⟨g, 0, none⟩))]⟩, ⟨g4, 23, c.cs⟩, ⟨g7, 65, [.v (wrV g3)]⟩] w1 := by simpa using hk1
  obtain ⟨s0, hs0⟩ : ∃ s0 : Sg, s0 = (M, n) := ⟨_, rfl⟩
  have hS1 : LaySt g O g3 g7 g4 c b (.slice A ms.length k) ms w1 s0 := by
    rw [hs0]; exact ⟨hB.ext hx1, hrow.ext hx1, hlen, hk1.get 0 rfl, hk1.get 2 rfl, hk1.get 1 rfl⟩
  have hn0 : s0.2 ≤ 1000 := by rw [hs0]; exact hn
  have hch0 : Chg O w w1 := .of_ext hx1
  rw [← hs0]
  refine J.call Tryz.func87 [.one (.v (.slice A ms.length k)), .one (.v (.func (.func 83) #[] #[.pointer (some ⟨g7, 0, none⟩), .pointer (some ⟨g3, 0, none⟩)]))] [⟨g3, 34, [.v (.pointer (some ⟨g, 0, none⟩))]⟩, ⟨g4, 23, c.cs⟩, ⟨g7, 65, [.v (wrV g3)]⟩] (fun wa1 hka1 hra1 => ?_)
  have hxa1 := hk1.same hka1 hra1
  have hSa1 := hS1.ext hxa1
  refine (each_c (b := b) (A := A) (k := k) (ms := ms) (f := 83) (caps := [.pointer (some ⟨g7, 0, none⟩), .pointer (some ⟨g3, 0, none⟩)]) (actD) (LaySt g O g3 g7 g4 c b (.slice A ms.length k) ms) O wa1 s0 hSa1 s0.2 (Int.le_refl _) (by omega) Tryz.func83 rfl rfl hml hzl (fun u t hu => hu.row) (fun u v t hu hx => hu.ext hx) (fun x hx => hSa1.bus.lt hx) (fun m z p t => actD_cnt m z p t) (fun u t i j m z hu ht hi hj _ => lay2_c hu ht hml hi hj (hok m (List.mem_of_getElem? hi) z (List.mem_of_getElem? hj)))).mono ?_
  rintro e wb1 ⟨rfl, hSb1, hcb1, hnb1⟩
  have hkb1 := known_bus hSa1.bus hka1 hcb1 rfl
  have hch1 : Chg O w wb1 := (hch0.trans (.of_ext hxa1)).trans hcb1
  generalize hg1 : eachR (actD) 0 ms s0 = y1 at *
  obtain ⟨e1, s1⟩ := y1
  replace hnb1 : s1.2 ≤ s0.2 + 3000 := hnb1
  refine ⟨.one (.v (.int .i64 e1)), _, rfl, rfl, hkb1, ?_⟩
  by_cases h01 : e1 = 0
  rotate_left
  · refine J.brt (e1 != 0) (by simp [h01]) ?_
    refine J.ret (.one (.v (.int .i64 e1))) [⟨g3, 34, [.v (.pointer (some ⟨g, 0, none⟩))]⟩, ⟨g4, 23, c.cs⟩, ⟨g7, 65, [.v (wrV g3)]⟩] (fun w9 hk9 hr9 => ?_)
    have hx9 := hkb1.same hk9 hr9
    have e9 : layR c ms s0 = (e1, s1) := by unfold layR; rw [hg1, if_pos h01]
    rw [e9]
    exact ⟨rfl, (hSb1.ext hx9).bus, hch1.trans (.of_ext hx9)⟩
  refine J.brf (e1 != 0) (by simp [h01]) ?_
  subst h01
  refine J.call Tryz.func87 [.one (.v (.slice A ms.length k)), .one (.v (.func (.func 84) #[] #[.pointer (some ⟨g7, 0, none⟩), .pointer (some ⟨g4, 0, none⟩)]))] [⟨g3, 34, [.v (.pointer (some ⟨g, 0, none⟩))]⟩, ⟨g4, 23, c.cs⟩, ⟨g7, 65, [.v (wrV g3)]⟩] (fun wa2 hka2 hra2 => ?_)
  have hxa2 := hkb1.same hka2 hra2
  have hSa2 := hSb1.ext hxa2
  refine (each_c (b := b) (A := A) (k := k) (ms := ms) (f := 84) (caps := [.pointer (some ⟨g7, 0, none⟩), .pointer (some ⟨g4, 0, none⟩)]) (actS c.block) (LaySt g O g3 g7 g4 c b (.slice A ms.length k) ms) O wa2 s1 hSa2 s1.2 (Int.le_refl _) (by omega) Tryz.func84 rfl rfl hml hzl (fun u t hu => hu.row) (fun u v t hu hx => hu.ext hx) (fun x hx => hSa2.bus.lt hx) (fun m z p t => actS_cnt c.block m z p t) (fun u t i j m z hu ht hi hj _ => lay3_c hu ht hml hi hj (hok m (List.mem_of_getElem? hi) z (List.mem_of_getElem? hj)) hcb)).mono ?_
  rintro e wb2 ⟨rfl, hSb2, hcb2, hnb2⟩
  have hkb2 := known_bus hSa2.bus hka2 hcb2 rfl
  have hch2 : Chg O w wb2 := (hch1.trans (.of_ext hxa2)).trans hcb2
  generalize hg2 : eachR (actS c.block) 0 ms s1 = y2 at *
  obtain ⟨e2, s2⟩ := y2
  replace hnb2 : s2.2 ≤ s1.2 + 3000 := hnb2
  refine ⟨.one (.v (.int .i64 e2)), _, rfl, rfl, hkb2, ?_⟩
  by_cases h02 : e2 = 0
  rotate_left
  · refine J.brt (e2 != 0) (by simp [h02]) ?_
    refine J.ret (.one (.v (.int .i64 e2))) [⟨g3, 34, [.v (.pointer (some ⟨g, 0, none⟩))]⟩, ⟨g4, 23, c.cs⟩, ⟨g7, 65, [.v (wrV g3)]⟩] (fun w9 hk9 hr9 => ?_)
    have hx9 := hkb2.same hk9 hr9
    have e9 : layR c ms s0 = (e2, s2) := by unfold layR; rw [hg1, if_neg (by simp), hg2, if_pos h02]
    rw [e9]
    exact ⟨rfl, (hSb2.ext hx9).bus, hch2.trans (.of_ext hx9)⟩
  refine J.brf (e2 != 0) (by simp [h02]) ?_
  subst h02
  refine J.loop (fun x : ES => [(2, .one (.v (.slice A ms.length k))), (3, .one (.ptr 0 0)), (10, .one (.v (.func (.func 86) #[] #[.pointer (some ⟨g7, 0, none⟩), .pointer (some ⟨g4, 0, none⟩)]))), (35, .one (.v (.int .i64 ms.length))), (36, .one (.v (.int .i64 x.i)))]) (fun _ => [⟨g3, 34, [.v (.pointer (some ⟨g, 0, none⟩))]⟩, ⟨g4, 23, c.cs⟩, ⟨g7, 65, [.v (wrV g3)]⟩]) (fun x u => x.i ≤ ms.length ∧ LaySt g O g3 g7 g4 c b (.slice A ms.length k) ms u x.s ∧ Chg O w u ∧ flR ms 0 s2 = flR (ms.drop x.i) x.i x.s ∧ x.s.2 ≤ s2.2 + (x.i : Nat)) (fun x => ms.length - x.i) [] ⟨0, s2⟩ (fun w3 hk3 hr3 => ⟨Nat.zero_le _, hSb2.ext (hkb2.same hk3 hr3), hch2.trans (.of_ext (hkb2.same hk3 hr3)), by simp, by simp⟩) ?_
  rintro p ⟨i, t⟩ w3 hp ⟨hi, hS3, hc3, he3, hq3⟩ hk3
  replace hi : i ≤ ms.length := hi
  replace hS3 : LaySt g O g3 g7 g4 c b (.slice A ms.length k) ms w3 t := hS3
  replace he3 : flR ms 0 s2 = flR (ms.drop i) i t := he3
  replace hq3 : t.2 ≤ s2.2 + (i : Nat) := hq3
  refine J.brd ((i : Int) < (ms.length : Int)) (fun h1 => ?_) (fun h1 => ?_)
  · have him : i < ms.length := by omega
    have hdrop : ∃ m, ms.drop i = m :: ms.drop (i + 1) := ⟨_, List.drop_eq_getElem_cons him⟩
    obtain ⟨m, hdrop⟩ := hdrop
    rw [hdrop] at he3
    refine J.call Tryz.func31 [.one (.v (.pointer (some ⟨g, 0, none⟩))), .one (.v (.int .i64 i))] [⟨g3, 34, [.v (.pointer (some ⟨g, 0, none⟩))]⟩, ⟨g4, 23, c.cs⟩, ⟨g7, 65, [.v (wrV g3)]⟩] (fun w4 hk4 hr4 => ?_)
    have hx4 := hk3.same hk4 hr4
    have hS4 := hS3.ext hx4
    obtain ⟨d, hd⟩ : ∃ d, t.1[i]? = some d := ⟨_, List.getElem?_eq_getElem (by rw [hS4.len]; exact him)⟩
    refine (c_flush hS4.bus (by omega) (by rw [hS4.len]; omega) i hd).mono ?_
    rintro e w5 ⟨rfl, hb5, hc5⟩
    have hk5 := known_bus hS4.bus hk4 hc5 rfl
    have e1 : cFl i t = (d.flush.1, (t.1.set i d.flush.2, t.2 + 1)) := by unfold cFl; rw [hd]
    have hS5 : LaySt g O g3 g7 g4 c b (.slice A ms.length k) ms w5 (t.1.set i d.flush.2, t.2 + 1) := hS4.cmd hb5 (List.length_set ..) hc5
    have hc15 := (hc3.trans (.of_ext hx4)).trans hc5
    refine ⟨.one (.v (.int .i64 d.flush.1)), _, rfl, rfl, hk5, ?_⟩
    by_cases h0 : d.flush.1 = 0
    rotate_left
    · refine J.brt (d.flush.1 != 0) (by simp [h0]) ?_
      refine J.ret (.one (.v (.int .i64 d.flush.1))) [⟨g3, 34, [.v (.pointer (some ⟨g, 0, none⟩))]⟩, ⟨g4, 23, c.cs⟩, ⟨g7, 65, [.v (wrV g3)]⟩] (fun w9 hk9 hr9 => ?_)
      have hx9 := hk5.same hk9 hr9
      have e9 : layR c ms s0 = (d.flush.1, (t.1.set i d.flush.2, t.2 + 1)) := by
        have e8 : flR ms 0 s2 = cFl i t := by
          rw [he3]
          show (if (cFl i t).1 ≠ 0 then _ else _) = _
          rw [if_pos (by rw [e1]; exact h0)]
        unfold layR
        rw [hg1, if_neg (by simp), hg2, if_neg (by simp), e8, if_pos (by rw [e1]; exact h0), e1]
      rw [e9]
      exact ⟨rfl, (hS5.ext hx9).bus, hc15.trans (.of_ext hx9)⟩
    refine J.brf (d.flush.1 != 0) (by simp [h0]) ?_
    refine J.ari ((i + 1 : Nat) : Int) (.add (x := i) (y := 1) (by omega) (by omega) (by omega)) ?_
    have e8 : flR ms 0 s2 = flR (ms.drop (i + 1)) (i + 1) (t.1.set i d.flush.2, t.2 + 1) := by
      rw [he3]
      show (if (cFl i t).1 ≠ 0 then _ else _) = _
      rw [if_neg (by rw [e1]; simp [h0]), e1]
    exact J.at (fun a u h1 h2 hk hr => hp ⟨i + 1, (t.1.set i d.flush.2, t.2 + 1)⟩ a u h1 h2 hk ⟨by show i + 1 ≤ ms.length; omega, hS5.ext (hk5.same hk hr), hc15.trans (.of_ext (hk5.same hk hr)), e8, by show t.2 + 1 ≤ s2.2 + ((i + 1 : Nat) : Int); omega⟩ (by show ms.length - (i + 1) < ms.length - i; omega))
  have hi2 : i = ms.length := by omega
  have hdr : ms.drop i = [] := by rw [hi2]; exact List.drop_length
  rw [hdr] at he3
  replace he3 : flR ms 0 s2 = (0, t) := he3
  refine J.call Tryz.func87 [.one (.v (.slice A ms.length k)), .one (.v (.func (.func 86) #[] #[.pointer (some ⟨g7, 0, none⟩), .pointer (some ⟨g4, 0, none⟩)]))] [⟨g3, 34, [.v (.pointer (some ⟨g, 0, none⟩))]⟩, ⟨g4, 23, c.cs⟩, ⟨g7, 65, [.v (wrV g3)]⟩] (fun wa5 hka5 hra5 => ?_)
  have hxa5 := hk3.same hka5 hra5
  have hSa5 := hS3.ext hxa5
  refine (each_c (b := b) (A := A) (k := k) (ms := ms) (f := 86) (caps := [.pointer (some ⟨g7, 0, none⟩), .pointer (some ⟨g4, 0, none⟩)]) (actR c.block) (LaySt g O g3 g7 g4 c b (.slice A ms.length k) ms) O wa5 t hSa5 t.2 (Int.le_refl _) (by omega) Tryz.func86 rfl rfl hml hzl (fun u t hu => hu.row) (fun u v t hu hx => hu.ext hx) (fun x hx => hSa5.bus.lt hx) (fun m z p t => actR_cnt c.block m z p t) (fun u t i j m z hu ht hi hj _ => lay4_c hu ht hml hi hj (hok m (List.mem_of_getElem? hi) z (List.mem_of_getElem? hj)) hcb)).mono ?_
  rintro e wb5 ⟨rfl, hSb5, hcb5, hnb5⟩
  have hkb5 := known_bus hSa5.bus hka5 hcb5 rfl
  have hch5 : Chg O w wb5 := (hc3.trans (.of_ext hxa5)).trans hcb5
  generalize hg5 : eachR (actR c.block) 0 ms t = y5 at *
  obtain ⟨e5, s5⟩ := y5
  replace hnb5 : s5.2 ≤ t.2 + 3000 := hnb5
  refine ⟨.one (.v (.int .i64 e5)), _, rfl, rfl, hkb5, ?_⟩
  by_cases h05 : e5 = 0
  rotate_left
  · refine J.brt (e5 != 0) (by simp [h05]) ?_
    refine J.ret (.one (.v (.int .i64 e5))) [⟨g3, 34, [.v (.pointer (some ⟨g, 0, none⟩))]⟩, ⟨g4, 23, c.cs⟩, ⟨g7, 65, [.v (wrV g3)]⟩] (fun w9 hk9 hr9 => ?_)
    have hx9 := hkb5.same hk9 hr9
    have e9 : layR c ms s0 = (e5, s5) := by unfold layR; rw [hg1, if_neg (by simp), hg2, if_neg (by simp), he3, if_neg (by simp), hg5, if_pos h05]
    rw [e9]
    exact ⟨rfl, (hSb5.ext hx9).bus, hch5.trans (.of_ext hx9)⟩
  refine J.brf (e5 != 0) (by simp [h05]) ?_
  subst h05
  have hlr : layR c ms s0 = (0, kR ms 0 s5) := by
    unfold layR
    rw [hg1, if_neg (by simp), hg2, if_neg (by simp), he3, if_neg (by simp), hg5, if_neg (by simp)]
  rw [hlr]
  refine J.loop (fun x : ES => [(3, .one (.ptr 0 0)), (52, .one (.v (.slice A ms.length k))), (53, .one (.v (.int .i64 ms.length))), (54, .one (.v (.int .i64 x.i)))]) (fun _ => [⟨g3, 34, [.v (.pointer (some ⟨g, 0, none⟩))]⟩, ⟨g4, 23, c.cs⟩, ⟨g7, 65, [.v (wrV g3)]⟩]) (fun x u => x.i ≤ ms.length ∧ LaySt g O g3 g7 g4 c b (.slice A ms.length k) ms u x.s ∧ Chg O w u ∧ kR ms 0 s5 = kR (ms.drop x.i) x.i x.s ∧ x.s.2 ≤ s5.2) (fun x => ms.length - x.i) [] ⟨0, s5⟩ (fun w6 hk6 hr6 => ⟨Nat.zero_le _, hSb5.ext (hkb5.same hk6 hr6), hch5.trans (.of_ext (hkb5.same hk6 hr6)), by simp, Int.le_refl _⟩) ?_
  rintro p2 ⟨i, t6⟩ w6 hp2 ⟨hi, hS6, hc6, he6, hq6⟩ hk6
  replace hi : i ≤ ms.length := hi
  replace hS6 : LaySt g O g3 g7 g4 c b (.slice A ms.length k) ms w6 t6 := hS6
  replace he6 : kR ms 0 s5 = kR (ms.drop i) i t6 := he6
  replace hq6 : t6.2 ≤ s5.2 := hq6
  refine J.brd ((i : Int) < (ms.length : Int)) (fun h1 => ?_) (fun h1 => ?_)
  rotate_left
  · have hi2 : i = ms.length := by omega
    have hdr : ms.drop i = [] := by rw [hi2]; exact List.drop_length
    rw [hdr] at he6
    replace he6 : kR ms 0 s5 = t6 := he6
    refine J.ret (.one (.v (.int .i64 0))) [⟨g3, 34, [.v (.pointer (some ⟨g, 0, none⟩))]⟩, ⟨g4, 23, c.cs⟩, ⟨g7, 65, [.v (wrV g3)]⟩] (fun w9 hk9 hr9 => ?_)
    have hx9 := hk6.same hk9 hr9
    rw [he6]
    exact ⟨rfl, (hS6.ext hx9).bus, hc6.trans (.of_ext hx9)⟩
  have him : i < ms.length := by omega
  obtain ⟨m, hm⟩ : ∃ m, ms[i]? = some m := ⟨_, List.getElem?_eq_getElem him⟩
  have hdrop : ms.drop i = m :: ms.drop (i + 1) := by
    have h2 := List.drop_eq_getElem_cons him
    rw [(List.getElem?_eq_some_iff.1 hm).2] at h2; exact h2
  rw [hdrop] at he6
  replace he6 : kR ms 0 s5 = kR (ms.drop (i + 1)) (i + 1) (if m.zs = [] then cK i t6 else t6) := he6
  obtain ⟨gm, hA, -, -⟩ := hS6.row.lies hm
  obtain ⟨Az, kz, hmv⟩ := owns_slice (hS6.row.mem m (List.mem_of_getElem? hm)).own
  subst hA
  refine J.ix gm 0 ms.length k 1 i rfl him ?_
  refine J.ld 121 ⟨gm, 0 + i * 1, none⟩ (.agg [.v (.slice Az m.zs.length kz)]) [⟨g3, 34, [.v (.pointer (some ⟨g, 0, none⟩))]⟩, ⟨g4, 23, c.cs⟩, ⟨g7, 65, [.v (wrV g3)]⟩] (fun w7 hk7 hr7 => ?_) ?_
  · obtain ⟨g', hg1, -, hg2⟩ := (hS6.ext (hk6.same hk7 hr7)).row.lies hm
    cases hg1
    rw [hmv] at hg2; exact hg2
  refine J.new 121 [.v (.slice none 0 0)] [⟨g3, 34, [.v (.pointer (some ⟨g, 0, none⟩))]⟩, ⟨g4, 23, c.cs⟩, ⟨g7, 65, [.v (wrV g3)]⟩] (fun g17 hg17 hn17 => ?_)
  by_cases hz : m.zs = []
  · have hnil := hS6.row.nil m (List.mem_of_getElem? hm) hz
    rw [hmv] at hnil
    injection hnil with hn1 hn2 hn3
    subst hn1
    rw [if_pos hz] at he6
    refine J.call Tryz.func35 [.one (.v (.pointer (some ⟨g, 0, none⟩))), .one (.v (.int .i64 i)), .one (.v (.int .i64 0))] [⟨g3, 34, [.v (.pointer (some ⟨g, 0, none⟩))]⟩, ⟨g4, 23, c.cs⟩, ⟨g7, 65, [.v (wrV g3)]⟩, ⟨g17, 121, [.v (.slice none m.zs.length kz)]⟩] (fun w7 hk7 hr7 => ?_)
    have hx7 := hk6.same2 (M := [⟨g17, 121, [.v (.slice none m.zs.length kz)]⟩]) hk7 hr7 (mem1 hg17)
    have hS7 := hS6.ext hx7
    obtain ⟨d, hd⟩ : ∃ d, t6.1[i]? = some d := ⟨_, List.getElem?_eq_getElem (by rw [hS7.len]; exact him)⟩
    refine (c_kill hS7.bus (by omega) i hd).mono ?_
    rintro e w8 ⟨rfl, hb8, hc8⟩
    have hk8 := known_bus hS7.bus hk7 hc8 rfl
    have e1 : cK i t6 = (t6.1.set i { d with dead := true }, t6.2) := by unfold cK; rw [hd]
    rw [e1] at he6
    have hS8 : LaySt g O g3 g7 g4 c b (.slice (some ⟨gm, 0, none⟩) ms.length k) ms w8 (t6.1.set i { d with dead := true }, t6.2) := hS7.cmd hb8 (List.length_set ..) hc8
    refine ⟨.tup [], _, rfl, rfl, hk8, ?_⟩
    refine J.ari ((i + 1 : Nat) : Int) (.add (x := i) (y := 1) (by omega) (by omega) (by omega)) ?_
    refine J.drop [(3, .one (.ptr 0 0)), (52, .one (.v (.slice (some ⟨gm, 0, none⟩) ms.length k))), (53, .one (.v (.int .i64 ms.length))), (54, .one (.v (.int .i64 ((i + 1 : Nat) : Int))))] [⟨g3, 34, [.v (.pointer (some ⟨g, 0, none⟩))]⟩, ⟨g4, 23, c.cs⟩, ⟨g7, 65, [.v (wrV g3)]⟩] [⟨g17, 121, [.v (.slice none m.zs.length kz)]⟩] (fun w9 hk9 hr9 => ?_)
    have hx9 := hk8.same hk9 hr9
    have hk9' : Known [⟨g3, 34, [.v (.pointer (some ⟨g, 0, none⟩))]⟩, ⟨g4, 23, c.cs⟩, ⟨g7, 65, [.v (wrV g3)]⟩] w9 := Known.fst (M := [⟨g17, 121, [.v (.slice none m.zs.length kz)]⟩]) hk9
    exact J.at (fun a u h1 h2 hk hr => hp2 ⟨i + 1, (t6.1.set i { d with dead := true }, t6.2)⟩ a u h1 h2 hk ⟨by show i + 1 ≤ ms.length; omega, hS8.ext (hx9.trans (hk9'.same hk hr)), ((hc6.trans (.of_ext hx7)).trans hc8).trans (.of_ext (hx9.trans (hk9'.same hk hr))), he6, hq6⟩ (by show ms.length - (i + 1) < ms.length - i; omega))
  · obtain ⟨z, hz0⟩ : ∃ z, m.zs[0]? = some z := ⟨_, List.getElem?_eq_getElem (List.length_pos_iff.2 hz)⟩
    obtain ⟨gz, kz', hv', -⟩ := (hS6.row.mem m (List.mem_of_getElem? hm)).lies hz0
    rw [hmv] at hv'
    injection hv' with hAz _ hkz
    subst hAz
    rw [if_neg hz] at he6
    refine J.ari ((i + 1 : Nat) : Int) (.add (x := i) (y := 1) (by omega) (by omega) (by omega)) ?_
    refine J.drop [(3, .one (.ptr 0 0)), (52, .one (.v (.slice (some ⟨gm, 0, none⟩) ms.length k))), (53, .one (.v (.int .i64 ms.length))), (54, .one (.v (.int .i64 ((i + 1 : Nat) : Int))))] [⟨g3, 34, [.v (.pointer (some ⟨g, 0, none⟩))]⟩, ⟨g4, 23, c.cs⟩, ⟨g7, 65, [.v (wrV g3)]⟩] [⟨g17, 121, [.v (.slice (some ⟨gz, 0, none⟩) m.zs.length kz)]⟩] (fun w9 hk9 hr9 => ?_)
    have hx9 := hk6.same2 (M := [⟨g17, 121, [.v (.slice (some ⟨gz, 0, none⟩) m.zs.length kz)]⟩]) hk9 hr9 (mem1 hg17)
    have hk9' : Known [⟨g3, 34, [.v (.pointer (some ⟨g, 0, none⟩))]⟩, ⟨g4, 23, c.cs⟩, ⟨g7, 65, [.v (wrV g3)]⟩] w9 := Known.fst (M := [⟨g17, 121, [.v (.slice (some ⟨gz, 0, none⟩) m.zs.length kz)]⟩]) hk9
    exact J.at (fun a u h1 h2 hk hr => hp2 ⟨i + 1, t6⟩ a u h1 h2 hk ⟨by show i + 1 ≤ ms.length; omega, hS6.ext (hx9.trans (hk9'.same hk hr)), hc6.trans (.of_ext (hx9.trans (hk9'.same hk hr))), he6, hq6⟩ (by show ms.length - (i + 1) < ms.length - i; omega))
end Go.Proofs.YtlhmpmmblnbmbaaGreat.Img
set_option linter.unusedVariables false
set_option linter.unusedSimpArgs false
set_option maxRecDepth 100000
namespace Go.Proofs.YtlhmpmmblnbmbaaGreat.Img
open Go.Proofs.YtlhmpmmblnbmbaaGreat.Sx Go.Proofs.YtlhmpmmblnbmbaaGreat.Byt Go.Proofs.YtlhmpmmblnbmbaaGreat.Dev Go.Proofs.YtlhmpmmblnbmbaaGreat.Pck Go.Proofs.YtlhmpmmblnbmbaaGreat.Cnf Go.Proofs.YtlhmpmmblnbmbaaGreat.Bus Go.Lib
theorem newBus_ext {w u v : World} {members zones : Nat} {cap block limit : Int} {g : Nat} {B : Bs} (h : NewBus w u members zones cap block limit g B) (hx : Ext u v) : NewBus w v members zones cap block limit g B := { h with bus := h.bus.ext hx, fresh := let ⟨g1, g2, g3, g4, a, b, c⟩ := h.fresh; ⟨g1, g2, g3, g4, a, hx.known b, c⟩ }
theorem new_okC {c : Cf} (hF : CfFits c) (hlim : 1 ≤ c.limit) : newOk c.all c.cap c.block c.limit = true := by
  have h1 := hF.all; have h2 := hF.all2; have h3 := hF.cap; have h4 := hF.block; have h5 := hF.mta; have h6 := hF.zones; have h7 := hF.spare
  unfold newOk inn
  simp only [Bool.and_eq_true, decide_eq_true_eq]
  omega
/-- A block that is none of the bus' types was written. -/
theorem bus_away {w w' : World} {g : Nat} {O : Nat → Prop} {M : List Dc} {n : Int} {q t : Nat} {cs : Array Value} {f : Nat × Nat} (h : BusC w g O M n) (hq : w.heap[q]? = some (Obj.cells cs t f)) (h1 : t ≠ 83) (h2 : t ≠ 97) (h3 : t ≠ 3) (h4 : t ≠ 133) (h5 : t ≠ 137) (h6 : u8ty t = false) (hx : Chg (fun k => k = q) w w') : BusC w' g O M n := by
  obtain ⟨B, hB⟩ := h
  have hb := hB.bus
  have no : ∀ {k : Nat} {cs2 : Array Value} {t2 : Nat} {f2 : Nat × Nat}, w.heap[k]? = some (Obj.cells cs2 t2 f2) → t2 ≠ t → ¬ k = q := fun hk ht e => by
    rw [e, hq] at hk; cases hk; exact ht rfl
  obtain ⟨_, c1, hp1, _⟩ := hb.ptrs
  obtain ⟨_, c2, hp2, _⟩ := hb.times
  obtain ⟨_, c3, hp3, _⟩ := hb.turns
  refine ⟨B, { hB with bus := { hb with bus := hx.blk hb.bus (no hb.bus h1.symm), ptrs := hb.ptrs.chg hx (no hp1 h2.symm), times := hb.times.chg hx (no hp2 h3.symm), turns := hb.turns.chg hx (no hp3 h3.symm), mem := fun m hm => ?_ } }⟩
  have hm' := hb.mem m hm
  obtain ⟨zc, hz⟩ := DevAt.zblk hm'
  exact DevAt.chg hm' hx (no hm'.dev h4.symm) (no hz h5.symm) (fun k cs2 fz e hk => ne_u8 hq hk h6 e.symm)
/-- What Load answers. -/
def Loaded (w : World) (l : List Int) (e : Ending) (w' : World) : Prop := Ext w w' ∧ ((∃ er, (er = 13 ∨ er = 14) ∧ e = .returned (.tuple #[.pointer none, Cf.zero.val, .int .i64 er]) ∧ (l = [] → er = 14)) ∨
  ∃ (c : Cf) (g : Nat) (O : Nat → Prop) (ms : List Pm), e = .returned (.tuple #[.pointer (some ⟨g, 0, none⟩), c.val, .int .i64 0]) ∧ c.check = 0 ∧ (ms.length : Int) = c.members ∧ (∀ m ∈ ms, (m.zs = [] ∨ (m.zs.length : Int) = c.all) ∧ ∀ z ∈ m.zs, z.Ok c) ∧ l = hb c ++ ms.flatMap mbp ∧
    (layR c ms (List.replicate ms.length (Dc.new c.all.toNat c.cap c.block c.limit), 0)).1 = 0 ∧ BusC w' g O (layR c ms (List.replicate ms.length (Dc.new c.all.toNat c.cap c.block c.limit), 0)).2.1 (layR c ms (List.replicate ms.length (Dc.new c.all.toNat c.cap c.block c.limit), 0)).2.2 ∧ (∀ k, O k → w.heap.size ≤ k))
def pNB (w : World) (members zones : Nat) (cap block limit : Int) : Pred := fun v u => ∃ g B, v = .tuple #[.pointer (some ⟨g, 0, none⟩), .int .i64 0] ∧ NewBus w u members zones cap block limit g B
def pNP (w : World) (members zones : Nat) (cap block limit : Int) : Pred := fun v u => ∃ g B, v = .pointer (some ⟨g, 0, none⟩) ∧ NewBus w u members zones cap block limit g B
def p00 : Pred := fun v _ => v = .int .i64 0
theorem load_c (p : Part) (w : World) (hp : PAt w p) (hB : IsB p.l) : Calls Tryz.prog 15 #[p.val] w (Loaded w p.l) := by
  refine J.enter Tryz.func15 rfl [] [.one (.v p.val)] 45 (known_nil w) ?_
  refine J.new 23 zCf [] (fun g3 hg3 _ => ?_)
  have fin : ∀ {u w1 : World} {cs : List C}, Ext w u → Rel [⟨g3, 23, cs⟩] u w1 → Ext w w1 := fun hx hr => hx.rel' hr (mem1 (.inl hg3))
  refine J.call Tryz.func41 [.one (.v p.val)] [⟨g3, 23, zCf⟩] (fun w1 hk1 hr1 => ?_)
  have hx1 := fin (.refl w) hr1
  refine (parse_c p w1 (hp.ext hx1) hB).mono ?_
  rintro e w2 ⟨hx, ⟨er, her, rfl, hnil⟩ | ⟨c, A, k, ms, rfl, hrow, hck, hmem, hms, hcon⟩⟩
  · have hk2 := hx.known hk1
    have hx2 := hx1.trans hx
    refine ⟨.tup [(true, zCf), (false, [.v (.slice none 0 0)]), (false, [.v (.int .i64 er)])], _, rfl, rfl, hk2, ?_⟩
    refine J.new 23 zCf [⟨g3, 23, zCf⟩] (fun g5 hg5 _ => ?_)
    refine J.brt (er != 0) (by rcases her with rfl | rfl <;> rfl) ?_
    refine J.ret (.tup [(false, [.v (.pointer none)]), (true, zCf), (false, [.v (.int .i64 er)])]) [⟨g3, 23, zCf⟩, ⟨g5, 23, zCf⟩] (fun w3 hk3 hr3 => ⟨hx2.rel' hr3 (mem2 (.inl hg3) (.inl (Nat.le_trans hx2.1 hg5))), .inl ⟨er, her, rfl, hnil⟩⟩)
  have hk2 := hx.known hk1
  have hx2 := hx1.trans hx
  have hF := cf_fits hck
  have hFm := hF.members; have hFb := hF.block; have hFa := hF.all2
  have hFa0 : 1 ≤ c.all := by have := hF.all; have := hF.mta; have := hF.zones; have := hF.spare; omega
  have hlim : 1 ≤ c.limit := by have := hF.limit; have := hF.active; have := hF.spare; have := hF.mta; omega
  refine ⟨.tup [(true, c.cs), (false, [.v (.slice A ms.length k)]), (false, [.v (.int .i64 0)])], _, rfl, rfl, hk2, ?_⟩
  refine J.new 23 zCf [⟨g3, 23, zCf⟩] (fun g5 hg5 _ => ?_)
  refine J.brf ((0 : Int) != 0) rfl ?_
  have hg5w := Nat.le_trans hx2.1 hg5
  obtain ⟨na, hna⟩ : ∃ na : Nat, c.all = (na : Int) := ⟨c.all.toNat, by omega⟩
  refine J.drwU (E := Ext) [] 16 [] [(3, .one (.v (.int .i64 c.all)))] [(10, pNB w2 ms.length na c.cap c.block c.limit), (11, pNB w2 ms.length na c.cap c.block c.limit), (12, pNP w2 ms.length na c.cap c.block c.limit), (13, p00), (14, pNP w2 ms.length na c.cap c.block c.limit), (15, p00)] [⟨g3, 23, zCf⟩, ⟨g5, 23, c.cs⟩] .exts
    (fun wb wc _ _ _ => .cons (Y.call Tryz.func23 [.agg c.cs] (fun u _ _ => all_c (c := c) u)) .nil) (fun _ _ _ => .nil)
    (fun wb hkb hrb => .cons (UAt.call Tryz.func42 [.one (.v (.int .i64 c.members)), .one (.v (.int .i64 c.all)), .one (.v (.int .i64 c.cap)), .one (.v (.int .i64 c.block)), .one (.v (.int .i64 c.limit))] (fun u hku hgu _ => by
      have hb := bnew_c ms.length na c.cap c.block c.limit u (by omega) (by rw [← hna]; exact new_okC hF hlim)
      have e1 : (([.one (.v (.int .i64 c.members)), .one (.v (.int .i64 c.all)), .one (.v (.int .i64 c.cap)), .one (.v (.int .i64 c.block)), .one (.v (.int .i64 c.limit))] : List SV).map (SV.den [⟨g3, 23, zCf⟩, ⟨g5, 23, c.cs⟩])).toArray = #[.int .i64 (ms.length : Int), .int .i64 (na : Int), .int .i64 c.cap, .int .i64 c.block, .int .i64 c.limit] := by rw [hmem, ← hna]; rfl
      rw [e1]
      refine hb.mono ?_
      rintro e u2 ⟨hxu, g, B, rfl, hNB⟩
      exact ⟨_, rfl, hxu, g, B, rfl, { hNB with news := fun k hk => Nat.le_trans (Nat.le_trans hrb.1 hgu.1) (hNB.news k hk), fresh := let ⟨g1, g2, g3, g4, a, b, c⟩ := hNB.fresh; ⟨g1, g2, g3, g4, a, b, fun x hx => ⟨Nat.le_trans (Nat.le_trans hrb.1 hgu.1) (c x hx).1, (c x hx).2⟩⟩ }⟩)) (fun v u1 u2 ⟨g, B, e, h⟩ hx => ⟨g, B, e, newBus_ext h hx⟩) trivial <|
      .cons (UAt.mvO 30 rfl) (fun v u1 u2 ⟨g, B, e, h⟩ hx => ⟨g, B, e, newBus_ext h hx⟩) trivial <|
      .cons (UAt.exO (pNB w2 ms.length na c.cap c.block c.limit) 19 0 rfl (fun v u ⟨g, B, e, h⟩ => ⟨_, _, e, rfl, g, B, rfl, h⟩)) (fun v u1 u2 ⟨g, B, e, h⟩ hx => ⟨g, B, e, newBus_ext h hx⟩) trivial <|
      .cons (UAt.exO (pNB w2 ms.length na c.cap c.block c.limit) 19 1 rfl (fun v u ⟨g, B, e, h⟩ => ⟨_, _, e, rfl, rfl⟩)) (fun v u1 u2 h hx => h) trivial <|
      .cons (UAt.mvO 31 rfl) (fun v u1 u2 ⟨g, B, e, h⟩ hx => ⟨g, B, e, newBus_ext h hx⟩) trivial <|
      .cons (UAt.mvO 32 rfl) (fun v u1 u2 h hx => h) trivial .nil) ?_
  rintro wb w3 hkb hrb hx3 hk3 v10 - v11 - v12 - v13 - v14 ⟨g, B, rfl, hNB⟩ v15 rfl
  show SX _ _ _ _ _
  have hx23 : Ext w2 w3 := (hk2.same2 (M := [⟨g5, 23, c.cs⟩]) hkb hrb (mem1 hg5)).trans hx3
  refine J.lit 35 ((0 : Int) != 0) false rfl ?_
  have hBC := hNB.con
  refine J.call Tryz.func43 [.one (.v (.pointer (some ⟨g, 0, none⟩))), .agg c.cs, .one (.v (.slice A ms.length k))] [⟨g3, 23, zCf⟩, ⟨g5, 23, c.cs⟩] (fun w4 hk4 hr4 => ?_)
  have hx34 := hk3.same hk4 hr4
  have hB4 := hBC.ext hx34
  have hzl : ∀ m ∈ ms, m.zs.length ≤ 64 := fun m hm => by
    rcases (hms m hm).1 with h | h
    · rw [h]; exact Nat.zero_le _
    · omega
  have hna2 : c.all.toNat = na := by omega
  refine (lay_c (c := c) w4 hB4 (by decide) ((hrow.ext hx23).ext hx34) (List.length_replicate ..) (by omega) hzl (fun m hm => (hms m hm).2) hFb).mono ?_
  rintro e w5 ⟨rfl, hB5, hc5⟩
  have hk5 : Known [⟨g3, 23, zCf⟩, ⟨g5, 23, c.cs⟩] w5 := known_bus (s := (List.replicate ms.length (Dc.new na c.cap c.block c.limit), 0)) hB4 hk4 hc5 rfl
  have hx4 := (hx2.trans hx23).trans hx34
  have hnews : ∀ k, B.own g k → w.heap.size ≤ k := fun k hk => Nat.le_trans hx2.1 (hNB.news k hk)
  have hx5 : Ext w w5 := (.mk2 (Nat.le_trans hx4.1 hc5.1) (fun k hk => (hc5.2 k (Nat.lt_of_lt_of_le hk hx4.1) (fun h => by have := hnews k h; omega)).trans (hx4.2 k hk)))
  generalize hlr : layR c ms (List.replicate ms.length (Dc.new na c.cap c.block c.limit), 0) = R at *
  refine ⟨.one (.v (.int .i64 R.1)), _, rfl, rfl, hk5, ?_⟩
  by_cases h0 : R.1 = 0
  rotate_left
  · refine J.brt (R.1 != 0) (by simp [h0]) ?_
    refine J.ret (.tup [(false, [.v (.pointer none)]), (true, zCf), (false, [.v (.int .i64 13)])]) [⟨g3, 23, zCf⟩, ⟨g5, 23, c.cs⟩] (fun w6 hk6 hr6 => ⟨hx5.rel' hr6 (mem2 (.inl hg3) (.inl hg5w)), .inl ⟨13, .inl rfl, rfl, fun h => ?_⟩⟩)
    rw [h] at hcon
    have := congrArg List.length hcon
    simp only [List.length_append, List.length_nil, hb, i8_len] at this
    omega
  refine J.brf (R.1 != 0) (by simp [h0]) ?_
  refine J.drw 3 [] [⟨g3, 23, zCf⟩, ⟨g5, 23, c.cs⟩] .nil ?_
  refine J.ret (.tup [(false, [.v (.pointer (some ⟨g, 0, none⟩))]), (true, c.cs), (false, [.v (.int .i64 0)])]) [⟨g3, 23, c.cs⟩, ⟨g5, 23, c.cs⟩] (fun w6 hk6 hr6 => ⟨hx5.rel' hr6 (mem2 (.inl hg3) (.inl hg5w)), .inr ⟨c, g, B.own g, ms, rfl, hck, hmem, hms, hcon, ?_, ?_, hnews⟩⟩)
  · rw [hna2, hlr]; exact h0
  · rw [hna2, hlr]
    have hc : Chg (fun k => k = g3) w5 w6 := hr6.chg' (mem2 (.inl rfl) (.inr (.inr ((hk6.get 1 rfl).trans (hk5.get 1 rfl).symm))))
    exact bus_away hB5 (hk5.get 0 rfl) (by show 23 ≠ _; decide) (by show 23 ≠ _; decide) (by show 23 ≠ _; decide) (by show 23 ≠ _; decide) (by show 23 ≠ _; decide) (by show u8ty 23 = false; kernel_rfl) hc
end Go.Proofs.YtlhmpmmblnbmbaaGreat.Img
set_option linter.unusedVariables false
set_option linter.unusedSimpArgs false
namespace Go.Proofs.YtlhmpmmblnbmbaaGreat.Img
open Go.Proofs.YtlhmpmmblnbmbaaGreat.Sx Go.Proofs.YtlhmpmmblnbmbaaGreat.Byt Go.Proofs.YtlhmpmmblnbmbaaGreat.Dev Go.Proofs.YtlhmpmmblnbmbaaGreat.Pck Go.Proofs.YtlhmpmmblnbmbaaGreat.Cnf Go.Proofs.YtlhmpmmblnbmbaaGreat.Bus Go.Lib
theorem set_same {α : Type} {l : List α} {i : Nat} {x : α} (h : l[i]? = some x) : l.set i x = l := by
  refine List.ext_getElem? fun k => ?_
  rw [List.getElem?_set]
  split
  · rename_i e; subst e
    rw [if_pos (List.getElem?_eq_some_iff.1 h).1, h]
  · rfl
theorem more_nil (x : Zc) : x.more [] = x := by unfold Zc.more; rw [List.append_nil]
/-- An act that, where it does not fail, makes of a zone f of it. -/
def Makes (c : Cf) (act : Nat → Nat → Pz → Sg → Int × Sg) (f : Pz → Zc → Zc) : Prop := ∀ (m j : Nat) (p : Pz) (s : Sg) (d : Dc) (x : Zc), p.Ok c → s.1[m]? = some d → d.zs[j]? = some x → (act m j p s).1 = 0 → (act m j p s).2.1 = s.1.set m { d with zs := d.zs.set j (f p x) }
theorem cA_ok {m j : Nat} {b : List Int} {s : Sg} {d : Dc} {x : Zc} (hd : s.1[m]? = some d) (hx : d.zs[j]? = some x) (h : (cA m (j : Int) b s).1 = 0) : (cA m (j : Int) b s).2.1 = s.1.set m { d with zs := d.zs.set j (x.more b) } := by
  unfold cA at h ⊢
  rw [hd] at h ⊢
  replace h : (d.append (j : Int) b).1 = 0 := h
  show s.1.set m (d.append (j : Int) b).2 = _
  congr 1
  unfold Dc.append at h ⊢
  rw [Int.toNat_natCast, hx] at h
  rw [Int.toNat_natCast, hx]
  by_cases h1 : d.right (j : Int) ≠ 0
  · rw [if_pos h1] at h; exact absurd h h1
  rw [if_neg h1] at h ⊢
  simp only at h ⊢
  by_cases h2 : x.appErr b.length ≠ 0
  · rw [if_pos h2] at h; exact absurd h h2
  rw [if_neg h2] at h ⊢
  by_cases h3 : ((x.more b).active && (!x.active && decide (d.used ≥ d.limit))) = true
  · rw [if_pos h3] at h; cases h
  · rw [if_neg h3]
theorem cFin_ok {m j : Nat} {s : Sg} {d : Dc} {x : Zc} (hd : s.1[m]? = some d) (hx : d.zs[j]? = some x) (h : (cFin m (j : Int) s).1 = 0) : (cFin m (j : Int) s).2.1 = s.1.set m { d with zs := d.zs.set j x.finish } := by
  unfold cFin at h ⊢
  rw [hd] at h ⊢
  replace h : (d.finish (j : Int)).1 = 0 := h
  show s.1.set m (d.finish (j : Int)).2 = _
  congr 1
  unfold Dc.finish at h ⊢
  by_cases h1 : d.right (j : Int) ≠ 0
  · rw [if_pos h1] at h; exact absurd h h1
  rw [if_neg h1] at h ⊢
  rw [Int.toNat_natCast, hx]
theorem wr_ok {m j : Nat} {b : List Int} {s : Sg} {d : Dc} {x : Zc} (hd : s.1[m]? = some d) (hx : d.zs[j]? = some x) (h : (wr m (j : Int) b s).1 = 0) : (wr m (j : Int) b s).2.1 = s.1.set m { d with zs := d.zs.set j (x.more b) } := by
  unfold wr at h ⊢
  split at h
  · rename_i hb
    rw [if_pos hb, hb, more_nil, set_same hx]
    exact (set_same hd).symm
  · rename_i hb
    rw [if_neg hb]
    exact cA_ok hd hx h
def fD (p : Pz) (x : Zc) : Zc := if p.done = false then x else (x.more p.t.l).finish
def fS (block : Int) (p : Pz) (x : Zc) : Zc := if p.done = true then x else x.more ((p.t.l.drop 0).take ((p.safe * block).toNat - 0))
def fR (block : Int) (p : Pz) (x : Zc) : Zc := if p.done = true then x else x.more ((p.t.l.drop (p.safe * block).toNat).take ((p.wp * block).toNat - (p.safe * block).toNat))
theorem actD_ok (c : Cf) : Makes c actD fD := fun m j p s d x hp hd hx h => by
  unfold actD at h ⊢
  unfold fD
  split at h
  · rename_i hn
    rw [if_pos hn, if_pos hn, set_same hx]
    exact (set_same hd).symm
  · rename_i hn
    rw [if_neg hn, if_neg hn]
    split at h
    · rename_i h1; exact absurd h h1
    · rename_i h1
      rw [if_neg h1]
      have h1' : (wr m (j : Int) p.t.l s).1 = 0 := by simpa using h1
      have h2 := wr_ok hd hx h1'
      have hml : m < s.1.length := (List.getElem?_eq_some_iff.1 hd).1
      have hjl : j < d.zs.length := (List.getElem?_eq_some_iff.1 hx).1
      rw [cFin_ok (d := { d with zs := d.zs.set j (x.more p.t.l) }) (x := x.more p.t.l) (by rw [h2, List.getElem?_set_self hml]) (List.getElem?_set_self hjl) h, h2, List.set_set]
      simp only [List.set_set]
theorem actS_ok (c : Cf) : Makes c (actS c.block) (fS c.block) := fun m j p s d x hp hd hx h => by
  unfold actS at h ⊢
  unfold fS
  split at h
  · rename_i hn
    rw [if_pos hn, if_pos hn, set_same hx]
    exact (set_same hd).symm
  · rename_i hn
    rw [if_neg hn, if_neg hn]
    exact wr_ok hd hx h
theorem actR_ok (c : Cf) : Makes c (actR c.block) (fR c.block) := fun m j p s d x hp hd hx h => by
  unfold actR at h ⊢
  unfold fR
  split at h
  · rename_i hn
    rw [if_pos hn, if_pos hn, set_same hx]
    exact (set_same hd).symm
  · rename_i hn
    rw [if_neg hn, if_neg hn]
    exact wr_ok hd hx h
theorem zonesR_ok {c : Cf} {act : Nat → Nat → Pz → Sg → Int × Sg} {f : Pz → Zc → Zc} (ha : Makes c act f) (m : Nat) : ∀ (zs : List Pz) (j : Nat) (s : Sg) (d : Dc), (∀ z ∈ zs, z.Ok c) → s.1[m]? = some d → d.zs.length = j + zs.length → (zonesR act m j zs s).1 = 0 → (zonesR act m j zs s).2.1 = s.1.set m { d with zs := d.zs.take j ++ List.zipWith f zs (d.zs.drop j) }
  | [], j, s, d, _, hd, hl, _ => by
    show s.1 = _
    rw [List.zipWith_nil_left, List.append_nil, List.take_of_length_le (by simpa using Nat.le_of_eq hl)]
    exact (set_same hd).symm
  | z :: r, j, s, d, hok, hd, hl, h => by
    rw [List.length_cons] at hl
    have hj : j < d.zs.length := by omega
    obtain ⟨x, hx⟩ : ∃ x, d.zs[j]? = some x := ⟨_, List.getElem?_eq_getElem hj⟩
    have hml : m < s.1.length := (List.getElem?_eq_some_iff.1 hd).1
    unfold zonesR at h ⊢
    by_cases h1 : (act m j z s).1 = 0
    · rw [if_neg (by simp [h1])] at h ⊢
      have h2 := ha m j z s d x (hok z (List.mem_cons_self ..)) hd hx h1
      have ih := zonesR_ok ha m r (j + 1) (act m j z s).2 { d with zs := d.zs.set j (f z x) } (fun y hy => hok y (List.mem_cons_of_mem _ hy)) (by rw [h2, List.getElem?_set_self hml]) (by simp only [List.length_set]; omega) h
      rw [ih, h2, List.set_set]
      congr 2
      have e1 : (d.zs.set j (f z x)).take (j + 1) = d.zs.take j ++ [f z x] := by
        rw [List.take_add_one, List.take_set_of_le (Nat.le_refl j), List.getElem?_set_self hj]; rfl
      have e2 : (d.zs.set j (f z x)).drop (j + 1) = d.zs.drop (j + 1) := List.drop_set_of_lt (Nat.lt_succ_self j)
      have e3 : d.zs.drop j = x :: d.zs.drop (j + 1) := by
        have h3 := List.drop_eq_getElem_cons hj
        rw [(List.getElem?_eq_some_iff.1 hx).2] at h3; exact h3
      simp only [e1, e2, e3, List.zipWith_cons_cons, List.append_assoc, List.singleton_append]
    · rw [if_pos h1] at h; exact absurd h h1
def updM (f : Pz → Zc → Zc) (p : Pm) (d : Dc) : Dc := if p.zs = [] then d else { d with zs := List.zipWith f p.zs d.zs }
theorem updM_len {f : Pz → Zc → Zc} {p : Pm} {d : Dc} (h : p.zs = [] ∨ p.zs.length = d.zs.length) : (updM f p d).zs.length = d.zs.length := by
  unfold updM
  split
  · rfl
  · rename_i hn
    rcases h with h | h
    · exact absurd h hn
    · rw [List.length_zipWith]; omega
theorem eachR_ok {c : Cf} {act : Nat → Nat → Pz → Sg → Int × Sg} {f : Pz → Zc → Zc} (ha : Makes c act f) : ∀ (ms : List Pm) (i : Nat) (s : Sg), (∀ m ∈ ms, ∀ z ∈ m.zs, z.Ok c) → s.1.length = i + ms.length → (∀ (k : Nat) (p : Pm) (d : Dc), ms[k]? = some p → s.1[i + k]? = some d → p.zs = [] ∨ p.zs.length = d.zs.length) → (eachR act i ms s).1 = 0 → (eachR act i ms s).2.1 = s.1.take i ++ List.zipWith (updM f) ms (s.1.drop i)
  | [], i, s, _, hl, _, _ => by
    show s.1 = _
    rw [List.zipWith_nil_left, List.append_nil, List.take_of_length_le (by simpa using Nat.le_of_eq hl)]
  | p :: r, i, s, hok, hl, hz, h => by
    rw [List.length_cons] at hl
    have hi : i < s.1.length := by omega
    obtain ⟨d, hd⟩ : ∃ d, s.1[i]? = some d := ⟨_, List.getElem?_eq_getElem hi⟩
    unfold eachR at h ⊢
    by_cases h1 : (zonesR act i 0 p.zs s).1 = 0
    · rw [if_neg (by simp [h1])] at h ⊢
      have h2 : (zonesR act i 0 p.zs s).2.1 = s.1.set i (updM f p d) := by
        unfold updM
        by_cases hp : p.zs = []
        · rw [if_pos hp, hp, set_same hd]; rfl
        · rw [if_neg hp]
          have hlen := (hz 0 p d rfl hd).resolve_left hp
          have := zonesR_ok ha i p.zs 0 s d (hok p (List.mem_cons_self ..)) hd (by omega) h1
          simpa using this
      have ih := eachR_ok ha r (i + 1) (zonesR act i 0 p.zs s).2 (fun m hm => hok m (List.mem_cons_of_mem _ hm)) (by rw [h2, List.length_set]; omega) (fun k q e hk he => by
        rw [h2, List.getElem?_set_ne (by omega), show i + 1 + k = i + (k + 1) by omega] at he
        exact hz (k + 1) q e hk he) h
      rw [ih, h2]
      have e1 : (s.1.set i (updM f p d)).take (i + 1) = s.1.take i ++ [updM f p d] := by
        rw [List.take_add_one, List.take_set_of_le (Nat.le_refl i), List.getElem?_set_self hi]; rfl
      have e2 : (s.1.set i (updM f p d)).drop (i + 1) = s.1.drop (i + 1) := List.drop_set_of_lt (Nat.lt_succ_self i)
      have e3 : s.1.drop i = d :: s.1.drop (i + 1) := by
        have h3 := List.drop_eq_getElem_cons hi
        rw [(List.getElem?_eq_some_iff.1 hd).2] at h3; exact h3
      simp only [e1, e2, e3, List.zipWith_cons_cons, List.append_assoc, List.singleton_append]
    · rw [if_pos h1] at h; exact absurd h h1
def flushD (d : Dc) : Dc := { d with zs := d.zs.map Zc.flush }
theorem flR_ok : ∀ (ms : List Pm) (i : Nat) (s : Sg), s.1.length = i + ms.length → (flR ms i s).1 = 0 → (flR ms i s).2.1 = s.1.take i ++ (s.1.drop i).map flushD
  | [], i, s, hl, _ => by
    show s.1 = _
    have hl : s.1.length = i := by simpa using hl
    rw [List.drop_of_length_le (by omega), List.map_nil, List.append_nil, List.take_of_length_le (by omega)]
  | p :: r, i, s, hl, h => by
    rw [List.length_cons] at hl
    have hi : i < s.1.length := by omega
    obtain ⟨d, hd⟩ : ∃ d, s.1[i]? = some d := ⟨_, List.getElem?_eq_getElem hi⟩
    unfold flR at h ⊢
    by_cases h1 : (cFl i s).1 = 0
    · rw [if_neg (by simp [h1])] at h ⊢
      have h2 : (cFl i s).2.1 = s.1.set i (flushD d) := by
        unfold cFl at h1 ⊢
        rw [hd] at h1 ⊢
        replace h1 : d.flush.1 = 0 := h1
        show s.1.set i d.flush.2 = _
        congr 1
        unfold Dc.flush at h1 ⊢
        split at h1
        · rename_i h3; exact absurd h1 h3
        · rename_i h3; rw [if_neg h3]; rfl
      have ih := flR_ok r (i + 1) (cFl i s).2 (by rw [h2, List.length_set]; omega) h
      rw [ih, h2]
      have e1 : (s.1.set i (flushD d)).take (i + 1) = s.1.take i ++ [flushD d] := by
        rw [List.take_add_one, List.take_set_of_le (Nat.le_refl i), List.getElem?_set_self hi]; rfl
      have e2 : (s.1.set i (flushD d)).drop (i + 1) = s.1.drop (i + 1) := List.drop_set_of_lt (Nat.lt_succ_self i)
      have e3 : s.1.drop i = d :: s.1.drop (i + 1) := by
        have h3 := List.drop_eq_getElem_cons hi
        rw [(List.getElem?_eq_some_iff.1 hd).2] at h3; exact h3
      simp only [e1, e2, e3, List.map_cons, List.append_assoc, List.singleton_append]
    · rw [if_pos h1] at h; exact absurd h h1
def killM (p : Pm) (d : Dc) : Dc := if p.zs = [] then { d with dead := true } else d
theorem kR_ok : ∀ (ms : List Pm) (i : Nat) (s : Sg), s.1.length = i + ms.length → (kR ms i s).1 = s.1.take i ++ List.zipWith killM ms (s.1.drop i) ∧ (kR ms i s).2 = s.2
  | [], i, s, hl => by
    have hl : s.1.length = i := by simpa using hl
    refine ⟨?_, rfl⟩
    show s.1 = _
    rw [List.zipWith_nil_left, List.append_nil, List.take_of_length_le (by omega)]
  | p :: r, i, s, hl => by
    rw [List.length_cons] at hl
    have hi : i < s.1.length := by omega
    obtain ⟨d, hd⟩ : ∃ d, s.1[i]? = some d := ⟨_, List.getElem?_eq_getElem hi⟩
    have h2 : (if p.zs = [] then cK i s else s) = (s.1.set i (killM p d), s.2) := by
      unfold killM
      split
      · unfold cK; rw [hd]
      · rw [set_same hd]
    unfold kR
    rw [h2]
    obtain ⟨ih, ih2⟩ := kR_ok r (i + 1) (s.1.set i (killM p d), s.2) (by show (s.1.set i (killM p d)).length = _; rw [List.length_set]; omega)
    refine ⟨?_, ih2⟩
    rw [ih]
    have e1 : (s.1.set i (killM p d)).take (i + 1) = s.1.take i ++ [killM p d] := by
      rw [List.take_add_one, List.take_set_of_le (Nat.le_refl i), List.getElem?_set_self hi]; rfl
    have e2 : (s.1.set i (killM p d)).drop (i + 1) = s.1.drop (i + 1) := List.drop_set_of_lt (Nat.lt_succ_self i)
    have e3 : s.1.drop i = d :: s.1.drop (i + 1) := by
      have h3 := List.drop_eq_getElem_cons hi
      rw [(List.getElem?_eq_some_iff.1 hd).2] at h3; exact h3
    simp only [e1, e2, e3, List.zipWith_cons_cons, List.append_assoc, List.singleton_append]
theorem zip_rep {α β γ : Type} (f : α → β → γ) (b : β) : ∀ (l : List α), List.zipWith f l (List.replicate l.length b) = l.map fun a => f a b
  | [] => rfl
  | a :: l => by rw [List.length_cons, List.replicate_succ, List.zipWith_cons_cons, zip_rep f b l, List.map_cons]
theorem zip_map {α β γ : Type} (f : α → β → γ) (g : α → β) : ∀ (l : List α), List.zipWith f l (l.map g) = l.map fun a => f a (g a)
  | [] => rfl
  | a :: l => by rw [List.map_cons, List.zipWith_cons_cons, zip_map f g l, List.map_cons]
/-- A member behind the laying. -/
def outM (c : Cf) (D0 : Dc) (p : Pm) : Dc := killM p (updM (fR c.block) p (flushD (updM (fS c.block) p (updM fD p D0))))
theorem layR_ok {c : Cf} {ms : List Pm} {D0 : Dc} (hok : ∀ m ∈ ms, ∀ z ∈ m.zs, z.Ok c) (hlen : ∀ m ∈ ms, m.zs = [] ∨ m.zs.length = D0.zs.length) (h : (layR c ms (List.replicate ms.length D0, 0)).1 = 0) : (layR c ms (List.replicate ms.length D0, 0)).2.1 = ms.map (outM c D0) := by
  unfold layR at h ⊢
  obtain ⟨s0, hs0⟩ : ∃ s0 : Sg, s0 = (List.replicate ms.length D0, 0) := ⟨_, rfl⟩
  rw [← hs0] at h ⊢
  have l0 : s0.1.length = ms.length := by rw [hs0]; exact List.length_replicate ..
  have key : ∀ (F : Pm → Dc), (∀ m ∈ ms, m.zs = [] ∨ m.zs.length = (F m).zs.length) → ∀ (s : Sg), s.1 = ms.map F → ∀ (k : Nat) (p : Pm) (d : Dc), ms[k]? = some p → s.1[0 + k]? = some d → p.zs = [] ∨ p.zs.length = d.zs.length := fun F hF s hs k p d hk hd => by
    rw [hs, Nat.zero_add, List.getElem?_map, hk] at hd
    cases hd
    exact hF p (List.mem_of_getElem? hk)
  have hF0 : s0.1 = ms.map (fun _ => D0) := by
    rw [hs0]
    exact List.map_const'.symm
  by_cases h1 : (eachR actD 0 ms s0).1 = 0
  rotate_left
  · rw [if_pos h1] at h; exact absurd h h1
  rw [if_neg (by simp [h1])] at h ⊢
  have r1 := eachR_ok (actD_ok c) ms 0 s0 hok (by omega) (key _ (fun m hm => hlen m hm) s0 hF0) h1
  rw [List.take_zero, List.drop_zero, List.nil_append, hF0, zip_map] at r1
  have len1 : ∀ m ∈ ms, m.zs = [] ∨ m.zs.length = (updM fD m D0).zs.length := fun m hm => (hlen m hm).imp id (fun e => by rw [updM_len (hlen m hm)]; exact e)
  generalize eachR actD 0 ms s0 = y1 at *
  by_cases h2 : (eachR (actS c.block) 0 ms y1.2).1 = 0
  rotate_left
  · rw [if_pos h2] at h; exact absurd h h2
  rw [if_neg (by simp [h2])] at h ⊢
  have r2 := eachR_ok (actS_ok c) ms 0 y1.2 hok (by rw [r1, List.length_map]; omega) (key _ len1 y1.2 r1) h2
  rw [List.take_zero, List.drop_zero, List.nil_append, r1, zip_map] at r2
  have len2 : ∀ m ∈ ms, m.zs = [] ∨ m.zs.length = (updM (fS c.block) m (updM fD m D0)).zs.length := fun m hm => (len1 m hm).imp id (fun e => by rw [updM_len (len1 m hm)]; exact e)
  generalize eachR (actS c.block) 0 ms y1.2 = y2 at *
  by_cases h3 : (flR ms 0 y2.2).1 = 0
  rotate_left
  · rw [if_pos h3] at h; exact absurd h h3
  rw [if_neg (by simp [h3])] at h ⊢
  have r3 := flR_ok ms 0 y2.2 (by rw [r2, List.length_map]; omega) h3
  rw [List.take_zero, List.drop_zero, List.nil_append, r2, List.map_map] at r3
  have len3 : ∀ m ∈ ms, m.zs = [] ∨ m.zs.length = (flushD (updM (fS c.block) m (updM fD m D0))).zs.length := fun m hm => (len2 m hm).imp id (fun e => by show _ = (List.map _ _).length; rw [List.length_map]; exact e)
  generalize flR ms 0 y2.2 = y3 at *
  by_cases h4 : (eachR (actR c.block) 0 ms y3.2).1 = 0
  rotate_left
  · rw [if_pos h4] at h; exact absurd h h4
  rw [if_neg (by simp [h4])] at h ⊢
  have r4 := eachR_ok (actR_ok c) ms 0 y3.2 hok (by rw [r3, List.length_map]; omega) (key (fun m => flushD (updM (fS c.block) m (updM fD m D0))) len3 y3.2 r3) h4
  rw [List.take_zero, List.drop_zero, List.nil_append, r3, zip_map] at r4
  generalize eachR (actR c.block) 0 ms y3.2 = y4 at *
  have r5 := (kR_ok ms 0 y4.2 (by rw [r4, List.length_map]; omega)).1
  rw [List.take_zero, List.drop_zero, List.nil_append, r4, zip_map] at r5
  show (kR ms 0 y4.2).1 = _
  rw [r5]; rfl
/-- A zone behind the laying. -/
def outZ (block : Int) (Z0 : Zc) (z : Pz) : Zc := fR block z ((fS block z (fD z Z0)).flush)
theorem outZ_zb {c : Cf} {z : Pz} (hz : z.Ok c) (hb : 1 ≤ c.block) {cap : Int} {Z0 : Zc} (h0 : Z0 = ⟨cap, c.block, [], 0, false⟩) : zb (outZ c.block Z0 z) = zbp z := by
  have q1 := hz.safe0; have q2 := hz.safe1; have q3 := hz.wp0; have q5 := hz.len
  have hmx : max c.block 1 = c.block := by omega
  have hs0 : 0 ≤ z.safe * c.block := Int.mul_nonneg q1 (by omega)
  have hw0 : z.safe * c.block ≤ z.wp * c.block := Int.mul_le_mul_of_nonneg_right q2 (by omega)
  obtain ⟨xs, hxs⟩ : ∃ xs : Nat, z.safe * c.block = (xs : Int) := ⟨(z.safe * c.block).toNat, by omega⟩
  obtain ⟨xw, hxw⟩ : ∃ xw : Nat, z.wp * c.block = (xw : Int) := ⟨(z.wp * c.block).toNat, by omega⟩
  have hl : z.t.l.length = xw := by omega
  have hwp : (xw : Int) / c.block = z.wp := by rw [← hxw]; exact Int.mul_ediv_cancel _ (by omega)
  have hsp : (xs : Int) / c.block = z.safe := by rw [← hxs]; exact Int.mul_ediv_cancel _ (by omega)
  unfold outZ fR fS fD
  subst h0
  by_cases hd : z.done = true
  · rw [if_pos hd, if_pos hd, if_neg (by simp [hd])]
    unfold zb zbp Zc.flush Zc.finish Zc.more Zc.wp
    simp only [List.nil_append, hmx, hl, hwp, hd]
    rw [hz.dn hd]
  · have hd' : z.done = false := by simpa using hd
    rw [if_neg hd, if_neg hd, if_pos hd', hxs, hxw]
    have e1 : (z.t.l.drop 0).take ((xs : Int).toNat - 0) ++ (z.t.l.drop (xs : Int).toNat).take ((xw : Int).toNat - (xs : Int).toNat) = z.t.l := by
      rw [List.drop_zero, Int.toNat_natCast, Int.toNat_natCast, Nat.sub_zero]
      rw [List.take_of_length_le (l := z.t.l.drop xs) (by rw [List.length_drop, hl]; exact Nat.le_refl _)]
      exact List.take_append_drop xs z.t.l
    have e2 : ((z.t.l.drop 0).take ((xs : Int).toNat - 0)).length = xs := by
      rw [List.length_take, List.length_drop, Int.toNat_natCast, hl]; omega
    unfold zb zbp Zc.flush Zc.more Zc.wp
    simp only [List.nil_append, e1, e2, hmx, hl, hwp, hsp, hd']
theorem outM_mb {c : Cf} {p : Pm} {D0 : Dc} {Z0 : Zc} {cap : Int} (hF : 1 ≤ c.block) (hz : ∀ z ∈ p.zs, z.Ok c) (hl : p.zs = [] ∨ p.zs.length = D0.zs.length) (hD : D0.dead = false) (hD2 : D0.zs = List.replicate D0.zs.length Z0) (h0 : Z0 = ⟨cap, c.block, [], 0, false⟩) : mb (outM c D0 p) = mbp p ∧ (outM c D0 p).zs.length = D0.zs.length := by
  unfold outM killM
  by_cases hp : p.zs = []
  · rw [if_pos hp]
    unfold mb mbp updM flushD
    simp [hp, b1]
  · rw [if_neg hp]
    have hlen := hl.resolve_left hp
    have e : (updM (fR c.block) p (flushD (updM (fS c.block) p (updM fD p D0)))) = { D0 with zs := p.zs.map (outZ c.block Z0) } := by
      unfold updM flushD
      rw [if_neg hp, if_neg hp, if_neg hp]
      simp only
      congr 1
      rw [hD2, ← hlen, zip_rep, zip_map, List.map_map, zip_map]
      rfl
    rw [e]
    refine ⟨?_, by show (p.zs.map _).length = _; rw [List.length_map]; exact hlen⟩
    unfold mb mbp
    rw [if_neg hp]
    simp only [hD]
    rw [if_neg (by simp)]
    congr 1
    rw [List.flatMap_map]
    have : ∀ (l : List Pz), (∀ z ∈ l, z.Ok c) → l.flatMap (fun a => zb (outZ c.block Z0 a)) = l.flatMap zbp := fun l => by
      induction l with
      | nil => intro _; rfl
      | cons y ys ih =>
        intro hy
        rw [List.flatMap_cons, List.flatMap_cons, ih (fun z hz => hy z (List.mem_cons_of_mem _ hz)), outZ_zb (hy y (List.mem_cons_self ..)) hF h0]
    exact this p.zs hz
theorem cK_cnt (m : Nat) (s : Sg) : (cK m s).2 ≤ s.2 + 1 := by
  unfold cK
  split
  · show s.2 ≤ s.2 + 1; omega
  · show s.2 ≤ s.2 + 1; omega
theorem zonesR_cnt {act : Nat → Nat → Pz → Sg → Int × Sg} (h : ∀ m z p s, (act m z p s).2.2 ≤ s.2 + 2) (m : Nat) : ∀ (l : List Pz) (j : Nat) (s : Sg), (zonesR act m j l s).2.2 ≤ s.2 + 2 * (l.length : Nat)
  | [], j, s => by show s.2 ≤ _; simp
  | z :: r, j, s => by
    unfold zonesR
    have h1 := h m j z s
    have h2 := zonesR_cnt h m r (j + 1) (act m j z s).2
    rw [List.length_cons]
    split <;> omega
theorem eachR_cnt {act : Nat → Nat → Pz → Sg → Int × Sg} (h : ∀ m z p s, (act m z p s).2.2 ≤ s.2 + 2) : ∀ (ms : List Pm) (i : Nat) (s : Sg), (∀ m ∈ ms, m.zs.length ≤ 64) → (eachR act i ms s).2.2 ≤ s.2 + 128 * (ms.length : Nat)
  | [], i, s, _ => by show s.2 ≤ _; simp
  | p :: r, i, s, hz => by
    unfold eachR
    have h1 := zonesR_cnt h i p.zs 0 s
    have h2 := eachR_cnt h r (i + 1) (zonesR act i 0 p.zs s).2 (fun m hm => hz m (List.mem_cons_of_mem _ hm))
    have h3 := hz p (List.mem_cons_self ..)
    rw [List.length_cons]
    split <;> omega
theorem flR_cnt : ∀ (ms : List Pm) (i : Nat) (s : Sg), (flR ms i s).2.2 ≤ s.2 + (ms.length : Nat)
  | [], i, s => by show s.2 ≤ _; simp
  | p :: r, i, s => by
    unfold flR
    have h1 := cFl_cnt i s
    have h2 := flR_cnt r (i + 1) (cFl i s).2
    rw [List.length_cons]
    split <;> omega
theorem kR_cnt : ∀ (ms : List Pm) (i : Nat) (s : Sg), (kR ms i s).2 ≤ s.2 + (ms.length : Nat)
  | [], i, s => by show s.2 ≤ _; simp
  | p :: r, i, s => by
    unfold kR
    have h1 := cK_cnt i s
    have h2 := kR_cnt r (i + 1) (if p.zs = [] then cK i s else s)
    rw [List.length_cons]
    by_cases hp : p.zs = []
    · rw [if_pos hp] at h2 ⊢; omega
    · rw [if_neg hp] at h2 ⊢; omega
/-- Laying gives few commands. -/
theorem layR_cnt {c : Cf} {ms : List Pm} {s : Sg} (hml : ms.length ≤ 16) (hz : ∀ m ∈ ms, m.zs.length ≤ 64) : (layR c ms s).2.2 ≤ s.2 + 8000 := by
  unfold layR
  have h1 := eachR_cnt (actD_cnt) ms 0 s hz
  generalize eachR actD 0 ms s = y1 at *
  have h2 := eachR_cnt (actS_cnt c.block) ms 0 y1.2 hz
  generalize eachR (actS c.block) 0 ms y1.2 = y2 at *
  have h3 := flR_cnt ms 0 y2.2
  generalize flR ms 0 y2.2 = y3 at *
  have h4 := eachR_cnt (actR_cnt c.block) ms 0 y3.2 hz
  generalize eachR (actR c.block) 0 ms y3.2 = y4 at *
  have h5 := kR_cnt ms 0 y4.2
  split
  · omega
  split
  · omega
  split
  · omega
  split
  · omega
  · show (kR ms 0 y4.2).2 ≤ _; omega
/-- What Load lays is dumped as the bytes that were loaded. -/
theorem laid_dump {c : Cf} {ms : List Pm} {l : List Int} (hck : c.check = 0) (hmem : (ms.length : Int) = c.members) (hms : ∀ m ∈ ms, (m.zs = [] ∨ (m.zs.length : Int) = c.all) ∧ ∀ z ∈ m.zs, z.Ok c) (hl : l = hb c ++ ms.flatMap mbp) (h : (layR c ms (List.replicate ms.length (Dc.new c.all.toNat c.cap c.block c.limit), 0)).1 = 0) :
    ∃ M n, layR c ms (List.replicate ms.length (Dc.new c.all.toNat c.cap c.block c.limit), 0) = (0, M, n) ∧ n ≤ 8000 ∧ (M.length : Int) = c.members ∧ (∀ d ∈ M, (d.zs.length : Int) = c.all) ∧ dumpL c M = l := by
  have hF := cf_fits hck
  have hFm := hF.members; have hFb := hF.block; have hFa := hF.all2; have hFc := hF.cap
  have hFa0 : 1 ≤ c.all := by have := hF.all; have := hF.mta; have := hF.zones; have := hF.spare; omega
  obtain ⟨na, hna⟩ : ∃ na : Nat, c.all = (na : Int) := ⟨c.all.toNat, by omega⟩
  have hna2 : c.all.toNat = na := by omega
  have hzl : ∀ m ∈ ms, m.zs.length ≤ 64 := fun m hm => by
    rcases (hms m hm).1 with h | h
    · rw [h]; exact Nat.zero_le _
    · omega
  obtain ⟨D0, hD0⟩ : ∃ D0, D0 = Dc.new c.all.toNat c.cap c.block c.limit := ⟨_, rfl⟩
  have hDz : D0.zs = List.replicate na (Zc.new c.cap c.block) := by rw [hD0, hna2]; rfl
  have hDl : D0.zs.length = na := by rw [hDz]; exact List.length_replicate ..
  rw [← hD0] at h ⊢
  have hlen : ∀ m ∈ ms, m.zs = [] ∨ m.zs.length = D0.zs.length := fun m hm => (hms m hm).1.imp id (fun e => by rw [hDl]; omega)
  have r := layR_ok (fun m hm => (hms m hm).2) hlen h
  have hcnt := layR_cnt (c := c) (s := (List.replicate ms.length D0, 0)) (by omega) hzl
  have hZ : Zc.new c.cap c.block = ⟨min (max c.cap 1) 4096, c.block, [], 0, false⟩ := by
    unfold Zc.new
    rw [show min (max c.block 1) 4096 = c.block by omega]
  have hout : ∀ m ∈ ms, mb (outM c D0 m) = mbp m ∧ (outM c D0 m).zs.length = D0.zs.length := fun m hm => outM_mb (Z0 := Zc.new c.cap c.block) (by omega) (hms m hm).2 (hlen m hm) (by rw [hD0]; rfl) (by rw [hDl]; exact hDz) hZ
  refine ⟨ms.map (outM c D0), (layR c ms (List.replicate ms.length D0, 0)).2.2, ?_, by simpa using hcnt, by rw [List.length_map]; exact hmem, fun d hd => ?_, ?_⟩
  · rw [← r]; exact Prod.ext h rfl
  · obtain ⟨m, hm, rfl⟩ := List.mem_map.1 hd
    rw [(hout m hm).2, hDl, hna]
  · rw [hl]
    unfold dumpL
    rw [List.flatMap_map]
    congr 1
    have : ∀ (x : List Pm), (∀ m ∈ x, m ∈ ms) → x.flatMap (fun a => mb (outM c D0 a)) = x.flatMap mbp := fun x => by
      induction x with
      | nil => intro _; rfl
      | cons y ys ih =>
        intro hy
        rw [List.flatMap_cons, List.flatMap_cons, ih (fun z hz => hy z (List.mem_cons_of_mem _ hz)), (hout y (hy y (List.mem_cons_self ..))).1]
    exact this ms (fun m hm => hm)
end Go.Proofs.YtlhmpmmblnbmbaaGreat.Img
set_option linter.unusedVariables false
set_option linter.unusedSimpArgs false
set_option maxRecDepth 100000
namespace Go.Proofs.YtlhmpmmblnbmbaaGreat.Img
open Go.Proofs.YtlhmpmmblnbmbaaGreat.Sx Go.Proofs.YtlhmpmmblnbmbaaGreat.Byt Go.Proofs.YtlhmpmmblnbmbaaGreat.Dev Go.Proofs.YtlhmpmmblnbmbaaGreat.Pck Go.Proofs.YtlhmpmmblnbmbaaGreat.Cnf Go.Proofs.YtlhmpmmblnbmbaaGreat.Bus Go.Lib
theorem code_c (n : Int) (w : World) : Calls Tryz.prog 8 #[.int .i64 n] w fun e w' => e = .returned (.int .i64 n) ∧ Ext w w' := by
  refine J.enter Tryz.func8 rfl [] [.one (.v (.int .i64 n))] 4 (known_nil w) ?_
  exact J.ret (.one (.v (.int .i64 n))) [] (fun w1 _ hr => ⟨rfl, hr.ext' (fun x hx => by cases hx)⟩)
/-- A bus for settings: N.Bus. -/
theorem nbus_c (c : Cf) (w : World) (hck : c.check = 0) : Calls Tryz.prog 27 #[c.val] w fun e w' => Ext w w' ∧ ∃ g B, e = .returned (.pointer (some ⟨g, 0, none⟩)) ∧ NewBus w w' c.members.toNat c.all.toNat c.cap c.block c.limit g B := by
  have hF := cf_fits hck
  have hFm := hF.members; have hFb := hF.block; have hFa := hF.all2
  have hFa0 : 1 ≤ c.all := by have := hF.all; have := hF.mta; have := hF.zones; have := hF.spare; omega
  have hlim : 1 ≤ c.limit := by have := hF.limit; have := hF.active; have := hF.spare; have := hF.mta; omega
  obtain ⟨na, hna⟩ : ∃ na : Nat, c.all = (na : Int) := ⟨c.all.toNat, by omega⟩
  obtain ⟨nm, hnm⟩ : ∃ nm : Nat, c.members = (nm : Int) := ⟨c.members.toNat, by omega⟩
  have e1 : c.all.toNat = na := by omega
  have e2 : c.members.toNat = nm := by omega
  rw [e1, e2]
  refine J.enter Tryz.func27 rfl [] [.agg c.cs] 20 (known_nil w) ?_
  refine J.new 23 c.cs [] (fun g1 hg1 _ => ?_)
  refine J.drwU (E := Ext) [] 16 [] [(3, .one (.v (.int .i64 c.all)))] [(10, pNB w nm na c.cap c.block c.limit), (11, pNB w nm na c.cap c.block c.limit), (12, pNP w nm na c.cap c.block c.limit), (13, p00), (14, pNP w nm na c.cap c.block c.limit), (15, p00)] [⟨g1, 23, c.cs⟩] .exts
    (fun wb wc _ _ _ => .cons (Y.call Tryz.func23 [.agg c.cs] (fun u _ _ => all_c (c := c) u)) .nil) (fun _ _ _ => .nil)
    (fun wb hkb hrb => .cons (UAt.call Tryz.func42 [.one (.v (.int .i64 c.members)), .one (.v (.int .i64 c.all)), .one (.v (.int .i64 c.cap)), .one (.v (.int .i64 c.block)), .one (.v (.int .i64 c.limit))] (fun u hku hgu _ => by
      have hb := bnew_c nm na c.cap c.block c.limit u (by omega) (by rw [← hna]; exact new_okC hF hlim)
      have e1 : (([.one (.v (.int .i64 c.members)), .one (.v (.int .i64 c.all)), .one (.v (.int .i64 c.cap)), .one (.v (.int .i64 c.block)), .one (.v (.int .i64 c.limit))] : List SV).map (SV.den [⟨g1, 23, c.cs⟩])).toArray = #[.int .i64 (nm : Int), .int .i64 (na : Int), .int .i64 c.cap, .int .i64 c.block, .int .i64 c.limit] := by rw [← hnm, ← hna]; rfl
      rw [e1]
      refine hb.mono ?_
      rintro e u2 ⟨hxu, g, B, rfl, hNB⟩
      exact ⟨_, rfl, hxu, g, B, rfl, { hNB with news := fun k hk => Nat.le_trans (Nat.le_trans hrb.1 hgu.1) (hNB.news k hk), fresh := let ⟨g1, g2, g3, g4, a, b, c⟩ := hNB.fresh; ⟨g1, g2, g3, g4, a, b, fun x hx => ⟨Nat.le_trans (Nat.le_trans hrb.1 hgu.1) (c x hx).1, (c x hx).2⟩⟩ }⟩)) (fun v u1 u2 ⟨g, B, e, h⟩ hx => ⟨g, B, e, newBus_ext h hx⟩) trivial <|
      .cons (UAt.mvO 16 rfl) (fun v u1 u2 ⟨g, B, e, h⟩ hx => ⟨g, B, e, newBus_ext h hx⟩) trivial <|
      .cons (UAt.exO (pNB w nm na c.cap c.block c.limit) 5 0 rfl (fun v u ⟨g, B, e, h⟩ => ⟨_, _, e, rfl, g, B, rfl, h⟩)) (fun v u1 u2 ⟨g, B, e, h⟩ hx => ⟨g, B, e, newBus_ext h hx⟩) trivial <|
      .cons (UAt.exO (pNB w nm na c.cap c.block c.limit) 5 1 rfl (fun v u ⟨g, B, e, h⟩ => ⟨_, _, e, rfl, rfl⟩)) (fun v u1 u2 h hx => h) trivial <|
      .cons (UAt.mvO 17 rfl) (fun v u1 u2 ⟨g, B, e, h⟩ hx => ⟨g, B, e, newBus_ext h hx⟩) trivial <|
      .cons (UAt.mvO 18 rfl) (fun v u1 u2 h hx => h) trivial .nil) ?_
  rintro wb w3 hkb hrb hx3 hk3 v10 - v11 - v12 - v13 - v14 ⟨g, B, rfl, hNB⟩ v15 rfl
  show SX _ _ _ _ _
  refine J.ret (.one (.v (.pointer (some ⟨g, 0, none⟩)))) [⟨g1, 23, c.cs⟩] (fun w4 hk4 hr4 => ?_)
  have hx34 : Ext w3 w4 := hr4.ext' (mem1 (.inr ((hk4.get 0 rfl).trans (hk3.get 0 rfl).symm)))
  have hxb : Ext w wb := hrb.ext' (mem1 (.inl hg1))
  exact ⟨(hxb.trans hx3).trans hx34, g, B, rfl, newBus_ext hNB hx34⟩
end Go.Proofs.YtlhmpmmblnbmbaaGreat.Img
set_option linter.unusedVariables false
set_option linter.unusedSimpArgs false
namespace Go.Proofs.YtlhmpmmblnbmbaaGreat.Sx
open Go.RowKit
def cmpAt (S : List (Nat × SV)) (o : Oper) : Option (BinOp × Nat × SV × SV) := match o.op with
  | .binOp op T x y _ => match opd S x, opd S y with
    | some a, some b => some (op, T, a, b)
    | _, _ => none
  | _ => none
def cmpOf (n : Nat) (s : St) : Option (BinOp × Nat × SV × SV) := (opAt n s).bind (cmpAt s.S)
section
variable {P : Program} {Q : Exit → Act → World → Prop} {tab : Tab} {n : Nat} {s : St} {w0 : World}
/-- Two values of any kind are set against each other. -/
theorem J.cmp [ht : Ok P tab] [hQ : RetOk Q] {op : BinOp} {T : Nat} {u v : SV} (b : Bool) (L : List Blk) (hg : ∀ x y w, (eqGuard op T x y (u.den L) (v.den L)).run P w = .ok () w) (hz : ∀ w, (binOp op T (u.den L) (v.den L)).run P w = .ok (.bool b) w) (hn : SX P Q n (ansK (go tab n s) (.one (.lit b)) L) w0)
    (h : cmpOf n (go tab n s) = some (op, T, u, v) := by kernel_rfl) (hL : (go tab n s).L = L := by kernel_rfl) : SX P Q n s w0 := by
  obtain ⟨o, ho, hh⟩ := Option.bind_eq_some_iff.1 h
  subst hL
  refine J.val (.one (.lit b)) ho (fun a w hS hK hR => ?_) hn
  unfold cmpAt at hh
  split at hh <;> try (cases hh; done)
  rename_i op' T' x y T2 hop
  split at hh <;> try (cases hh; done)
  rename_i u' v' hu hv
  cases hh
  have ex : a.eval x = u.den _ := opd_ok hS hu
  have ey : a.eval y = v.den _ := opd_ok hS hv
  unfold execOp
  simp only [hop, ex, ey, Sem.run_bind, hg, Result.andThen_ok, hz]
  rfl
/-- Two strings. -/
theorem J.seq [ht : Ok P tab] [hQ : RetOk Q] {T : Nat} {x y : ByteArray} (b : Bool) (L : List Blk) (hb : (x.toList == y.toList) = b) (hn : SX P Q n (ansK (go tab n s) (.one (.lit b)) L) w0)
    (h : cmpOf n (go tab n s) = some (.eql, T, .one (.v (.string x)), .one (.v (.string y))) := by kernel_rfl) (hL : (go tab n s).L = L := by kernel_rfl) : SX P Q n s w0 :=
  J.cmp b L (fun u v w => by show (eqGuard _ _ _ _ (.string x) (.string y)).run P w = _; simp [eqGuard, Sem.run_bind]) (fun w => by show (binOp .eql T (.string x) (.string y)).run P w = _; rw [binOp_string_eql, hb]; rfl) hn h hL
/-- A row of bytes as a string. -/
theorem J.str [ht : Ok P tab] [hQ : RetOk Q] {src dst e k c : Nat} {A : Option Addr} (x : ByteArray) (L : List Blk) (hs : P.underlying src = some (.slice e)) (he : P.underlying e = some (.int .u8)) (hd : P.underlying dst = some .string) (hx : ∀ w, Rel L w0 w → Known L w → (convert src dst (.slice A k c)).run P w = .ok (.string x) w) (hn : SX P Q n (ansK (go tab n s) (.one (.v (.string x))) L) w0)
    (h : cvOf n (go tab n s) = some (src, dst, .one (.v (.slice A k c))) := by kernel_rfl) (hL : (go tab n s).L = L := by kernel_rfl) : SX P Q n s w0 := by
  obtain ⟨o, ho, hh⟩ := Option.bind_eq_some_iff.1 h
  subst hL
  refine J.val (.one (.v (.string x))) ho (fun a w hS hK hR => ?_) hn
  unfold cvAt at hh
  split at hh <;> try (cases hh; done)
  rename_i s' d' x' hop
  obtain ⟨v, hv, e⟩ := Option.map_eq_some_iff.1 hh
  cases e
  have ex : a.eval x' = .slice A k c := opd_ok hS hv
  unfold execOp
  simp only [hop, ex, Sem.run_bind, hx w hR hK, Result.andThen_ok]
  rfl
end
end Go.Proofs.YtlhmpmmblnbmbaaGreat.Sx
set_option linter.unusedVariables false
set_option linter.unusedSimpArgs false
namespace Go.Proofs.YtlhmpmmblnbmbaaGreat.Sx
open Go.RowKit
theorem flat_len {α : Type} {f : α → List Value} {k : Nat} (hf : ∀ x, (f x).length = k) : ∀ l : List α, (l.flatMap f).length = l.length * k
  | [] => by simp
  | x :: r => by
    rw [List.flatMap_cons, List.length_append, hf, flat_len hf r, List.length_cons, Nat.add_mul, Nat.one_mul, Nat.add_comm]
theorem flat_get {α : Type} {f : α → List Value} {k : Nat} (hf : ∀ x, (f x).length = k) {i : Nat} (hi : i < k) : ∀ {l : List α} {j : Nat} {x : α}, l[j]? = some x → (l.flatMap f)[j * k + i]? = (f x)[i]?
  | [], j, x, h => by cases h
  | y :: r, 0, x, h => by
    cases h
    rw [List.flatMap_cons, Nat.zero_mul, Nat.zero_add, List.getElem?_append_left (by rw [hf]; exact hi)]
  | y :: r, j + 1, x, h => by
    rw [List.flatMap_cons, List.getElem?_append_right (by rw [hf, Nat.add_mul]; omega), hf, show (j + 1) * k + i - k = j * k + i by rw [Nat.add_mul]; omega]
    exact flat_get hf hi (l := r) h
/-- An element of a row of one's own. -/
theorem own_at {α : Type} {f : α → List Value} {w : World} {b e size : Nat} {v : Value} {l : List α} {j : Nat} {x : α} (h : w.ownsRow b e size v l.length (l.flatMap f)) (hf : ∀ x, (f x).length = size) (hj : l[j]? = some x) : ∃ g c, v = .slice (some ⟨g, 0, none⟩) l.length c ∧ b ≤ g ∧ (∃ cs, w.heap[g]? = some (Obj.cells cs e (0, 0))) ∧ LiesAt w ⟨g, 0 + j * size, none⟩ (f x) := by
  have hjl : j < l.length := (List.getElem?_eq_some_iff.1 hj).1
  rcases h.2 with ⟨_, h0⟩ | ⟨g, cap, cur, rfl, hb, hcur, h1, h2, h3, h4⟩
  · omega
  refine ⟨g, cap, rfl, hb, ⟨cur, hcur⟩, fun i u hu => ?_⟩
  have hi : i < size := by
    have := (List.getElem?_eq_some_iff.1 hu).1
    rw [hf] at this; exact this
  have hlt : j * size + i < l.length * size := by
    have : (j + 1) * size ≤ l.length * size := Nat.mul_le_mul_right _ hjl
    rw [Nat.add_mul] at this; omega
  have := flat_get hf hi hj
  rw [← h4, List.getElem?_take_of_lt hlt, Array.getElem?_toList, hu] at this
  rw [Addr.add_mid]
  unfold World.cell?
  rw [hcur, Nat.zero_add]; exact this
/-- A whole row is appended to a row of one's own. -/
theorem app_all {P : Program} {w : World} {b b2 e size n m : Nat} {v v2 : Value} {xs ys : List Value} (z : Value) (bytes T : Nat) (h : w.ownsRow b e size v n xs) (h2 : w.ownsRow b2 e size v2 m ys) (h1 : ∀ u ∈ ys, u.oneCell' = true) (hb : b ≤ w.heap.size) (hn : n + m ≤ maxLen) (hbytes : ((n + m) + (n + m) / 4 + 192) * bytes ≤ 281474976710656) (ty : Nat)
    (hT : P.underlying T = some (.slice e) := by kernel_rfl) (hinf : (P.info? e).map (fun i => (i.zero, i.size, i.bytes)) = some (some z, size, bytes) := by kernel_rfl) (hzs : z.cells.size = size := by kernel_rfl) (hsz : Nat.blt 0 size = true := by kernel_rfl) :
    ∃ A c w', (Builtin.append_ #[T, T] ty #[v, v2]).run P w = .ok (.slice A (n + m) c) w' ∧ w'.ownsRow b e size (.slice A (n + m) c) (n + m) (xs ++ ys) ∧ Chg (fun k => v.ownBlock = some k) w w' := by
  obtain ⟨inf, hi, hz⟩ := Option.map_eq_some_iff.1 hinf
  have hz1 : inf.zero = some z := congrArg Prod.fst hz
  have hz2 : inf.size = size := congrArg (fun x => x.2.1) hz
  have hz3 : inf.bytes = bytes := congrArg (fun x => x.2.2) hz
  rcases h2.2 with ⟨rfl, rfl⟩ | ⟨g, cap, cur, rfl, hg, hcur, hc1, hc2, hc3, hc4⟩
  · obtain ⟨A, c, rfl⟩ := owns_slice h
    have hy : ys = [] := List.length_eq_zero_iff.1 (by rw [h2.1, Nat.zero_mul])
    refine ⟨A, c, w, run_append_owned_none w b T ty e inf size hT hi _ n xs h, ?_, Chg.refl⟩
    rw [hy, List.append_nil]; exact h
  · obtain ⟨v', w', hr, hn', hgr, -⟩ := run_append_own_wide (P := P) w b T ty e inf z size bytes hT hi hz1 hz2 hz3 hzs (by simpa [Nat.blt_eq] using hsz) v n xs h ⟨g, 0, none⟩ m cap ys h2.1 (fun j u hu => by
      have hj : j < m * size := by
        have := (List.getElem?_eq_some_iff.1 hu).1
        rw [h2.1] at this; exact this
      rw [← hc4, List.getElem?_take_of_lt hj, Array.getElem?_toList] at hu
      rw [Addr.add_mid]
      unfold World.cell?
      rw [hcur, Nat.zero_add]; exact hu) h1 hn hbytes hb
    obtain ⟨A, c, rfl⟩ := owns_slice hn'
    exact ⟨A, c, w', hr, hn', .mk2 hgr.size (fun k hk hne => hgr.block k hk (fun e => hne e.symm))⟩
section
variable {P : Program} {Q : Exit → Act → World → Prop} {tab : Tab} {n : Nat} {s : St} {w0 : World}
/-- Two strings, one behind the other. -/
theorem J.cat [ht : Ok P tab] [hQ : RetOk Q] {T : Nat} {x y : ByteArray} (L : List Blk) (hb : x.size + y.size ≤ 9223372036854775807) (hn : SX P Q n (ansK (go tab n s) (.one (.v (.string (x ++ y)))) L) w0)
    (h : cmpOf n (go tab n s) = some (.add, T, .one (.v (.string x)), .one (.v (.string y))) := by kernel_rfl) (hL : (go tab n s).L = L := by kernel_rfl) : SX P Q n s w0 := by
  obtain ⟨o, ho, hh⟩ := Option.bind_eq_some_iff.1 h
  subst hL
  refine J.val (.one (.v (.string (x ++ y)))) ho (fun a w hS hK hR => ?_) hn
  unfold cmpAt at hh
  split at hh <;> try (cases hh; done)
  rename_i op' T' x' y' T2 hop
  split at hh <;> try (cases hh; done)
  rename_i u' v' hu hv
  cases hh
  have ex : a.eval x' = .string x := opd_ok hS hu
  have ey : a.eval y' = .string y := opd_ok hS hv
  unfold execOp
  simp only [hop, ex, ey, Sem.run_bind]
  rw [show (eqGuard .add T x' y' (.string x) (.string y)).run P w = .ok () w by simp [eqGuard]]
  simp only [Result.andThen_ok]
  rw [show (binOp .add T (.string x) (.string y)).run P w = .ok (.string (x ++ y)) w by rw [binOp_string_add]; exact run_string_add_sum w x y hb]
  rfl
/-- A string as bytes: a new block. -/
theorem J.s2b [ht : Ok P tab] [hQ : RetOk Q] (src dst e : Nat) (x : ByteArray) (L : List Blk) (hs : P.underlying src = some .string) (hd : P.underlying dst = some (.slice e)) (he : P.underlying e = some (.int .u8))
    (hn : ∀ w w' cap, Known L w → Rel L w0 w → Ext w w' → Known L w' → w'.heap[w.heap.size]? = some (Obj.cells (bytesRow x cap) e ((bytesRow x cap).size, (bytesRow x cap).size + 1)) → SX P Q n (ansK (go tab n s) (.one (.v (.slice (some ⟨w.heap.size, 0, none⟩) x.size cap))) L) w')
    (h : cvOf n (go tab n s) = some (src, dst, .one (.v (.string x))) := by kernel_rfl) (hL : (go tab n s).L = L := by kernel_rfl) : SX P Q n s w0 := by
  obtain ⟨o, ho, hh⟩ := Option.bind_eq_some_iff.1 h
  refine J.eff L ho (fun a w hS hK hR => ?_) hL
  unfold cvAt at hh
  split at hh <;> try (cases hh; done)
  rename_i s' d' x' hop
  obtain ⟨v, hv, e1⟩ := Option.map_eq_some_iff.1 hh
  cases e1
  have ex : a.eval x' = .string x := opd_ok hS hv
  have hx : Ext w (w.drew.alloc (.cells (bytesRow x (grownCap w x.size 0 e)) e ((bytesRow x (grownCap w x.size 0 e)).size, (bytesRow x (grownCap w x.size 0 e)).size + 1))) := (.mk2 (by simp) (fun k hk => lies_old w.drew _ k hk))
  refine ⟨.one (.v (.slice (some ⟨w.heap.size, 0, none⟩) x.size (grownCap w x.size 0 e))), _, ?_, hx.known hK, hn w _ _ hK hR hx (hx.known hK) (lies_new w.drew _)⟩
  unfold execOp
  simp only [hop, ex, Sem.run_bind, run_bytes_of_string w src dst e x hs hd he, Result.andThen_ok]
  rfl
end
end Go.Proofs.YtlhmpmmblnbmbaaGreat.Sx
set_option linter.unusedVariables false
set_option linter.unusedSimpArgs false
set_option maxRecDepth 100000
namespace Go.Proofs.YtlhmpmmblnbmbaaGreat.Doc
open Go.Proofs.YtlhmpmmblnbmbaaGreat.Sx Go.Proofs.YtlhmpmmblnbmbaaGreat.Byt Go.Proofs.YtlhmpmmblnbmbaaGreat.Pck Go.Proofs.YtlhmpmmblnbmbaaGreat.Bus Go.Lib
theorem str_run {w : World} {p : Part} (hp : PAt w p) : (convert 27 9 p.val).run Tryz.prog w = .ok (.string (strOfNums p.l)) w := by
  obtain ⟨A, n, c, l⟩ := p
  have h1 : l.length = n := hp.at_.1
  show (convert _ _ (.slice A n c)).run _ _ = _
  rw [run_convert_bytes_string w 27 9 5 A n c (by kernel_rfl) (by kernel_rfl) (by kernel_rfl)]
  show _ = Result.ok (Value.string (strOfNums l)) w
  rcases hp.at_.2 with h0 | ⟨g, o, cs, fz, hA, ⟨_, _, hg⟩, hc⟩
  · replace h0 : n = 0 := h0
    subst h0
    obtain rfl : l = [] := List.length_eq_zero_iff.1 h1
    cases A with
    | none => rfl
    | some a => exact run_bytesToString w a 0 c [] rfl
  · replace hA : A = some ⟨g, o, none⟩ := hA
    subst hA
    have := run_convert_bytes_arg (P := Tryz.prog) w 27 5 (by kernel_rfl) (by kernel_rfl) g o n c l h1 (fun i hi => by
      unfold World.cell?
      have hl : l[i]? = some (l.getD i 0) := by
        rw [List.getD_eq_getElem?_getD, List.getElem?_eq_getElem (by omega)]; rfl
      simp only [hg]
      exact hc i _ hl) 9 (by kernel_rfl)
    rw [run_convert_bytes_string w 27 9 5 _ n c (by kernel_rfl) (by kernel_rfl) (by kernel_rfl)] at this
    exact this
def sv (l : List Int) : Value := .string (strOfNums l)
def svs (l : List Int) : List Value := [sv l]
theorem svs_len (l : List Int) : (svs l).length = 1 := rfl
theorem svs_one (L : List (List Int)) : ∀ u ∈ L.flatMap svs, u.oneCell' = true := fun u hu => by
  obtain ⟨l, _, h⟩ := List.mem_flatMap.1 hu
  rw [List.mem_singleton.1 h]; rfl
/-- A zone of the document's, as its cells tell it. -/
structure Zr where
  cap : Int
  block : Int
  A : Option Addr
  c : Nat
  L : List (List Int)
  safe : Int
  done : Bool
def Zr.cs (z : Zr) : List C := [.v (.int .i64 z.cap), .v (.int .i64 z.block), .v (.slice z.A z.L.length z.c), .v (.int .i64 z.safe), .v (.bool z.done)]
def Zr.vs (z : Zr) : List Value := [.int .i64 z.cap, .int .i64 z.block, .slice z.A z.L.length z.c, .int .i64 z.safe, .bool z.done]
def Zr.val (z : Zr) : Value := .agg #[.int .i64 z.cap, .int .i64 z.block, .slice z.A z.L.length z.c, .int .i64 z.safe, .bool z.done]
theorem Zr.vs_len (z : Zr) : z.vs.length = 5 := rfl
theorem zrs_one (zs : List Zr) : ∀ u ∈ zs.flatMap Zr.vs, u.oneCell' = true := fun u hu => by
  obtain ⟨l, _, h⟩ := List.mem_flatMap.1 hu
  unfold Zr.vs at h
  simp only [List.mem_cons, List.not_mem_nil, or_false] at h
  rcases h with rfl | rfl | rfl | rfl | rfl <;> rfl
def Zr.zc (z : Zr) : Zc := ⟨z.cap, z.block, z.L.flatten, z.safe, z.done⟩
structure ZrAt (w : World) (z : Zr) : Prop where
  row : w.ownsRow 0 9 1 (.slice z.A z.L.length z.c) z.L.length (z.L.flatMap svs)
  cap0 : 1 ≤ z.cap
  cap1 : z.cap ≤ 4096
  blk0 : 1 ≤ z.block
  blk1 : z.block ≤ 4096
  len : (z.L.length : Int) ≤ z.cap
  blk : ∀ b ∈ z.L, (b.length : Int) = z.block
theorem ZrAt.ext {w w' : World} {z : Zr} (h : ZrAt w z) (hx : Ext w w') : ZrAt w' z := { h with row := ownsRow_ext h.row hx }
theorem flat_all {k : Nat} : ∀ {L : List (List Int)}, (∀ b ∈ L, b.length = k) → L.flatten.length = L.length * k
  | [], _ => by simp
  | b :: r, h => by
    rw [List.flatten_cons, List.length_append, h b List.mem_cons_self, flat_all (fun x hx => h x (List.mem_cons_of_mem _ hx)), List.length_cons, Nat.add_mul]; omega
theorem ZrAt.flat {w : World} {z : Zr} (h : ZrAt w z) : (z.L.flatten.length : Int) = z.L.length * z.block := by
  have := h.blk0
  have e := flat_all (k := z.block.toNat) (L := z.L) (fun b hb => by have := h.blk b hb; omega)
  rw [e, Int.natCast_mul, Int.toNat_of_nonneg (by omega)]
theorem ZrAt.wp {w : World} {z : Zr} (h : ZrAt w z) : z.zc.wp = z.L.length := by
  have := h.blk0
  unfold Zc.wp Zr.zc
  show (z.L.flatten.length : Int) / max z.block 1 = _
  rw [h.flat, show max z.block 1 = z.block by omega]
  exact Int.mul_ediv_cancel _ (by omega)
def Zr.act (z : Zr) : Bool := !z.done && (decide ((z.L.length : Int) > 0) && decide ((z.L.length : Int) < z.cap))
theorem ZrAt.active {w : World} {z : Zr} (h : ZrAt w z) : z.zc.active = z.act := by
  unfold Zc.active Zr.act
  rw [h.wp]; rfl
def Zr.flush (z : Zr) : Zr := { z with safe := z.L.length }
def Zr.finish (z : Zr) : Zr := { z with safe := z.L.length, done := true }
theorem ZrAt.flush {w : World} {z : Zr} (h : ZrAt w z) : ZrAt w z.flush := { h with }
theorem ZrAt.finish {w : World} {z : Zr} (h : ZrAt w z) : ZrAt w z.finish := { h with }
theorem ZrAt.flush_zc {w : World} {z : Zr} (h : ZrAt w z) : z.flush.zc = z.zc.flush := by
  unfold Zc.flush
  rw [h.wp]; rfl
theorem ZrAt.finish_zc {w : World} {z : Zr} (h : ZrAt w z) : z.finish.zc = z.zc.finish := by
  unfold Zc.finish
  rw [h.wp]; rfl
def Zr.new (cap block : Int) : Zr := ⟨min (max cap 1) 4096, min (max block 1) 4096, none, 0, [], 0, false⟩
theorem Zr.new_at {w : World} (cap block : Int) : ZrAt w (Zr.new cap block) := by
  refine ⟨⟨rfl, .inl ⟨rfl, rfl⟩⟩, ?_, ?_, ?_, ?_, ?_, fun b hb => (by cases hb)⟩ <;> simp only [Zr.new, List.length_nil] <;> omega
def zZr : List C := [.v (.int .i64 0), .v (.int .i64 0), .v (.slice none 0 0), .v (.int .i64 0), .v (.bool false)]
theorem held_c (n : Int) (w : World) : Calls Tryz.prog 95 #[.int .i64 n, .int .i64 4096] w fun e w' => e = .returned (.int .i64 (min (max n 1) 4096)) ∧ Ext w w' := by
  refine J.enter Tryz.func95 rfl [] [.one (.v (.int .i64 n)), .one (.v (.int .i64 4096))] 12 (known_nil w) ?_
  have fin : ∀ {w1 : World}, Rel [] w w1 → Ext w w1 := fun hr => hr.ext' (fun b hb => by cases hb)
  refine J.brd (n < 1) (fun h1 => ?_) (fun h1 => ?_)
  · exact J.ret (.one (.v (.int .i64 1))) [] (fun w1 _ hr => ⟨by rw [show min (max n 1) 4096 = (1 : Int) by omega]; rfl, fin hr⟩)
  refine J.brd (n > 4096) (fun h2 => ?_) (fun h2 => ?_)
  · exact J.ret (.one (.v (.int .i64 4096))) [] (fun w1 _ hr => ⟨by rw [show min (max n 1) 4096 = (4096 : Int) by omega]; rfl, fin hr⟩)
  · exact J.ret (.one (.v (.int .i64 n))) [] (fun w1 _ hr => ⟨by rw [show min (max n 1) 4096 = n by omega]; rfl, fin hr⟩)
theorem znew_c (cap block : Int) (w : World) : Calls Tryz.prog 55 #[.int .i64 cap, .int .i64 block] w fun e w' => e = .returned (Zr.new cap block).val ∧ Ext w w' := by
  refine J.enter Tryz.func55 rfl [] [.one (.v (.int .i64 cap)), .one (.v (.int .i64 block))] 10 (known_nil w) ?_
  refine J.new 78 zZr [] (fun g1 h1 _ => ?_)
  have fin : ∀ {u w1 : World} {c1 : List C}, Ext w u → Rel [⟨g1, 78, c1⟩] u w1 → Ext w w1 := fun hx hr => hx.rel' hr (mem1 (.inl h1))
  refine J.call Tryz.func95 [.one (.v (.int .i64 cap)), .one (.v (.int .i64 4096))] [⟨g1, 78, zZr⟩] (fun w1 hk1 hr1 => ?_)
  refine (held_c cap w1).mono ?_
  rintro e w2 ⟨rfl, hx⟩
  have hx2 := (fin (.refl w) hr1).trans hx
  refine ⟨.one (.v (.int .i64 (min (max cap 1) 4096))), _, rfl, rfl, hx.known hk1, ?_⟩
  refine J.call Tryz.func95 [.one (.v (.int .i64 block)), .one (.v (.int .i64 4096))] [⟨g1, 78, zZr⟩] (fun w3 hk3 hr3 => ?_)
  refine (held_c block w3).mono ?_
  rintro e w4 ⟨rfl, hx⟩
  have hx4 := (fin hx2 hr3).trans hx
  refine ⟨.one (.v (.int .i64 (min (max block 1) 4096))), _, rfl, rfl, hx.known hk3, ?_⟩
  exact J.ret (.agg (Zr.new cap block).cs) [⟨g1, 78, (Zr.new cap block).cs⟩] (fun w5 _ hr => ⟨rfl, fin hx4 hr⟩)
theorem zact_c (z : Zr) (w : World) : Calls Tryz.prog 61 #[z.val] w fun e w' => e = .returned (.bool z.act) ∧ Ext w w' := by
  refine J.enter Tryz.func61 rfl [] [.agg z.cs] 20 (known_nil w) ?_
  refine J.new 78 z.cs [] (fun g1 h1 _ => ?_)
  have fin : ∀ {w1 : World}, Rel [⟨g1, 78, z.cs⟩] w w1 → Ext w w1 := fun hr => hr.news (by simp; omega)
  by_cases hd : z.done = true
  · refine J.lit 6 (!z.done) false (by rw [hd]; rfl) ?_
    exact J.ret (.one (.lit false)) [⟨g1, 78, z.cs⟩] (fun w1 hk hr => ⟨by simp [SV.den, C.den, Zr.act, hd], fin hr⟩)
  refine J.lit 6 (!z.done) true (by simp [hd]) ?_
  by_cases h0 : (z.L.length : Int) > 0
  · refine J.lit 12 (decide ((z.L.length : Int) > 0)) true (decide_eq_true h0) ?_
    exact J.ret (.one (.v (.bool (decide ((z.L.length : Int) < z.cap))))) [⟨g1, 78, z.cs⟩] (fun w1 hk hr => ⟨by simp [SV.den, C.den, Zr.act, hd]; intro _; omega, fin hr⟩)
  · refine J.lit 12 (decide ((z.L.length : Int) > 0)) false (decide_eq_false h0) ?_
    exact J.ret (.one (.lit false)) [⟨g1, 78, z.cs⟩] (fun w1 hk hr => ⟨by simp [SV.den, C.den, Zr.act, hd]; omega, fin hr⟩)
theorem zflush_c (z : Zr) (w : World) : Calls Tryz.prog 66 #[z.val] w fun e w' => e = .returned z.flush.val ∧ Ext w w' := by
  refine J.enter Tryz.func66 rfl [] [.agg z.cs] 8 (known_nil w) ?_
  refine J.new 78 z.cs [] (fun g1 h1 _ => ?_)
  refine J.new 78 zZr [⟨g1, 78, z.cs⟩] (fun g2 h2 _ => ?_)
  exact J.ret (.agg z.flush.cs) [⟨g1, 78, z.flush.cs⟩, ⟨g2, 78, z.flush.cs⟩] (fun w3 _ hr3 => ⟨rfl, (Ext.refl w).rel' hr3 (mem2 (.inl h1) (.inl h2))⟩)
theorem zfin_c (z : Zr) (w : World) : Calls Tryz.prog 69 #[z.val] w fun e w' => e = .returned z.finish.val ∧ Ext w w' := by
  refine J.enter Tryz.func69 rfl [] [.agg z.cs] 9 (known_nil w) ?_
  refine J.new 78 z.cs [] (fun g1 h1 _ => ?_)
  refine J.new 78 zZr [⟨g1, 78, z.cs⟩] (fun g2 h2 _ => ?_)
  exact J.ret (.agg [.v (.int .i64 z.cap), .v (.int .i64 z.block), .v (.slice z.A z.L.length z.c), .v (.int .i64 z.L.length), .lit true]) [⟨g1, 78, [.v (.int .i64 z.cap), .v (.int .i64 z.block), .v (.slice z.A z.L.length z.c), .v (.int .i64 z.L.length), .lit true]⟩, ⟨g2, 78, [.v (.int .i64 z.cap), .v (.int .i64 z.block), .v (.slice z.A z.L.length z.c), .v (.int .i64 z.L.length), .lit true]⟩] (fun w3 _ hr3 => ⟨rfl, (Ext.refl w).rel' hr3 (mem2 (.inl h1) (.inl h2))⟩)
/-- The first j pieces of k bytes. -/
def chunks (k : Nat) (l : List Int) (j : Nat) : List (List Int) := (List.range j).map fun i => (l.drop (k * i)).take k
theorem chunks_len (k : Nat) (l : List Int) (j : Nat) : (chunks k l j).length = j := by simp [chunks]
theorem chunks_step (k : Nat) (l : List Int) (j : Nat) : chunks k l (j + 1) = chunks k l j ++ [(l.drop (k * j)).take k] := by simp [chunks, List.range_succ]
theorem chunks_flat {k : Nat} {l : List Int} : ∀ j, (chunks k l j).flatten = l.take (k * j)
  | 0 => by simp [chunks]
  | j + 1 => by
    rw [chunks_step, List.flatten_append, chunks_flat j, Nat.mul_add, Nat.mul_one, List.take_add]; simp
theorem chunks_each {k j : Nat} {l : List Int} (h : k * j ≤ l.length) : ∀ b ∈ chunks k l j, b.length = k := fun b hb => by
  obtain ⟨i, hi, rfl⟩ := List.mem_map.1 hb
  have hi := List.mem_range.1 hi
  have : k * (i + 1) ≤ k * j := Nat.mul_le_mul_left _ hi
  rw [Nat.mul_add] at this
  rw [List.length_take, List.length_drop]; omega
end Go.Proofs.YtlhmpmmblnbmbaaGreat.Doc
set_option linter.unusedVariables false
set_option linter.unusedSimpArgs false
set_option maxRecDepth 100000
namespace Go.Proofs.YtlhmpmmblnbmbaaGreat.Doc
open Go.Proofs.YtlhmpmmblnbmbaaGreat.Sx Go.Proofs.YtlhmpmmblnbmbaaGreat.Byt Go.Proofs.YtlhmpmmblnbmbaaGreat.Pck Go.Proofs.YtlhmpmmblnbmbaaGreat.Bus Go.Lib
def appR (w : World) (z : Zr) (l : List Int) (e : Ending) (w' : World) : Prop := ∃ z' : Zr, Ext w w' ∧ e = .returned (.tuple #[z'.val, .int .i64 (z.zc.appErr l.length)]) ∧ ZrAt w' z' ∧ z'.zc = (if z.zc.appErr l.length = 0 then z.zc.more l else z.zc)
structure AJ where
  j : Nat
  A : Option Addr
  c : Nat
theorem zapp_c (z : Zr) (b : Part) (w : World) (hz : ZrAt w z) (hb : PAt w b) (hbc : b.n ≤ b.c) : Calls Tryz.prog 60 #[z.val, b.val] w (appR w z b.l) := by
  have hlen := hb.len
  have hble := hb.le
  have hb0 := hz.blk0; have hb1 := hz.blk1; have hc0 := hz.cap0; have hc1 := hz.cap1; have hlc := hz.len
  have hmx : max z.block 1 = z.block := by omega
  refine J.enter Tryz.func60 rfl [] [.agg z.cs, .one (.v b.val)] 63 (known_nil w) ?_
  refine J.new 78 z.cs [] (fun g1 h1 _ => ?_)
  refine J.new 78 zZr [⟨g1, 78, z.cs⟩] (fun g2 h2 _ => ?_)
  have fin : ∀ {u w1 : World} {c1 c2 : List C}, Ext w u → Rel [⟨g1, 78, c1⟩, ⟨g2, 78, c2⟩] u w1 → Ext w w1 := fun hx hr => hx.rel' hr (mem2 (.inl h1) (.inl h2))
  have bad : ∀ {w1 : World} {c1 c2 : List C} (er : Int), z.zc.appErr b.l.length = er → er ≠ 0 → Rel [⟨g1, 78, c1⟩, ⟨g2, 78, c2⟩] w w1 → appR w z b.l (.returned (.tuple #[z.val, .int .i64 er])) w1 := fun er he h0 hr => by
    have hx := fin (.refl w) hr
    exact ⟨z, hx, by rw [he], hz.ext hx, by rw [he, if_neg h0]⟩
  by_cases c1 : b.n = 0
  · refine J.lit 11 ((b.n : Int) == 0) true (by simp [c1]) ?_
    have he : z.zc.appErr b.l.length = 3 := by unfold Zc.appErr; rw [if_pos (.inl (by omega))]
    exact J.ret (.tup [(true, z.cs), (false, [.v (.int .i64 3)])]) [⟨g1, 78, z.cs⟩, ⟨g2, 78, z.cs⟩] (fun w1 _ hr => bad 3 he (by decide) hr)
  refine J.lit 11 ((b.n : Int) == 0) false (by simp; omega) ?_
  refine J.ari ((b.n : Int) % z.block) (.rem (x := b.n) (y := z.block) (by omega) (by omega) rfl) ?_
  have hm0 := Int.emod_nonneg (b.n : Int) (b := z.block) (by omega)
  by_cases c2 : (b.n : Int) % z.block > 0
  · refine J.brt (decide ((b.n : Int) % z.block > 0)) (decide_eq_true c2) ?_
    have he : z.zc.appErr b.l.length = 3 := by
      unfold Zc.appErr
      rw [if_pos (.inr (by rw [hlen, show z.zc.block = z.block from rfl, hmx]; omega))]
    exact J.ret (.tup [(true, z.cs), (false, [.v (.int .i64 3)])]) [⟨g1, 78, z.cs⟩, ⟨g2, 78, z.cs⟩] (fun w1 _ hr => bad 3 he (by decide) hr)
  refine J.brf (decide ((b.n : Int) % z.block > 0)) (decide_eq_false c2) ?_
  have h3 : ¬ (b.l.length = 0 ∨ (b.l.length : Int) % max z.zc.block 1 ≠ 0) := by
    rw [hlen, show z.zc.block = z.block from rfl, hmx]; omega
  by_cases hd : z.done = true
  · refine J.drw 16 [(2, .one (.lit true))] [⟨g1, 78, z.cs⟩, ⟨g2, 78, zZr⟩] (.cons (Y.lit z.done hd) .nil) ?_
    have he : z.zc.appErr b.l.length = 6 := by unfold Zc.appErr; rw [if_neg h3, if_pos (.inl hd)]
    exact J.ret (.tup [(true, z.cs), (false, [.v (.int .i64 6)])]) [⟨g1, 78, z.cs⟩, ⟨g2, 78, z.cs⟩] (fun w1 _ hr => bad 6 he (by decide) hr)
  have hq0 : 0 ≤ (b.n : Int) / z.block := Int.ediv_nonneg (by omega) (by omega)
  have hq1 : (b.n : Int) / z.block ≤ b.n := Int.ediv_le_self _ (by omega)
  refine J.drw 16 [(2, .one (.lit false)), (10, .one (.v (.int .i64 ((b.n : Int) / z.block)))), (11, .one (.v (.int .i64 ((z.L.length : Int) + (b.n : Int) / z.block))))] [⟨g1, 78, z.cs⟩, ⟨g2, 78, zZr⟩] (.cons (Y.lit z.done (by simpa using hd)) <| .cons (Y.ari (.quo (x := b.n) (y := z.block) (by omega) (by omega) (by omega) rfl)) <| .cons (Y.ari (.add (x := z.L.length) (y := (b.n : Int) / z.block) rfl (by omega) (by omega))) .nil) ?_
  have hwp := hz.wp
  by_cases c3 : (z.L.length : Int) + (b.n : Int) / z.block > z.cap
  · refine J.brt (decide ((z.L.length : Int) + (b.n : Int) / z.block > z.cap)) (decide_eq_true c3) ?_
    have he : z.zc.appErr b.l.length = 6 := by
      unfold Zc.appErr
      rw [if_neg h3, if_pos (.inr (by rw [hlen, hwp, show z.zc.block = z.block from rfl, hmx, show z.zc.cap = z.cap from rfl]; omega))]
    exact J.ret (.tup [(true, z.cs), (false, [.v (.int .i64 6)])]) [⟨g1, 78, z.cs⟩, ⟨g2, 78, z.cs⟩] (fun w1 _ hr => bad 6 he (by decide) hr)
  refine J.brf (decide ((z.L.length : Int) + (b.n : Int) / z.block > z.cap)) (decide_eq_false c3) ?_
  have he : z.zc.appErr b.l.length = 0 := by
    unfold Zc.appErr
    rw [if_neg h3, if_neg (fun h => h.elim hd (fun h => by rw [hlen, hwp, show z.zc.block = z.block from rfl, hmx, show z.zc.cap = z.cap from rfl] at h; omega))]
  obtain ⟨k, hk⟩ : ∃ k : Nat, z.block = (k : Int) := ⟨z.block.toNat, by omega⟩
  have hk0 : 0 < k := by omega
  refine J.bslO 9 0 1 [] [] [⟨g1, 78, z.cs⟩, ⟨g2, 78, zZr⟩] (fun w1 w2 hk1 hr1 hk2 hx2 hb2 => ?_)
  have hx1 := fin (.refl w) hr1
  refine J.app 76 76 (.one (.v (.slice (some ⟨w1.heap.size, 0, none⟩) 0 0))) (.one (.v (.slice z.A z.L.length z.c))) [⟨g1, 78, z.cs⟩, ⟨g2, 78, zZr⟩] (fun ty w3 hk3 hr3 => ?_)
  have hx3 := fin (hx1.trans hx2) hr3
  have hx23 : Ext w2 w3 := hr3.ext' (mem2 (.inr ((hk3.get 0 rfl).trans (hk2.get 0 rfl).symm)) (.inr ((hk3.get 1 rfl).trans (hk2.get 1 rfl).symm)))
  have hown : w3.ownsRow w1.heap.size 9 1 (.slice (some ⟨w1.heap.size, 0, none⟩) 0 0) 0 [] := ⟨rfl, .inr ⟨w1.heap.size, 0, #[], rfl, Nat.le_refl _, hx23.blk hb2, Nat.le_refl _, Nat.zero_le _, rfl, rfl⟩⟩
  obtain ⟨A4, c4, w4, e1, e2, e3⟩ := app_all (P := Tryz.prog) (.string ⟨#[]⟩) 16 76 hown (ownsRow_ext hz.row hx3) (svs_one _) (Nat.le_trans hx2.1 hx23.1) (by simp only [maxLen]; omega) (by omega) ty
  rw [Nat.zero_add] at e1 e2
  rw [List.nil_append] at e2
  have hx4 : Ext w w4 := .mk2 (Nat.le_trans hx3.1 e3.1) (fun i hi => (e3.2 i (Nat.lt_of_lt_of_le hi hx3.1) (fun e => by have := hx1.1; have e : w1.heap.size = i := Option.some.inj e; omega)).trans (hx3.2 i hi))
  have hk4 : Known [⟨g1, 78, z.cs⟩, ⟨g2, 78, zZr⟩] w4 := Img.own_known hown hk3 e3 (mem2 (fun e => absurd e (by show ¬ 78 = 9; decide)) (fun e => absurd e (by show ¬ 78 = 9; decide)))
  refine ⟨.slice A4 z.L.length c4, w4, e1, hk4, ?_⟩
  refine J.loop (fun x : AJ => [(1, .one (.v b.val)), (2, .one (.ptr 0 0)), (4, .one (.ptr 1 0)), (6, .one (.v (.slice x.A (z.L.length + x.j) x.c))), (7, .one (.v (.int .i64 ((k * x.j : Nat) : Int))))]) (fun _ => [⟨g1, 78, z.cs⟩, ⟨g2, 78, zZr⟩])
    (fun x u => k * x.j ≤ b.n ∧ Ext w u ∧ u.ownsRow w.heap.size 9 1 (.slice x.A (z.L.length + x.j) x.c) (z.L.length + x.j) ((z.L ++ chunks k b.l x.j).flatMap svs)) (fun x => b.n - k * x.j) [] ⟨0, A4, c4⟩ (fun w5 hk5 hr5 => ?_) ?_
  · have hx5 := hr5.ext' (mem2 (.inr ((hk5.get 0 rfl).trans (hk4.get 0 rfl).symm)) (.inr ((hk5.get 1 rfl).trans (hk4.get 1 rfl).symm)))
    refine ⟨Nat.zero_le _, hx4.trans hx5, ?_⟩
    have := owns_base (ownsRow_ext e2 hx5) hx1.1
    rw [show z.L ++ chunks k b.l 0 = z.L by simp [chunks]]; exact this
  rintro q ⟨j, A, c⟩ w5 hq ⟨hj, hx5, hv⟩ hk5
  replace hj : k * j ≤ b.n := hj
  replace hv : w5.ownsRow w.heap.size 9 1 (.slice A (z.L.length + j) c) (z.L.length + j) ((z.L ++ chunks k b.l j).flatMap svs) := hv
  have hjn : j ≤ b.n := Nat.le_trans (Nat.le_mul_of_pos_left _ hk0) hj
  have same : ∀ {u w1 : World}, Known [⟨g1, 78, z.cs⟩, ⟨g2, 78, zZr⟩] u → Known [⟨g1, 78, z.cs⟩, ⟨g2, 78, zZr⟩] w1 → Rel [⟨g1, 78, z.cs⟩, ⟨g2, 78, zZr⟩] u w1 → Ext u w1 := fun h hk hr => hr.ext' (mem2 (.inr ((hk.get 0 rfl).trans (h.get 0 rfl).symm)) (.inr ((hk.get 1 rfl).trans (h.get 1 rfl).symm)))
  refine J.brd (((k * j : Nat) : Int) < (b.n : Int)) (fun h1 => ?_) (fun h1 => ?_)
  · have hmod : (b.n : Int) % (k : Int) = 0 := by rw [← hk]; omega
    have hj1 : k * (j + 1) ≤ b.n := by
      obtain ⟨m, hm⟩ : k ∣ b.n := by
        have : b.n % k = 0 := by omega
        exact Nat.dvd_of_mod_eq_zero this
      rw [hm] at h1 ⊢
      have : j < m := Nat.lt_of_mul_lt_mul_left (a := k) (by omega)
      exact Nat.mul_le_mul_left _ this
    have hstep : k * (j + 1) = k * j + k := by rw [Nat.mul_add, Nat.mul_one]
    refine J.ari ((k * (j + 1) : Nat) : Int) (.add (x := (k * j : Nat)) (y := z.block) (by omega) (by omega) (by omega)) ?_
    obtain ⟨A2, hA2⟩ : ∃ A2, A2 = (if b.c = k * j then b.A else b.A.map (·.add (k * j * 1))) := ⟨_, rfl⟩
    refine J.sl 27 b.A b.n b.c (some (.one (.v (.int .i64 ((k * j : Nat) : Int))))) (some (.one (.v (.int .i64 ((k * (j + 1) : Nat) : Int))))) none (k * j) (k * (j + 1)) b.c 1 (fun L w => by
      show (Instr.sliceBounds true b.n b.c (some (.int .i64 ((k * j : Nat) : Int))) (some (.int .i64 ((k * (j + 1) : Nat) : Int))) none).run _ w = _
      exact sb_lh (by omega) (by omega) w) (.slice A2 k (b.c - k * j)) (by unfold sliced; rw [← hA2, hstep, Nat.add_sub_cancel_left]) ?_
    have hsub : ∀ u, PAt u b → PAt u ⟨A2, k, b.c - k * j, (b.l.drop (k * j)).take k⟩ := fun u hu => by
      refine ⟨⟨by show ((b.l.drop (k * j)).take k).length = k; rw [List.length_take, List.length_drop, hlen]; omega, ?_⟩, fun h => ?_, by show k ≤ 1000000000; omega⟩
      · rcases hu.at_.2 with h9 | ⟨g, o, cs, fz, g1, g2, g3⟩
        · omega
        · refine .inr ⟨g, o + k * j * 1, cs, fz, ?_, g2, fun i x hx => ?_⟩
          · show A2 = _
            rw [hA2, if_neg (by omega), g1, Option.map_some, Addr.add_mid]
          · replace hx : ((b.l.drop (k * j)).take k)[i]? = some x := hx
            have hi : i < k := by
              have := (List.getElem?_eq_some_iff.1 hx).1
              rw [List.length_take] at this; omega
            rw [List.getElem?_take_of_lt hi, List.getElem?_drop] at hx
            have := g3 (k * j + i) x hx
            rw [show o + k * j * 1 + i = o + (k * j + i) by omega]; exact this
      · replace h : A2 = none := h
        show b.c - k * j = 0
        rw [hA2] at h
        split at h
        · omega
        · have := hu.nil (Option.map_eq_none_iff.1 h); omega
    refine J.str (strOfNums ((b.l.drop (k * j)).take k)) [⟨g1, 78, z.cs⟩, ⟨g2, 78, zZr⟩] (e := 5) (by kernel_rfl) (by kernel_rfl) (by kernel_rfl) (fun u hr hk => str_run (hsub u (hb.ext (hx5.trans (same hk5 hk hr))))) ?_
    refine J.bslO 9 1 1 [.string ⟨#[]⟩] [.v (sv ((b.l.drop (k * j)).take k))] [⟨g1, 78, z.cs⟩, ⟨g2, 78, zZr⟩] (fun w6 w7 hk6 hr6 hk7 hx7 hb7 => ?_)
    have hx57 := (same hk5 hk6 hr6).trans hx7
    refine J.app 76 76 (.one (.v (.slice A (z.L.length + j) c))) (.one (.v (.slice (some ⟨w6.heap.size, 0, none⟩) 1 1))) [⟨g1, 78, z.cs⟩, ⟨g2, 78, zZr⟩] (fun ty w8 hk8 hr8 => ?_)
    have hx78 := same hk7 hk8 hr8
    have hx58 := hx57.trans hx78
    have hv8 := ownsRow_ext hv hx58
    obtain ⟨A9, c9, w9, f1, f2, f3⟩ := app_one (P := Tryz.prog) (.string ⟨#[]⟩) 16 76 hv8 (hx78.blk hb7) rfl (fun u hu => by rw [List.mem_singleton.1 hu]; rfl) (hx5.trans hx58).1 (by simp only [maxLen]; omega) (by omega) ty
    have hk9 : Known [⟨g1, 78, z.cs⟩, ⟨g2, 78, zZr⟩] w9 := Img.own_known hv8 hk8 f3 (mem2 (fun e => absurd e (by show ¬ 78 = 9; decide)) (fun e => absurd e (by show ¬ 78 = 9; decide)))
    refine ⟨.slice A9 (z.L.length + j + 1) c9, w9, f1, hk9, ?_⟩
    have hx9 : Ext w w9 := by
      have hx8 := hx5.trans hx58
      refine .mk2 (Nat.le_trans hx8.1 f3.1) (fun i hi => (f3.2 i (Nat.lt_of_lt_of_le hi hx8.1) (fun e => ?_)).trans (hx8.2 i hi))
      obtain ⟨cs, _, hb⟩ := own_ty hv8 e
      omega
    refine J.ari ((k * (j + 1) : Nat) : Int) (.add (x := (k * j : Nat)) (y := z.block) (by omega) (by omega) (by omega)) ?_
    refine J.at (fun a u g1 g2 hk hr => hq ⟨j + 1, A9, c9⟩ a u g1 g2 hk ⟨hj1, hx9.trans (same hk9 hk hr), ?_⟩ (by show b.n - k * (j + 1) < b.n - k * j; omega))
    show u.ownsRow _ _ _ (.slice A9 (z.L.length + j + 1) c9) (z.L.length + j + 1) _
    rw [chunks_step, ← List.append_assoc, List.flatMap_append (xs := z.L ++ chunks k b.l j)]
    exact ownsRow_ext f2 (same hk9 hk hr)
  · have hjn2 : k * j = b.n := by omega
    have hjk : (z.L.length : Int) + j ≤ z.cap := by
      have : (b.n : Int) / z.block = j := by
        rw [hk, ← hjn2, Int.natCast_mul]
        exact Int.mul_ediv_cancel_left _ (by omega)
      omega
    have hzl : (z.L ++ chunks k b.l j).length = z.L.length + j := by rw [List.length_append, chunks_len]
    have e0 : ({ z with A := A, c := c, L := z.L ++ chunks k b.l j } : Zr).val = .agg #[.int .i64 z.cap, .int .i64 z.block, .slice A (z.L.length + j) c, .int .i64 z.safe, .bool z.done] := by
      unfold Zr.val
      show Value.agg #[.int .i64 z.cap, .int .i64 z.block, .slice A (z.L ++ chunks k b.l j).length c, .int .i64 z.safe, .bool z.done] = _
      rw [hzl]
    refine J.ret (.tup [(true, [.v (.int .i64 z.cap), .v (.int .i64 z.block), .v (.slice A (z.L.length + j) c), .v (.int .i64 z.safe), .v (.bool z.done)]), (false, [.v (.int .i64 0)])]) [⟨g1, 78, [.v (.int .i64 z.cap), .v (.int .i64 z.block), .v (.slice A (z.L.length + j) c), .v (.int .i64 z.safe), .v (.bool z.done)]⟩, ⟨g2, 78, [.v (.int .i64 z.cap), .v (.int .i64 z.block), .v (.slice A (z.L.length + j) c), .v (.int .i64 z.safe), .v (.bool z.done)]⟩] (fun w6 hk6 hr6 => ?_)
    refine ⟨{ z with A := A, c := c, L := z.L ++ chunks k b.l j }, fin hx5 hr6, by rw [e0, he]; rfl, ⟨?_, hc0, hc1, hb0, hb1, ?_, fun x hx => ?_⟩, ?_⟩
    · show w6.ownsRow 0 9 1 (.slice A (z.L ++ chunks k b.l j).length c) (z.L ++ chunks k b.l j).length _
      rw [hzl]
      refine owns_base (ownsRow_chg hv (hr6.chg' (S := fun i => i = g1 ∨ i = g2) (mem2 (.inl (.inl rfl)) (.inl (.inr rfl)))) (fun g hg hs => ?_)) (Nat.zero_le _)
      obtain ⟨cs, hb, _⟩ := own_ty hv hg
      rcases hs with rfl | rfl
      · exact ne_ty (hk5.get 0 rfl) hb (by show 78 ≠ 9; decide) rfl
      · exact ne_ty (hk5.get 1 rfl) hb (by show 78 ≠ 9; decide) rfl
    · show ((z.L ++ chunks k b.l j).length : Int) ≤ z.cap
      rw [hzl]; omega
    · rcases List.mem_append.1 hx with hx | hx
      · exact hz.blk x hx
      · have := chunks_each (by omega) x hx
        show (x.length : Int) = z.block
        omega
    · rw [he, if_pos rfl]
      unfold Zr.zc Zc.more
      congr 1
      show (z.L ++ chunks k b.l j).flatten = z.L.flatten ++ b.l
      rw [List.flatten_append, chunks_flat, hjn2, ← hlen, List.take_length]
end Go.Proofs.YtlhmpmmblnbmbaaGreat.Doc
set_option linter.unusedVariables false
set_option linter.unusedSimpArgs false
set_option maxRecDepth 100000
namespace Go.Proofs.YtlhmpmmblnbmbaaGreat.Doc
open Go.Proofs.YtlhmpmmblnbmbaaGreat.Sx Go.Proofs.YtlhmpmmblnbmbaaGreat.Byt Go.Proofs.YtlhmpmmblnbmbaaGreat.Pck Go.Proofs.YtlhmpmmblnbmbaaGreat.Bus Go.Lib
theorem putL_take {α : Type} {cur vs : List α} {o m : Nat} (h : o + vs.length ≤ m) (h2 : m ≤ cur.length) : (putL cur o vs).take m = putL (cur.take m) o vs := by
  refine List.ext_getElem? (fun i => ?_)
  by_cases hi : i < m
  · rw [List.getElem?_take_of_lt hi]
    by_cases h3 : o ≤ i ∧ i < o + vs.length
    · obtain ⟨r, rfl⟩ : ∃ r, i = o + r := ⟨i - o, by omega⟩
      rw [putL_in vs cur o r (by omega) (by omega), putL_in vs (cur.take m) o r (by rw [List.length_take]; omega) (by omega)]
    · rw [putL_out vs cur o i (by omega), putL_out vs (cur.take m) o i (by omega), List.getElem?_take_of_lt hi]
  · rw [List.getElem?_eq_none (by rw [List.length_take]; omega), List.getElem?_eq_none (by rw [putL_len, List.length_take]; omega)]
theorem putL_app {α : Type} (a : List α) : ∀ (vs l : List α) (o : Nat), putL (a ++ l) (a.length + o) vs = a ++ putL l o vs
  | [], _, _ => rfl
  | v :: r, l, o => by
    show putL ((a ++ l).set (a.length + o) v) (a.length + o + 1) r = a ++ putL (l.set o v) (o + 1) r
    rw [List.set_append_right _ _ (by omega), Nat.add_sub_cancel_left]
    exact putL_app a r _ (o + 1)
theorem flat_set {α : Type} {f : α → List Value} {k : Nat} (hf : ∀ x, (f x).length = k) (x : α) : ∀ {l : List α} {j : Nat}, j < l.length → putL (l.flatMap f) (j * k) (f x) = (l.set j x).flatMap f
  | [], j, h => by cases h
  | y :: r, 0, _ => by
    rw [putL_eq _ _ _ (by rw [List.flatMap_cons, List.length_append, hf, hf]; omega), Nat.zero_mul, List.take_zero, List.nil_append, Nat.zero_add, hf, List.flatMap_cons, List.set_cons_zero, List.flatMap_cons, List.drop_append_of_le_length (by rw [hf]; exact Nat.le_refl _), show (f y).drop k = [] from List.drop_eq_nil_iff.2 (by rw [hf]; exact Nat.le_refl _), List.nil_append]
  | y :: r, j + 1, h => by
    rw [List.set_cons_succ, List.flatMap_cons, List.flatMap_cons, ← flat_set hf x (l := r) (Nat.lt_of_succ_lt_succ h), show (j + 1) * k = (f y).length + j * k by rw [hf, Nat.add_mul]; omega]
    exact putL_app _ _ _ _
/-- The row behind an own row's value. -/
theorem own_open {w : World} {b e size n : Nat} {v : Value} {xs : List Value} (h : w.ownsRow b e size v n xs) (h0 : 0 < n) : ∃ (g c : Nat) (cur : List Value), v = .slice (some ⟨g, 0, none⟩) n c ∧ b ≤ g ∧ w.heap[g]? = some (Obj.cells cur.toArray e (0, 0)) ∧ n ≤ c ∧ c ≤ maxLen ∧ cur.length = c * size ∧ cur.take (n * size) = xs := by
  rcases h.2 with ⟨_, h1⟩ | ⟨g, c, cur, rfl, hb, hc, h1, h2, h3, h4⟩
  · omega
  · exact ⟨g, c, cur.toList, rfl, hb, by simpa using hc, h1, h2, by simpa using h3, h4⟩
theorem own_close {α : Type} {f : α → List Value} {w' : World} {b e size g c j : Nat} {l : List α} {x : α} {cur : List Value} (hf : ∀ x, (f x).length = size) (hb : b ≤ g) (h1 : l.length ≤ c) (h2 : c ≤ maxLen) (h3 : cur.length = c * size) (h4 : cur.take (l.length * size) = l.flatMap f) (hj : j < l.length) (hn : w'.heap[g]? = some (Obj.cells (putL cur (0 + j * size) (f x)).toArray e (0, 0))) : w'.ownsRow b e size (.slice (some ⟨g, 0, none⟩) l.length c) l.length ((l.set j x).flatMap f) := by
  refine ⟨by rw [flat_len hf, List.length_set], .inr ⟨g, c, _, rfl, hb, hn, h1, h2, by rw [List.size_toArray, putL_len, h3], ?_⟩⟩
  have hle : (j + 1) * size ≤ l.length * size := Nat.mul_le_mul_right _ hj
  have hle2 : l.length * size ≤ c * size := Nat.mul_le_mul_right _ h1
  rw [Nat.add_mul] at hle
  show (putL cur (0 + j * size) (f x)).take (l.length * size) = _
  rw [putL_take (by rw [hf]; omega) (by omega), h4, Nat.zero_add, flat_set hf x hj]
/-- A device of the document's, as its cells tell it. -/
structure Dr where
  g : Nat
  c : Nat
  zs : List Zr
  limit : Int
  lost : Bool
  bad : Int
def Dr.cs (d : Dr) : List C := [.v (.slice (some ⟨d.g, 0, none⟩) d.zs.length d.c), .v (.int .i64 d.limit), .v (.bool d.lost), .v (.int .i64 d.bad)]
def Dr.vs (d : Dr) : List Value := [.slice (some ⟨d.g, 0, none⟩) d.zs.length d.c, .int .i64 d.limit, .bool d.lost, .int .i64 d.bad]
def Dr.val (d : Dr) : Value := .agg #[.slice (some ⟨d.g, 0, none⟩) d.zs.length d.c, .int .i64 d.limit, .bool d.lost, .int .i64 d.bad]
theorem Dr.vs_len (d : Dr) : d.vs.length = 4 := rfl
def Dr.dc (d : Dr) : Dc := ⟨d.zs.map Zr.zc, d.limit, d.lost⟩
structure DrAt (w : World) (d : Dr) : Prop where
  row : w.ownsRow 0 78 5 (.slice (some ⟨d.g, 0, none⟩) d.zs.length d.c) d.zs.length (d.zs.flatMap Zr.vs)
  each : ∀ z ∈ d.zs, ZrAt w z
  most : d.zs.length ≤ 64
theorem DrAt.ext {w w' : World} {d : Dr} (h : DrAt w d) (hx : Ext w w') : DrAt w' d := ⟨ownsRow_ext h.row hx, fun z hz => (h.each z hz).ext hx, h.most⟩
theorem DrAt.lies {w : World} {d : Dr} (h : DrAt w d) {j : Nat} {z : Zr} (hj : d.zs[j]? = some z) : LiesAt w ⟨d.g, 0 + j * 5, none⟩ z.vs := by
  obtain ⟨g, c, e, _, _, hl⟩ := own_at h.row Zr.vs_len hj
  cases e; exact hl
def dcnt (d : Dr) (i : Nat) : Nat := if d.lost = true then 0 else (d.zs.take i).countP Zr.act
theorem dcnt_le (d : Dr) (i : Nat) : dcnt d i ≤ i := by
  unfold dcnt
  split
  · omega
  · exact Nat.le_trans List.countP_le_length (by rw [List.length_take]; omega)
theorem dcnt_step {d : Dr} {i : Nat} {z : Zr} (h : d.zs[i]? = some z) : dcnt d (i + 1) = if (z.act && !d.lost) = true then dcnt d i + 1 else dcnt d i := by
  unfold dcnt
  rw [List.take_add_one, h, List.countP_append]
  cases hz : z.act <;> cases hl : d.lost <;> simp [hz]
theorem DrAt.used {w : World} {d : Dr} (h : DrAt w d) : d.dc.used = (dcnt d d.zs.length : Nat) := by
  unfold Dc.used dcnt Dr.dc
  show (if d.lost = true then (0 : Int) else _) = _
  cases hl : d.lost
  · simp only [Bool.false_eq_true, if_false]
    rw [List.take_length, List.countP_map]
    congr 1
    exact List.countP_congr (fun z hz => by rw [Function.comp_apply, (h.each z hz).active])
  · rfl
def zDr : List C := [.v (.slice none 0 0), .v (.int .i64 0), .v (.bool false), .v (.int .i64 0)]
theorem dact_c (d : Dr) (w : World) (h : DrAt w d) : Calls Tryz.prog 62 #[d.val] w fun e w' => e = .returned (.int .i64 d.dc.used) ∧ Ext w w' := by
  rw [h.used]
  have hmost := h.most
  refine J.enter Tryz.func62 rfl [] [.agg d.cs] 26 (known_nil w) ?_
  refine J.new 61 d.cs [] (fun g1 h1 _ => ?_)
  have fin : ∀ {u w1 : World} {c1 : List C}, Ext w u → Rel [⟨g1, 61, c1⟩] u w1 → Ext w w1 := fun hx hr => hx.rel' hr (mem1 (.inl h1))
  refine J.loop (fun i : Nat => [(1, .one (.ptr 0 0)), (3, .one (.v (.int .i64 (dcnt d i : Nat)))), (4, .one (.v (.int .i64 (i : Nat))))]) (fun _ => [⟨g1, 61, d.cs⟩]) (fun i u => i ≤ d.zs.length ∧ Ext w u) (fun i => d.zs.length - i) [] 0 (fun w3 hk3 hr3 => ⟨Nat.zero_le _, fin (.refl w) hr3⟩) ?_ (hT := by
    show _ = [_, some (SV.one (.v (.int .i64 ((dcnt d 0 : Nat) : Int)))), _]
    rw [show dcnt d 0 = 0 by unfold dcnt; simp]
    kernel_rfl)
  intro p i w3 hp ⟨hi, hx3⟩ hk3
  have hdl := dcnt_le d i
  refine J.brd ((i : Int) < (d.zs.length : Int)) (fun h1 => ?_) (fun h1 => ?_)
  · have hj : i < d.zs.length := by omega
    have hjz := List.getElem?_eq_getElem hj
    generalize hz : d.zs[i] = z at hjz
    have hstep := dcnt_step hjz
    refine J.ix d.g 0 d.zs.length d.c 5 i rfl hj ?_
    refine J.ld 78 ⟨d.g, 0 + i * 5, none⟩ (.agg z.cs) [⟨g1, 61, d.cs⟩] (fun w4 hk4 hr4 => (h.ext (fin hx3 hr4)).lies hjz) ?_
    refine J.call Tryz.func61 [.agg z.cs] [⟨g1, 61, d.cs⟩] (fun w4 hk4 hr4 => ?_)
    have hx4 := fin hx3 hr4
    refine (zact_c z w4).mono ?_
    rintro e w5 ⟨rfl, hx⟩
    have hx5 := hx4.trans hx
    refine ⟨.one (.v (.bool z.act)), _, rfl, rfl, hx.known hk4, ?_⟩
    have next : ∀ {u : World}, Rel [⟨g1, 61, d.cs⟩] w5 u → i + 1 ≤ d.zs.length ∧ Ext w u := fun hr => ⟨hj, fin hx5 hr⟩
    cases ha : z.act
    · refine J.lit 18 false false rfl ?_
      have e1 : dcnt d (i + 1) = dcnt d i := by rw [hstep, ha]; simp
      refine J.ari ((i + 1 : Nat) : Int) (.add (x := i) (y := 1) (by omega) (by omega) (by omega)) ?_
      rw [← e1]
      exact J.at (fun a u g1 g2 hk hr => hp (i + 1) a u g1 g2 hk (next hr) (by show d.zs.length - (i + 1) < d.zs.length - i; omega))
    · refine J.lit 18 true true rfl ?_
      cases hl : d.lost
      · refine J.brt (!d.lost) (by rw [hl]; rfl) ?_
        have e1 : dcnt d (i + 1) = dcnt d i + 1 := by rw [hstep, ha, hl]; simp
        refine J.ari ((dcnt d (i + 1) : Nat) : Int) (.add (x := (dcnt d i : Nat)) (y := 1) (by omega) (by omega) (by omega)) ?_
        refine J.ari ((i + 1 : Nat) : Int) (.add (x := i) (y := 1) (by omega) (by omega) (by omega)) ?_
        exact J.at (fun a u g1 g2 hk hr => hp (i + 1) a u g1 g2 hk (next hr) (by show d.zs.length - (i + 1) < d.zs.length - i; omega))
      · refine J.brf (!d.lost) (by rw [hl]; rfl) ?_
        have e1 : dcnt d (i + 1) = dcnt d i := by rw [hstep, ha, hl]; simp
        refine J.ari ((i + 1 : Nat) : Int) (.add (x := i) (y := 1) (by omega) (by omega) (by omega)) ?_
        rw [← e1]
        exact J.at (fun a u g1 g2 hk hr => hp (i + 1) a u g1 g2 hk (next hr) (by show d.zs.length - (i + 1) < d.zs.length - i; omega))
  · have : i = d.zs.length := by omega
    subst this
    exact J.ret (.one (.v (.int .i64 (dcnt d d.zs.length : Nat)))) [⟨g1, 61, d.cs⟩] (fun w4 hk4 hr4 => ⟨rfl, fin hx3 hr4⟩)
end Go.Proofs.YtlhmpmmblnbmbaaGreat.Doc
set_option linter.unusedVariables false
set_option linter.unusedSimpArgs false
set_option maxRecDepth 100000
namespace Go.Proofs.YtlhmpmmblnbmbaaGreat.Doc
open Go.Proofs.YtlhmpmmblnbmbaaGreat.Sx Go.Proofs.YtlhmpmmblnbmbaaGreat.Byt Go.Proofs.YtlhmpmmblnbmbaaGreat.Pck Go.Proofs.YtlhmpmmblnbmbaaGreat.Bus Go.Lib
theorem ext_chg {w u v : World} {S : Nat → Prop} (hx : Ext w u) (hc : Chg S u v) (hS : ∀ k, S k → w.heap.size ≤ k) : Ext w v := .mk2 (Nat.le_trans hx.1 hc.1) (fun k hk => (hc.2 k (Nat.lt_of_lt_of_le hk hx.1) (fun h => by have := hS k h; omega)).trans (hx.2 k hk))
def Dr.may (d : Dr) (z : Int) : Dr := if d.dc.right z = 2 then { d with bad := IntKind.i64.wrap (d.bad + 1) } else d
theorem may_dc (d : Dr) (z : Int) : (d.may z).dc = d.dc := by unfold Dr.may; split <;> rfl
theorem DrAt.bad {w : World} {d : Dr} (h : DrAt w d) (n : Int) : DrAt w { d with bad := n } := ⟨h.row, h.each, h.most⟩
theorem may_at {w : World} {d : Dr} (h : DrAt w d) (z : Int) : DrAt w (d.may z) := by
  unfold Dr.may; split
  · exact h.bad _
  · exact h
theorem dmay_c (d : Dr) (z : Int) (w : World) : Calls Tryz.prog 59 #[d.val, .int .i64 z] w fun e w' => e = .returned (.tuple #[(d.may z).val, .int .i64 (d.dc.right z)]) ∧ Ext w w' := by
  refine J.enter Tryz.func59 rfl [] [.agg d.cs, .one (.v (.int .i64 z))] 24 (known_nil w) ?_
  refine J.new 61 d.cs [] (fun g1 h1 _ => ?_)
  refine J.new 61 zDr [⟨g1, 61, d.cs⟩] (fun g2 h2 _ => ?_)
  have fin : ∀ {w1 : World} {c1 c2 : List C}, Rel [⟨g1, 61, c1⟩, ⟨g2, 61, c2⟩] w w1 → Ext w w1 := fun hr => (Ext.refl w).rel' hr (mem2 (.inl h1) (.inl h2))
  have hlen : d.dc.zs.length = d.zs.length := List.length_map ..
  by_cases hl : d.lost = true
  · have e : d.dc.right z = 11 := by unfold Dc.right; rw [if_pos (show d.dc.dead = true from hl)]
    have e2 : d.may z = d := by unfold Dr.may; rw [e, if_neg (by decide)]
    rw [e, e2]
    refine J.brt d.lost hl ?_
    exact J.ret (.tup [(true, d.cs), (false, [.v (.int .i64 11)])]) [⟨g1, 61, d.cs⟩, ⟨g2, 61, d.cs⟩] (fun w1 _ hr => ⟨rfl, fin hr⟩)
  refine J.brf d.lost (by simpa using hl) ?_
  have bad : z < 0 ∨ z ≥ d.zs.length → d.dc.right z = 2 ∧ d.may z = { d with bad := IntKind.i64.wrap (d.bad + 1) } := fun h => by
    have e : d.dc.right z = 2 := by unfold Dc.right; rw [if_neg (show ¬ d.dc.dead = true from hl), if_pos (by rw [hlen]; exact h)]
    exact ⟨e, by unfold Dr.may; rw [if_pos e]⟩
  by_cases h0 : z < 0
  · obtain ⟨e, e2⟩ := bad (.inl h0)
    rw [e, e2]
    refine J.lit 11 (decide (z < 0)) true (decide_eq_true h0) ?_
    refine J.ari (IntKind.i64.wrap (d.bad + 1)) (.inl ⟨rfl, rfl⟩) ?_
    exact J.ret (.tup [(true, ({ d with bad := IntKind.i64.wrap (d.bad + 1) } : Dr).cs), (false, [.v (.int .i64 2)])]) [⟨g1, 61, ({ d with bad := IntKind.i64.wrap (d.bad + 1) } : Dr).cs⟩, ⟨g2, 61, ({ d with bad := IntKind.i64.wrap (d.bad + 1) } : Dr).cs⟩] (fun w1 _ hr => ⟨rfl, fin hr⟩)
  refine J.lit 11 (decide (z < 0)) false (decide_eq_false h0) ?_
  by_cases h3 : z ≥ (d.zs.length : Int)
  · obtain ⟨e, e2⟩ := bad (.inr h3)
    rw [e, e2]
    refine J.brt (decide (z ≥ (d.zs.length : Int))) (decide_eq_true h3) ?_
    refine J.ari (IntKind.i64.wrap (d.bad + 1)) (.inl ⟨rfl, rfl⟩) ?_
    exact J.ret (.tup [(true, ({ d with bad := IntKind.i64.wrap (d.bad + 1) } : Dr).cs), (false, [.v (.int .i64 2)])]) [⟨g1, 61, ({ d with bad := IntKind.i64.wrap (d.bad + 1) } : Dr).cs⟩, ⟨g2, 61, ({ d with bad := IntKind.i64.wrap (d.bad + 1) } : Dr).cs⟩] (fun w1 _ hr => ⟨rfl, fin hr⟩)
  refine J.brf (decide (z ≥ (d.zs.length : Int))) (decide_eq_false h3) ?_
  have e : d.dc.right z = 0 := by unfold Dc.right; rw [if_neg (show ¬ d.dc.dead = true from hl), if_neg (by rw [hlen]; omega)]
  have e2 : d.may z = d := by unfold Dr.may; rw [e, if_neg (by decide)]
  rw [e, e2]
  exact J.ret (.tup [(true, d.cs), (false, [.v (.int .i64 0)])]) [⟨g1, 61, d.cs⟩, ⟨g2, 61, d.cs⟩] (fun w1 _ hr => ⟨rfl, fin hr⟩)
theorem dwith_c (d : Dr) (j : Nat) (z : Zr) (w : World) (h : DrAt w d) (hj : j < d.zs.length) (hz : ZrAt w z) : Calls Tryz.prog 63 #[d.val, .int .i64 (j : Nat), z.val] w fun e w' => ∃ g c, e = .returned ({ d with g := g, c := c, zs := d.zs.set j z } : Dr).val ∧ DrAt w' { d with g := g, c := c, zs := d.zs.set j z } ∧ Ext w w' := by
  have hmost := h.most
  refine J.enter Tryz.func63 rfl [] [.agg d.cs, .one (.v (.int .i64 (j : Nat))), .agg z.cs] 19 (known_nil w) ?_
  refine J.new 61 d.cs [] (fun g1 h1 _ => ?_)
  refine J.new 78 z.cs [⟨g1, 61, d.cs⟩] (fun g2 h2 _ => ?_)
  refine J.new 61 zDr [⟨g1, 61, d.cs⟩, ⟨g2, 78, z.cs⟩] (fun g3 h3 _ => ?_)
  have fin : ∀ {u w1 : World} {c1 c2 c3 : List C}, Ext w u → Rel [⟨g1, 61, c1⟩, ⟨g2, 78, c2⟩, ⟨g3, 61, c3⟩] u w1 → Ext w w1 := fun hx hr => hx.rel' hr (mem3 (.inl h1) (.inl h2) (.inl h3))
  refine J.bslO 78 0 5 [] [] [⟨g1, 61, d.cs⟩, ⟨g2, 78, z.cs⟩, ⟨g3, 61, zDr⟩] (fun w1 w2 hk1 hr1 hk2 hx2 hb2 => ?_)
  have hx1 := fin (.refl w) hr1
  refine J.app 59 59 (.one (.v (.slice (some ⟨w1.heap.size, 0, none⟩) 0 0))) (.one (.v (.slice (some ⟨d.g, 0, none⟩) d.zs.length d.c))) [⟨g1, 61, d.cs⟩, ⟨g2, 78, z.cs⟩, ⟨g3, 61, zDr⟩] (fun ty w3 hk3 hr3 => ?_)
  have hx3 := fin (hx1.trans hx2) hr3
  have hx23 : Ext w2 w3 := hr3.ext' (mem3 (.inr ((hk3.get 0 rfl).trans (hk2.get 0 rfl).symm)) (.inr ((hk3.get 1 rfl).trans (hk2.get 1 rfl).symm)) (.inr ((hk3.get 2 rfl).trans (hk2.get 2 rfl).symm)))
  have hown : w3.ownsRow w1.heap.size 78 5 (.slice (some ⟨w1.heap.size, 0, none⟩) 0 0) 0 [] := ⟨rfl, .inr ⟨w1.heap.size, 0, #[], rfl, Nat.le_refl _, hx23.blk hb2, Nat.le_refl _, Nat.zero_le _, rfl, rfl⟩⟩
  obtain ⟨A4, c4, w4, e1, e2, e3⟩ := app_all (P := Tryz.prog) (.agg #[.int .i64 0, .int .i64 0, .slice none 0 0, .int .i64 0, .bool false]) 56 59 hown (h.ext hx3).row (zrs_one _) (Nat.le_trans hx2.1 hx23.1) (by simp only [maxLen]; omega) (by omega) ty
  rw [Nat.zero_add] at e1 e2
  rw [List.nil_append] at e2
  have lt1 : ∀ {i : Nat} {b : Blk}, [⟨g1, 61, d.cs⟩, ⟨g2, 78, z.cs⟩, ⟨g3, 61, zDr⟩][i]? = some b → b.g < w1.heap.size := fun hb => (Array.getElem?_eq_some_iff.1 (hk1.1 _ _ hb)).1
  have hg1 := lt1 (i := 0) rfl; have hg2 := lt1 (i := 1) rfl; have hg3 := lt1 (i := 2) rfl
  replace hg1 : g1 < w1.heap.size := hg1
  replace hg2 : g2 < w1.heap.size := hg2
  replace hg3 : g3 < w1.heap.size := hg3
  have hx4 : Ext w w4 := .mk2 (Nat.le_trans hx3.1 e3.1) (fun i hi => (e3.2 i (Nat.lt_of_lt_of_le hi hx3.1) (fun e => by have := hx1.1; have e : w1.heap.size = i := Option.some.inj e; omega)).trans (hx3.2 i hi))
  have hk4 : Known [⟨g1, 61, d.cs⟩, ⟨g2, 78, z.cs⟩, ⟨g3, 61, zDr⟩] w4 := hk3.chg e3 (mem3 (fun e => by have e : w1.heap.size = g1 := Option.some.inj e; omega) (fun e => by have e : w1.heap.size = g2 := Option.some.inj e; omega) (fun e => by have e : w1.heap.size = g3 := Option.some.inj e; omega))
  obtain ⟨g4, c5, cur, ev, hg4, hb4, hc1, hc2, hc3, hc4⟩ := own_open e2 (by omega)
  cases ev
  refine ⟨.slice (some ⟨g4, 0, none⟩) d.zs.length c4, w4, e1, hk4, ?_⟩
  refine J.ix g4 0 d.zs.length c4 5 j rfl hj ?_
  have hL : ∀ b ∈ [(⟨g1, 61, d.cs⟩ : Blk), ⟨g2, 78, z.cs⟩, ⟨g3, 61, zDr⟩], b.g ≠ g4 := mem3 (by show g1 ≠ g4; omega) (by show g2 ≠ g4; omega) (by show g3 ≠ g4; omega)
  have same : ∀ {u w1 : World}, Known [⟨g1, 61, d.cs⟩, ⟨g2, 78, z.cs⟩, ⟨g3, 61, zDr⟩] u → Known [⟨g1, 61, d.cs⟩, ⟨g2, 78, z.cs⟩, ⟨g3, 61, zDr⟩] w1 → Rel [⟨g1, 61, d.cs⟩, ⟨g2, 78, z.cs⟩, ⟨g3, 61, zDr⟩] u w1 → Ext u w1 := fun h hk hr => hr.ext' (mem3 (.inr ((hk.get 0 rfl).trans (h.get 0 rfl).symm)) (.inr ((hk.get 1 rfl).trans (h.get 1 rfl).symm)) (.inr ((hk.get 2 rfl).trans (h.get 2 rfl).symm)))
  refine J.sto g4 (0 + j * 5) (.agg z.cs) 78 (fun _ => cur) [⟨g1, 61, d.cs⟩, ⟨g2, 78, z.cs⟩, ⟨g3, 61, zDr⟩] (fun w5 hk5 hr5 => ⟨(same hk4 hk5 hr5).blk hb4, ?_⟩) hL (fun w5 w6 hk5 hr5 hk6 ho hb6 => ?_)
  · show 0 + j * 5 + 5 ≤ cur.length
    rw [hc3]
    have : (j + 1) * 5 ≤ c4 * 5 := Nat.mul_le_mul_right _ (by omega)
    omega
  have hx5 := hx4.trans (same hk4 hk5 hr5)
  have hx6 : Ext w w6 := ext_chg hx5 ho.chg (fun i e => by have := hx1.1; omega)
  have hrow : w6.ownsRow w1.heap.size 78 5 (.slice (some ⟨g4, 0, none⟩) d.zs.length c4) d.zs.length ((d.zs.set j z).flatMap Zr.vs) := own_close (f := Zr.vs) Zr.vs_len hg4 hc1 hc2 hc3 hc4 hj hb6
  refine J.ret (.agg [.v (.slice (some ⟨g4, 0, none⟩) d.zs.length c4), .v (.int .i64 d.limit), .v (.bool d.lost), .v (.int .i64 d.bad)]) [⟨g1, 61, [.v (.slice (some ⟨g4, 0, none⟩) d.zs.length c4), .v (.int .i64 d.limit), .v (.bool d.lost), .v (.int .i64 d.bad)]⟩, ⟨g2, 78, z.cs⟩, ⟨g3, 61, [.v (.slice (some ⟨g4, 0, none⟩) d.zs.length c4), .v (.int .i64 d.limit), .v (.bool d.lost), .v (.int .i64 d.bad)]⟩] (fun w7 hk7 hr7 => ?_)
  have hx7 := fin hx6 hr7
  have el : (d.zs.set j z).length = d.zs.length := List.length_set
  refine ⟨g4, c4, ?_, ⟨?_, fun y hy => ?_, by show (d.zs.set j z).length ≤ 64; omega⟩, hx7⟩
  · show _ = Ending.returned (.agg #[.slice (some ⟨g4, 0, none⟩) (d.zs.set j z).length c4, .int .i64 d.limit, .bool d.lost, .int .i64 d.bad])
    rw [el]; rfl
  · show w7.ownsRow 0 78 5 (.slice (some ⟨g4, 0, none⟩) (d.zs.set j z).length c4) (d.zs.set j z).length _
    rw [el]
    refine owns_base (ownsRow_chg hrow (hr7.chg' (S := fun i => i = g1 ∨ i = g3) (mem3 (.inl (.inl rfl)) (.inr (.inr ((hk7.get 1 rfl).trans (hk6.get 1 rfl).symm))) (.inl (.inr rfl)))) (fun g hg hs => ?_)) (Nat.zero_le _)
    have hg : g4 = g := Option.some.inj hg
    omega
  · rcases List.mem_or_eq_of_mem_set hy with hy | rfl
    · exact (h.each y hy).ext hx7
    · exact hz.ext hx7
theorem dnew_c (zones : Nat) (cap block limit : Int) (w : World) (h1 : 1 ≤ zones) (h2 : zones ≤ 64) : Calls Tryz.prog 28 #[.int .i64 (zones : Nat), .int .i64 cap, .int .i64 block, .int .i64 limit] w fun e w' => ∃ d : Dr, e = .returned d.val ∧ DrAt w' d ∧ d.dc = Dc.new zones cap block limit ∧ Ext w w' := by
  refine J.enter Tryz.func28 rfl [] [.one (.v (.int .i64 (zones : Nat))), .one (.v (.int .i64 cap)), .one (.v (.int .i64 block)), .one (.v (.int .i64 limit))] 27 (known_nil w) ?_
  refine J.new 61 zDr [] (fun g1 hg1 _ => ?_)
  refine J.new 61 zDr [⟨g1, 61, zDr⟩] (fun g2 hg2 hn2 => ?_)
  have fin : ∀ {u w1 : World} {c1 c2 : List C}, Ext w u → Rel [⟨g1, 61, c1⟩, ⟨g2, 61, c2⟩] u w1 → Ext w w1 := fun hx hr => hx.rel' hr (mem2 (.inl hg1) (.inl hg2))
  refine J.loop (fun x : Nat × Value => [(0, .one (.v (.int .i64 (zones : Nat)))), (1, .one (.v (.int .i64 cap))), (2, .one (.v (.int .i64 block))), (8, .one (.ptr 0 0)), (9, .one (.ptr 1 0)), (10, .one (.v (.int .i64 (x.1 : Nat))))])
    (fun x => [⟨g1, 61, zDr⟩, ⟨g2, 61, [.v x.2, .v (.int .i64 limit), .v (.bool false), .v (.int .i64 0)]⟩]) (fun x u => x.1 ≤ zones ∧ Ext w u ∧ u.ownsRow w.heap.size 78 5 x.2 x.1 ((List.replicate x.1 (Zr.new cap block)).flatMap Zr.vs)) (fun x => zones - x.1) [] (0, .slice none 0 0) (fun w7 hk7 hr7 => ⟨Nat.zero_le _, fin (.refl w) hr7, ⟨rfl, .inl ⟨rfl, rfl⟩⟩⟩) ?_
  rintro p ⟨i, v⟩ w7 hp ⟨hi, hx7, hv⟩ hk7
  replace hi : i ≤ zones := hi
  replace hv : w7.ownsRow w.heap.size 78 5 v i ((List.replicate i (Zr.new cap block)).flatMap Zr.vs) := hv
  refine J.brd ((i : Int) < (zones : Int)) (fun h3 => ?_) (fun h3 => ?_)
  · refine J.drwU (E := Ext) [] 6 [] [(4, .agg (Zr.new cap block).cs)] [(5, RowOf w7.heap.size 78 (fun l _ => l = (Zr.new cap block).vs))] [⟨g1, 61, zDr⟩, ⟨g2, 61, [.v v, .v (.int .i64 limit), .v (.bool false), .v (.int .i64 0)]⟩] .exts
      (fun wb wc _ _ _ => .cons (Y.call Tryz.func55 [.one (.v (.int .i64 cap)), .one (.v (.int .i64 block))] (fun u _ _ => znew_c cap block u)) .nil)
      (fun _ _ _ => .nil)
      (fun wb hkb hrb => .cons (UAt.row1 59 (.agg (Zr.new cap block).cs) 5 rfl (fun u hu => Nat.le_trans hrb.1 hu.1) (fun u _ _ => rfl) (fun l u w h _ => h)) (fun v u w h hx => h.ext hx (fun l h => h)) trivial .nil) ?_
    rintro wb w8 hkb hrb hx8 hk8 v5 ⟨gx, news, hgx, rfl, hbx, rfl⟩
    show SX _ _ _ _ _
    have hxb : Ext w7 wb := hrb.ext' (mem2 (.inr ((hkb.get 0 rfl).trans (hk7.get 0 rfl).symm)) (.inr ((hkb.get 1 rfl).trans (hk7.get 1 rfl).symm)))
    refine J.app 59 59 (.one (.v v)) (.one (.v (.slice (some ⟨gx, 0, none⟩) 1 1))) [⟨g1, 61, zDr⟩, ⟨g2, 61, [.v v, .v (.int .i64 limit), .v (.bool false), .v (.int .i64 0)]⟩] (fun ty w9 hk9 hr9 => ?_)
    have hx89 : Ext w8 w9 := hr9.ext' (mem2 (.inr ((hk9.get 0 rfl).trans (hk8.get 0 rfl).symm)) (.inr ((hk9.get 1 rfl).trans (hk8.get 1 rfl).symm)))
    have hx79 := (hxb.trans hx8).trans hx89
    have hv9 := ownsRow_ext hv hx79
    obtain ⟨A10, c10, w10, f1, f2, f3⟩ := app_one (P := Tryz.prog) (.agg #[.int .i64 0, .int .i64 0, .slice none 0 0, .int .i64 0, .bool false]) 56 59 hv9 (hx89.blk hbx) rfl (by simp [Zr.vs, Value.oneCell']) (hx7.trans hx79).1 (by simp only [maxLen]; omega) (by omega) ty
    have hk10 := Img.own_known hv9 hk9 f3 (mem2 (fun e => absurd e (by show ¬ 61 = 78; decide)) (fun e => absurd e (by show ¬ 61 = 78; decide)))
    refine ⟨.slice A10 (i + 1) c10, w10, f1, hk10, ?_⟩
    have hx10 : Ext w w10 := ext_chg (hx7.trans hx79) f3 (fun k e => by obtain ⟨cs, _, hb⟩ := own_ty hv9 e; exact hb)
    refine J.ari ((i + 1 : Nat) : Int) (.add (x := i) (y := 1) (by omega) (by omega) (by omega)) ?_
    have f2' : w10.ownsRow w.heap.size 78 5 (.slice A10 (i + 1) c10) (i + 1) ((List.replicate (i + 1) (Zr.new cap block)).flatMap Zr.vs) := by
      rw [List.replicate_succ', List.flatMap_append]
      simpa using f2
    refine J.at (fun a u g1' g2' hk hr => hp (i + 1, .slice A10 (i + 1) c10) a u g1' g2' hk ⟨by show i + 1 ≤ zones; omega, fin hx10 hr, ?_⟩ (by show zones - (i + 1) < zones - i; omega))
    refine ownsRow_chg f2' (hr.chg' (S := fun k => k = g2) (mem2 (.inr (.inr ((hk.get 0 rfl).trans (hk10.get 0 rfl).symm))) (.inl rfl))) (fun g hg hs => ?_)
    obtain ⟨cs, hb, _⟩ := own_ty f2' hg
    subst hs
    exact ne_ty (hk10.get 1 rfl) hb (by show 61 ≠ 78; decide) rfl
  · have : i = zones := by omega
    subst this
    obtain ⟨g, c, cur, rfl, hg, hb, hc1, hc2, hc3, hc4⟩ := own_open hv (by omega)
    have el : (List.replicate i (Zr.new cap block)).length = i := List.length_replicate
    refine J.ret (.agg [.v (.slice (some ⟨g, 0, none⟩) i c), .v (.int .i64 limit), .v (.bool false), .v (.int .i64 0)]) [⟨g1, 61, [.v (.slice (some ⟨g, 0, none⟩) i c), .v (.int .i64 limit), .v (.bool false), .v (.int .i64 0)]⟩, ⟨g2, 61, [.v (.slice (some ⟨g, 0, none⟩) i c), .v (.int .i64 limit), .v (.bool false), .v (.int .i64 0)]⟩] (fun w8 hk8 hr8 => ⟨⟨g, c, List.replicate i (Zr.new cap block), limit, false, 0⟩, ?_, ⟨?_, fun y hy => ?_, by show (List.replicate i (Zr.new cap block)).length ≤ 64; omega⟩, ?_, fin hx7 hr8⟩)
    · show _ = Ending.returned (.agg #[.slice (some ⟨g, 0, none⟩) (List.replicate i (Zr.new cap block)).length c, .int .i64 limit, .bool false, .int .i64 0])
      rw [el]; rfl
    · show w8.ownsRow 0 78 5 (.slice (some ⟨g, 0, none⟩) (List.replicate i (Zr.new cap block)).length c) (List.replicate i (Zr.new cap block)).length _
      rw [el]
      refine owns_base (ownsRow_chg hv (hr8.chg' (S := fun k => k = g1 ∨ k = g2) (mem2 (.inl (.inl rfl)) (.inl (.inr rfl)))) (fun g9 hg9 hs => ?_)) (Nat.zero_le _)
      obtain ⟨cs, hb, _⟩ := own_ty hv hg9
      rcases hs with rfl | rfl
      · exact ne_ty (hk7.get 0 rfl) hb (by show 61 ≠ 78; decide) rfl
      · exact ne_ty (hk7.get 1 rfl) hb (by show 61 ≠ 78; decide) rfl
    · rw [List.eq_of_mem_replicate hy]; exact Zr.new_at cap block
    · unfold Dr.dc Dc.new
      rw [List.map_replicate]; rfl
end Go.Proofs.YtlhmpmmblnbmbaaGreat.Doc
set_option linter.unusedVariables false
set_option linter.unusedSimpArgs false
set_option maxRecDepth 100000
namespace Go.Proofs.YtlhmpmmblnbmbaaGreat.Doc
open Go.Proofs.YtlhmpmmblnbmbaaGreat.Sx Go.Proofs.YtlhmpmmblnbmbaaGreat.Byt Go.Proofs.YtlhmpmmblnbmbaaGreat.Pck Go.Proofs.YtlhmpmmblnbmbaaGreat.Bus Go.Lib
theorem right_0 {d : Dr} {z : Int} (h : d.dc.right z = 0) : d.lost = false ∧ ∃ (j : Nat) (x : Zr), z = (j : Int) ∧ j < d.zs.length ∧ d.zs[j]? = some x ∧ d.dc.zs[z.toNat]? = some x.zc := by
  unfold Dc.right at h
  have hlen : d.dc.zs.length = d.zs.length := List.length_map ..
  by_cases hl : d.dc.dead = true
  · rw [if_pos hl] at h; cases h
  rw [if_neg hl] at h
  by_cases hz : z < 0 ∨ z ≥ d.dc.zs.length
  · rw [if_pos hz] at h; cases h
  obtain ⟨j, rfl⟩ : ∃ j : Nat, z = (j : Int) := ⟨z.toNat, by omega⟩
  have hj : j < d.zs.length := by omega
  refine ⟨Bool.eq_false_iff.2 hl, j, d.zs[j], rfl, hj, List.getElem?_eq_getElem hj, ?_⟩
  show (d.zs.map Zr.zc)[((j : Nat) : Int).toNat]? = _
  rw [Int.toNat_natCast, List.getElem?_map, List.getElem?_eq_getElem hj]; rfl
theorem ZrAt.chg {w w' : World} {z : Zr} {S : Nat → Prop} (h : ZrAt w z) (hx : Chg S w w') (hS : ∀ k cs, S k → w.heap[k]? = some (Obj.cells cs 9 (0, 0)) → False) : ZrAt w' z := { h with row := ownsRow_chg h.row hx (fun g hg hs => by
  obtain ⟨cs, hb, _⟩ := own_ty h.row hg
  exact hS g cs hs hb) }
theorem DrAt.chg {w w' : World} {d : Dr} {S : Nat → Prop} (h : DrAt w d) (hx : Chg S w w') (hS : ∀ k, S k → ∃ cs f, w.heap[k]? = some (Obj.cells cs 61 f)) : DrAt w' d := ⟨ownsRow_chg h.row hx (fun g hg hs => by
  obtain ⟨cs, hb, _⟩ := own_ty h.row hg
  obtain ⟨ds, f, hd⟩ := hS g hs
  exact ne_ty hd hb (by show 61 ≠ 78; decide) rfl), fun z hz => (h.each z hz).chg hx (fun k cs hs hb => by
  obtain ⟨ds, f, hd⟩ := hS k hs
  exact ne_ty hd hb (by show 61 ≠ 9; decide) rfl), h.most⟩
theorem set_dc (d : Dr) (j : Nat) (g c : Nat) (z : Zr) : ({ d with g := g, c := c, zs := d.zs.set j z } : Dr).dc = { d.dc with zs := d.dc.zs.set j z.zc } := by
  unfold Dr.dc
  rw [List.map_set]
def dapR (w : World) (d : Dr) (r : Int × Dc) (e : Ending) (w' : World) : Prop := ∃ d' : Dr, e = .returned (.tuple #[d'.val, .int .i64 r.1]) ∧ DrAt w' d' ∧ d'.dc = r.2 ∧ Ext w w'
theorem dapp_c (d : Dr) (z : Int) (b : Part) (w : World) (h : DrAt w d) (hb : PAt w b) (hbc : b.n ≤ b.c) : Calls Tryz.prog 30 #[d.val, .int .i64 z, b.val] w (dapR w d (d.dc.append z b.l)) := by
  refine J.enter Tryz.func30 rfl [] [.agg d.cs, .one (.v (.int .i64 z)), .one (.v b.val)] 65 (known_nil w) ?_
  refine J.new 61 d.cs [] (fun g1 h1 _ => ?_)
  refine J.new 61 zDr [⟨g1, 61, d.cs⟩] (fun g2 h2 _ => ?_)
  have fin : ∀ {u w1 : World} {c1 c2 : List C}, Ext w u → Rel [⟨g1, 61, c1⟩, ⟨g2, 61, c2⟩] u w1 → Ext w w1 := fun hx hr => hx.rel' hr (mem2 (.inl h1) (.inl h2))
  refine J.call Tryz.func59 [.agg d.cs, .one (.v (.int .i64 z))] [⟨g1, 61, d.cs⟩, ⟨g2, 61, zDr⟩] (fun w1 hk1 hr1 => ?_)
  have hx1 := fin (.refl w) hr1
  have hm := may_at h z
  have hmd := may_dc d z
  have hmay : d.dc.right z = 0 → d.may z = d := fun e => by unfold Dr.may; rw [e, if_neg (by decide)]
  refine (dmay_c d z w1).mono ?_
  generalize d.may z = dm at *
  rintro e w2 ⟨rfl, hx⟩
  have hx2 := hx1.trans hx
  refine ⟨.tup [(true, dm.cs), (false, [.v (.int .i64 (d.dc.right z))])], _, rfl, rfl, hx.known hk1, ?_⟩
  by_cases hr0 : d.dc.right z = 0
  rotate_left
  · refine J.brt (d.dc.right z != 0) (by simp [hr0]) ?_
    refine J.ret (.tup [(true, dm.cs), (false, [.v (.int .i64 (d.dc.right z))])]) [⟨g1, 61, dm.cs⟩, ⟨g2, 61, dm.cs⟩] (fun w3 hk3 hr3 => ?_)
    have hx3 := fin hx2 hr3
    unfold Dc.append
    rw [if_pos hr0]
    exact ⟨dm, rfl, hm.ext hx3, hmd, hx3⟩
  cases hmay hr0
  refine J.brf (d.dc.right z != 0) (by simp [hr0]) ?_
  obtain ⟨hlost, j, x, rfl, hj, hjz, hjd⟩ := right_0 hr0
  have hxz := h.each x (List.mem_of_getElem? hjz)
  refine J.ix d.g 0 d.zs.length d.c 5 j rfl hj ?_
  refine J.ld 78 ⟨d.g, 0 + j * 5, none⟩ (.agg x.cs) [⟨g1, 61, d.cs⟩, ⟨g2, 61, zDr⟩] (fun w4 hk4 hr4 => (h.ext (fin hx2 hr4)).lies hjz) ?_
  refine J.call Tryz.func60 [.agg x.cs, .one (.v b.val)] [⟨g1, 61, d.cs⟩, ⟨g2, 61, zDr⟩] (fun w3 hk3 hr3 => ?_)
  have hx3 := fin hx2 hr3
  refine (zapp_c x b w3 (hxz.ext hx3) (hb.ext hx3) hbc).mono ?_
  rintro e w4 ⟨z', hx, rfl, hz4, hzc⟩
  have hx4 := hx3.trans hx
  refine ⟨.tup [(true, z'.cs), (false, [.v (.int .i64 (x.zc.appErr b.l.length))])], _, rfl, rfl, hx.known hk3, ?_⟩
  refine J.new 78 zZr [⟨g1, 61, d.cs⟩, ⟨g2, 61, zDr⟩] (fun g3 hg3 hn3 => ?_)
  have h3 : w.heap.size ≤ g3 := Nat.le_trans hx4.1 hg3
  have fin3 : ∀ {u w1 : World} {c1 c2 c3 : List C}, Ext w u → Rel [⟨g1, 61, c1⟩, ⟨g2, 61, c2⟩, ⟨g3, 78, c3⟩] u w1 → Ext w w1 := fun hx hr => hx.rel' hr (mem3 (.inl h1) (.inl h2) (.inl h3))
  have fall : ∀ {u w1 : World} {er : Int} {c1 c2 c3 : List C}, Ext w u → d.dc.append (j : Int) b.l = (er, d.dc) → Rel [⟨g1, 61, c1⟩, ⟨g2, 61, c2⟩, ⟨g3, 78, c3⟩] u w1 → dapR w d (d.dc.append (j : Int) b.l) (.returned (.tuple #[({ d with bad := IntKind.i64.wrap (d.bad + 1) } : Dr).val, .int .i64 er])) w1 := fun hx e hr => by
    rw [e]
    exact ⟨_, rfl, (h.bad _).ext (fin3 hx hr), rfl, fin3 hx hr⟩
  have hap : d.dc.append (j : Int) b.l = (if x.zc.appErr b.l.length ≠ 0 then (x.zc.appErr b.l.length, d.dc) else if ((x.zc.more b.l).active && (!x.zc.active && decide (d.dc.used ≥ d.limit))) = true then (8, d.dc) else (0, { d.dc with zs := d.dc.zs.set j (x.zc.more b.l) })) := by
    unfold Dc.append
    rw [if_neg (by simp [hr0]), hjd]; rfl
  by_cases he : x.zc.appErr b.l.length = 0
  rotate_left
  · refine J.drw 22 [(2, .one (.lit false))] [⟨g1, 61, d.cs⟩, ⟨g2, 61, zDr⟩, ⟨g3, 78, z'.cs⟩] (.cons (Y.lit (x.zc.appErr b.l.length == 0) (by simp [he])) .nil) ?_
    refine J.brt (x.zc.appErr b.l.length != 0) (by simp [he]) ?_
    refine J.ari (IntKind.i64.wrap (d.bad + 1)) (.inl ⟨rfl, rfl⟩) ?_
    exact J.ret (.tup [(true, ({ d with bad := IntKind.i64.wrap (d.bad + 1) } : Dr).cs), (false, [.v (.int .i64 (x.zc.appErr b.l.length))])]) [⟨g1, 61, ({ d with bad := IntKind.i64.wrap (d.bad + 1) } : Dr).cs⟩, ⟨g2, 61, ({ d with bad := IntKind.i64.wrap (d.bad + 1) } : Dr).cs⟩, ⟨g3, 78, z'.cs⟩] (fun w5 hk5 hr5 => fall hx4 (by rw [hap, if_pos he]) hr5)
  rw [if_pos he] at hzc
  rw [if_neg (by simp [he])] at hap
  rw [he]
  have ha1 : (x.zc.more b.l).active = z'.act := by rw [← hzc, hz4.active]
  have ha2 : x.zc.active = x.act := hxz.active
  rw [ha1, ha2] at hap
  have hk4 := hx.known hk3
  have same3 : ∀ {u : World}, Known [⟨g1, 61, d.cs⟩, ⟨g2, 61, zDr⟩, ⟨g3, 78, z'.cs⟩] u → Rel [⟨g1, 61, d.cs⟩, ⟨g2, 61, zDr⟩, ⟨g3, 78, z'.cs⟩] w4 u → Ext w4 u := fun hk hr => hr.ext' (mem3 (.inr ((hk.get 0 rfl).trans (hk4.get 0 rfl).symm)) (.inr ((hk.get 1 rfl).trans (hk4.get 1 rfl).symm)) (.inl hg3))
  cases hza : z'.act
  · refine J.drw 22 [(2, .one (.lit true)), (4, .one (.v (.bool z'.act))), (6, .one (.lit false))] [⟨g1, 61, d.cs⟩, ⟨g2, 61, zDr⟩, ⟨g3, 78, z'.cs⟩] (.cons (Y.lit ((0 : Int) == 0) rfl) <| .cons (Y.call Tryz.func61 [.agg z'.cs] (fun u _ _ => zact_c z' u)) <| .cons (Y.lit z'.act hza) .nil) ?_
    refine J.brf ((0 : Int) != 0) rfl ?_
    refine J.call Tryz.func63 [.agg d.cs, .one (.v (.int .i64 (j : Nat))), .agg z'.cs] [⟨g1, 61, d.cs⟩, ⟨g2, 61, zDr⟩, ⟨g3, 78, z'.cs⟩] (fun w5 hk5 hr5 => ?_)
    have hx5 := fin3 hx4 hr5
    have hx45 : Ext w4 w5 := hr5.ext' (mem3 (.inr ((hk5.get 0 rfl).trans (hk4.get 0 rfl).symm)) (.inr ((hk5.get 1 rfl).trans (hk4.get 1 rfl).symm)) (.inl hg3))
    refine (dwith_c d j z' w5 (h.ext hx5) hj (hz4.ext hx45)).mono ?_
    rintro e w6 ⟨g, c, rfl, hd6, hx⟩
    have hk6 := hx.known hk5
    generalize hD : ({ d with g := g, c := c, zs := d.zs.set j z' } : Dr) = D at *
    refine ⟨.agg D.cs, _, rfl, rfl, hk6, ?_⟩
    refine J.ret (.tup [(true, D.cs), (false, [.v (.int .i64 0)])]) [⟨g1, 61, d.cs⟩, ⟨g2, 61, D.cs⟩, ⟨g3, 78, z'.cs⟩] (fun w7 hk7 hr7 => ?_)
    rw [hap, if_neg (by simp [hza])]
    refine ⟨D, rfl, hd6.chg (hr7.chg' (S := fun k => k = g2) (mem3 (.inr (.inr ((hk7.get 0 rfl).trans (hk6.get 0 rfl).symm))) (.inl rfl) (.inr (.inr ((hk7.get 2 rfl).trans (hk6.get 2 rfl).symm))))) (fun k e => by subst e; exact ⟨_, _, hk6.get 1 rfl⟩), by rw [← hD, set_dc, hzc], fin3 (hx5.trans hx) hr7⟩
  cases hxa : x.act
  rotate_left
  · refine J.drw 22 [(2, .one (.lit true)), (4, .one (.v (.bool z'.act))), (6, .one (.lit true)), (10, .one (.v (.pointer (some ⟨d.g, 0 + j * 5, none⟩)))), (11, .agg x.cs), (12, .one (.v (.bool x.act))), (15, .one (.lit false))] [⟨g1, 61, d.cs⟩, ⟨g2, 61, zDr⟩, ⟨g3, 78, z'.cs⟩] (.cons (Y.lit ((0 : Int) == 0) rfl) <| .cons (Y.call Tryz.func61 [.agg z'.cs] (fun u _ _ => zact_c z' u)) <| .cons (Y.lit z'.act hza) <| .cons (Y.ix d.zs.length d.c rfl hj) <| .cons (Y.ld 78 ⟨d.g, 0 + j * 5, none⟩ (fun u hk hr => (h.ext (fin3 hx4 hr)).lies hjz)) <| .cons (Y.call Tryz.func61 [.agg x.cs] (fun u _ _ => zact_c x u)) <| .cons (Y.lit (!x.act) (by rw [hxa]; rfl)) .nil) ?_
    refine J.brf ((0 : Int) != 0) rfl ?_
    refine J.call Tryz.func63 [.agg d.cs, .one (.v (.int .i64 (j : Nat))), .agg z'.cs] [⟨g1, 61, d.cs⟩, ⟨g2, 61, zDr⟩, ⟨g3, 78, z'.cs⟩] (fun w5 hk5 hr5 => ?_)
    have hx5 := fin3 hx4 hr5
    have hx45 : Ext w4 w5 := hr5.ext' (mem3 (.inr ((hk5.get 0 rfl).trans (hk4.get 0 rfl).symm)) (.inr ((hk5.get 1 rfl).trans (hk4.get 1 rfl).symm)) (.inl hg3))
    refine (dwith_c d j z' w5 (h.ext hx5) hj (hz4.ext hx45)).mono ?_
    rintro e w6 ⟨g, c, rfl, hd6, hx⟩
    have hk6 := hx.known hk5
    generalize hD : ({ d with g := g, c := c, zs := d.zs.set j z' } : Dr) = D at *
    refine ⟨.agg D.cs, _, rfl, rfl, hk6, ?_⟩
    refine J.ret (.tup [(true, D.cs), (false, [.v (.int .i64 0)])]) [⟨g1, 61, d.cs⟩, ⟨g2, 61, D.cs⟩, ⟨g3, 78, z'.cs⟩] (fun w7 hk7 hr7 => ?_)
    rw [hap, if_neg (by simp [hxa])]
    refine ⟨D, rfl, hd6.chg (hr7.chg' (S := fun k => k = g2) (mem3 (.inr (.inr ((hk7.get 0 rfl).trans (hk6.get 0 rfl).symm))) (.inl rfl) (.inr (.inr ((hk7.get 2 rfl).trans (hk6.get 2 rfl).symm))))) (fun k e => by subst e; exact ⟨_, _, hk6.get 1 rfl⟩), by rw [← hD, set_dc, hzc], fin3 (hx5.trans hx) hr7⟩
  by_cases hu : d.dc.used ≥ d.limit
  · refine J.drw 22 [(2, .one (.lit true)), (4, .one (.v (.bool z'.act))), (6, .one (.lit true)), (10, .one (.v (.pointer (some ⟨d.g, 0 + j * 5, none⟩)))), (11, .agg x.cs), (12, .one (.v (.bool x.act))), (15, .one (.lit true)), (17, .one (.v (.int .i64 d.dc.used)))] [⟨g1, 61, d.cs⟩, ⟨g2, 61, zDr⟩, ⟨g3, 78, z'.cs⟩] (.cons (Y.lit ((0 : Int) == 0) rfl) <| .cons (Y.call Tryz.func61 [.agg z'.cs] (fun u _ _ => zact_c z' u)) <| .cons (Y.lit z'.act hza) <| .cons (Y.ix d.zs.length d.c rfl hj) <| .cons (Y.ld 78 ⟨d.g, 0 + j * 5, none⟩ (fun u hk hr => (h.ext (fin3 hx4 hr)).lies hjz)) <| .cons (Y.call Tryz.func61 [.agg x.cs] (fun u _ _ => zact_c x u)) <| .cons (Y.lit (!x.act) (by rw [hxa]; rfl)) <| .cons (Y.call Tryz.func62 [.agg d.cs] (fun u hk hr => dact_c d u (h.ext (fin3 hx4 hr)))) .nil) ?_
    refine J.brt (decide (d.dc.used ≥ d.limit)) (decide_eq_true hu) ?_
    refine J.brt ((8 : Int) != 0) rfl ?_
    refine J.ari (IntKind.i64.wrap (d.bad + 1)) (.inl ⟨rfl, rfl⟩) ?_
    exact J.ret (.tup [(true, ({ d with bad := IntKind.i64.wrap (d.bad + 1) } : Dr).cs), (false, [.v (.int .i64 8)])]) [⟨g1, 61, ({ d with bad := IntKind.i64.wrap (d.bad + 1) } : Dr).cs⟩, ⟨g2, 61, ({ d with bad := IntKind.i64.wrap (d.bad + 1) } : Dr).cs⟩, ⟨g3, 78, z'.cs⟩] (fun w5 hk5 hr5 => fall hx4 (by rw [hap, if_pos (by rw [hza, hxa, decide_eq_true hu]; rfl)]) hr5)
  · refine J.drw 22 [(2, .one (.lit true)), (4, .one (.v (.bool z'.act))), (6, .one (.lit true)), (10, .one (.v (.pointer (some ⟨d.g, 0 + j * 5, none⟩)))), (11, .agg x.cs), (12, .one (.v (.bool x.act))), (15, .one (.lit true)), (17, .one (.v (.int .i64 d.dc.used)))] [⟨g1, 61, d.cs⟩, ⟨g2, 61, zDr⟩, ⟨g3, 78, z'.cs⟩] (.cons (Y.lit ((0 : Int) == 0) rfl) <| .cons (Y.call Tryz.func61 [.agg z'.cs] (fun u _ _ => zact_c z' u)) <| .cons (Y.lit z'.act hza) <| .cons (Y.ix d.zs.length d.c rfl hj) <| .cons (Y.ld 78 ⟨d.g, 0 + j * 5, none⟩ (fun u hk hr => (h.ext (fin3 hx4 hr)).lies hjz)) <| .cons (Y.call Tryz.func61 [.agg x.cs] (fun u _ _ => zact_c x u)) <| .cons (Y.lit (!x.act) (by rw [hxa]; rfl)) <| .cons (Y.call Tryz.func62 [.agg d.cs] (fun u hk hr => dact_c d u (h.ext (fin3 hx4 hr)))) .nil) ?_
    refine J.brf (decide (d.dc.used ≥ d.limit)) (decide_eq_false hu) ?_
    refine J.brf ((0 : Int) != 0) rfl ?_
    refine J.call Tryz.func63 [.agg d.cs, .one (.v (.int .i64 (j : Nat))), .agg z'.cs] [⟨g1, 61, d.cs⟩, ⟨g2, 61, zDr⟩, ⟨g3, 78, z'.cs⟩] (fun w5 hk5 hr5 => ?_)
    have hx5 := fin3 hx4 hr5
    have hx45 : Ext w4 w5 := hr5.ext' (mem3 (.inr ((hk5.get 0 rfl).trans (hk4.get 0 rfl).symm)) (.inr ((hk5.get 1 rfl).trans (hk4.get 1 rfl).symm)) (.inl hg3))
    refine (dwith_c d j z' w5 (h.ext hx5) hj (hz4.ext hx45)).mono ?_
    rintro e w6 ⟨g, c, rfl, hd6, hx⟩
    have hk6 := hx.known hk5
    generalize hD : ({ d with g := g, c := c, zs := d.zs.set j z' } : Dr) = D at *
    refine ⟨.agg D.cs, _, rfl, rfl, hk6, ?_⟩
    refine J.ret (.tup [(true, D.cs), (false, [.v (.int .i64 0)])]) [⟨g1, 61, d.cs⟩, ⟨g2, 61, D.cs⟩, ⟨g3, 78, z'.cs⟩] (fun w7 hk7 hr7 => ?_)
    rw [hap, if_neg (by simp [hu])]
    refine ⟨D, rfl, hd6.chg (hr7.chg' (S := fun k => k = g2) (mem3 (.inr (.inr ((hk7.get 0 rfl).trans (hk6.get 0 rfl).symm))) (.inl rfl) (.inr (.inr ((hk7.get 2 rfl).trans (hk6.get 2 rfl).symm))))) (fun k e => by subst e; exact ⟨_, _, hk6.get 1 rfl⟩), by rw [← hD, set_dc, hzc], fin3 (hx5.trans hx) hr7⟩
/-- Change of kind 1: Finish. -/
theorem dfin_c (d : Dr) (z : Int) (w : World) (h : DrAt w d) : Calls Tryz.prog 34 #[d.val, .int .i64 z, .int .i64 1] w (dapR w d (d.dc.finish z)) := by
  refine J.enter Tryz.func34 rfl [] [.agg d.cs, .one (.v (.int .i64 z)), .one (.v (.int .i64 1))] 39 (known_nil w) ?_
  refine J.new 61 d.cs [] (fun g1 h1 _ => ?_)
  refine J.new 61 zDr [⟨g1, 61, d.cs⟩] (fun g2 h2 _ => ?_)
  have fin : ∀ {u w1 : World} {c1 c2 : List C}, Ext w u → Rel [⟨g1, 61, c1⟩, ⟨g2, 61, c2⟩] u w1 → Ext w w1 := fun hx hr => hx.rel' hr (mem2 (.inl h1) (.inl h2))
  refine J.call Tryz.func59 [.agg d.cs, .one (.v (.int .i64 z))] [⟨g1, 61, d.cs⟩, ⟨g2, 61, zDr⟩] (fun w1 hk1 hr1 => ?_)
  have hx1 := fin (.refl w) hr1
  have hm := may_at h z
  have hmd := may_dc d z
  have hmay : d.dc.right z = 0 → d.may z = d := fun e => by unfold Dr.may; rw [e, if_neg (by decide)]
  refine (dmay_c d z w1).mono ?_
  generalize d.may z = dm at *
  rintro e w2 ⟨rfl, hx⟩
  have hx2 := hx1.trans hx
  have hk2 := hx.known hk1
  refine ⟨.tup [(true, dm.cs), (false, [.v (.int .i64 (d.dc.right z))])], _, rfl, rfl, hk2, ?_⟩
  by_cases hr0 : d.dc.right z = 0
  rotate_left
  · refine J.brt (d.dc.right z != 0) (by simp [hr0]) ?_
    refine J.ret (.tup [(true, dm.cs), (false, [.v (.int .i64 (d.dc.right z))])]) [⟨g1, 61, dm.cs⟩, ⟨g2, 61, dm.cs⟩] (fun w3 hk3 hr3 => ?_)
    have hx3 := fin hx2 hr3
    unfold Dc.finish
    rw [if_pos hr0]
    exact ⟨dm, rfl, hm.ext hx3, hmd, hx3⟩
  cases hmay hr0
  refine J.brf (d.dc.right z != 0) (by simp [hr0]) ?_
  obtain ⟨hlost, j, x, rfl, hj, hjz, hjd⟩ := right_0 hr0
  have hxz := h.each x (List.mem_of_getElem? hjz)
  have hfi : d.dc.finish (j : Int) = (0, { d.dc with zs := d.dc.zs.set j x.zc.finish }) := by
    unfold Dc.finish
    rw [if_neg (by simp [hr0]), hjd]; rfl
  refine J.brf ((1 : Int) == 0) rfl ?_
  refine J.drw 8 [(5, .one (.v (.pointer (some ⟨d.g, 0 + j * 5, none⟩)))), (6, .agg x.cs), (7, .agg x.finish.cs)] [⟨g1, 61, d.cs⟩, ⟨g2, 61, zDr⟩] (.cons (Y.ix d.zs.length d.c rfl hj) <| .cons (Y.ld 78 ⟨d.g, 0 + j * 5, none⟩ (fun u hk hr => (h.ext (fin hx2 hr)).lies hjz)) <| .cons (Y.call Tryz.func69 [.agg x.cs] (fun u _ _ => zfin_c x u)) .nil) ?_
  refine J.call Tryz.func63 [.agg d.cs, .one (.v (.int .i64 (j : Nat))), .agg x.finish.cs] [⟨g1, 61, d.cs⟩, ⟨g2, 61, zDr⟩] (fun w5 hk5 hr5 => ?_)
  have hx5 := fin hx2 hr5
  refine (dwith_c d j x.finish w5 (h.ext hx5) hj (hxz.finish.ext hx5)).mono ?_
  rintro e w6 ⟨g, c, rfl, hd6, hx⟩
  have hk6 := hx.known hk5
  generalize hD : ({ d with g := g, c := c, zs := d.zs.set j x.finish } : Dr) = D at *
  refine ⟨.agg D.cs, _, rfl, rfl, hk6, ?_⟩
  refine J.ret (.tup [(true, D.cs), (false, [.v (.int .i64 0)])]) [⟨g1, 61, d.cs⟩, ⟨g2, 61, D.cs⟩] (fun w7 hk7 hr7 => ?_)
  rw [hfi]
  exact ⟨D, rfl, hd6.chg (hr7.chg' (S := fun k => k = g2) (mem2 (.inr (.inr ((hk7.get 0 rfl).trans (hk6.get 0 rfl).symm))) (.inl rfl))) (fun k e => by subst e; exact ⟨_, _, hk6.get 1 rfl⟩), by rw [← hD, set_dc, hxz.finish_zc], fin (hx5.trans hx) hr7⟩
/-- The first i zones are flushed. -/
def flz (zs : List Zc) (i : Nat) : List Zc := (zs.take i).map Zc.flush ++ zs.drop i
theorem flz_get {zs : List Zc} {i : Nat} {x : Zc} (h : (flz zs i)[i]? = some x) : zs[i]? = some x := by
  unfold flz at h
  by_cases hi : i ≤ zs.length
  · rw [List.getElem?_append_right (by simp; omega)] at h
    rw [List.length_map, List.length_take, Nat.min_eq_left hi, Nat.sub_self, List.getElem?_drop, Nat.add_zero] at h
    exact h
  · rw [List.getElem?_eq_none (by simp; omega)] at h; cases h
theorem flz_step {zs : List Zc} {i : Nat} {x : Zc} (h : zs[i]? = some x) : (flz zs i).set i x.flush = flz zs (i + 1) := by
  have hi : i < zs.length := (List.getElem?_eq_some_iff.1 h).1
  have e : zs.drop i = x :: zs.drop (i + 1) := by
    rw [List.drop_eq_getElem_cons hi]
    congr 1
    exact (List.getElem?_eq_some_iff.1 h).2
  unfold flz
  rw [List.set_append_right _ _ (by simp; omega), e, List.take_add_one, h, List.map_append, List.length_map, List.length_take, Nat.min_eq_left (by omega), Nat.sub_self]
  simp
theorem dflush_c (d : Dr) (w : World) (h : DrAt w d) (hne : 0 < d.zs.length) : Calls Tryz.prog 32 #[d.val] w (dapR w d d.dc.flush) := by
  have hmost := h.most
  have h0 : d.dc.zs.length = d.zs.length := List.length_map ..
  refine J.enter Tryz.func32 rfl [] [.agg d.cs] 25 (known_nil w) ?_
  refine J.new 61 d.cs [] (fun g1 h1 _ => ?_)
  refine J.new 61 zDr [⟨g1, 61, d.cs⟩] (fun g2 h2 _ => ?_)
  have fin : ∀ {u w1 : World} {c1 c2 : List C}, Ext w u → Rel [⟨g1, 61, c1⟩, ⟨g2, 61, c2⟩] u w1 → Ext w w1 := fun hx hr => hx.rel' hr (mem2 (.inl h1) (.inl h2))
  by_cases hl : d.lost = true
  · have e : d.dc.flush = (11, d.dc) := by
      unfold Dc.flush Dc.right
      rw [if_pos (show d.dc.dead = true from hl), if_pos (by decide)]
    rw [e]
    refine J.brt d.lost hl ?_
    exact J.ret (.tup [(true, d.cs), (false, [.v (.int .i64 11)])]) [⟨g1, 61, d.cs⟩, ⟨g2, 61, d.cs⟩] (fun w1 _ hr => ⟨d, rfl, h.ext (fin (.refl w) hr), rfl, fin (.refl w) hr⟩)
  refine J.brf d.lost (Bool.eq_false_iff.2 hl) ?_
  have e : d.dc.flush = (0, { d.dc with zs := d.dc.zs.map Zc.flush }) := by
    unfold Dc.flush
    rw [if_neg]
    unfold Dc.right
    rw [if_neg (show ¬ d.dc.dead = true from hl), if_neg (by omega)]
    decide
  rw [e]
  refine J.loop (fun x : Nat × Dr => [(1, .one (.ptr 0 0)), (2, .one (.ptr 1 0)), (4, .one (.v (.int .i64 (x.1 : Nat))))]) (fun x => [⟨g1, 61, x.2.cs⟩, ⟨g2, 61, zDr⟩]) (fun x u => x.1 ≤ d.zs.length ∧ Ext w u ∧ DrAt u x.2 ∧ x.2.dc = { d.dc with zs := flz d.dc.zs x.1 } ∧ x.2.zs.length = d.zs.length) (fun x => d.zs.length - x.1) [] (0, d) (fun w3 hk3 hr3 => ⟨Nat.zero_le _, fin (.refl w) hr3, h.ext (fin (.refl w) hr3), by simp [flz], rfl⟩) ?_
  rintro p ⟨i, D⟩ w3 hp ⟨hi, hx3, hD, hDd, hDl⟩ hk3
  replace hi : i ≤ d.zs.length := hi
  replace hDl : D.zs.length = d.zs.length := hDl
  replace hDd : D.dc = { d.dc with zs := flz d.dc.zs i } := hDd
  replace hD : DrAt w3 D := hD
  refine J.brd ((i : Int) < (D.zs.length : Int)) (fun c1 => ?_) (fun c1 => ?_)
  · have hj : i < D.zs.length := by omega
    have hjz := List.getElem?_eq_getElem hj
    generalize hz : D.zs[i] = x at hjz
    have hxz := hD.each x (List.mem_of_getElem? hjz)
    have hxd : d.dc.zs[i]? = some x.zc := by
      refine flz_get (zs := d.dc.zs) ?_
      have : D.dc.zs[i]? = some x.zc := by
        show (D.zs.map Zr.zc)[i]? = _
        rw [List.getElem?_map, hjz]; rfl
      rw [hDd] at this; exact this
    refine J.drw 8 [(5, .one (.v (.pointer (some ⟨D.g, 0 + i * 5, none⟩)))), (6, .agg x.cs), (7, .agg x.flush.cs)] [⟨g1, 61, D.cs⟩, ⟨g2, 61, zDr⟩] (.cons (Y.ix D.zs.length D.c rfl hj) <| .cons (Y.ld 78 ⟨D.g, 0 + i * 5, none⟩ (fun u hk hr => (hD.ext (hr.ext' (mem2 (.inr ((hk.get 0 rfl).trans (hk3.get 0 rfl).symm)) (.inr ((hk.get 1 rfl).trans (hk3.get 1 rfl).symm))))).lies hjz)) <| .cons (Y.call Tryz.func66 [.agg x.cs] (fun u _ _ => zflush_c x u)) .nil) ?_
    refine J.call Tryz.func63 [.agg D.cs, .one (.v (.int .i64 (i : Nat))), .agg x.flush.cs] [⟨g1, 61, D.cs⟩, ⟨g2, 61, zDr⟩] (fun w5 hk5 hr5 => ?_)
    have hx35 := hr5.ext' (mem2 (.inr ((hk5.get 0 rfl).trans (hk3.get 0 rfl).symm)) (.inr ((hk5.get 1 rfl).trans (hk3.get 1 rfl).symm)))
    refine (dwith_c D i x.flush w5 (hD.ext hx35) hj (hxz.flush.ext hx35)).mono ?_
    rintro e w6 ⟨g, c, rfl, hd6, hx⟩
    have hk6 := hx.known hk5
    have hset := set_dc D i g c x.flush
    have hlen : ({ D with g := g, c := c, zs := D.zs.set i x.flush } : Dr).zs.length = D.zs.length := List.length_set
    generalize hE : ({ D with g := g, c := c, zs := D.zs.set i x.flush } : Dr) = E at *
    refine ⟨.agg E.cs, _, rfl, rfl, hk6, ?_⟩
    refine J.ari ((i + 1 : Nat) : Int) (.add (x := i) (y := 1) (by omega) (by omega) (by omega)) ?_
    have hx6 := (hx3.trans hx35).trans hx
    refine J.at (fun a u g1' g2' hk hr => hp (i + 1, E) a u g1' g2' hk ⟨by show i + 1 ≤ d.zs.length; omega, fin hx6 hr, ?_, ?_, by show E.zs.length = _; omega⟩ (by show d.zs.length - (i + 1) < d.zs.length - i; omega))
    · exact hd6.chg (hr.chg' (S := fun k => k = g1) (mem2 (.inl rfl) (.inr (.inr ((hk.get 1 rfl).trans (hk6.get 1 rfl).symm))))) (fun k e => by subst e; exact ⟨_, _, hk6.get 0 rfl⟩)
    · show E.dc = _
      rw [hset, hDd, hxz.flush_zc]
      show ({ d.dc with zs := (flz d.dc.zs i).set i x.zc.flush } : Dc) = _
      rw [flz_step hxd]
  · have : i = d.zs.length := by omega
    subst this
    refine J.ret (.tup [(true, D.cs), (false, [.v (.int .i64 0)])]) [⟨g1, 61, D.cs⟩, ⟨g2, 61, D.cs⟩] (fun w4 hk4 hr4 => ?_)
    refine ⟨D, rfl, hD.chg (hr4.chg' (S := fun k => k = g2) (mem2 (.inr (.inr ((hk4.get 0 rfl).trans (hk3.get 0 rfl).symm))) (.inl rfl))) (fun k e => by subst e; exact ⟨_, _, hk3.get 1 rfl⟩), ?_, fin hx3 hr4⟩
    rw [hDd]
    unfold flz
    rw [← h0, List.take_length, List.drop_length, List.append_nil]
end Go.Proofs.YtlhmpmmblnbmbaaGreat.Doc
set_option linter.unusedVariables false
set_option linter.unusedSimpArgs false
set_option maxRecDepth 100000
namespace Go.Proofs.YtlhmpmmblnbmbaaGreat.Doc
open Go.Proofs.YtlhmpmmblnbmbaaGreat.Sx Go.Proofs.YtlhmpmmblnbmbaaGreat.Byt Go.Proofs.YtlhmpmmblnbmbaaGreat.Pck Go.Proofs.YtlhmpmmblnbmbaaGreat.Bus Go.Lib
theorem w_u64 (n : Int) : IntKind.u64.wrap n = n % 18446744073709551616 := by simp [IntKind.wrap, IntKind.bits, IntKind.signed]
def u64 (n : Int) (i : Nat) : Int := n % 18446744073709551616 / 2 ^ (8 * i)
theorem u64_0 (n : Int) (i : Nat) : 0 ≤ u64 n i := Int.ediv_nonneg (by omega) (Int.le_of_lt (Int.pow_pos (by decide)))
theorem u64_step (n : Int) (i : Nat) : u64 n i / 256 = u64 n (i + 1) := by
  unfold u64
  rw [Int.ediv_ediv_of_nonneg (Int.le_of_lt (Int.pow_pos (by decide))), show 8 * (i + 1) = 8 * i + 8 by omega, Int.pow_add]
  rfl
theorem u64_big (n : Int) (i : Nat) : u64 n i < 18446744073709551616 := Int.lt_of_le_of_lt (Int.ediv_le_self _ (by omega)) (by omega)
theorem u64_byte (n : Int) : ∀ i, i < 8 → u64 n i % 256 = n / 2 ^ (8 * i) % 256
  | 0, _ => by unfold u64; show n % 18446744073709551616 / 1 % 256 = n / 1 % 256; omega
  | 1, _ => by unfold u64; show n % 18446744073709551616 / 256 % 256 = n / 256 % 256; omega
  | 2, _ => by unfold u64; show n % 18446744073709551616 / 65536 % 256 = n / 65536 % 256; omega
  | 3, _ => by unfold u64; show n % 18446744073709551616 / 16777216 % 256 = n / 16777216 % 256; omega
  | 4, _ => by unfold u64; show n % 18446744073709551616 / 4294967296 % 256 = n / 4294967296 % 256; omega
  | 5, _ => by unfold u64; show n % 18446744073709551616 / 1099511627776 % 256 = n / 1099511627776 % 256; omega
  | 6, _ => by unfold u64; show n % 18446744073709551616 / 281474976710656 % 256 = n / 281474976710656 % 256; omega
  | 7, _ => by unfold u64; show n % 18446744073709551616 / 72057594037927936 % 256 = n / 72057594037927936 % 256; omega
  | n + 8, h => by omega
theorem rint_c (n : Int) (w : World) : Calls Tryz.prog 71 #[.int .i64 n] w fun e w' => ∃ v, e = .returned v ∧ Bts w w' (i8 n) v := by
  refine J.enter Tryz.func71 rfl [] [.one (.v (.int .i64 n))] 21 (known_nil w) ?_
  have fin : ∀ {u w1 : World}, Ext w u → Rel [] u w1 → Ext w w1 := fun hx hr => hx.rel' hr (fun b hb => by cases hb)
  have fin0 : ∀ {u w1 : World}, Rel [] u w1 → Ext u w1 := fun hr => hr.ext' (fun b hb => by cases hb)
  refine J.cv 3 146 .i64 .u64 (x := n) (u64 n 0) (by rw [w_u64]; unfold u64; rw [Nat.mul_zero, Int.pow_zero, Int.ediv_one]) ?_
  refine J.loop (fun x : Nat × Value => [(3, .one (.v x.2)), (4, .one (.v (.int .u64 (u64 n x.1)))), (5, .one (.v (.int .i64 (x.1 : Nat))))]) (fun _ => []) (fun x u => x.1 ≤ 8 ∧ Ext w u ∧ u.ownsRow w.heap.size 5 1 x.2 x.1 (enc (by8 x.1 n))) (fun x => 8 - x.1) [] (0, .slice none 0 0) (fun w3 hk3 hr3 => ⟨Nat.zero_le _, fin (.refl w) hr3, ⟨rfl, .inl ⟨rfl, rfl⟩⟩⟩) ?_
  rintro q ⟨i, v⟩ w3 hq ⟨hi, hx3, hv⟩ hk3
  replace hi : i ≤ 8 := hi
  replace hv : w3.ownsRow w.heap.size 5 1 v i (enc (by8 i n)) := hv
  have hu0 := u64_0 n i
  have hub := u64_big n i
  refine J.brd ((i : Int) < 8) (fun h1 => ?_) (fun h1 => ?_)
  · refine J.ari (op := .rem) (k := .u64) (x := u64 n i) (y := 256) (u64 n i % 256) (.inr (.inr (.inr (.inr ⟨rfl, by decide, by rw [Int.tmod_eq_emod_of_nonneg hu0]⟩)))) ?_
    refine J.cv 146 5 .u64 .u8 (x := u64 n i % 256) (n / 2 ^ (8 * i) % 256) (by rw [IntKind.wrap_u8, ← u64_byte n i (by omega)]; omega) ?_
    refine J.bslO 5 1 1 [.int .u8 0] [.v (.int .u8 (n / 2 ^ (8 * i) % 256))] [] (fun w4 w5 _ hr4 _ hx5 hb5 => ?_)
    have hx45 := (fin0 hr4).trans hx5
    refine J.app 27 27 (.one (.v v)) (.one (.v (.slice (some ⟨w4.heap.size, 0, none⟩) 1 1))) [] (fun ty w6 hk6 hr6 => ?_)
    have hx6 := hx45.trans (fin0 hr6)
    obtain ⟨v', w7, e1, e2, e3⟩ := app_byte (owns_ext hv hx6) (n / 2 ^ (8 * i) % 256) ((fin0 hr6).blk hb5) (hx3.trans hx6).1 (by omega) ty
    refine ⟨v', w7, e1, known_nil _, ?_⟩
    have hx7 : Ext w w7 := ext_chg (hx3.trans hx6) e3 (fun k h => h)
    refine J.ari (op := .quo) (k := .u64) (x := u64 n i) (y := 256) (u64 n (i + 1)) (.inr (.inr (.inr (.inl ⟨rfl, by decide, by rw [Int.tdiv_eq_ediv_of_nonneg hu0, u64_step, w_u64]; have := u64_0 n (i + 1); have := u64_big n (i + 1); omega⟩)))) ?_
    refine J.ari ((i + 1 : Nat) : Int) (.add (x := i) (y := 1) (by omega) (by omega) (by omega)) ?_
    rw [← by8_step] at e2
    exact J.at (fun a u h1 h2 hk hr => hq (i + 1, v') a u h1 h2 hk ⟨by show i + 1 ≤ 8; omega, fin hx7 hr, owns_ext e2 (fin0 hr)⟩ (by show 8 - (i + 1) < 8 - i; omega))
  · have : i = 8 := by omega
    subst this
    exact J.ret (.one (.v v)) [] (fun w4 hk4 hr4 => ⟨v, rfl, fin hx3 hr4, by rw [i8_len]; exact owns_ext hv (fin0 hr4)⟩)
theorem rbytes_c (q : Part) (w : World) (hq : PAt w q) : Calls Tryz.prog 36 #[q.val] w fun e w' => ∃ v, e = .returned v ∧ Bts w w' (i8 q.n ++ q.l) v := by
  have hlen2 := hq.len
  have hle2 := hq.le
  refine J.enter Tryz.func36 rfl [] [.one (.v q.val)] 8 (known_nil w) ?_
  have fin : ∀ {u w1 : World}, Ext w u → Rel [] u w1 → Ext w w1 := fun hx hr => hx.rel' hr (fun b hb => by cases hb)
  have fin0 : ∀ {u w1 : World}, Rel [] u w1 → Ext u w1 := fun hr => hr.ext' (fun b hb => by cases hb)
  refine J.call Tryz.func71 [.one (.v (.int .i64 (q.n : Nat)))] [] (fun w1 hk1 hr1 => ?_)
  have hx1 := fin (.refl w) hr1
  refine (rint_c q.n w1).mono ?_
  rintro e w2 ⟨v0, rfl, hb0⟩
  replace hb0 := hb0.from hx1
  refine ⟨.one (.v v0), [], rfl, rfl, known_nil w2, ?_⟩
  refine J.app 27 27 (.one (.v v0)) (.one (.v q.val)) [] (fun ty w3 hk3 hr3 => ?_)
  have hx3 := fin hb0.1 hr3
  obtain ⟨v', w4, e1, e2, e3⟩ := app_bytes (owns_ext hb0.2 (fin0 hr3)) q (hq.at_.ext hx3) hq.nil hx3.1 (by rw [i8_len]; omega) ty
  refine ⟨v', w4, e1, known_nil _, ?_⟩
  have hx4 : Ext w w4 := ext_chg hx3 e3 (fun k h => h)
  refine J.ret (.one (.v v')) [] (fun w5 hk5 hr5 => ⟨v', rfl, fin hx4 hr5, ?_⟩)
  have := owns_ext e2 (fin0 hr5)
  have e : enc (i8 q.n ++ q.l) = enc (i8 q.n) ++ enc q.l := by simp [enc]
  rw [e, List.length_append, hlen2]; exact this
theorem rflag_c (b : Bool) (w : World) : Calls Tryz.prog 38 #[.bool b] w fun e w' => ∃ v, e = .returned v ∧ Bts w w' [b1 b] v := by
  refine J.enter Tryz.func38 rfl [] [.one (.v (.bool b))] 6 (known_nil w) ?_
  have fin0 : ∀ {u w1 : World}, Rel [] u w1 → Ext u w1 := fun hr => hr.ext' (fun b hb => by cases hb)
  have key : ∀ {w4 w5 w6 : World} (x : Int), Rel [] w w4 → Ext w4 w5 → Rel [] w5 w6 → w5.heap[w4.heap.size]? = some (Obj.cells #[.int .u8 x] 5 (0, 0)) → Bts w w6 [x] (.slice (some ⟨w4.heap.size, 0, none⟩) 1 1) := fun x hr4 hx5 hr6 hb => ⟨((fin0 hr4).trans hx5).trans (fin0 hr6), ⟨rfl, .inr ⟨_, 1, #[.int .u8 x], rfl, hr4.1, (fin0 hr6).blk hb, Nat.le_refl _, by decide, rfl, rfl⟩⟩⟩
  cases b
  · refine J.brf false rfl ?_
    refine J.bslO 5 1 1 [.int .u8 0] [.v (.int .u8 0)] [] (fun w4 w5 _ hr4 _ hx5 hb5 => ?_)
    exact J.ret (.one (.v (.slice (some ⟨w4.heap.size, 0, none⟩) 1 1))) [] (fun w6 _ hr6 => ⟨_, rfl, key 0 hr4 hx5 hr6 hb5⟩)
  · refine J.brt true rfl ?_
    refine J.bslO 5 1 1 [.int .u8 0] [.v (.int .u8 1)] [] (fun w4 w5 _ hr4 _ hx5 hb5 => ?_)
    exact J.ret (.one (.v (.slice (some ⟨w4.heap.size, 0, none⟩) 1 1))) [] (fun w6 _ hr6 => ⟨_, rfl, key 1 hr4 hx5 hr6 hb5⟩)
end Go.Proofs.YtlhmpmmblnbmbaaGreat.Doc
set_option linter.unusedVariables false
set_option linter.unusedSimpArgs false
namespace Go.Proofs.YtlhmpmmblnbmbaaGreat.Sx
open Go.RowKit
def bldL (S : List (Nat × SV)) : List (Nat × Operand) → Option (List (Nat × SV))
  | [] => some []
  | (i, x) :: r => match opd S x, bldL S r with
    | some v, some l => some ((i, v) :: l)
    | _, _ => none
def bldAt (S : List (Nat × SV)) (o : Oper) : Option (Nat × List (Nat × SV)) := match o.op with
  | .build T parts => (bldL S parts.toList).map (fun l => (T, l))
  | _ => none
def bldOf (n : Nat) (s : St) : Option (Nat × List (Nat × SV)) := (opAt n s).bind (bldAt s.S)
def idxAt (S : List (Nat × SV)) (o : Oper) : Option (Nat × SV × SV) := match o.op with
  | .index T x i => match opd S x, opd S i with
    | some a, some b => some (T, a, b)
    | _, _ => none
  | _ => none
section
variable {P : Program} {Q : Exit → Act → World → Prop} {tab : Tab} {n : Nat} {s : St} {w0 : World}
theorem bldL_ok {S : List (Nat × SV)} {L : List Blk} {a : Act} (hS : Slots n L S a) : ∀ {ps : List (Nat × Operand)} {l : List (Nat × SV)}, bldL S ps = some l → ps.map (fun p => (p.1, a.eval p.2)) = l.map (fun p => (p.1, p.2.den L))
  | [], l, h => by cases h; rfl
  | (i, x) :: r, l, h => by
    unfold bldL at h
    split at h <;> try (cases h; done)
    rename_i v l' hv hl
    cases h
    rw [List.map_cons, List.map_cons, bldL_ok hS hl, opd_ok hS hv]
/-- A value of parts. -/
theorem J.bld [ht : Ok P tab] [hQ : RetOk Q] (T : Nat) (l : List (Nat × SV)) (sv : SV) (L : List Blk) (hr : ∀ w, (Instr.build T (l.map (fun p => (p.1, p.2.den L))).toArray).run P w = .ok (sv.den L) w) (hn : SX P Q n (ansK (go tab n s) sv L) w0)
    (h : bldOf n (go tab n s) = some (T, l) := by kernel_rfl) (hL : (go tab n s).L = L := by kernel_rfl) : SX P Q n s w0 := by
  obtain ⟨o, ho, hh⟩ := Option.bind_eq_some_iff.1 h
  subst hL
  refine J.val sv ho (fun a w hS hK hR => ?_) hn
  unfold bldAt at hh
  split at hh <;> try (cases hh; done)
  rename_i T' parts hop
  obtain ⟨l', hl', e⟩ := Option.map_eq_some_iff.1 hh
  cases e
  have e2 : parts.map (fun p => (p.1, a.eval p.2)) = (l.map (fun p => (p.1, p.2.den (go tab n s).L))).toArray := by
    apply Array.toList_inj.1
    rw [Array.toList_map, bldL_ok hS hl']
  have := hr w
  rw [← e2] at this
  unfold execOp
  simp only [hop, Sem.run_bind]
  show ((Instr.build T (parts.map fun p => (p.1, a.eval p.2))).run P w).andThen _ = _
  rw [this]; rfl
theorem idx_run {S : List (Nat × SV)} {L : List Blk} {a : Act} (hS : Slots n L S a) {o : Oper} {T : Nat} {x i sv : SV} (h : idxAt S o = some (T, x, i)) (w : World) (hr : (Instr.index T (x.den L) (i.den L)).run P w = .ok (sv.den L) w) : (execOp a.eval o).run P w = .ok (.value (sv.den L)) w := by
  unfold idxAt at h
  split at h <;> try (cases h; done)
  rename_i T' x' i' hop
  split at h <;> try (cases h; done)
  rename_i va vb hx hi
  cases h
  have ex : a.eval x' = x.den L := opd_ok hS hx
  have ei : a.eval i' = i.den L := opd_ok hS hi
  unfold execOp
  simp only [hop, ex, ei, Sem.run_bind, hr, Result.andThen_ok]
  rfl
/-- A place of a value. -/
theorem Y.idx {L : List Blk} {E : Oper → List (Nat × SV)} {ops : Array Oper} {k : Nat} (T : Nat) (x i : SV) {sv : SV} (hr : ∀ w, (Instr.index T (x.den L) (i.den L)).run P w = .ok (sv.den L) w)
    (h : (ops[k]?).bind (fun o => idxAt (E o) o) = some (T, x, i) := by kernel_rfl) : YAt P n L E ops k sv w0 := ⟨fun o ho => by
  rw [ho] at h
  exact Yields.run fun a w hS _ _ => idx_run hS h w (hr w)⟩
end
end Go.Proofs.YtlhmpmmblnbmbaaGreat.Sx
set_option linter.unusedVariables false
set_option linter.unusedSimpArgs false
set_option maxRecDepth 100000
namespace Go.Proofs.YtlhmpmmblnbmbaaGreat.Doc
open Go.Proofs.YtlhmpmmblnbmbaaGreat.Sx Go.Proofs.YtlhmpmmblnbmbaaGreat.Byt Go.Proofs.YtlhmpmmblnbmbaaGreat.Pck Go.Proofs.YtlhmpmmblnbmbaaGreat.Bus Go.Proofs.YtlhmpmmblnbmbaaGreat.Cnf Go.Lib
theorem enc_one (l : List Int) : ∀ u ∈ enc l, u.oneCell' = true := fun u hu => by
  obtain ⟨x, _, rfl⟩ := List.mem_map.1 hu; rfl
theorem enc_add (a b : List Int) : enc (a ++ b) = enc a ++ enc b := by simp [enc]
theorem blk_keep {u v : World} {b e size n k t : Nat} {val : Value} {xs : List Value} {cs : Array Value} {f : Nat × Nat} (h : u.ownsRow b e size val n xs) (hx : Chg (fun k => val.ownBlock = some k) u v) (hb : u.heap[k]? = some (Obj.cells cs t f)) (ht : t ≠ e) : v.heap[k]? = some (Obj.cells cs t f) := hx.blk hb (fun hs => by
  obtain ⟨cs2, hb2, _⟩ := own_ty h hs
  exact ne_ty hb hb2 ht rfl)
theorem Bts.own {w w' : World} {l : List Int} {v : Value} {n : Nat} (h : Bts w w' l v) (hn : l.length = n) : w'.ownsRow w.heap.size 5 1 v n (enc l) := by
  subst hn; exact h.2
theorem cat_bytes {w : World} {b b2 n m : Nat} {v v2 : Value} {xs ys : List Int} (h : w.ownsRow b 5 1 v n (enc xs)) (h2 : w.ownsRow b2 5 1 v2 m (enc ys)) (hb : b ≤ w.heap.size) (hm : n + m ≤ 100000000000) (ty : Nat) :
    ∃ A c w', (Builtin.append_ #[27, 27] ty #[v, v2]).run Tryz.prog w = .ok (.slice A (n + m) c) w' ∧ w'.ownsRow b 5 1 (.slice A (n + m) c) (n + m) (enc (xs ++ ys)) ∧ Chg (fun k => v.ownBlock = some k) w w' := by
  rw [enc_add]
  exact app_all (P := Tryz.prog) (.int .u8 0) 1 27 h h2 (enc_one _) hb (by simp only [maxLen]; omega) (by omega) ty
def NumAt (w : World) (g : Nat) (c : Cf) : Prop := w.heap[g]? = some (Obj.cells (c.nums.map (Value.int .i64)).toArray 3 (0, 0))
theorem NumAt.lies {w : World} {g i : Nat} {c : Cf} {x : Int} (h : NumAt w g c) (hx : c.nums[i]? = some x) : LiesAt w ⟨g, 0 + i * 1, none⟩ [.int .i64 x] := fun j v hv => by
  cases j with
  | succ j => cases hv
  | zero =>
    cases hv
    rw [Addr.add_mid]
    unfold World.cell?
    rw [show w.heap[g]? = _ from h]
    have : (c.nums.map (Value.int .i64))[i]? = some (.int .i64 x) := by rw [List.getElem?_map, hx]; rfl
    simpa using this
theorem rlist_c {c : Cf} (w : World) : Calls Tryz.prog 44 #[c.val] w fun e w' => ∃ g, e = .returned (.slice (some ⟨g, 0, none⟩) 10 10) ∧ NumAt w' g c ∧ Ext w w' := by
  refine J.enter Tryz.func44 rfl [] [.agg c.cs] 24 (known_nil w) ?_
  refine J.new 23 c.cs [] (fun g1 h1 _ => ?_)
  refine J.bslO 3 10 1 [.int .i64 0, .int .i64 0, .int .i64 0, .int .i64 0, .int .i64 0, .int .i64 0, .int .i64 0, .int .i64 0, .int .i64 0, .int .i64 0] [.v (.int .i64 c.members), .v (.int .i64 c.unit), .v (.int .i64 c.block), .v (.int .i64 c.cap), .v (.int .i64 c.zones), .v (.int .i64 c.spare), .v (.int .i64 c.mta), .v (.int .i64 c.opn), .v (.int .i64 c.active), .v (.int .i64 c.limit)] [⟨g1, 23, c.cs⟩] (fun w4 w5 hk4 hr4 hk5 hx5 hb5 => ?_)
  have fin : ∀ {u w1 : World}, Ext w u → Rel [⟨g1, 23, c.cs⟩] u w1 → Ext w w1 := fun hx hr => hx.rel' hr (mem1 (.inl h1))
  exact J.ret (.one (.v (.slice (some ⟨w4.heap.size, 0, none⟩) 10 10))) [⟨g1, 23, c.cs⟩] (fun w6 hk6 hr6 => ⟨_, rfl, (hr6.ext' (mem1 (.inr ((hk6.get 0 rfl).trans (hk5.get 0 rfl).symm)))).blk hb5, fin ((fin (.refl w) hr4).trans hx5) hr6⟩)
theorem rsane_c {c : Cf} (w : World) : Calls Tryz.prog 16 #[c.val] w fun e w' => e = .returned (.bool c.sane) ∧ Ext w w' := by
  refine J.enter Tryz.func16 rfl [] [.agg c.cs] 25 (known_nil w) ?_
  refine J.new 23 c.cs [] (fun g1 h1 _ => ?_)
  have fin : ∀ {u w1 : World}, Ext w u → Rel [⟨g1, 23, c.cs⟩] u w1 → Ext w w1 := fun hx hr => hx.rel' hr (mem1 (.inl h1))
  have same : ∀ {u w1 : World}, Known [⟨g1, 23, c.cs⟩] u → Known [⟨g1, 23, c.cs⟩] w1 → Rel [⟨g1, 23, c.cs⟩] u w1 → Ext u w1 := fun h hk hr => hr.ext' (mem1 (.inr ((hk.get 0 rfl).trans (h.get 0 rfl).symm)))
  refine J.call Tryz.func44 [.agg c.cs] [⟨g1, 23, c.cs⟩] (fun w1 hk1 hr1 => ?_)
  refine (rlist_c (c := c) w1).mono ?_
  rintro e w2 ⟨g, rfl, hn, hx⟩
  have hx2 := (fin (.refl w) hr1).trans hx
  have hk2 := hx.known hk1
  refine ⟨.one (.v (.slice (some ⟨g, 0, none⟩) 10 10)), _, rfl, rfl, hk2, ?_⟩
  refine J.loop (fun i : Nat => [(3, .one (.v (.slice (some ⟨g, 0, none⟩) 10 10))), (4, .one (.v (.int .i64 (i : Nat))))]) (fun _ => [⟨g1, 23, c.cs⟩]) (fun i u => i ≤ 10 ∧ (c.nums.take i).all okN = true ∧ Ext w2 u) (fun i => 10 - i) [] 0 (fun w3 hk3 hr3 => ⟨Nat.zero_le _, rfl, same hk2 hk3 hr3⟩) ?_
  intro p i w1 hpp ⟨hi, hal, hx1⟩ hk1
  refine J.brd ((i : Int) < 10) (fun h1 => ?_) (fun h1 => ?_)
  · have hj : i < c.nums.length := by show i < 10; omega
    have hjz := List.getElem?_eq_getElem hj
    generalize c.nums[i] = x at hjz
    have hstep : c.nums.take (i + 1) = c.nums.take i ++ [x] := by rw [List.take_add_one, hjz]; rfl
    have hbad : okN x = false → c.sane = false := fun hb => by
      unfold Cf.sane
      rw [← Bool.not_eq_true, List.all_eq_true]
      exact fun hall => by have := hall x (List.mem_of_getElem? hjz); rw [hb] at this; cases this
    refine J.ix g 0 10 10 1 i rfl (by omega) ?_
    refine J.ld 3 ⟨g, 0 + i * 1, none⟩ (.one (.v (.int .i64 x))) [⟨g1, 23, c.cs⟩] (fun w4 hk4 hr4 => NumAt.lies (show NumAt w4 g c from (hx1.trans (same hk1 hk4 hr4)).blk hn) hjz) ?_
    by_cases c1 : x < 1
    · refine J.lit 18 (decide (x < 1)) true (decide_eq_true c1) ?_
      exact J.ret (.one (.lit false)) [⟨g1, 23, c.cs⟩] (fun w5 _ hr5 => ⟨by rw [hbad (by simp [okN]; omega)]; rfl, fin (hx2.trans hx1) hr5⟩)
    refine J.lit 18 (decide (x < 1)) false (decide_eq_false c1) ?_
    refine J.ix g 0 10 10 1 i rfl (by omega) ?_
    refine J.ld 3 ⟨g, 0 + i * 1, none⟩ (.one (.v (.int .i64 x))) [⟨g1, 23, c.cs⟩] (fun w4 hk4 hr4 => NumAt.lies (show NumAt w4 g c from (hx1.trans (same hk1 hk4 hr4)).blk hn) hjz) ?_
    refine J.brd (x > 1048576) (fun c2 => ?_) (fun c2 => ?_)
    · exact J.ret (.one (.lit false)) [⟨g1, 23, c.cs⟩] (fun w5 _ hr5 => ⟨by rw [hbad (by simp [okN]; omega)]; rfl, fin (hx2.trans hx1) hr5⟩)
    · refine J.ari ((i + 1 : Nat) : Int) (.add (x := i) (y := 1) (by omega) (by omega) (by omega)) ?_
      exact J.at (fun a u h1 h2 hk hr => hpp (i + 1) a u h1 h2 hk ⟨by omega, by rw [hstep, List.all_append, hal]; simp [okN]; omega, hx1.trans (same hk1 hk hr)⟩ (by omega))
  · have : i = 10 := by omega
    subst this
    exact J.ret (.one (.lit true)) [⟨g1, 23, c.cs⟩] (fun w5 _ hr5 => ⟨by show Ending.returned (.bool true) = .returned (.bool c.sane); rw [← hal]; rfl, fin (hx2.trans hx1) hr5⟩)
theorem rput_c {c : Cf} (w : World) : Calls Tryz.prog 37 #[c.val] w fun e w' => ∃ v, e = .returned v ∧ Bts w w' c.put v := by
  refine J.enter Tryz.func37 rfl [] [.agg c.cs] 25 (known_nil w) ?_
  refine J.new 23 c.cs [] (fun g hg _ => ?_)
  have fin : ∀ {u w1 : World}, Ext w u → Rel [⟨g, 23, c.cs⟩] u w1 → Ext w w1 := fun hx hr => hx.rel' hr (mem1 (.inl hg))
  have same : ∀ {u w1 : World}, Known [⟨g, 23, c.cs⟩] u → Known [⟨g, 23, c.cs⟩] w1 → Rel [⟨g, 23, c.cs⟩] u w1 → Ext u w1 := fun h hk hr => hr.ext' (mem1 (.inr ((hk.get 0 rfl).trans (h.get 0 rfl).symm)))
  refine J.call Tryz.func71 [.one (.v (.int .i64 c.id))] [⟨g, 23, c.cs⟩] (fun w1 hk1 hr1 => ?_)
  have hx1 := fin (.refl w) hr1
  refine (rint_c c.id w1).mono ?_
  rintro e w2 ⟨v0, rfl, hb⟩
  have hb0 := hb.from hx1
  have hk2 := hb.1.known hk1
  refine ⟨.one (.v v0), _, rfl, rfl, hk2, ?_⟩
  refine J.call Tryz.func44 [.agg c.cs] [⟨g, 23, c.cs⟩] (fun w3 hk3 hr3 => ?_)
  refine (rlist_c (c := c) w3).mono ?_
  rintro e w4 ⟨gr, rfl, hp4, hx⟩
  have hx24 := (same hk2 hk3 hr3).trans hx
  have hk4 := hx.known hk3
  have hx4 := hb0.1.trans hx24
  refine ⟨.one (.v (.slice (some ⟨gr, 0, none⟩) 10 10)), _, rfl, rfl, hk4, ?_⟩
  have ho4 : w4.ownsRow w.heap.size 5 1 v0 8 (enc (i8 c.id)) := owns_ext hb0.2 hx24
  refine J.loop (fun x : Nat × Value => [(3, .one (.v x.2)), (4, .one (.v (.slice (some ⟨gr, 0, none⟩) 10 10))), (5, .one (.v (.int .i64 (x.1 : Nat))))]) (fun _ => [⟨g, 23, c.cs⟩]) (fun x u => x.1 ≤ 10 ∧ Ext w u ∧ NumAt u gr c ∧ u.ownsRow w.heap.size 5 1 x.2 (8 + 8 * x.1) (enc (i8 c.id ++ (c.nums.take x.1).flatMap i8))) (fun x => 10 - x.1) [] (0, v0) (fun w5 hk5 hr5 => ⟨Nat.zero_le _, hx4.trans (same hk4 hk5 hr5), (same hk4 hk5 hr5).blk hp4, by rw [show i8 c.id ++ (c.nums.take 0).flatMap i8 = i8 c.id by simp]; exact owns_ext ho4 (same hk4 hk5 hr5)⟩) ?_
  rintro p ⟨i, v⟩ w5 hpp ⟨hi, hx5, hn5, hv⟩ hk5
  replace hi : i ≤ 10 := hi
  replace hn5 : NumAt w5 gr c := hn5
  replace hv : w5.ownsRow w.heap.size 5 1 v (8 + 8 * i) (enc (i8 c.id ++ (c.nums.take i).flatMap i8)) := hv
  refine J.brd ((i : Int) < 10) (fun h1 => ?_) (fun h1 => ?_)
  · have hj : i < c.nums.length := by show i < 10; omega
    have hjz := List.getElem?_eq_getElem hj
    generalize c.nums[i] = x at hjz
    have hstep : i8 c.id ++ (c.nums.take (i + 1)).flatMap i8 = (i8 c.id ++ (c.nums.take i).flatMap i8) ++ i8 x := by rw [List.take_add_one, hjz]; simp
    refine J.ix gr 0 10 10 1 i rfl (by omega) ?_
    refine J.ld 3 ⟨gr, 0 + i * 1, none⟩ (.one (.v (.int .i64 x))) [⟨g, 23, c.cs⟩] (fun w6 hk6 hr6 => NumAt.lies (show NumAt w6 gr c from (same hk5 hk6 hr6).blk hn5) hjz) ?_
    refine J.call Tryz.func71 [.one (.v (.int .i64 x))] [⟨g, 23, c.cs⟩] (fun w6 hk6 hr6 => ?_)
    refine (rint_c x w6).mono ?_
    rintro e w7 ⟨v', rfl, hb7⟩
    have hx57 := (same hk5 hk6 hr6).trans hb7.1
    have hk7 := hb7.1.known hk6
    refine ⟨.one (.v v'), _, rfl, rfl, hk7, ?_⟩
    refine J.app 27 27 (.one (.v v)) (.one (.v v')) [⟨g, 23, c.cs⟩] (fun ty w8 hk8 hr8 => ?_)
    have hx78 := same hk7 hk8 hr8
    have hx58 := hx57.trans hx78
    have hv8 := owns_ext hv hx58
    obtain ⟨A, cc, w9, e1, e2, e3⟩ := cat_bytes hv8 (owns_ext (Bts.own hb7 (i8_len x)) hx78) (hx5.trans hx58).1 (by omega) ty
    have hk9 := Img.own_known hv8 hk8 e3 (mem1 (fun e => absurd e (by show ¬ 23 = 5; decide)))
    refine ⟨.slice A (8 + 8 * i + 8) cc, w9, e1, hk9, ?_⟩
    have hx9 : Ext w w9 := ext_chg (hx5.trans hx58) e3 (fun k e => by obtain ⟨cs, _, hb⟩ := own_ty hv8 e; exact hb)
    have hn9 : NumAt w9 gr c := blk_keep hv8 e3 (hx58.blk hn5) (by show 3 ≠ 5; decide)
    refine J.ari ((i + 1 : Nat) : Int) (.add (x := i) (y := 1) (by omega) (by omega) (by omega)) ?_
    rw [← hstep] at e2
    exact J.at (fun a u h1 h2 hk hr => hpp (i + 1, .slice A (8 + 8 * i + 8) cc) a u h1 h2 hk ⟨by show i + 1 ≤ 10; omega, fin hx9 hr, (same hk9 hk hr).blk hn9, owns_ext e2 (same hk9 hk hr)⟩ (by show 10 - (i + 1) < 10 - i; omega))
  · have : i = 10 := by omega
    subst this
    refine J.ret (.one (.v v)) [⟨g, 23, c.cs⟩] (fun w6 hk6 hr6 => ⟨v, rfl, fin hx5 hr6, ?_⟩)
    have e : i8 c.id ++ (c.nums.take 10).flatMap i8 = c.put := by unfold Cf.put; rw [show c.nums.take 10 = c.nums from List.take_length (l := c.nums)]
    rw [e] at hv
    rw [show c.put.length = 88 by rw [← e]; simp [flat8_len, i8_len, Cf.nums]]
    exact owns_ext hv (same hk5 hk6 hr6)
theorem ceil {n b : Int} (hb : 0 < b) : (n + b - 1) / b = if n % b > 0 then n / b + 1 else n / b := by
  have h0 := Int.emod_nonneg n (b := b) (by omega)
  have h1 := Int.emod_lt_of_pos n hb
  have h2 := Int.emod_add_mul_ediv n b
  have e : n + b - 1 = (n % b + b - 1) + b * (n / b) := by omega
  rw [e, Int.add_mul_ediv_left _ _ (by omega)]
  split
  · rw [show n % b + b - 1 = (n % b - 1) + b * 1 by omega, Int.add_mul_ediv_left _ _ (by omega), Int.ediv_eq_zero_of_lt (by omega) (by omega)]; omega
  · rw [Int.ediv_eq_zero_of_lt (by omega) (by omega)]; omega
def nV (a : Int) : C := .v (.int .i64 a)
def nn1 (c : Cf) : Int := IntKind.i64.wrap ((c.members - 1) * c.unit)
def nn2 (c : Cf) : Int := IntKind.i64.wrap (c.cap.tdiv c.unit)
def nn3 (c : Cf) : Int := IntKind.i64.wrap (IntKind.i64.wrap (nn2 c * (c.members - 1)) * c.unit)
def nn4 (c : Cf) : Int := IntKind.i64.wrap (c.zones + c.spare)
def nn5 (c : Cf) : Int := IntKind.i64.wrap (nn4 c + c.mta)
theorem rnum_c {c : Cf} (w : World) (hs : c.sane = true) : Calls Tryz.prog 17 #[c.val] w fun e w' => e = .returned (.agg #[.int .i64 (c.members - 1), .int .i64 (nn1 c), .int .i64 (nn2 c), .int .i64 (nn3 c), .int .i64 (nn4 c), .int .i64 (nn5 c), .int .i64 c.room]) ∧ Ext w w' := by
  obtain ⟨h1, h2, h3, h4⟩ := need_bound hs
  have S := c.sane_iff hs
  obtain ⟨hm1, hm2⟩ := S.members; obtain ⟨hu1, hu2⟩ := S.unit; obtain ⟨hb1, hb2⟩ := S.block; obtain ⟨hc1, hc2⟩ := S.cap; obtain ⟨hz1, hz2⟩ := S.zones; obtain ⟨hp1, hp2⟩ := S.spare; obtain ⟨ht1, ht2⟩ := S.mta
  refine J.enter Tryz.func17 rfl [] [.agg c.cs] 78 (known_nil w) ?_
  refine J.new 23 c.cs [] (fun g1 hg1 _ => ?_)
  refine J.new 45 [nV 0, nV 0, nV 0, nV 0, nV 0, nV 0, nV 0] [⟨g1, 23, c.cs⟩] (fun g2 hg2 _ => ?_)
  have fin : ∀ {u w1 : World} {c1 c2 : List C}, Ext w u → Rel [⟨g1, 23, c1⟩, ⟨g2, 45, c2⟩] u w1 → Ext w w1 := fun hx hr => hx.rel' hr (mem2 (.inl hg1) (.inl hg2))
  refine J.call Tryz.func16 [.agg c.cs] [⟨g1, 23, c.cs⟩, ⟨g2, 45, [nV 0, nV 0, nV 0, nV 0, nV 0, nV 0, nV 0]⟩] (fun w1 hk1 hr1 => ?_)
  refine (rsane_c (c := c) w1).mono ?_
  rintro e w2 ⟨rfl, hx⟩
  have hx2 := (fin (.refl w) hr1).trans hx
  have hk2 := hx.known hk1
  refine ⟨.one (.v (.bool c.sane)), _, rfl, rfl, hk2, ?_⟩
  refine J.brf (!c.sane) (by rw [hs]; rfl) ?_
  refine J.ari (c.members - 1) (.sub (x := c.members) (y := 1) rfl (by omega) (by omega)) ?_
  refine J.ari (8 * c.members) (.mul (x := 8) (y := c.members) rfl (by omega) (by omega)) ?_
  refine J.ari (320 + 8 * c.members) (.add (x := 320) (y := 8 * c.members) rfl (by omega) (by omega)) ?_
  refine J.ari (48 * c.zones) (.mul (x := 48) (y := c.zones) rfl (by omega) (by omega)) ?_
  refine J.ari (320 + 8 * c.members + 48 * c.zones) (.add (x := 320 + 8 * c.members) (y := 48 * c.zones) rfl (by omega) (by omega)) ?_
  refine J.ari (c.zones + 1) (.add (x := c.zones) (y := 1) rfl (by omega) (by omega)) ?_
  refine J.ari ((c.zones + 1) * c.unit) (.mul (x := c.zones + 1) (y := c.unit) rfl (by omega) (by omega)) ?_
  refine J.ari ((c.zones + 1) * c.unit * c.block) (.mul (x := (c.zones + 1) * c.unit) (y := c.block) rfl (by omega) (by omega)) ?_
  have hne : 320 + 8 * c.members + 48 * c.zones + (c.zones + 1) * c.unit * c.block = c.need := by unfold Cf.need; omega
  refine J.ari c.need (.add (x := 320 + 8 * c.members + 48 * c.zones) (y := (c.zones + 1) * c.unit * c.block) hne (by omega) (by omega)) ?_
  have hn0 : 0 ≤ c.need := by omega
  have hn1 : c.need ≤ 1152922605000000000 := by omega
  refine J.ari (c.need / c.block) (.quo (x := c.need) (y := c.block) hn0 (by omega) (by omega) rfl) ?_
  refine J.ari (c.need % c.block) (.rem (x := c.need) (y := c.block) hn0 (by omega) rfl) ?_
  have hq0 : 0 ≤ c.need / c.block := Int.ediv_nonneg hn0 (by omega)
  have hq1 : c.need / c.block ≤ c.need := Int.ediv_le_self _ hn0
  have hroom : c.room = (if c.need % c.block > 0 then c.need / c.block + 1 else c.need / c.block) + 2 := by
    unfold Cf.room
    rw [if_pos hs, ceil (by omega)]
  by_cases hr : c.need % c.block > 0
  · rw [if_pos hr] at hroom
    refine J.brt (decide (c.need % c.block > 0)) (decide_eq_true hr) ?_
    refine J.ari (c.need / c.block + 1) (.add (x := c.need / c.block) (y := 1) rfl (by omega) (by omega)) ?_
    refine J.drw 35 [(4, .one (.v (.int .i64 (IntKind.i64.wrap ((c.members - 1) * c.unit))))), (9, .one (.v (.int .i64 (IntKind.i64.wrap (c.cap.tdiv c.unit))))), (14, .one (.v (.int .i64 (IntKind.i64.wrap (c.cap.tdiv c.unit))))), (16, .one (.v (.int .i64 (IntKind.i64.wrap (IntKind.i64.wrap (c.cap.tdiv c.unit) * (c.members - 1)))))), (19, .one (.v (.int .i64 (IntKind.i64.wrap (IntKind.i64.wrap (IntKind.i64.wrap (c.cap.tdiv c.unit) * (c.members - 1)) * c.unit))))), (24, .one (.v (.int .i64 (IntKind.i64.wrap (c.zones + c.spare))))), (29, .one (.v (.int .i64 (IntKind.i64.wrap (c.zones + c.spare))))), (32, .one (.v (.int .i64 (IntKind.i64.wrap (IntKind.i64.wrap (c.zones + c.spare) + c.mta))))), (34, .one (.v (.int .i64 ((c.need / c.block + 1) + 2))))] [⟨g1, 23, c.cs⟩, ⟨g2, 45, [nV 0, nV 0, nV 0, nV 0, nV 0, nV 0, nV 0]⟩] (.cons (Y.ari (op := .mul) (k := .i64) (x := c.members - 1) (y := c.unit) (.inr (.inr (.inl ⟨rfl, rfl⟩)))) <| .cons (Y.ari (op := .quo) (k := .i64) (x := c.cap) (y := c.unit) (.inr (.inr (.inr (.inl ⟨rfl, by omega, rfl⟩))))) <| .cons (Y.ari (op := .quo) (k := .i64) (x := c.cap) (y := c.unit) (.inr (.inr (.inr (.inl ⟨rfl, by omega, rfl⟩))))) <| .cons (Y.ari (op := .mul) (k := .i64) (x := IntKind.i64.wrap (c.cap.tdiv c.unit)) (y := c.members - 1) (.inr (.inr (.inl ⟨rfl, rfl⟩)))) <| .cons (Y.ari (op := .mul) (k := .i64) (x := IntKind.i64.wrap (IntKind.i64.wrap (c.cap.tdiv c.unit) * (c.members - 1))) (y := c.unit) (.inr (.inr (.inl ⟨rfl, rfl⟩)))) <| .cons (Y.ari (op := .add) (k := .i64) (x := c.zones) (y := c.spare) (.inl ⟨rfl, rfl⟩)) <| .cons (Y.ari (op := .add) (k := .i64) (x := c.zones) (y := c.spare) (.inl ⟨rfl, rfl⟩)) <| .cons (Y.ari (op := .add) (k := .i64) (x := IntKind.i64.wrap (c.zones + c.spare)) (y := c.mta) (.inl ⟨rfl, rfl⟩)) <| .cons (Y.ari (.add (x := (c.need / c.block + 1)) (y := 2) rfl (by omega) (by omega))) .nil) ?_
    refine J.bld 45 [(0, .one (.v (.int .i64 (c.members - 1)))), (1, .one (.v (.int .i64 (IntKind.i64.wrap ((c.members - 1) * c.unit))))), (2, .one (.v (.int .i64 (IntKind.i64.wrap (c.cap.tdiv c.unit))))), (3, .one (.v (.int .i64 (IntKind.i64.wrap (IntKind.i64.wrap (IntKind.i64.wrap (c.cap.tdiv c.unit) * (c.members - 1)) * c.unit))))), (4, .one (.v (.int .i64 (IntKind.i64.wrap (c.zones + c.spare))))), (5, .one (.v (.int .i64 (IntKind.i64.wrap (IntKind.i64.wrap (c.zones + c.spare) + c.mta))))), (6, .one (.v (.int .i64 ((c.need / c.block + 1) + 2))))] (.agg [nV (c.members - 1), nV (IntKind.i64.wrap ((c.members - 1) * c.unit)), nV (IntKind.i64.wrap (c.cap.tdiv c.unit)), nV (IntKind.i64.wrap (IntKind.i64.wrap (IntKind.i64.wrap (c.cap.tdiv c.unit) * (c.members - 1)) * c.unit)), nV (IntKind.i64.wrap (c.zones + c.spare)), nV (IntKind.i64.wrap (IntKind.i64.wrap (c.zones + c.spare) + c.mta)), nV ((c.need / c.block + 1) + 2)]) [⟨g1, 23, c.cs⟩, ⟨g2, 45, [nV 0, nV 0, nV 0, nV 0, nV 0, nV 0, nV 0]⟩] (fun w => by kernel_rfl) ?_
    exact J.ret (.agg [nV (c.members - 1), nV (IntKind.i64.wrap ((c.members - 1) * c.unit)), nV (IntKind.i64.wrap (c.cap.tdiv c.unit)), nV (IntKind.i64.wrap (IntKind.i64.wrap (IntKind.i64.wrap (c.cap.tdiv c.unit) * (c.members - 1)) * c.unit)), nV (IntKind.i64.wrap (c.zones + c.spare)), nV (IntKind.i64.wrap (IntKind.i64.wrap (c.zones + c.spare) + c.mta)), nV ((c.need / c.block + 1) + 2)]) [⟨g1, 23, c.cs⟩, ⟨g2, 45, [nV (c.members - 1), nV (IntKind.i64.wrap ((c.members - 1) * c.unit)), nV (IntKind.i64.wrap (c.cap.tdiv c.unit)), nV (IntKind.i64.wrap (IntKind.i64.wrap (IntKind.i64.wrap (c.cap.tdiv c.unit) * (c.members - 1)) * c.unit)), nV (IntKind.i64.wrap (c.zones + c.spare)), nV (IntKind.i64.wrap (IntKind.i64.wrap (c.zones + c.spare) + c.mta)), nV ((c.need / c.block + 1) + 2)]⟩] (fun w3 hk3 hr3 => ⟨by rw [hroom]; rfl, fin hx2 hr3⟩)
  · rw [if_neg hr] at hroom
    refine J.brf (decide (c.need % c.block > 0)) (decide_eq_false hr) ?_
    refine J.drw 35 [(4, .one (.v (.int .i64 (IntKind.i64.wrap ((c.members - 1) * c.unit))))), (9, .one (.v (.int .i64 (IntKind.i64.wrap (c.cap.tdiv c.unit))))), (14, .one (.v (.int .i64 (IntKind.i64.wrap (c.cap.tdiv c.unit))))), (16, .one (.v (.int .i64 (IntKind.i64.wrap (IntKind.i64.wrap (c.cap.tdiv c.unit) * (c.members - 1)))))), (19, .one (.v (.int .i64 (IntKind.i64.wrap (IntKind.i64.wrap (IntKind.i64.wrap (c.cap.tdiv c.unit) * (c.members - 1)) * c.unit))))), (24, .one (.v (.int .i64 (IntKind.i64.wrap (c.zones + c.spare))))), (29, .one (.v (.int .i64 (IntKind.i64.wrap (c.zones + c.spare))))), (32, .one (.v (.int .i64 (IntKind.i64.wrap (IntKind.i64.wrap (c.zones + c.spare) + c.mta))))), (34, .one (.v (.int .i64 (c.need / c.block + 2))))] [⟨g1, 23, c.cs⟩, ⟨g2, 45, [nV 0, nV 0, nV 0, nV 0, nV 0, nV 0, nV 0]⟩] (.cons (Y.ari (op := .mul) (k := .i64) (x := c.members - 1) (y := c.unit) (.inr (.inr (.inl ⟨rfl, rfl⟩)))) <| .cons (Y.ari (op := .quo) (k := .i64) (x := c.cap) (y := c.unit) (.inr (.inr (.inr (.inl ⟨rfl, by omega, rfl⟩))))) <| .cons (Y.ari (op := .quo) (k := .i64) (x := c.cap) (y := c.unit) (.inr (.inr (.inr (.inl ⟨rfl, by omega, rfl⟩))))) <| .cons (Y.ari (op := .mul) (k := .i64) (x := IntKind.i64.wrap (c.cap.tdiv c.unit)) (y := c.members - 1) (.inr (.inr (.inl ⟨rfl, rfl⟩)))) <| .cons (Y.ari (op := .mul) (k := .i64) (x := IntKind.i64.wrap (IntKind.i64.wrap (c.cap.tdiv c.unit) * (c.members - 1))) (y := c.unit) (.inr (.inr (.inl ⟨rfl, rfl⟩)))) <| .cons (Y.ari (op := .add) (k := .i64) (x := c.zones) (y := c.spare) (.inl ⟨rfl, rfl⟩)) <| .cons (Y.ari (op := .add) (k := .i64) (x := c.zones) (y := c.spare) (.inl ⟨rfl, rfl⟩)) <| .cons (Y.ari (op := .add) (k := .i64) (x := IntKind.i64.wrap (c.zones + c.spare)) (y := c.mta) (.inl ⟨rfl, rfl⟩)) <| .cons (Y.ari (.add (x := c.need / c.block) (y := 2) rfl (by omega) (by omega))) .nil) ?_
    refine J.bld 45 [(0, .one (.v (.int .i64 (c.members - 1)))), (1, .one (.v (.int .i64 (IntKind.i64.wrap ((c.members - 1) * c.unit))))), (2, .one (.v (.int .i64 (IntKind.i64.wrap (c.cap.tdiv c.unit))))), (3, .one (.v (.int .i64 (IntKind.i64.wrap (IntKind.i64.wrap (IntKind.i64.wrap (c.cap.tdiv c.unit) * (c.members - 1)) * c.unit))))), (4, .one (.v (.int .i64 (IntKind.i64.wrap (c.zones + c.spare))))), (5, .one (.v (.int .i64 (IntKind.i64.wrap (IntKind.i64.wrap (c.zones + c.spare) + c.mta))))), (6, .one (.v (.int .i64 (c.need / c.block + 2))))] (.agg [nV (c.members - 1), nV (IntKind.i64.wrap ((c.members - 1) * c.unit)), nV (IntKind.i64.wrap (c.cap.tdiv c.unit)), nV (IntKind.i64.wrap (IntKind.i64.wrap (IntKind.i64.wrap (c.cap.tdiv c.unit) * (c.members - 1)) * c.unit)), nV (IntKind.i64.wrap (c.zones + c.spare)), nV (IntKind.i64.wrap (IntKind.i64.wrap (c.zones + c.spare) + c.mta)), nV (c.need / c.block + 2)]) [⟨g1, 23, c.cs⟩, ⟨g2, 45, [nV 0, nV 0, nV 0, nV 0, nV 0, nV 0, nV 0]⟩] (fun w => by kernel_rfl) ?_
    exact J.ret (.agg [nV (c.members - 1), nV (IntKind.i64.wrap ((c.members - 1) * c.unit)), nV (IntKind.i64.wrap (c.cap.tdiv c.unit)), nV (IntKind.i64.wrap (IntKind.i64.wrap (IntKind.i64.wrap (c.cap.tdiv c.unit) * (c.members - 1)) * c.unit)), nV (IntKind.i64.wrap (c.zones + c.spare)), nV (IntKind.i64.wrap (IntKind.i64.wrap (c.zones + c.spare) + c.mta)), nV (c.need / c.block + 2)]) [⟨g1, 23, c.cs⟩, ⟨g2, 45, [nV (c.members - 1), nV (IntKind.i64.wrap ((c.members - 1) * c.unit)), nV (IntKind.i64.wrap (c.cap.tdiv c.unit)), nV (IntKind.i64.wrap (IntKind.i64.wrap (IntKind.i64.wrap (c.cap.tdiv c.unit) * (c.members - 1)) * c.unit)), nV (IntKind.i64.wrap (c.zones + c.spare)), nV (IntKind.i64.wrap (IntKind.i64.wrap (c.zones + c.spare) + c.mta)), nV (c.need / c.block + 2)]⟩] (fun w3 hk3 hr3 => ⟨by rw [hroom]; rfl, fin hx2 hr3⟩)
end Go.Proofs.YtlhmpmmblnbmbaaGreat.Doc
set_option linter.unusedVariables false
set_option linter.unusedSimpArgs false
set_option maxRecDepth 100000
namespace Go.Proofs.YtlhmpmmblnbmbaaGreat.Doc
open Go.Proofs.YtlhmpmmblnbmbaaGreat.Sx Go.Proofs.YtlhmpmmblnbmbaaGreat.Byt Go.Proofs.YtlhmpmmblnbmbaaGreat.Pck Go.Proofs.YtlhmpmmblnbmbaaGreat.Bus Go.Proofs.YtlhmpmmblnbmbaaGreat.Cnf Go.Lib
def CkP (c : Cf) : Prop := 0 ≤ c.id ∧ c.id ≤ 1099511627776 ∧ 3 ≤ c.members ∧ c.members ≤ 16 ∧ 1 ≤ c.unit ∧ c.unit ≤ 64 ∧ 1 ≤ c.block ∧ c.block ≤ 4096 ∧ 1 ≤ c.cap ∧ c.cap ≤ 4096 ∧ c.cap % c.unit = 0 ∧ 1 ≤ c.zones ∧ c.zones ≤ 64 ∧ 1 ≤ c.spare ∧ c.spare ≤ 64 ∧ 3 ≤ c.mta ∧ c.mta ≤ 64 ∧ c.mta + c.zones + c.spare ≤ 64 ∧ 1 ≤ c.active ∧ c.active ≤ c.zones ∧ 1 ≤ c.opn ∧ c.opn ≤ c.active ∧ c.active + c.spare + c.mta ≤ c.limit ∧ c.limit ≤ 64
theorem ck_sane {c : Cf} (h : CkP c) : c.sane = true := by
  unfold CkP at h
  unfold Cf.sane Cf.nums okN
  simp only [List.all_cons, List.all_nil, Bool.and_true, Bool.and_eq_true, decide_eq_true_eq]
  omega
theorem ck_all {c : Cf} (h : CkP c) : c.c1 = true ∧ c.c2 = true ∧ c.c3 = true ∧ c.c4 = true := by
  have hs := ck_sane h
  unfold CkP at h
  unfold Cf.c1 Cf.c2 Cf.c3 Cf.c4 bet Cf.all
  rw [if_pos hs]
  simp only [Bool.and_eq_true, decide_eq_true_eq]
  omega
theorem all_ck {c : Cf} (h1 : c.c1 = true) (h2 : c.c2 = true) (h3 : c.c3 = true) (h4 : c.c4 = true) : CkP c := by
  unfold Cf.c1 bet at h1
  unfold Cf.c2 bet at h2
  unfold Cf.c3 bet at h3
  unfold Cf.c4 bet at h4
  simp only [Bool.and_eq_true, decide_eq_true_eq] at h1 h2 h3 h4
  have hs : c.sane = true := by
    unfold Cf.sane Cf.nums okN
    simp only [List.all_cons, List.all_nil, Bool.and_true, Bool.and_eq_true, decide_eq_true_eq]
    omega
  unfold Cf.all at h3
  rw [if_pos hs] at h3
  unfold CkP
  omega
theorem ck0 {c : Cf} (h : CkP c) : c.check = if c.room > c.cap then 17 else 0 := by
  obtain ⟨h1, h2, h3, h4⟩ := ck_all h
  unfold Cf.check
  rw [if_pos h1, if_pos h2, if_pos h3, if_pos h4]
theorem ck1 {c : Cf} (h : ¬ CkP c) : c.check = 1 := by
  unfold Cf.check
  by_cases h1 : c.c1 = true
  · by_cases h2 : c.c2 = true
    · by_cases h3 : c.c3 = true
      · by_cases h4 : c.c4 = true
        · exact absurd (all_ck h1 h2 h3 h4) h
        · rw [if_pos h1, if_pos h2, if_pos h3, if_neg h4]
      · rw [if_pos h1, if_pos h2, if_neg h3]
    · rw [if_pos h1, if_neg h2]
  · rw [if_neg h1]
theorem rcheck_c {c : Cf} (w : World) : Calls Tryz.prog 5 #[c.val] w fun e w' => e = .returned (.int .i64 c.check) ∧ Ext w w' := by
  refine J.enter Tryz.func5 rfl [] [.agg c.cs] 97 (known_nil w) ?_
  refine J.new 23 c.cs [] (fun g1 hg1 _ => ?_)
  have fin : ∀ {u w1 : World} {c1 : List C}, Ext w u → Rel [⟨g1, 23, c1⟩] u w1 → Ext w w1 := fun hx hr => hx.rel' hr (mem1 (.inl hg1))
  by_cases a1 : c.id < 0
  · refine J.lit 6 (decide (c.id < 0)) true (decide_eq_true a1) ?_
    exact J.ret (.one (.v (.int .i64 1))) [⟨g1, 23, c.cs⟩] (fun w9 _ hr9 => ⟨by rw [ck1 (fun h => by unfold CkP at h; omega)]; rfl, fin (.refl w) hr9⟩)
  refine J.lit 6 (decide (c.id < 0)) false (decide_eq_false a1) ?_
  by_cases a2 : c.id > 1099511627776
  · refine J.lit 11 (decide (c.id > 1099511627776)) true (decide_eq_true a2) ?_
    exact J.ret (.one (.v (.int .i64 1))) [⟨g1, 23, c.cs⟩] (fun w9 _ hr9 => ⟨by rw [ck1 (fun h => by unfold CkP at h; omega)]; rfl, fin (.refl w) hr9⟩)
  refine J.lit 11 (decide (c.id > 1099511627776)) false (decide_eq_false a2) ?_
  refine J.call Tryz.func16 [.agg c.cs] [⟨g1, 23, c.cs⟩] (fun w1 hk1 hr1 => ?_)
  refine (rsane_c (c := c) w1).mono ?_
  rintro e w2 ⟨rfl, hx⟩
  have hx2 := (fin (.refl w) hr1).trans hx
  have hk2 := hx.known hk1
  refine ⟨.one (.v (.bool c.sane)), _, rfl, rfl, hk2, ?_⟩
  by_cases hs : c.sane = true
  rotate_left
  · refine J.brt (!c.sane) (by rw [Bool.eq_false_iff.2 hs]; rfl) ?_
    exact J.ret (.one (.v (.int .i64 1))) [⟨g1, 23, c.cs⟩] (fun w9 _ hr9 => ⟨by rw [ck1 (fun h => hs (ck_sane h))]; rfl, fin hx2 hr9⟩)
  refine J.brf (!c.sane) (by rw [hs]; rfl) ?_
  have S := c.sane_iff hs
  obtain ⟨hm1, hm2⟩ := S.members; obtain ⟨hu1, hu2⟩ := S.unit; obtain ⟨hb1, hb2⟩ := S.block; obtain ⟨hc1, hc2⟩ := S.cap; obtain ⟨hz1, hz2⟩ := S.zones; obtain ⟨hp1, hp2⟩ := S.spare; obtain ⟨ht1, ht2⟩ := S.mta; obtain ⟨ho1, ho2⟩ := S.opn; obtain ⟨hv1, hv2⟩ := S.active; obtain ⟨hl1, hl2⟩ := S.limit
  by_cases a3 : c.members < 3
  · refine J.lit 19 (decide (c.members < 3)) true (decide_eq_true a3) ?_
    exact J.ret (.one (.v (.int .i64 1))) [⟨g1, 23, c.cs⟩] (fun w9 _ hr9 => ⟨by rw [ck1 (fun h => by unfold CkP at h; omega)]; rfl, fin hx2 hr9⟩)
  refine J.lit 19 (decide (c.members < 3)) false (decide_eq_false a3) ?_
  by_cases a4 : c.members > 16
  · refine J.lit 24 (decide (c.members > 16)) true (decide_eq_true a4) ?_
    exact J.ret (.one (.v (.int .i64 1))) [⟨g1, 23, c.cs⟩] (fun w9 _ hr9 => ⟨by rw [ck1 (fun h => by unfold CkP at h; omega)]; rfl, fin hx2 hr9⟩)
  refine J.lit 24 (decide (c.members > 16)) false (decide_eq_false a4) ?_
  by_cases a5 : c.unit > 64
  · refine J.lit 29 (decide (c.unit > 64)) true (decide_eq_true a5) ?_
    exact J.ret (.one (.v (.int .i64 1))) [⟨g1, 23, c.cs⟩] (fun w9 _ hr9 => ⟨by rw [ck1 (fun h => by unfold CkP at h; omega)]; rfl, fin hx2 hr9⟩)
  refine J.lit 29 (decide (c.unit > 64)) false (decide_eq_false a5) ?_
  by_cases a6 : c.block > 4096
  · refine J.lit 34 (decide (c.block > 4096)) true (decide_eq_true a6) ?_
    exact J.ret (.one (.v (.int .i64 1))) [⟨g1, 23, c.cs⟩] (fun w9 _ hr9 => ⟨by rw [ck1 (fun h => by unfold CkP at h; omega)]; rfl, fin hx2 hr9⟩)
  refine J.lit 34 (decide (c.block > 4096)) false (decide_eq_false a6) ?_
  by_cases a7 : c.cap > 4096
  · refine J.lit 39 (decide (c.cap > 4096)) true (decide_eq_true a7) ?_
    exact J.ret (.one (.v (.int .i64 1))) [⟨g1, 23, c.cs⟩] (fun w9 _ hr9 => ⟨by rw [ck1 (fun h => by unfold CkP at h; omega)]; rfl, fin hx2 hr9⟩)
  refine J.lit 39 (decide (c.cap > 4096)) false (decide_eq_false a7) ?_
  have hmod := Int.emod_nonneg c.cap (b := c.unit) (by omega)
  refine J.ari (c.cap % c.unit) (.rem (x := c.cap) (y := c.unit) (by omega) (by omega) rfl) ?_
  by_cases a8 : c.cap % c.unit > 0
  · refine J.brt (decide (c.cap % c.unit > 0)) (decide_eq_true a8) ?_
    exact J.ret (.one (.v (.int .i64 1))) [⟨g1, 23, c.cs⟩] (fun w9 _ hr9 => ⟨by rw [ck1 (fun h => by unfold CkP at h; omega)]; rfl, fin hx2 hr9⟩)
  refine J.brf (decide (c.cap % c.unit > 0)) (decide_eq_false a8) ?_
  by_cases a9 : c.mta < 3
  · refine J.lit 50 (decide (c.mta < 3)) true (decide_eq_true a9) ?_
    exact J.ret (.one (.v (.int .i64 1))) [⟨g1, 23, c.cs⟩] (fun w9 _ hr9 => ⟨by rw [ck1 (fun h => by unfold CkP at h; omega)]; rfl, fin hx2 hr9⟩)
  refine J.lit 50 (decide (c.mta < 3)) false (decide_eq_false a9) ?_
  refine J.ari (c.mta + c.zones) (.add (x := c.mta) (y := c.zones) rfl (by omega) (by omega)) ?_
  refine J.ari (c.mta + c.zones + c.spare) (.add (x := c.mta + c.zones) (y := c.spare) rfl (by omega) (by omega)) ?_
  by_cases a10 : c.mta + c.zones + c.spare > 64
  · refine J.lit 61 (decide (c.mta + c.zones + c.spare > 64)) true (decide_eq_true a10) ?_
    exact J.ret (.one (.v (.int .i64 1))) [⟨g1, 23, c.cs⟩] (fun w9 _ hr9 => ⟨by rw [ck1 (fun h => by unfold CkP at h; omega)]; rfl, fin hx2 hr9⟩)
  refine J.lit 61 (decide (c.mta + c.zones + c.spare > 64)) false (decide_eq_false a10) ?_
  by_cases a11 : c.opn > c.active
  · refine J.lit 68 (decide (c.opn > c.active)) true (decide_eq_true a11) ?_
    exact J.ret (.one (.v (.int .i64 1))) [⟨g1, 23, c.cs⟩] (fun w9 _ hr9 => ⟨by rw [ck1 (fun h => by unfold CkP at h; omega)]; rfl, fin hx2 hr9⟩)
  refine J.lit 68 (decide (c.opn > c.active)) false (decide_eq_false a11) ?_
  by_cases a12 : c.active > c.zones
  · refine J.brt (decide (c.active > c.zones)) (decide_eq_true a12) ?_
    exact J.ret (.one (.v (.int .i64 1))) [⟨g1, 23, c.cs⟩] (fun w9 _ hr9 => ⟨by rw [ck1 (fun h => by unfold CkP at h; omega)]; rfl, fin hx2 hr9⟩)
  refine J.brf (decide (c.active > c.zones)) (decide_eq_false a12) ?_
  refine J.ari (c.active + c.spare) (.add (x := c.active) (y := c.spare) rfl (by omega) (by omega)) ?_
  refine J.ari (c.active + c.spare + c.mta) (.add (x := c.active + c.spare) (y := c.mta) rfl (by omega) (by omega)) ?_
  by_cases a13 : c.limit < c.active + c.spare + c.mta
  · refine J.lit 86 (decide (c.limit < c.active + c.spare + c.mta)) true (decide_eq_true a13) ?_
    exact J.ret (.one (.v (.int .i64 1))) [⟨g1, 23, c.cs⟩] (fun w9 _ hr9 => ⟨by rw [ck1 (fun h => by unfold CkP at h; omega)]; rfl, fin hx2 hr9⟩)
  refine J.lit 86 (decide (c.limit < c.active + c.spare + c.mta)) false (decide_eq_false a13) ?_
  by_cases a14 : c.limit > 64
  · refine J.brt (decide (c.limit > 64)) (decide_eq_true a14) ?_
    exact J.ret (.one (.v (.int .i64 1))) [⟨g1, 23, c.cs⟩] (fun w9 _ hr9 => ⟨by rw [ck1 (fun h => by unfold CkP at h; omega)]; rfl, fin hx2 hr9⟩)
  refine J.brf (decide (c.limit > 64)) (decide_eq_false a14) ?_
  have hck := ck0 (c := c) (by unfold CkP; omega)
  refine J.drw 5 [(1, .agg [nV (c.members - 1), nV (nn1 c), nV (nn2 c), nV (nn3 c), nV (nn4 c), nV (nn5 c), nV c.room]), (2, .one (.v (.int .i64 c.room)))] [⟨g1, 23, c.cs⟩] (.cons (Y.call Tryz.func17 [.agg c.cs] (fun u _ _ => rnum_c (c := c) u hs)) <| .cons (Y.idx 45 (.agg [nV (c.members - 1), nV (nn1 c), nV (nn2 c), nV (nn3 c), nV (nn4 c), nV (nn5 c), nV c.room]) (.one (.v (.int .i64 6))) (fun u => by kernel_rfl)) .nil) ?_
  refine J.brd (c.room > c.cap) (fun hr => ?_) (fun hr => ?_)
  · rw [if_pos hr] at hck
    exact J.ret (.one (.v (.int .i64 17))) [⟨g1, 23, c.cs⟩] (fun w9 _ hr9 => ⟨by rw [hck]; rfl, fin hx2 hr9⟩)
  · rw [if_neg hr] at hck
    exact J.ret (.one (.v (.int .i64 0))) [⟨g1, 23, c.cs⟩] (fun w9 _ hr9 => ⟨by rw [hck]; rfl, fin hx2 hr9⟩)
def small (c : Cf) : Bool := c.check == 0 && (decide (c.members ≤ 5) && (decide (c.unit ≤ 3) && (decide (c.block ≤ 128) && (decide (c.cap ≤ 32) && (decide (c.zones ≤ 4) && (decide (c.spare ≤ 2) && decide (c.mta ≤ 4)))))))
theorem rsmall_c {c : Cf} (w : World) : Calls Tryz.prog 6 #[c.val] w fun e w' => e = .returned (.bool (small c)) ∧ Ext w w' := by
  refine J.enter Tryz.func6 rfl [] [.agg c.cs] 41 (known_nil w) ?_
  refine J.new 23 c.cs [] (fun g1 hg1 _ => ?_)
  have fin : ∀ {u w1 : World} {c1 : List C}, Ext w u → Rel [⟨g1, 23, c1⟩] u w1 → Ext w w1 := fun hx hr => hx.rel' hr (mem1 (.inl hg1))
  refine J.call Tryz.func5 [.agg c.cs] [⟨g1, 23, c.cs⟩] (fun w1 hk1 hr1 => ?_)
  refine (rcheck_c (c := c) w1).mono ?_
  rintro e w2 ⟨rfl, hx⟩
  have hx2 := (fin (.refl w) hr1).trans hx
  have hk2 := hx.known hk1
  refine ⟨.one (.v (.int .i64 c.check)), _, rfl, rfl, hk2, ?_⟩
  by_cases b0 : c.check = 0
  rotate_left
  · refine J.lit 6 (c.check == 0) false (by simp [b0]) ?_
    exact J.ret (.one (.lit false)) [⟨g1, 23, c.cs⟩] (fun w9 _ hr9 => ⟨by rw [show small c = false by simp [small, b0]]; rfl, fin hx2 hr9⟩)
  refine J.lit 6 (c.check == 0) true (by simp [b0]) ?_
  by_cases b1 : c.members ≤ 5
  rotate_left
  · refine J.lit 11 (decide (c.members ≤ 5)) false (by simp [b1]) ?_
    exact J.ret (.one (.lit false)) [⟨g1, 23, c.cs⟩] (fun w9 _ hr9 => ⟨by rw [show small c = false by simp [small, b0, b1]]; rfl, fin hx2 hr9⟩)
  refine J.lit 11 (decide (c.members ≤ 5)) true (by simp [b1]) ?_
  by_cases b2 : c.unit ≤ 3
  rotate_left
  · refine J.lit 16 (decide (c.unit ≤ 3)) false (by simp [b2]) ?_
    exact J.ret (.one (.lit false)) [⟨g1, 23, c.cs⟩] (fun w9 _ hr9 => ⟨by rw [show small c = false by simp [small, b0, b1, b2]]; rfl, fin hx2 hr9⟩)
  refine J.lit 16 (decide (c.unit ≤ 3)) true (by simp [b2]) ?_
  by_cases b3 : c.block ≤ 128
  rotate_left
  · refine J.lit 21 (decide (c.block ≤ 128)) false (by simp [b3]) ?_
    exact J.ret (.one (.lit false)) [⟨g1, 23, c.cs⟩] (fun w9 _ hr9 => ⟨by rw [show small c = false by simp [small, b0, b1, b2, b3]]; rfl, fin hx2 hr9⟩)
  refine J.lit 21 (decide (c.block ≤ 128)) true (by simp [b3]) ?_
  by_cases b4 : c.cap ≤ 32
  rotate_left
  · refine J.lit 26 (decide (c.cap ≤ 32)) false (by simp [b4]) ?_
    exact J.ret (.one (.lit false)) [⟨g1, 23, c.cs⟩] (fun w9 _ hr9 => ⟨by rw [show small c = false by simp [small, b0, b1, b2, b3, b4]]; rfl, fin hx2 hr9⟩)
  refine J.lit 26 (decide (c.cap ≤ 32)) true (by simp [b4]) ?_
  by_cases b5 : c.zones ≤ 4
  rotate_left
  · refine J.lit 31 (decide (c.zones ≤ 4)) false (by simp [b5]) ?_
    exact J.ret (.one (.lit false)) [⟨g1, 23, c.cs⟩] (fun w9 _ hr9 => ⟨by rw [show small c = false by simp [small, b0, b1, b2, b3, b4, b5]]; rfl, fin hx2 hr9⟩)
  refine J.lit 31 (decide (c.zones ≤ 4)) true (by simp [b5]) ?_
  by_cases b6 : c.spare ≤ 2
  rotate_left
  · refine J.lit 36 (decide (c.spare ≤ 2)) false (by simp [b6]) ?_
    exact J.ret (.one (.lit false)) [⟨g1, 23, c.cs⟩] (fun w9 _ hr9 => ⟨by rw [show small c = false by simp [small, b0, b1, b2, b3, b4, b5, b6]]; rfl, fin hx2 hr9⟩)
  refine J.lit 36 (decide (c.spare ≤ 2)) true (by simp [b6]) ?_
  exact J.ret (.one (.v (.bool (decide (c.mta ≤ 4))))) [⟨g1, 23, c.cs⟩] (fun w9 _ hr9 => ⟨by rw [show small c = decide (c.mta ≤ 4) by simp [small, b0, b1, b2, b3, b4, b5, b6]]; rfl, fin hx2 hr9⟩)
end Go.Proofs.YtlhmpmmblnbmbaaGreat.Doc
set_option linter.unusedVariables false
set_option linter.unusedSimpArgs false
set_option maxRecDepth 100000
namespace Go.Proofs.YtlhmpmmblnbmbaaGreat.Doc
open Go.Proofs.YtlhmpmmblnbmbaaGreat.Sx Go.Proofs.YtlhmpmmblnbmbaaGreat.Byt Go.Proofs.YtlhmpmmblnbmbaaGreat.Pck Go.Proofs.YtlhmpmmblnbmbaaGreat.Bus Go.Proofs.YtlhmpmmblnbmbaaGreat.Cnf Go.Lib
section
variable {P : Program} {Q : Exit → Act → World → Prop} {tab : Tab} {n : Nat} {s : St} {w0 : World}
theorem J.cat2 [ht : Ok P tab] [hQ : RetOk Q] {T : Nat} {x y : ByteArray} (z : ByteArray) (L : List Blk) (hz : x ++ y = z) (hb : x.size + y.size ≤ 9223372036854775807) (hn : SX P Q n (ansK (go tab n s) (.one (.v (.string z))) L) w0)
    (h : cmpOf n (go tab n s) = some (.add, T, .one (.v (.string x)), .one (.v (.string y))) := by kernel_rfl) (hL : (go tab n s).L = L := by kernel_rfl) : SX P Q n s w0 := by
  subst hz
  exact J.cat L hb hn h hL
/-- Rows of eight stay; what is old stays. -/
def keep8 (nb e : Nat) (u w : World) : Prop := Chg (fun k => nb ≤ k) u w ∧ ∀ v xs, u.ownsRow nb e 1 v 8 xs → w.ownsRow nb e 1 v 8 xs
theorem keep8.ext {nb e : Nat} {u w : World} (h : Ext u w) : keep8 nb e u w := ⟨.of_ext h, fun v xs k => ownsRow_ext k h⟩
theorem keep8.ok {nb e : Nat} {L : List Blk} (h : ∀ b ∈ L, b.g < nb) : EOk L (keep8 nb e) := ⟨fun u v hx => .ext hx, fun u v w a b => ⟨a.1.trans b.1, fun v xs k => b.2 _ _ (a.2 _ _ k)⟩, fun u v hK hx => hK.chg hx.1 (fun b hb => by have := h b hb; omega)⟩
def app2At (o : Oper) : Option (Nat × Nat × Nat) := match o.op with
  | .call { callee := .builtin .append, args, argTypes } => match args.toList, argTypes.toList with
    | [.tmp j, .tmp k], [t, u] => if Nat.beq t u then some (t, j, k) else none
    | _, _ => none
  | _ => none
/-- A new row of eight is appended to another one. -/
theorem UAt.app8 {L : List Blk} {G : World → World → Prop} {ls : List (Nat × Loud)} {S : Oper → List (Nat × SV)} {D : Oper → List (Nat × Pred)} {ops : Array Oper} {i : Nat} {wb : World} (nb e : Nat) (xs ys : List Value) (z : Value) (bytes T j k : Nat)
    (hl : lookL ls i = some ⟨keep8 nb e, fun _ => True⟩) (hb : ∀ w, G wb w → nb ≤ w.heap.size) (h1 : ∀ u ∈ ys, u.oneCell' = true) (hby : 212 * bytes ≤ 281474976710656)
    (ho : (ops[i]?).bind (fun o => app2At o) = some (T, j, k) := by kernel_rfl) (hd1 : (ops[i]?).bind (fun o => lookO (D o) j) = some (fun v u => u.ownsRow nb e 1 v 8 xs) := by kernel_rfl) (hd2 : (ops[i]?).bind (fun o => lookO (D o) k) = some (fun v u => u.ownsRow nb e 1 v 8 ys) := by kernel_rfl)
    (hT : P.underlying T = some (.slice e) := by kernel_rfl) (hinf : (P.info? e).map (fun i => (i.zero, i.size, i.bytes)) = some (some z, 1, bytes) := by kernel_rfl) (hzs : z.cells.size = 1 := by kernel_rfl) : UAt P n L G ls S D ops i (fun v u => u.ownsRow nb e 1 v 16 (xs ++ ys)) wb := .run fun o hop a w hS hK hG hU hdep => by
  obtain ⟨inf, hi, hz⟩ := Option.map_eq_some_iff.1 hinf
  have hz1 : inf.zero = some z := congrArg Prod.fst hz
  have hz2 : inf.size = 1 := congrArg (fun x => x.2.1) hz
  have hz3 : inf.bytes = bytes := congrArg (fun x => x.2.2) hz
  rw [hop] at ho hd1 hd2
  replace ho : app2At o = _ := ho
  replace hd1 : lookO (D o) j = _ := hd1
  replace hd2 : lookO (D o) k = _ := hd2
  have r1 := hdep j _ (lookO_mem hd1)
  have r2 := hdep k _ (lookO_mem hd2)
  unfold app2At at ho
  split at ho <;> try (cases ho; done)
  rename_i as1 ts hopc
  split at ho <;> try (cases ho; done)
  rename_i j' k' tt uu e1 e2
  split at ho <;> try (cases ho; done)
  rename_i htu
  have htu := Nat.eq_of_beq_eq_true htu
  have ea : as1 = #[.tmp j', .tmp k'] := by apply Array.toList_inj.1; rw [e1]
  have et : ts = #[tt, tt] := by apply Array.toList_inj.1; rw [e2, ← htu]
  subst ea; subst et
  cases ho
  have ex : a.eval (.tmp j) = a.tmps.getD j undef := rfl
  have ey : a.eval (.tmp k) = a.tmps.getD k undef := rfl
  generalize a.tmps.getD j undef = v1 at *
  generalize a.tmps.getD k undef = v2 at *
  replace r1 : w.ownsRow nb e 1 v1 8 xs := r1
  replace r2 : w.ownsRow nb e 1 v2 8 ys := r2
  obtain ⟨g, c, cur, rfl, hg, hcur, hc1, hc2, hc3, hc4⟩ := own_open r2 (by decide)
  obtain ⟨v', w', hr, hn', hgr, hold, -, -⟩ := append_keep (P := P) w nb _ o.type e inf z 1 bytes hT hi hz1 hz2 hz3 hzs (by decide) v1 8 xs r1 ⟨g, 0, none⟩ 8 c ys r2.1 (by decide) (fun q u hu => by
    have hq : q < 8 * 1 := by
      have := (List.getElem?_eq_some_iff.1 hu).1
      rw [r2.1] at this; exact this
    rw [← hc4, List.getElem?_take_of_lt hq] at hu
    rw [Addr.add_mid]
    unfold World.cell?
    rw [hcur, Nat.zero_add]
    simpa using hu) h1 (by simp only [maxLen]; omega) (by omega) (hb w hG)
  have hx : Chg (fun k => v1.ownBlock = some k) w w' := (.mk2 (hgr.size) (fun k hk hne => hgr.block k hk (fun e => hne e.symm)))
  refine ⟨v', w', app_eval hopc ex ey hr, ?_, hn'⟩
  unfold loudE
  rw [hl]
  refine ⟨hx.mono (fun k _ h => by obtain ⟨cs, _, hb⟩ := own_ty r1 h; exact hb), fun r ks hks => ?_⟩
  obtain ⟨g2, c2, cur2, rfl, q1, q2, q3, q4, q5, q6⟩ := own_open hks (by decide)
  by_cases hv : v1.ownBlock = some g2
  · obtain ⟨g3, c3, cur3, rfl, p1, p2, p3, p4, p5, p6⟩ := own_open r1 (by decide)
    have : g3 = g2 := Option.some.inj hv
    subst this
    rw [q2] at p2
    have ec : cur2 = cur3 := by injection p2 with p2; injection p2 with p2; simpa using p2
    subst ec
    have : c2 = c3 := by omega
    subst this
    rw [← q6, p6]; exact hold
  · exact ownsRow_chg hks hx (fun g h => by cases h; exact hv)
end
theorem str_app (a b : List Int) : strOfNums a ++ strOfNums b = strOfNums (a ++ b) := by
  unfold strOfNums
  rw [Go.ByteArray.mk_append_mk, List.map_append]
theorem row_get {l : List Int} (hB : IsB l) (cap i : Nat) {x : Int} (h : l[i]? = some x) : (bytesRow (strOfNums l) cap)[i]? = some (.int .u8 x) := by
  have hi := (List.getElem?_eq_some_iff.1 h).1
  have hx := hB x (List.mem_of_getElem? h)
  unfold bytesRow strOfNums
  rw [Array.getElem?_append_left (by simpa using hi)]
  simp only [List.map_toArray, List.getElem?_toArray, List.map_map, List.getElem?_map, h, Option.map_some, Function.comp_apply]
  congr 2
  have : (UInt8.ofNat x.toNat).toNat = x.toNat % 256 := UInt8.toNat_ofNat'
  rw [this]; omega
theorem str_part {l : List Int} {w : World} {g cap : Nat} {fz : Nat × Nat} (hB : IsB l) (hl : l.length ≤ 1000000000) (h : w.heap[g]? = some (Obj.cells (bytesRow (strOfNums l) cap) 5 fz)) : PAt w ⟨some ⟨g, 0, none⟩, (strOfNums l).size, cap, l⟩ := by
  have hs := strOfNums_size l
  refine ⟨⟨hs.symm, .inr ⟨g, 0, _, _, rfl, .of h, fun i x hx => ?_⟩⟩, fun h => (by cases h), by show (strOfNums l).size ≤ _; omega⟩
  rw [Nat.zero_add]; exact row_get hB cap i hx
set_option maxHeartbeats 1000000 in
theorem rzone_c (z : Zr) (w : World) (hz : ZrAt w z) (hB : IsB z.L.flatten) : Calls Tryz.prog 39 #[z.val] w fun e w' => ∃ v, e = .returned v ∧ Bts w w' (Img.zb z.zc) v := by
  have hfl := hz.flat
  have hwp := hz.wp
  have hb0 := hz.blk0; have hb1 := hz.blk1; have hc0 := hz.cap0; have hc1 := hz.cap1; have hlc := hz.len
  have hfl2 : z.L.flatten.length ≤ 16777216 := by
    have : (z.L.length : Int) * z.block ≤ 4096 * 4096 := Int.mul_le_mul (by omega) (by omega) (by omega) (by omega)
    omega
  have hbl := hz.blk
  have hrow := hz.row
  have ezb : Img.zb z.zc = i8 z.L.length ++ i8 z.safe ++ [b1 z.done] ++ (i8 z.L.flatten.length ++ z.L.flatten) := by
    unfold Img.zb
    rw [hwp]; rfl
  rw [ezb]
  clear hfl hwp ezb
  obtain ⟨cap, block, A, c, L, safe, done⟩ := z
  replace hbl : ∀ b ∈ L, (b.length : Int) = block := hbl
  replace hrow : w.ownsRow 0 9 1 (.slice A L.length c) L.length (L.flatMap svs) := hrow
  replace hB : IsB L.flatten := hB
  replace hfl2 : L.flatten.length ≤ 16777216 := hfl2
  replace hlc : (L.length : Int) ≤ cap := hlc
  replace hc1 : cap ≤ 4096 := hc1
  replace hb1 : block ≤ 4096 := hb1
  clear hz
  show Calls _ _ _ _ (fun e w' => ∃ v, e = .returned v ∧ Bts w w' (i8 L.length ++ i8 safe ++ [b1 done] ++ (i8 L.flatten.length ++ L.flatten)) v)
  refine J.enter Tryz.func39 rfl [] [.agg [.v (.int .i64 cap), .v (.int .i64 block), .v (.slice A L.length c), .v (.int .i64 safe), .v (.bool done)]] 37 (known_nil w) ?_
  refine J.new 78 [.v (.int .i64 cap), .v (.int .i64 block), .v (.slice A L.length c), .v (.int .i64 safe), .v (.bool done)] [] (fun g1 hg1 _ => ?_)
  obtain ⟨LB, hLB⟩ : ∃ LB : List Blk, LB = [⟨g1, 78, [.v (.int .i64 cap), .v (.int .i64 block), .v (.slice A L.length c), .v (.int .i64 safe), .v (.bool done)]⟩] := ⟨_, rfl⟩
  have fin : ∀ {u w1 : World} {c1 : List C}, Ext w u → Rel [⟨g1, 78, c1⟩] u w1 → Ext w w1 := fun hx hr => hx.rel' hr (mem1 (.inl hg1))
  have same : ∀ {u w1 : World} {c1 : List C}, Known [⟨g1, 78, c1⟩] u → Known [⟨g1, 78, c1⟩] w1 → Rel [⟨g1, 78, c1⟩] u w1 → Ext u w1 := fun h hk hr => hr.ext' (mem1 (.inr ((hk.get 0 rfl).trans (h.get 0 rfl).symm)))
  refine J.loop (fun i : Nat => [(1, .one (.ptr 0 0)), (3, .one (.v (.string (strOfNums (L.take i).flatten)))), (4, .one (.v (.int .i64 (i : Nat))))]) (fun _ => [⟨g1, 78, [.v (.int .i64 cap), .v (.int .i64 block), .v (.slice A L.length c), .v (.int .i64 safe), .v (.bool done)]⟩]) (fun i u => i ≤ L.length ∧ Ext w u) (fun i => L.length - i) [] 0 (fun w3 hk3 hr3 => ⟨Nat.zero_le _, fin (.refl w) hr3⟩) ?_
  intro p i w3 hp ⟨hi, hx3⟩ hk3
  refine J.brd ((i : Int) < (L.length : Int)) (fun h1 => ?_) (fun h1 => ?_)
  · have hj : i < L.length := by omega
    have hjz := List.getElem?_eq_getElem hj
    generalize L[i] = b at hjz
    obtain ⟨g, c', e, -, -, -⟩ := own_at hrow svs_len hjz
    cases e
    obtain ⟨_, _, e, -, -, hl⟩ := own_at (ownsRow_ext hrow hx3) svs_len hjz
    cases e
    have hst : (L.take (i + 1)).flatten = (L.take i).flatten ++ b := by rw [List.take_add_one, hjz]; simp
    have hle : ((L.take i).flatten ++ b).length ≤ L.flatten.length := by
      rw [← hst]
      have := congrArg (fun x => x.flatten.length) (List.take_append_drop (i + 1) L)
      simp only [List.flatten_append, List.length_append] at this
      omega
    rw [List.length_append] at hle
    refine J.ix g 0 L.length c 1 i rfl hj ?_
    refine J.ld 9 ⟨g, 0 + i * 1, none⟩ (.one (.v (.string (strOfNums b)))) [⟨g1, 78, [.v (.int .i64 cap), .v (.int .i64 block), .v (.slice (some ⟨g, 0, none⟩) L.length c), .v (.int .i64 safe), .v (.bool done)]⟩] (fun w4 hk4 hr4 => by
      obtain ⟨_, _, e, -, -, hl4⟩ := own_at (ownsRow_ext hrow (hx3.trans (same hk3 hk4 hr4))) svs_len hjz
      cases e; exact hl4) ?_
    refine J.cat2 (T := 9) (strOfNums (L.take (i + 1)).flatten) [⟨g1, 78, [.v (.int .i64 cap), .v (.int .i64 block), .v (.slice (some ⟨g, 0, none⟩) L.length c), .v (.int .i64 safe), .v (.bool done)]⟩] (by rw [str_app, hst]) (by rw [strOfNums_size, strOfNums_size]; omega) ?_
    refine J.ari ((i + 1 : Nat) : Int) (.add (x := i) (y := 1) (by omega) (by omega) (by omega)) ?_
    exact J.at (fun a u h1 h2 hk hr => hp (i + 1) a u h1 h2 hk ⟨hj, fin hx3 hr⟩ (by omega))
  have : i = L.length := by omega
  subst this
  rw [List.take_length]
  have hg1w : g1 < w3.heap.size := (Array.getElem?_eq_some_iff.1 (hk3.get 0 rfl)).1
  refine J.drwU (E := keep8 w3.heap.size 5) [(7, ⟨keep8 w3.heap.size 5, fun _ => True⟩)] 10 [] [] [(3, fun v u => u.ownsRow w3.heap.size 5 1 v 8 (enc (i8 L.length))), (6, fun v u => u.ownsRow w3.heap.size 5 1 v 8 (enc (i8 safe))), (7, fun v u => u.ownsRow w3.heap.size 5 1 v 16 (enc (i8 L.length) ++ enc (i8 safe)))] [⟨g1, 78, [.v (.int .i64 cap), .v (.int .i64 block), .v (.slice A L.length c), .v (.int .i64 safe), .v (.bool done)]⟩] (keep8.ok (mem1 hg1w))
    (fun wb wc _ _ _ => .nil)
    (fun wb hkb hrb => .cons trivial (fun u v h => .ext h) (fun u v h => h) (fun u v _ _ => trivial) ⟨fun hne => absurd hne (by decide), trivial⟩ .nil)
    (fun wb hkb hrb => .cons (UAt.call Tryz.func71 [.one (.v (.int .i64 (L.length : Nat)))] (fun u hku hgu _ => (rint_c L.length u).mono (by
        rintro e u2 ⟨v, rfl, hb⟩
        exact ⟨v, rfl, hb.1, owns_base (Bts.own hb (i8_len _)) (Nat.le_trans hrb.1 hgu.1.1)⟩))) (fun v u1 u2 h hx => owns_ext h hx) ⟨fun _ v u w h hk => hk.2 _ _ h, trivial⟩ <|
      .cons (UAt.call Tryz.func71 [.one (.v (.int .i64 safe))] (fun u hku hgu _ => (rint_c safe u).mono (by
        rintro e u2 ⟨v, rfl, hb⟩
        exact ⟨v, rfl, hb.1, owns_base (Bts.own hb (i8_len _)) (Nat.le_trans hrb.1 hgu.1.1)⟩))) (fun v u1 u2 h hx => owns_ext h hx) ⟨fun _ v u w h hk => hk.2 _ _ h, trivial⟩ <|
      .cons (UAt.app8 w3.heap.size 5 (enc (i8 L.length)) (enc (i8 safe)) (.int .u8 0) 1 27 23 26 rfl (fun u hu => Nat.le_trans hrb.1 hu.1.1) (enc_one _) (by decide)) (fun v u1 u2 h hx => owns_ext h hx) ⟨fun hne => absurd hne (by decide), trivial⟩ .nil) ?_
  rintro wb w4 hkb hrb hx4 hk4 v3 - v6 - v7 hv7
  show SX _ _ _ _ _
  have hxb : Ext w wb := fin hx3 hrb
  have hx4w : Ext w w4 := ext_chg hxb hx4.1 (fun k hk => Nat.le_trans hx3.1 hk)
  refine J.call Tryz.func38 [.one (.v (.bool done))] [⟨g1, 78, [.v (.int .i64 cap), .v (.int .i64 block), .v (.slice A L.length c), .v (.int .i64 safe), .v (.bool done)]⟩] (fun w5 hk5 hr5 => ?_)
  refine (rflag_c done w5).mono ?_
  rintro e w6 ⟨v8, rfl, hb8⟩
  have hk6 := hb8.1.known hk5
  have hx46 := (same hk4 hk5 hr5).trans hb8.1
  refine ⟨.one (.v v8), _, rfl, rfl, hk6, ?_⟩
  refine J.app 27 27 (.one (.v v7)) (.one (.v v8)) [⟨g1, 78, [.v (.int .i64 cap), .v (.int .i64 block), .v (.slice A L.length c), .v (.int .i64 safe), .v (.bool done)]⟩] (fun ty w7 hk7 hr7 => ?_)
  have hx67 := same hk6 hk7 hr7
  have hx47 := hx46.trans hx67
  have hv7' : w7.ownsRow w3.heap.size 5 1 v7 16 (enc (i8 L.length ++ i8 safe)) := owns_ext (by rw [enc_add]; exact hv7) hx47
  have hbase : w3.heap.size ≤ w7.heap.size := Nat.le_trans (Nat.le_trans hrb.1 hx4.1.1) hx47.1
  obtain ⟨A8, c8, w8, e1, e2, e3⟩ := cat_bytes hv7' (owns_ext (Bts.own hb8 (n := 1) rfl) hx67) hbase (by omega) ty
  have hk8 := Img.own_known hv7' hk7 e3 (mem1 (fun e => absurd e (by show ¬ 78 = 5; decide)))
  have hx8 : Ext w w8 := ext_chg (hx4w.trans hx47) e3 (fun k e => by obtain ⟨cs, _, hb⟩ := own_ty hv7' e; exact Nat.le_trans hx3.1 hb)
  refine ⟨.slice A8 (16 + 1) c8, w8, e1, hk8, ?_⟩
  refine J.s2b 9 27 5 (strOfNums L.flatten) [⟨g1, 78, [.v (.int .i64 cap), .v (.int .i64 block), .v (.slice A L.length c), .v (.int .i64 safe), .v (.bool done)]⟩] (by kernel_rfl) (by kernel_rfl) (by kernel_rfl) (fun w9 w10 cap' hk9 hr9 hx10 hk10 hb10 => ?_)
  obtain ⟨q, hqe⟩ : ∃ q : Part, q = ⟨some ⟨w9.heap.size, 0, none⟩, (strOfNums L.flatten).size, cap', L.flatten⟩ := ⟨_, rfl⟩
  have hqv : q.val = .slice (some ⟨w9.heap.size, 0, none⟩) (strOfNums L.flatten).size cap' := by rw [hqe]; rfl
  have hqn : q.n = L.flatten.length := by rw [hqe]; exact strOfNums_size _
  have hql : q.l = L.flatten := by rw [hqe]
  have hq : PAt w10 q := by rw [hqe]; exact str_part hB (by omega) hb10
  rw [← hqv]
  clear hqe hqv
  have hx810 := (same hk8 hk9 hr9).trans hx10
  refine J.call Tryz.func36 [.one (.v q.val)] [⟨g1, 78, [.v (.int .i64 cap), .v (.int .i64 block), .v (.slice A L.length c), .v (.int .i64 safe), .v (.bool done)]⟩] (fun w11 hk11 hr11 => ?_)
  have hx1011 := same hk10 hk11 hr11
  refine (rbytes_c q w11 (hq.ext hx1011)).mono ?_
  rintro e w12 ⟨v12, rfl, hb12⟩
  have hk12 := hb12.1.known hk11
  have hx812 := (hx810.trans hx1011).trans hb12.1
  refine ⟨.one (.v v12), _, rfl, rfl, hk12, ?_⟩
  refine J.app 27 27 (.one (.v (.slice A8 (16 + 1) c8))) (.one (.v v12)) [⟨g1, 78, [.v (.int .i64 cap), .v (.int .i64 block), .v (.slice A L.length c), .v (.int .i64 safe), .v (.bool done)]⟩] (fun ty w13 hk13 hr13 => ?_)
  have hx1213 := same hk12 hk13 hr13
  have e2' := owns_ext e2 (hx812.trans hx1213)
  obtain ⟨A14, c14, w14, f1, f2, f3⟩ := cat_bytes e2' (owns_ext (Bts.own hb12 (n := 8 + L.flatten.length) (by rw [List.length_append, i8_len, hql])) hx1213) (Nat.le_trans (Nat.le_trans hbase e3.1) (hx812.trans hx1213).1) (by omega) ty
  have hk14 := Img.own_known e2' hk13 f3 (mem1 (fun e => absurd e (by show ¬ 78 = 5; decide)))
  refine ⟨.slice A14 (16 + 1 + (8 + L.flatten.length)) c14, w14, f1, hk14, ?_⟩
  have hx14 : Ext w w14 := ext_chg (hx8.trans (hx812.trans hx1213)) f3 (fun k e => by obtain ⟨cs, _, hb⟩ := own_ty e2' e; exact Nat.le_trans hx3.1 hb)
  refine J.ret (.one (.v (.slice A14 (16 + 1 + (8 + L.flatten.length)) c14))) [⟨g1, 78, [.v (.int .i64 cap), .v (.int .i64 block), .v (.slice A L.length c), .v (.int .i64 safe), .v (.bool done)]⟩] (fun w15 hk15 hr15 => ⟨_, rfl, fin hx14 hr15, ?_⟩)
  have f4 := owns_base (owns_ext f2 (same hk14 hk15 hr15)) hx3.1
  rw [hqn, hql] at f4
  have el : (i8 (L.length : Int) ++ i8 safe ++ [b1 done] ++ (i8 L.flatten.length ++ L.flatten)).length = 16 + 1 + (8 + L.flatten.length) := by
    simp only [List.length_append, i8_len, List.length_singleton]
  rw [el]; exact f4
end Go.Proofs.YtlhmpmmblnbmbaaGreat.Doc
set_option linter.unusedVariables false
set_option linter.unusedSimpArgs false
set_option maxRecDepth 100000
namespace Go.Proofs.YtlhmpmmblnbmbaaGreat.Doc
open Go.Proofs.YtlhmpmmblnbmbaaGreat.Sx Go.Proofs.YtlhmpmmblnbmbaaGreat.Byt Go.Proofs.YtlhmpmmblnbmbaaGreat.Pck Go.Proofs.YtlhmpmmblnbmbaaGreat.Bus Go.Proofs.YtlhmpmmblnbmbaaGreat.Cnf Go.Lib
open Go.Proofs.YtlhmpmmblnbmbaaGreat.Img (dumpL upM upZ zb mb upZ_0 upZ_step upZ_all upZ_dead upM_all upM_le upZ_le)
/-- The document's members. -/
structure DrsAt (w : World) (b : Nat) (v : Value) (ds : List Dr) : Prop where
  row : w.ownsRow b 61 4 v ds.length (ds.flatMap Dr.vs)
  each : ∀ d ∈ ds, DrAt w d
theorem DrsAt.ext {w w' : World} {b : Nat} {v : Value} {ds : List Dr} (h : DrsAt w b v ds) (hx : Ext w w') : DrsAt w' b v ds := ⟨ownsRow_ext h.row hx, fun d hd => (h.each d hd).ext hx⟩
theorem lies_sub {w : World} {g o k : Nat} {vs : List Value} {v : Value} (h : LiesAt w ⟨g, o, none⟩ vs) (hk : vs[k]? = some v) : LiesAt w ⟨g, o + k, none⟩ [v] := fun j u hu => by
  cases j with
  | succ j => cases hu
  | zero =>
    cases hu
    have := h k v hk
    rw [Addr.add_mid] at this ⊢
    exact this
theorem cat_l {w : World} {b b2 : Nat} {v v2 : Value} {xs ys : List Int} (h : w.ownsRow b 5 1 v xs.length (enc xs)) (h2 : w.ownsRow b2 5 1 v2 ys.length (enc ys)) (hb : b ≤ w.heap.size) (hm : (xs ++ ys).length ≤ 100000000000) (ty : Nat) :
    ∃ v3 w', (Builtin.append_ #[27, 27] ty #[v, v2]).run Tryz.prog w = .ok v3 w' ∧ w'.ownsRow b 5 1 v3 (xs ++ ys).length (enc (xs ++ ys)) ∧ Chg (fun k => v.ownBlock = some k) w w' := by
  rw [List.length_append] at hm ⊢
  obtain ⟨A, c, w', h1, h2, h3⟩ := cat_bytes h h2 hb hm ty
  exact ⟨_, w', h1, h2, h3⟩
theorem DrsAt.at {w : World} {b n k i : Nat} {A : Option Addr} {ds : List Dr} {d : Dr} (h : DrsAt w b (.slice A n k) ds) (hi : ds[i]? = some d) : ∃ g, A = some ⟨g, 0, none⟩ ∧ n = ds.length ∧ LiesAt w ⟨g, 0 + i * 4, none⟩ d.vs := by
  obtain ⟨g, c, e, _, _, hl⟩ := own_at h.row Dr.vs_len hi
  cases e
  exact ⟨g, rfl, rfl, hl⟩
set_option maxHeartbeats 2000000 in
theorem rdump_c {c : Cf} {b : Nat} {A : Option Addr} {k : Nat} (ds : List Dr) (w : World) (h : DrsAt w b (.slice A ds.length k) ds) (hB : ∀ d ∈ ds, ∀ z ∈ d.zs, IsB z.L.flatten) (hsz : (dumpL c (ds.map Dr.dc)).length ≤ 1000000000) (hds : ds.length ≤ 1000000) :
    Calls Tryz.prog 12 #[c.val, .slice A ds.length k] w fun e w' => ∃ v, e = .returned v ∧ Bts w w' (dumpL c (ds.map Dr.dc)) v := by
  obtain ⟨M, hM⟩ : ∃ M, M = ds.map Dr.dc := ⟨_, rfl⟩
  rw [← hM] at hsz ⊢
  have hMi : ∀ {i : Nat} {d : Dr}, ds[i]? = some d → M[i]? = some d.dc := fun hi => by rw [hM, List.getElem?_map, hi]; rfl
  have hMl : M.length = ds.length := by rw [hM, List.length_map]
  have hput : c.put.length = 88 := Cnf.put_len c
  refine J.enter Tryz.func12 rfl [] [.agg c.cs, .one (.v (.slice A ds.length k))] 55 (known_nil w) ?_
  refine J.new 23 c.cs [] (fun g1 hg1 _ => ?_)
  have fin : ∀ {u w1 : World} {c1 : List C}, Ext w u → Rel [⟨g1, 23, c1⟩] u w1 → Ext w w1 := fun hx hr => hx.rel' hr (mem1 (.inl hg1))
  have same : ∀ {u w1 : World}, Known [⟨g1, 23, c.cs⟩] u → Known [⟨g1, 23, c.cs⟩] w1 → Rel [⟨g1, 23, c.cs⟩] u w1 → Ext u w1 := fun h hk hr => hr.ext' (mem1 (.inr ((hk.get 0 rfl).trans (h.get 0 rfl).symm)))
  refine J.call Tryz.func37 [.agg c.cs] [⟨g1, 23, c.cs⟩] (fun w1 hk1 hr1 => ?_)
  refine (rput_c (c := c) w1).mono ?_
  rintro e w2 ⟨v0, rfl, hb0⟩
  have hk2 := hb0.1.known hk1
  obtain ⟨q, rfl, hqn, hql, hq⟩ := hb0.pat (by rw [hput]; decide)
  have hx2 := (fin (.refl w) hr1).trans hb0.1
  refine ⟨.one (.v q.val), _, rfl, rfl, hk2, ?_⟩
  refine J.call Tryz.func36 [.one (.v q.val)] [⟨g1, 23, c.cs⟩] (fun w3 hk3 hr3 => ?_)
  have hx3 := fin hx2 hr3
  refine (rbytes_c q w3 (hq.ext (same hk2 hk3 hr3))).mono ?_
  rintro e w4 ⟨v4, rfl, hb4⟩
  rw [hqn, hput, hql] at hb4
  have hk4 := hb4.1.known hk3
  have hb4' := hb4.from hx3
  refine ⟨.one (.v v4), _, rfl, rfl, hk4, ?_⟩
  have h0 : w4.ownsRow w.heap.size 5 1 v4 (upM c M 0).length (enc (upM c M 0)) := by
    rw [show upM c M 0 = i8 88 ++ c.put by simp [upM, Img.hb]]; exact hb4'.2
  refine J.loop (fun x : Nat × Value => [(1, .one (.v (.slice A ds.length k))), (5, .one (.v x.2)), (6, .one (.v (.int .i64 (x.1 : Nat))))]) (fun _ => [⟨g1, 23, c.cs⟩]) (fun x u => x.1 ≤ ds.length ∧ Ext w u ∧ u.ownsRow w.heap.size 5 1 x.2 (upM c M x.1).length (enc (upM c M x.1))) (fun x => ds.length - x.1) [] (0, v4) (fun w5 hk5 hr5 => ⟨Nat.zero_le _, fin hb4'.1 hr5, owns_ext h0 (same hk4 hk5 hr5)⟩) ?_
  rintro p ⟨i, v⟩ w5 hp ⟨hi, hx5, hv⟩ hk5
  replace hi : i ≤ ds.length := hi
  replace hv : w5.ownsRow w.heap.size 5 1 v (upM c M i).length (enc (upM c M i)) := hv
  refine J.brd ((i : Int) < (ds.length : Int)) (fun h1 => ?_) (fun h1 => ?_)
  rotate_left
  · have : i = M.length := by omega
    subst this
    refine J.ret (.one (.v v)) [⟨g1, 23, c.cs⟩] (fun w6 hk6 hr6 => ⟨v, rfl, fin hx5 hr6, ?_⟩)
    rw [upM_all] at hv
    exact owns_ext hv (same hk5 hk6 hr6)
  have hj : i < ds.length := by omega
  have hjz := List.getElem?_eq_getElem hj
  have hdm := List.getElem_mem hj
  generalize ds[i] = d at hjz hdm
  have hMd := hMi hjz
  obtain ⟨g, rfl, -, -⟩ := h.at hjz
  have lies : ∀ {u : World}, Ext w u → LiesAt u ⟨g, 0 + i * 4, none⟩ d.vs := fun hx => by
    obtain ⟨_, e, -, hl⟩ := (h.ext hx).at hjz
    cases e; exact hl
  have hdA := h.each d hdm
  have hzm := hdA.most
  refine J.ix g 0 ds.length k 4 i rfl hj ?_
  refine J.ld 4 ⟨g, 0 + i * 4 + 2, none⟩ (.one (.v (.bool d.lost))) [⟨g1, 23, c.cs⟩] (fun u hk hr => lies_sub (lies (fin hx5 hr)) rfl) ?_
  refine J.call Tryz.func38 [.one (.v (.bool d.lost))] [⟨g1, 23, c.cs⟩] (fun w6 hk6 hr6 => ?_)
  refine (rflag_c d.lost w6).mono ?_
  rintro e w7 ⟨v7, rfl, hb7⟩
  have hx57 := (same hk5 hk6 hr6).trans hb7.1
  have hk7 := hb7.1.known hk6
  refine ⟨.one (.v v7), _, rfl, rfl, hk7, ?_⟩
  refine J.app 27 27 (.one (.v v)) (.one (.v v7)) [⟨g1, 23, c.cs⟩] (fun ty w8 hk8 hr8 => ?_)
  have hx78 := same hk7 hk8 hr8
  have hx58 := hx57.trans hx78
  have hv8 := owns_ext hv hx58
  have hz0 : upM c M i ++ [b1 d.lost] = upZ c M i d.dc 0 := (upZ_0 c M i d.dc).symm
  obtain ⟨v9, w9, e1, e2, e3⟩ := cat_l hv8 (owns_ext hb7.2 hx78) (hx5.trans hx58).1 (by rw [hz0]; have := upZ_le (c := c) hMd 0; omega) ty
  rw [hz0] at e2
  have hk9 := Img.own_known hv8 hk8 e3 (mem1 (fun e => absurd e (by show ¬ 23 = 5; decide)))
  have hx9 : Ext w w9 := ext_chg (hx5.trans hx58) e3 (fun k e => by obtain ⟨cs, _, hb⟩ := own_ty hv8 e; exact hb)
  refine ⟨v9, w9, e1, hk9, ?_⟩
  refine J.loop (fun x : Nat × Value => [(1, .one (.v (.slice (some ⟨g, 0, none⟩) ds.length k))), (5, .one (.v x.2)), (6, .one (.v (.int .i64 (i : Nat)))), (7, .one (.v (.int .i64 (x.1 : Nat))))]) (fun _ => [⟨g1, 23, c.cs⟩]) (fun x u => x.1 ≤ d.zs.length ∧ Ext w u ∧ u.ownsRow w.heap.size 5 1 x.2 (upZ c M i d.dc x.1).length (enc (upZ c M i d.dc x.1))) (fun x => d.zs.length - x.1) [] (0, v9) (fun w10 hk10 hr10 => ⟨Nat.zero_le _, fin hx9 hr10, owns_ext e2 (same hk9 hk10 hr10)⟩) ?_
  rintro p2 ⟨j, v⟩ w10 hp2 ⟨hjj, hx10, hv10⟩ hk10
  replace hjj : j ≤ d.zs.length := hjj
  replace hv10 : w10.ownsRow w.heap.size 5 1 v (upZ c M i d.dc j).length (enc (upZ c M i d.dc j)) := hv10
  have hdzl : d.dc.zs.length = d.zs.length := List.length_map ..
  refine J.ix g 0 ds.length k 4 i rfl hj ?_
  refine J.ld 59 ⟨g, 0 + i * 4 + 0, none⟩ (.one (.v (.slice (some ⟨d.g, 0, none⟩) d.zs.length d.c))) [⟨g1, 23, c.cs⟩] (fun u hk hr => lies_sub (lies (fin hx10 hr)) rfl) ?_
  have leave : upZ c M i d.dc j = upM c M (i + 1) → ∀ {u : World}, Known [⟨g1, 23, c.cs⟩] u → Rel [⟨g1, 23, c.cs⟩] w10 u → i + 1 ≤ ds.length ∧ Ext w u ∧ u.ownsRow w.heap.size 5 1 v (upM c M (i + 1)).length (enc (upM c M (i + 1))) := fun e u hk hr => ⟨hj, fin hx10 hr, by rw [← e]; exact owns_ext hv10 (same hk10 hk hr)⟩
  by_cases c1 : (j : Int) < (d.zs.length : Int)
  rotate_left
  · refine J.lit 33 (decide ((j : Int) < (d.zs.length : Int))) false (decide_eq_false c1) ?_
    refine J.ari ((i + 1 : Nat) : Int) (.add (x := i) (y := 1) (by omega) (by omega) (by omega)) ?_
    have ee : upZ c M i d.dc j = upM c M (i + 1) := by rw [← upZ_all hMd, hdzl, show j = d.zs.length by omega]
    exact J.at (fun a u h1 h2 hk hr => hp (i + 1, v) a u h1 h2 hk (leave ee hk hr) (by show ds.length - (i + 1) < ds.length - i; omega))
  refine J.lit 33 (decide ((j : Int) < (d.zs.length : Int))) true (decide_eq_true c1) ?_
  refine J.ix g 0 ds.length k 4 i rfl hj ?_
  refine J.ld 4 ⟨g, 0 + i * 4 + 2, none⟩ (.one (.v (.bool d.lost))) [⟨g1, 23, c.cs⟩] (fun u hk hr => lies_sub (lies (fin hx10 hr)) rfl) ?_
  by_cases hl : d.lost = true
  · refine J.brf (!d.lost) (by rw [hl]; rfl) ?_
    refine J.ari ((i + 1 : Nat) : Int) (.add (x := i) (y := 1) (by omega) (by omega) (by omega)) ?_
    have ee : upZ c M i d.dc j = upM c M (i + 1) := by rw [← upZ_all hMd]; exact upZ_dead hl _ _
    exact J.at (fun a u h1 h2 hk hr => hp (i + 1, v) a u h1 h2 hk (leave ee hk hr) (by show ds.length - (i + 1) < ds.length - i; omega))
  refine J.brt (!d.lost) (by rw [Bool.eq_false_iff.2 hl]; rfl) ?_
  have hjl : j < d.zs.length := by omega
  have hzz := List.getElem?_eq_getElem hjl
  have hzm2 := List.getElem_mem hjl
  generalize d.zs[j] = z at hzz hzm2
  have hdz : d.dc.zs[j]? = some z.zc := by
    show (d.zs.map Zr.zc)[j]? = _
    rw [List.getElem?_map, hzz]; rfl
  have hst := upZ_step (c := c) (M := M) (i := i) (Bool.eq_false_iff.2 hl) hdz
  refine J.ix g 0 ds.length k 4 i rfl hj ?_
  refine J.ld 59 ⟨g, 0 + i * 4 + 0, none⟩ (.one (.v (.slice (some ⟨d.g, 0, none⟩) d.zs.length d.c))) [⟨g1, 23, c.cs⟩] (fun u hk hr => lies_sub (lies (fin hx10 hr)) rfl) ?_
  refine J.ix d.g 0 d.zs.length d.c 5 j rfl hjl ?_
  refine J.ld 78 ⟨d.g, 0 + j * 5, none⟩ (.agg z.cs) [⟨g1, 23, c.cs⟩] (fun u hk hr => (hdA.ext (fin hx10 hr)).lies hzz) ?_
  refine J.call Tryz.func39 [.agg z.cs] [⟨g1, 23, c.cs⟩] (fun w11 hk11 hr11 => ?_)
  refine (rzone_c z w11 ((hdA.each z hzm2).ext (fin hx10 hr11)) (hB d hdm z hzm2)).mono ?_
  rintro e w12 ⟨v12, rfl, hb12⟩
  have hx1012 := (same hk10 hk11 hr11).trans hb12.1
  have hk12 := hb12.1.known hk11
  refine ⟨.one (.v v12), _, rfl, rfl, hk12, ?_⟩
  refine J.app 27 27 (.one (.v v)) (.one (.v v12)) [⟨g1, 23, c.cs⟩] (fun ty w13 hk13 hr13 => ?_)
  have hx1213 := same hk12 hk13 hr13
  have hx1013 := hx1012.trans hx1213
  have hv13 := owns_ext hv10 hx1013
  obtain ⟨v14, w14, f1, f2, f3⟩ := cat_l hv13 (owns_ext hb12.2 hx1213) (hx10.trans hx1013).1 (by rw [← hst]; have := upZ_le (c := c) hMd (j + 1); omega) ty
  rw [← hst] at f2
  have hk14 := Img.own_known hv13 hk13 f3 (mem1 (fun e => absurd e (by show ¬ 23 = 5; decide)))
  have hx14 : Ext w w14 := ext_chg (hx10.trans hx1013) f3 (fun k e => by obtain ⟨cs, _, hb⟩ := own_ty hv13 e; exact hb)
  refine ⟨v14, w14, f1, hk14, ?_⟩
  refine J.ari ((j + 1 : Nat) : Int) (.add (x := j) (y := 1) (by omega) (by omega) (by omega)) ?_
  exact J.at (fun a u h1 h2 hk hr => hp2 (j + 1, v14) a u h1 h2 hk ⟨hjl, fin hx14 hr, owns_ext f2 (same hk14 hk hr)⟩ (by show d.zs.length - (j + 1) < d.zs.length - j; omega))
end Go.Proofs.YtlhmpmmblnbmbaaGreat.Doc
set_option linter.unusedVariables false
set_option linter.unusedSimpArgs false
set_option maxRecDepth 100000
namespace Go.Proofs.YtlhmpmmblnbmbaaGreat.Doc
open Go.Proofs.YtlhmpmmblnbmbaaGreat.Sx Go.Proofs.YtlhmpmmblnbmbaaGreat.Zon Go.Proofs.YtlhmpmmblnbmbaaGreat.Byt Go.Proofs.YtlhmpmmblnbmbaaGreat.Dev Go.Proofs.YtlhmpmmblnbmbaaGreat.Pck Go.Proofs.YtlhmpmmblnbmbaaGreat.Bus Go.Proofs.YtlhmpmmblnbmbaaGreat.Cnf Go.Lib
/-- An act. -/
structure Ac where
  do_ : Int
  m : Int
  z : Int
  n : Int
  b : Int
def Ac.vs (a : Ac) : List Value := [.int .i64 a.do_, .int .u8 a.m, .int .u8 a.z, .int .u8 a.n, .int .u8 a.b]
structure Ac.Ok (a : Ac) : Prop where
  m0 : 0 ≤ a.m
  m1 : a.m < 256
  z0 : 0 ≤ a.z
  z1 : a.z < 256
  n0 : 0 ≤ a.n
  n1 : a.n < 256
  b0 : 0 ≤ a.b
  b1 : a.b < 256
def ActsAt (w : World) (A : Option Addr) (l : List Ac) : Prop := l = [] ∨ ∃ (g o : Nat) (cs : Array Value) (t : Nat) (fz : Nat × Nat), A = some ⟨g, o, none⟩ ∧ w.heap[g]? = some (Obj.cells cs t fz) ∧ ∀ (i : Nat) (a : Ac), l[i]? = some a → ∀ (j : Nat) (v : Value), a.vs[j]? = some v → cs[o + i * 5 + j]? = some v
theorem ActsAt.ext {w w' : World} {A : Option Addr} {l : List Ac} (h : ActsAt w A l) (hx : Ext w w') : ActsAt w' A l := h.imp id (fun ⟨g, o, cs, t, fz, h1, h2, h3⟩ => ⟨g, o, cs, t, fz, h1, hx.blk h2, h3⟩)
theorem ActsAt.at {w : World} {A : Option Addr} {l : List Ac} {i : Nat} {a : Ac} (h : ActsAt w A l) (hi : l[i]? = some a) : ∃ g o, A = some ⟨g, o, none⟩ ∧ ∀ {u : World}, Ext w u → ∀ {j : Nat} {v : Value}, a.vs[j]? = some v → LiesAt u ⟨g, o + i * 5 + j, none⟩ [v] := by
  rcases h with rfl | ⟨g, o, cs, t, fz, rfl, h2, h3⟩
  · cases hi
  refine ⟨g, o, rfl, fun {u} hx {j v} hv q x hq => ?_⟩
  cases q with
  | succ q => cases hq
  | zero =>
    cases hq
    rw [Addr.add_mid]
    unfold World.cell?
    rw [hx.blk h2]
    exact h3 i a hi j v hv
theorem BusAt.keep {w w' : World} {g : Nat} {B : Bs} {S : Nat → Prop} (h : BusAt w g B) (hx : Chg S w w') (hS : ∀ k, S k → ∃ cs f, w.heap[k]? = some (Obj.cells cs 61 f)) : BusAt w' g B := by
  have no : ∀ {k t : Nat} {cs : Array Value} {f : Nat × Nat}, w.heap[k]? = some (Obj.cells cs t f) → t ≠ 61 → ¬ S k := fun hk ht hs => by
    obtain ⟨ds, f2, hd⟩ := hS _ hs
    exact ne_ty hk hd ht rfl
  have hu : ∀ (k : Nat) (cs : Array Value) (fz : Nat × Nat), S k → U8 w k cs fz → False := fun k cs fz hs hb => by
    obtain ⟨ds, f2, hd⟩ := hS _ hs
    exact ne_u8 hd hb (by show u8ty 61 = false; kernel_rfl) rfl
  have h1 := h.ptrs
  have h2 := h.times
  have h3 := h.turns
  obtain ⟨_, pc, hp, _⟩ := h.ptrs
  obtain ⟨_, tc, ht, _⟩ := h.times
  obtain ⟨_, uc, hu2, _⟩ := h.turns
  have hm : ∀ m ∈ B.ms, DevAt w' m.gd m.gz m.cap m.d := fun m hm => by
    have hmi := h.mem m hm
    obtain ⟨mc, hmb⟩ := DevAt.zblk hmi
    exact DevAt.chg hmi hx (no hmi.dev (by decide)) (no hmb (by decide)) hu
  exact { h with bus := hx.blk h.bus (no h.bus (by decide)), ptrs := h1.chg hx (no hp (by decide)), times := h2.chg hx (no ht (by decide)), turns := h3.chg hx (no hu2 (by decide)), mem := hm }
theorem BusC.keep {w w' : World} {g : Nat} {O : Nat → Prop} {M : List Dc} {n : Int} {S : Nat → Prop} (h : BusC w g O M n) (hx : Chg S w w') (hS : ∀ k, S k → ∃ cs f, w.heap[k]? = some (Obj.cells cs 61 f)) : BusC w' g O M n := let ⟨B, hB⟩ := h; ⟨B, { hB with bus := BusAt.keep hB.bus hx hS }⟩
/-- The bus' blocks are none of the document's. -/
theorem busTy {w : World} {g : Nat} {O : Nat → Prop} {M : List Dc} {n : Int} (h : BusC w g O M n) {k : Nat} {cs : Array Value} {t : Nat} {f : Nat × Nat} (hk : w.heap[k]? = some (Obj.cells cs t f)) (ho : O k) (ht : t = 61 ∨ t = 78 ∨ t = 9) : False := by
  obtain ⟨ds, t2, hd, h2⟩ := h.typ ho
  rw [hk] at hd
  cases hd
  rcases ht with rfl | rfl | rfl <;> rcases h2 with h2 | h2 | h2 | h2 | h2 <;> revert h2 <;> decide
theorem DrAt.bus {w w' : World} {g : Nat} {O : Nat → Prop} {M : List Dc} {n : Int} {d : Dr} (h : DrAt w d) (hB : BusC w g O M n) (hx : Chg O w w') : DrAt w' d := ⟨ownsRow_chg h.row hx (fun k hk hs => by
  obtain ⟨cs, hb, _⟩ := own_ty h.row hk
  exact busTy hB hb hs (.inr (.inl rfl))), fun z hz => (h.each z hz).chg hx (fun k cs hs hb => busTy hB hb hs (.inr (.inr rfl))), h.most⟩
theorem DrsAt.bus {w w' : World} {g b : Nat} {O : Nat → Prop} {M : List Dc} {n : Int} {v : Value} {ds : List Dr} (h : DrsAt w b v ds) (hB : BusC w g O M n) (hx : Chg O w w') : DrsAt w' b v ds := ⟨ownsRow_chg h.row hx (fun k hk hs => by
  obtain ⟨cs, hb, _⟩ := own_ty h.row hk
  exact busTy hB hb hs (.inl rfl)), fun d hd => (h.each d hd).bus hB hx⟩
/-- The row of members, opened for a store. -/
structure DrsO (w : World) (b gr nm kr : Nat) (ds : List Dr) (cur : List Value) : Prop where
  blk : w.heap[gr]? = some (Obj.cells cur.toArray 61 (0, 0))
  low : b ≤ gr
  len : nm = ds.length
  le : ds.length ≤ kr
  max : kr ≤ maxLen
  size : cur.length = kr * 4
  take : cur.take (ds.length * 4) = ds.flatMap Dr.vs
theorem DrsAt.opn {w : World} {b gr nm kr : Nat} {ds : List Dr} (h : DrsAt w b (.slice (some ⟨gr, 0, none⟩) nm kr) ds) (h0 : 0 < ds.length) : ∃ cur, DrsO w b gr nm kr ds cur := by
  obtain ⟨g, c, cur, e, h1, h2, h3, h4, h5, h6⟩ := own_open h.row h0
  cases e
  exact ⟨cur, h2, h1, rfl, h3, h4, h5, h6⟩
theorem DrsO.get {w : World} {b gr nm kr : Nat} {ds : List Dr} {cur : List Value} (h : DrsO w b gr nm kr ds cur) {j : Nat} {d : Dr} (hj : ds[j]? = some d) {i : Nat} (hi : i < 4) : cur[j * 4 + i]? = d.vs[i]? := by
  have hjl := (List.getElem?_eq_some_iff.1 hj).1
  have := flat_get Dr.vs_len hi hj
  rw [← h.take, List.getElem?_take_of_lt (by omega)] at this
  exact this
/-- A member is another one. -/
theorem DrsAt.sto {w w' : World} {b gr nm kr j : Nat} {ds : List Dr} {d : Dr} {cur : List Value} (h : DrsAt w b (.slice (some ⟨gr, 0, none⟩) nm kr) ds) (ho : DrsO w b gr nm kr ds cur) (hx : Chg (fun k => k = gr) w w') (hb : w'.heap[gr]? = some (Obj.cells (putL cur (0 + j * 4) d.vs).toArray 61 (0, 0))) (hd : DrAt w d) (hj : j < ds.length) : DrsAt w' b (.slice (some ⟨gr, 0, none⟩) nm kr) (ds.set j d) := by
  have hS : ∀ k, k = gr → ∃ cs f, w.heap[k]? = some (Obj.cells cs 61 f) := fun k e => by rw [e]; exact ⟨_, _, ho.blk⟩
  refine ⟨?_, fun y hy => ?_⟩
  · rw [List.length_set, ho.len]
    exact own_close (f := Dr.vs) Dr.vs_len ho.low ho.le ho.max ho.size ho.take hj hb
  · rcases List.mem_or_eq_of_mem_set hy with hy | rfl
    · exact (h.each y hy).chg hx hS
    · exact hd.chg hx hS
theorem put_lost {w : World} {b gr nm kr j : Nat} {ds : List Dr} {d : Dr} {cur : List Value} (h : DrsO w b gr nm kr ds cur) (hj : ds[j]? = some d) : putL cur (0 + j * 4 + 2) [.bool true] = putL cur (0 + j * 4) ({ d with lost := true } : Dr).vs := by
  have hjl := (List.getElem?_eq_some_iff.1 hj).1
  have hle := h.le
  have hsz := h.size
  refine List.ext_getElem? (fun i => ?_)
  by_cases hin : 0 + j * 4 ≤ i ∧ i < 0 + j * 4 + 4
  · obtain ⟨q, rfl⟩ : ∃ q, i = 0 + j * 4 + q := ⟨i - (0 + j * 4), by omega⟩
    have hq : q < 4 := by omega
    rw [putL_in ({ d with lost := true } : Dr).vs cur (0 + j * 4) q (by rw [Dr.vs_len]; omega) hq]
    have hg := h.get hj hq
    match q, hq with
    | 0, _ => rw [putL_out _ _ _ _ (by simp), show 0 + j * 4 + 0 = j * 4 + 0 by omega, hg]; rfl
    | 1, _ => rw [putL_out _ _ _ _ (by simp), show 0 + j * 4 + 1 = j * 4 + 1 by omega, hg]; rfl
    | 2, _ => rw [show 0 + j * 4 + 2 = 0 + j * 4 + 2 + 0 by omega, putL_in [.bool true] cur (0 + j * 4 + 2) 0 (by show 0 + j * 4 + 2 + 1 ≤ _; omega) (by decide)]; rfl
    | 3, _ => rw [putL_out _ _ _ _ (by simp), show 0 + j * 4 + 3 = j * 4 + 3 by omega, hg]; rfl
  · rw [putL_out _ _ _ _ (by simp; omega), putL_out _ _ _ _ (by rw [Dr.vs_len]; omega)]
/-- How members are. -/
def Sh (c : Cf) (d : Dc) : Prop := (d.zs.length : Int) = c.all ∧ ∀ z ∈ d.zs, z.block = c.block ∧ z.cap = c.cap
def Shape (c : Cf) (M : List Dc) : Prop := (M.length : Int) = c.members ∧ ∀ d ∈ M, Sh c d
theorem Sh.set {c : Cf} {d : Dc} (h : Sh c d) (j : Nat) (z : Zc) (hz : z.block = c.block ∧ z.cap = c.cap) : Sh c { d with zs := d.zs.set j z } := ⟨by show ((d.zs.set j z).length : Int) = _; rw [List.length_set]; exact h.1, fun y hy => by
  rcases List.mem_or_eq_of_mem_set hy with hy | rfl
  · exact h.2 y hy
  · exact hz⟩
theorem Sh.append {c : Cf} {d : Dc} (h : Sh c d) (z : Int) (b : List Int) : Sh c (d.append z b).2 := by
  unfold Dc.append
  split
  · exact h
  · split
    · rename_i x hx
      split
      · exact h
      · split
        · exact h
        · exact h.set _ _ (h.2 x (List.mem_of_getElem? hx))
    · exact h
theorem Sh.finish {c : Cf} {d : Dc} (h : Sh c d) (z : Int) : Sh c (d.finish z).2 := by
  unfold Dc.finish
  split
  · exact h
  · split
    · rename_i x hx
      exact h.set _ _ (h.2 x (List.mem_of_getElem? hx))
    · exact h
theorem Sh.flush {c : Cf} {d : Dc} (h : Sh c d) : Sh c d.flush.2 := by
  unfold Dc.flush
  split
  · exact h
  · refine ⟨by show ((d.zs.map Zc.flush).length : Int) = _; rw [List.length_map]; exact h.1, fun y hy => ?_⟩
    obtain ⟨x, hx, rfl⟩ := List.mem_map.1 hy
    exact h.2 x hx
theorem Sh.kill {c : Cf} {d : Dc} (h : Sh c d) : Sh c { d with dead := true } := h
theorem Shape.set {c : Cf} {M : List Dc} (h : Shape c M) (j : Nat) {d : Dc} (hd : Sh c d) : Shape c (M.set j d) := ⟨by rw [List.length_set]; exact h.1, fun y hy => by
  rcases List.mem_or_eq_of_mem_set hy with hy | rfl
  · exact h.2 y hy
  · exact hd⟩
theorem Sh.new {c : Cf} {na : Nat} (hna : c.all = (na : Int)) (hb0 : 1 ≤ c.block) (hb1 : c.block ≤ 4096) (hc0 : 1 ≤ c.cap) (hc1 : c.cap ≤ 4096) : Sh c (Dc.new na c.cap c.block c.limit) := ⟨by show ((List.replicate na (Zc.new c.cap c.block)).length : Int) = _; rw [List.length_replicate, hna], fun z hz => by
  rw [List.eq_of_mem_replicate hz]
  unfold Zc.new
  exact ⟨by show min (max c.block 1) 4096 = _; omega, by show min (max c.cap 1) 4096 = _; omega⟩⟩
end Go.Proofs.YtlhmpmmblnbmbaaGreat.Doc
set_option linter.unusedVariables false
set_option linter.unusedSimpArgs false
set_option maxRecDepth 100000
namespace Go.Proofs.YtlhmpmmblnbmbaaGreat.Doc
open Go.Proofs.YtlhmpmmblnbmbaaGreat.Sx Go.Proofs.YtlhmpmmblnbmbaaGreat.Zon Go.Proofs.YtlhmpmmblnbmbaaGreat.Byt Go.Proofs.YtlhmpmmblnbmbaaGreat.Dev Go.Proofs.YtlhmpmmblnbmbaaGreat.Pck Go.Proofs.YtlhmpmmblnbmbaaGreat.Bus Go.Proofs.YtlhmpmmblnbmbaaGreat.Cnf Go.Lib
structure S1 where
  i : Nat
  v : Value
structure S2 where
  i : Nat
  M : List Dc
  n : Int
  ds : List Dr
def MemR (c : Cf) (w : World) (e : Ending) (w' : World) : Prop := ∃ (g : Nat) (O : Nat → Prop) (M : List Dc) (n : Int) (gr kr : Nat) (ds : List Dr), e = .returned (.tuple #[.pointer (some ⟨g, 0, none⟩), .slice (some ⟨gr, 0, none⟩) ds.length kr]) ∧ Ext w w' ∧ BusC w' g O M n ∧ n ≤ 1000 ∧ (∀ k, O k → w.heap.size ≤ k) ∧ DrsAt w' w.heap.size (.slice (some ⟨gr, 0, none⟩) ds.length kr) ds ∧ ds.map Dr.dc = M ∧ Shape c M
/-- What is told ahead of each act. -/
structure MemI (c : Cf) (w u : World) (g gr nm kr : Nat) (O : Nat → Prop) (ll : Nat) (s : S2) : Prop where
  le : s.i ≤ ll
  ext : Ext w u
  bus : BusC u g O s.M s.n
  num : s.n ≤ (s.i : Int)
  row : DrsAt u w.heap.size (.slice (some ⟨gr, 0, none⟩) nm kr) s.ds
  con : s.ds.map Dr.dc = s.M
  shp : Shape c s.M
set_option maxHeartbeats 4000000 in
theorem members_c {c : Cf} {A : Option Addr} {k : Nat} (l : List Ac) (w : World) (hl : ActsAt w A l) (hok : ∀ a ∈ l, a.Ok) (hck : c.check = 0) (hl30 : l.length ≤ 30) : Calls Tryz.prog 11 #[c.val, .slice A l.length k] w (MemR c w) := by
  have hF := Img.cf_fits hck
  have hFm := hF.members; have hFb := hF.block; have hFa := hF.all2; have hFc := hF.cap
  have hCk : CkP c := by
    refine Classical.byContradiction (fun h => ?_)
    rw [ck1 h] at hck; cases hck
  have hall : c.mta + c.zones + c.spare = c.all := by unfold Cf.all; rw [if_pos (ck_sane hCk)]
  unfold CkP at hCk
  obtain ⟨na, hna⟩ : ∃ na : Nat, c.all = (na : Int) := ⟨c.all.toNat, by omega⟩
  obtain ⟨nm, hnm⟩ : ∃ nm : Nat, c.members = (nm : Int) := ⟨c.members.toNat, by omega⟩
  have e1 : c.all.toNat = na := by omega
  have e2 : c.members.toNat = nm := by omega
  refine J.enter Tryz.func11 rfl [] [.agg c.cs, .one (.v (.slice A l.length k))] 165 (known_nil w) ?_
  refine J.new 23 c.cs [] (fun g1 hg1 _ => ?_)
  have fin : ∀ {u w1 : World}, Ext w u → Rel [⟨g1, 23, c.cs⟩] u w1 → Ext w w1 := fun hx hr => hx.rel' hr (mem1 (.inl hg1))
  have same : ∀ {u w1 : World}, Known [⟨g1, 23, c.cs⟩] u → Known [⟨g1, 23, c.cs⟩] w1 → Rel [⟨g1, 23, c.cs⟩] u w1 → Ext u w1 := fun h hk hr => hr.ext' (mem1 (.inr ((hk.get 0 rfl).trans (h.get 0 rfl).symm)))
  refine J.call Tryz.func27 [.agg c.cs] [⟨g1, 23, c.cs⟩] (fun w1 hk1 hr1 => ?_)
  have hx1 := fin (.refl w) hr1
  refine (Img.nbus_c c w1 hck).mono ?_
  rintro e w2 ⟨hx, g, B, rfl, hNB⟩
  have hx2 := hx1.trans hx
  have hk2 := hx.known hk1
  rw [e1, e2] at hNB
  have hO : ∀ k, B.own g k → w.heap.size ≤ k := fun k hk => Nat.le_trans hx1.1 (hNB.news k hk)
  have hBC := NewBus.con hNB
  generalize B.own g = O at hO hBC
  refine ⟨.one (.v (.pointer (some ⟨g, 0, none⟩))), _, rfl, rfl, hk2, ?_⟩
  refine J.loop (fun x : S1 => [(1, .one (.v (.slice A l.length k))), (2, .one (.ptr 0 0)), (6, .one (.v (.pointer (some ⟨g, 0, none⟩)))), (7, .one (.v x.v)), (8, .one (.v (.int .i64 (x.i : Nat))))]) (fun _ => [⟨g1, 23, c.cs⟩]) (fun x u => x.i ≤ nm ∧ Ext w2 u ∧ ∃ ds, ds.length = x.i ∧ DrsAt u w2.heap.size x.v ds ∧ ds.map Dr.dc = List.replicate x.i (Dc.new na c.cap c.block c.limit)) (fun x => nm - x.i) [] ⟨0, .slice none 0 0⟩ (fun w3 hk3 hr3 => ⟨Nat.zero_le _, same hk2 hk3 hr3, [], rfl, ⟨⟨rfl, .inl ⟨rfl, rfl⟩⟩, fun d hd => (by cases hd)⟩, rfl⟩) ?_
  rintro p ⟨i, v⟩ w3 hp ⟨hi, hx3, ds, hdl, hds, hdm⟩ hk3
  replace hi : i ≤ nm := hi
  replace hdl : ds.length = i := hdl
  replace hx3 : Ext w2 w3 := hx3
  replace hds : DrsAt w3 w2.heap.size v ds := hds
  replace hdm : ds.map Dr.dc = List.replicate i (Dc.new na c.cap c.block c.limit) := hdm
  refine J.brd ((i : Int) < c.members) (fun h1 => ?_) (fun h1 => ?_)
  · refine J.ari (c.mta + c.zones) (.add (x := c.mta) (y := c.zones) rfl (by omega) (by omega)) ?_
    refine J.ari (na : Int) (.add (x := c.mta + c.zones) (y := c.spare) (by omega) (by omega) (by omega)) ?_
    refine J.call Tryz.func28 [.one (.v (.int .i64 (na : Nat))), .one (.v (.int .i64 c.cap)), .one (.v (.int .i64 c.block)), .one (.v (.int .i64 c.limit))] [⟨g1, 23, c.cs⟩] (fun w4 hk4 hr4 => ?_)
    have hx34 := same hk3 hk4 hr4
    refine (dnew_c na c.cap c.block c.limit w4 (by omega) (by omega)).mono ?_
    rintro e w5 ⟨d, rfl, hd5, hdd, hx⟩
    have hx35 := hx34.trans hx
    have hk5 := hx.known hk4
    refine ⟨.agg d.cs, _, rfl, rfl, hk5, ?_⟩
    refine J.bslO 61 1 4 [.slice none 0 0, .int .i64 0, .bool false, .int .i64 0] d.cs [⟨g1, 23, c.cs⟩] (fun w6 w7 hk6 hr6 hk7 hx7 hb7 => ?_)
    have hx57 := (same hk5 hk6 hr6).trans hx7
    refine J.app 35 35 (.one (.v v)) (.one (.v (.slice (some ⟨w6.heap.size, 0, none⟩) 1 1))) [⟨g1, 23, c.cs⟩] (fun ty w8 hk8 hr8 => ?_)
    have hx78 := same hk7 hk8 hr8
    have hx58 := hx57.trans hx78
    have hx38 := hx35.trans hx58
    have hrow8 := ownsRow_ext hds.row hx38
    obtain ⟨A9, c9, w9, f1, f2, f3⟩ := app_one (P := Tryz.prog) (news := d.vs) (.agg #[.slice none 0 0, .int .i64 0, .bool false, .int .i64 0]) 48 35 hrow8 (hx78.blk hb7) rfl (by simp [Dr.vs, Value.oneCell']) (hx3.trans hx38).1 (by simp only [maxLen]; omega) (by omega) ty
    have hk9 := Img.own_known hrow8 hk8 f3 (mem1 (fun e => absurd e (by show ¬ 23 = 61; decide)))
    refine ⟨.slice A9 (ds.length + 1) c9, w9, f1, hk9, ?_⟩
    refine J.ari ((i + 1 : Nat) : Int) (.add (x := i) (y := 1) (by omega) (by omega) (by omega)) ?_
    have hold : DrsAt w8 w2.heap.size v ds := hds.ext hx38
    have hS : ∀ q, v.ownBlock = some q → ∃ cs f, w8.heap[q]? = some (Obj.cells cs 61 f) := fun q hq => by
      obtain ⟨cs, hb, _⟩ := own_ty hrow8 hq
      exact ⟨cs, _, hb⟩
    have hnew : DrsAt w9 w2.heap.size (.slice A9 (ds.length + 1) c9) (ds ++ [d]) := by
      refine ⟨?_, fun y hy => ?_⟩
      · rw [List.length_append, List.flatMap_append, show [d].length = 1 from rfl]
        simpa using f2
      · rcases List.mem_append.1 hy with hy | hy
        · exact (hold.each y hy).chg f3 hS
        · rw [List.mem_singleton.1 hy]
          exact (hd5.ext hx58).chg f3 hS
    have hx9 : Ext w2 w9 := ext_chg (hx3.trans hx38) f3 (fun q e => by obtain ⟨cs, _, hb⟩ := own_ty hrow8 e; exact hb)
    exact J.at (fun a u g1' g2' hk hr => hp ⟨i + 1, .slice A9 (ds.length + 1) c9⟩ a u g1' g2' hk ⟨by show i + 1 ≤ nm; omega, hx9.trans (same hk9 hk hr), ds ++ [d], by rw [List.length_append, hdl]; rfl, hnew.ext (same hk9 hk hr), by rw [List.map_append, hdm, List.replicate_succ', List.map_singleton, hdd]⟩ (by show nm - (i + 1) < nm - i; omega))
  have hinm : i = nm := by omega
  subst hinm
  obtain ⟨gr, kr, cur0, hve, -, -, -, -, -, -⟩ := own_open hds.row (by omega)
  rw [hdl] at hve
  subst hve
  replace hds : DrsAt w3 w.heap.size (.slice (some ⟨gr, 0, none⟩) i kr) ds := ⟨owns_base hds.row hx2.1, hds.each⟩
  have hSh : Sh c (Dc.new na c.cap c.block c.limit) := Sh.new hna (by omega) (by omega) (by omega) (by omega)
  refine J.loop (fun x : S2 => [(1, .one (.v (.slice A l.length k))), (2, .one (.ptr 0 0)), (6, .one (.v (.pointer (some ⟨g, 0, none⟩)))), (7, .one (.v (.slice (some ⟨gr, 0, none⟩) i kr))), (9, .one (.v (.int .i64 (x.i : Nat))))]) (fun _ => [⟨g1, 23, c.cs⟩]) (fun x u => MemI c w u g gr i kr O l.length x) (fun x => l.length - x.i) [] ⟨0, List.replicate i (Dc.new na c.cap c.block c.limit), 0, ds⟩ (fun w4 hk4 hr4 => ⟨Nat.zero_le _, hx2.trans (hx3.trans (same hk3 hk4 hr4)), hBC.ext (hx3.trans (same hk3 hk4 hr4)), Int.le_refl _, hds.ext (same hk3 hk4 hr4), hdm, ⟨by rw [List.length_replicate, hnm], fun d hd => by rw [List.eq_of_mem_replicate hd]; exact hSh⟩⟩) ?_
  clear hds hdm hBC hx3 hk3 hdl hp ds
  rintro q ⟨s, M, n, ds⟩ w3 hq hI hk3
  have hle : s ≤ l.length := hI.le
  have hxw : Ext w w3 := hI.ext
  have hB3 : BusC w3 g O M n := hI.bus
  have hn3 : n ≤ (s : Int) := hI.num
  have hds3 : DrsAt w3 w.heap.size (.slice (some ⟨gr, 0, none⟩) i kr) ds := hI.row
  have hcon : ds.map Dr.dc = M := hI.con
  have hshp : Shape c M := hI.shp
  clear hI
  have hMl : M.length = i := by have := hshp.1; omega
  have hdsl : ds.length = i := by rw [← hMl, ← hcon, List.length_map]
  refine J.brd ((s : Int) < (l.length : Int)) (fun h2 => ?_) (fun h2 => ?_)
  rotate_left
  · refine J.ret (.tup [(false, [.v (.pointer (some ⟨g, 0, none⟩))]), (false, [.v (.slice (some ⟨gr, 0, none⟩) i kr)])]) [⟨g1, 23, c.cs⟩] (fun w4 hk4 hr4 => ?_)
    have hx4 := same hk3 hk4 hr4
    refine ⟨g, O, M, n, gr, kr, ds, by rw [hdsl]; rfl, hxw.trans hx4, hB3.ext hx4, by omega, hO, ?_, hcon, hshp⟩
    rw [hdsl]; exact hds3.ext hx4
  have hj : s < l.length := by omega
  have hjz := List.getElem?_eq_getElem hj
  have haok := hok _ (List.getElem_mem hj)
  generalize l[s] = a at hjz haok
  obtain ⟨hm0, hm1, hz0, hz1, hn0, hn1, hb0, hb1⟩ := haok
  obtain ⟨ga, oa, rfl, hlies⟩ := hl.at hjz
  obtain ⟨mm, hmm⟩ : ∃ mm : Nat, a.m % c.members = (mm : Int) := ⟨(a.m % c.members).toNat, by have := Int.emod_nonneg a.m (b := c.members) (by omega); omega⟩
  have hmml : mm < i := by have := Int.emod_lt_of_pos a.m (b := c.members) (by omega); omega
  have hzz0 := Int.emod_nonneg a.z (b := (na : Int)) (by omega)
  have h0 : (a.vs)[0]? = some (.int .i64 a.do_) := rfl
  have h1v : (a.vs)[1]? = some (.int .u8 a.m) := rfl
  have h2v : (a.vs)[2]? = some (.int .u8 a.z) := rfl
  have h3v : (a.vs)[3]? = some (.int .u8 a.n) := rfl
  have h4v : (a.vs)[4]? = some (.int .u8 a.b) := rfl
  refine J.drw 26 [(2, .one (.v (.pointer (some ⟨ga, oa + s * 5, none⟩)))), (4, .one (.v (.int .u8 a.m))), (5, .one (.v (.int .i64 a.m))), (8, .one (.v (.int .i64 (mm : Nat)))), (11, .one (.v (.pointer (some ⟨ga, oa + s * 5, none⟩)))), (13, .one (.v (.int .u8 a.z))), (14, .one (.v (.int .i64 a.z))), (19, .one (.v (.int .i64 (c.mta + c.zones)))), (22, .one (.v (.int .i64 (na : Nat)))), (23, .one (.v (.int .i64 (a.z % (na : Int)))))] [⟨g1, 23, c.cs⟩] (.cons (Y.ix l.length k rfl hj) <| .cons (Y.ld 5 ⟨ga, oa + s * 5 + 1, none⟩ (fun u hk hr => hlies (hxw.trans (same hk3 hk hr)) h1v)) <| .cons (Y.cv 5 3 .u8 .i64 (x := a.m) a.m (by rw [IntKind.wrap_i64]; omega)) <| .cons (Y.ari (.rem (x := a.m) (y := c.members) hm0 (by omega) hmm)) <| .cons (Y.ix l.length k rfl hj) <| .cons (Y.ld 5 ⟨ga, oa + s * 5 + 2, none⟩ (fun u hk hr => hlies (hxw.trans (same hk3 hk hr)) h2v)) <| .cons (Y.cv 5 3 .u8 .i64 (x := a.z) a.z (by rw [IntKind.wrap_i64]; omega)) <| .cons (Y.ari (.add (x := c.mta) (y := c.zones) rfl (by omega) (by omega))) <| .cons (Y.ari (.add (x := c.mta + c.zones) (y := c.spare) (by omega) (by omega) (by omega))) <| .cons (Y.ari (.rem (x := a.z) (y := (na : Int)) hz0 (by omega) rfl)) .nil) ?_
  have hn60 := Int.emod_nonneg a.n (b := 6) (by omega)
  have hn61 := Int.emod_lt_of_pos a.n (b := 6) (by omega)
  refine J.drw 9 [(2, .one (.v (.pointer (some ⟨ga, oa + s * 5, none⟩)))), (4, .one (.v (.int .u8 a.n))), (5, .one (.v (.int .i64 a.n))), (6, .one (.v (.int .i64 (a.n % 6))))] [⟨g1, 23, c.cs⟩] (.cons (Y.ix l.length k rfl hj) <| .cons (Y.ld 5 ⟨ga, oa + s * 5 + 3, none⟩ (fun u hk hr => hlies (hxw.trans (same hk3 hk hr)) h3v)) <| .cons (Y.cv 5 3 .u8 .i64 (x := a.n) a.n (by rw [IntKind.wrap_i64]; omega)) <| .cons (Y.ari (.rem (x := a.n) (y := 6) hn0 (by omega) rfl)) .nil) ?_
  have hnb0 : 0 ≤ a.n % 6 * c.block := Int.mul_nonneg hn60 (by omega)
  have hnb1 : a.n % 6 * c.block ≤ 6 * 4096 := Int.mul_le_mul (by omega) (by omega) (by omega) (by omega)
  obtain ⟨nx, hnx⟩ : ∃ nx : Nat, a.n % 6 * c.block = (nx : Int) := ⟨(a.n % 6 * c.block).toNat, by omega⟩
  refine J.ari (nx : Nat) (.mul (x := a.n % 6) (y := c.block) hnx (by omega) (by omega)) ?_
  refine J.mk 27 5 (.int .u8 0) 1 1 nx [⟨g1, 23, c.cs⟩] (by omega) (by omega) (fun w5 w6 hk5 hr5 hk6 hx6 hb6 => ?_)
  have hx35 := same hk3 hk5 hr5
  obtain ⟨L0, hL0⟩ : ∃ L0 : List Value, L0 = (madeCells (Value.int .u8 0).cells (nx * 1)).toList := ⟨_, rfl⟩
  have hL0l : L0.length = nx := by rw [hL0, Array.length_toList, size_madeCells]; omega
  replace hb6 : w6.heap[w5.heap.size]? = some (Obj.cells L0.toArray 5 (0, 0)) := by rw [hL0, Array.toArray_toList]; exact hb6
  obtain ⟨gx, hgx⟩ : ∃ gx, gx = w5.heap.size := ⟨_, rfl⟩
  rw [← hgx] at hb6 ⊢
  have hgx3 : w3.heap.size ≤ gx := by rw [hgx]; exact hx35.1
  have hx36 := hx35.trans hx6
  have hg1x : g1 ≠ gx := by
    have := (Array.getElem?_eq_some_iff.1 (hk3.get 0 rfl)).1
    replace this : g1 < w3.heap.size := this
    omega
  refine J.loop (fun x : Nat => [(1, .one (.v (.slice (some ⟨ga, oa, none⟩) l.length k))), (2, .one (.ptr 0 0)), (6, .one (.v (.pointer (some ⟨g, 0, none⟩)))), (7, .one (.v (.slice (some ⟨gr, 0, none⟩) i kr))), (9, .one (.v (.int .i64 (s : Nat)))), (10, .one (.v (.int .i64 (mm : Nat)))), (11, .one (.v (.int .i64 (a.z % (na : Int))))), (12, .one (.v (.slice (some ⟨gx, 0, none⟩) nx nx))), (13, .one (.v (.int .i64 (x : Nat))))]) (fun _ => [⟨g1, 23, c.cs⟩]) (fun x u => x ≤ nx ∧ Ext w3 u ∧ u.heap[gx]? = some (Obj.cells (List.replicate x (Value.int .u8 a.b) ++ L0.drop x).toArray 5 (0, 0))) (fun x => nx - x) [] 0 (fun w7 hk7 hr7 => ⟨Nat.zero_le _, hx36.trans (same hk6 hk7 hr7), (same hk6 hk7 hr7).blk hb6⟩) ?_
  clear hb6 hk6 hx6 hx36 hr5 hk5 hx35 hgx
  intro q3 x w6 hq3 ⟨hxn, hx36, hb6⟩ hk6
  have hxw6 := hxw.trans hx36
  refine J.brd ((x : Int) < (nx : Int)) (fun h3 => ?_) (fun h3 => ?_)
  · refine J.ix ga oa l.length k 5 s rfl hj ?_
    refine J.ld 5 ⟨ga, oa + s * 5 + 4, none⟩ (.one (.v (.int .u8 a.b))) [⟨g1, 23, c.cs⟩] (fun u hk hr => hlies (hxw6.trans (same hk6 hk hr)) h4v) ?_
    refine J.ix gx 0 nx nx 1 x rfl (by omega) ?_
    refine J.sto gx (0 + x * 1) (.one (.v (.int .u8 a.b))) 5 (fun _ => List.replicate x (Value.int .u8 a.b) ++ L0.drop x) [⟨g1, 23, c.cs⟩] (fun w7 hk7 hr7 => ⟨(same hk6 hk7 hr7).blk hb6, by show 0 + x * 1 + 1 ≤ _; rw [List.length_append, List.length_replicate, List.length_drop]; omega⟩) (mem1 hg1x) (fun w7 w8 hk7 hr7 hk8 ho hb8 => ?_)
    have hx38 : Ext w3 w8 := ext_chg (hx36.trans (same hk6 hk7 hr7)) ho.chg (fun q e => by rw [e]; exact hgx3)
    have hb8' : w8.heap[gx]? = some (Obj.cells (List.replicate (x + 1) (Value.int .u8 a.b) ++ L0.drop (x + 1)).toArray 5 (0, 0)) := by
      rw [hb8]
      congr 3
      show (List.replicate x (Value.int .u8 a.b) ++ L0.drop x).set (0 + x * 1) (.int .u8 a.b) = _
      rw [List.set_append_right _ _ (by rw [List.length_replicate]; omega), List.length_replicate, show 0 + x * 1 - x = 0 by omega, List.drop_eq_getElem_cons (by omega), List.set_cons_zero, List.replicate_succ']
      simp
    refine J.ari ((x + 1 : Nat) : Int) (.add (x := x) (y := 1) (by omega) (by omega) (by omega)) ?_
    exact J.at (fun a' u g1' g2' hk hr => hq3 (x + 1) a' u g1' g2' hk ⟨by omega, hx38.trans (same hk8 hk hr), (same hk8 hk hr).blk hb8'⟩ (by omega))
  have hxe : x = nx := by omega
  subst hxe
  rw [List.drop_of_length_le (by omega), List.append_nil] at hb6
  obtain ⟨px, hpx⟩ : ∃ px : Part, px = ⟨some ⟨gx, 0, none⟩, x, x, List.replicate x a.b⟩ := ⟨_, rfl⟩
  have hpv : px.val = .slice (some ⟨gx, 0, none⟩) x x := by rw [hpx]; rfl
  have hpc : px.n ≤ px.c := by rw [hpx]; exact Nat.le_refl _
  have hpB : IsB px.l := by
    rw [hpx]
    intro y hy
    rw [List.eq_of_mem_replicate hy]; exact ⟨hb0, hb1⟩
  have hp6 : PAt w6 px := by
    rw [hpx]
    refine ⟨⟨List.length_replicate, .inr ⟨gx, 0, _, _, rfl, .of hb6, fun y v hv => ?_⟩⟩, fun h => (by cases h), by show x ≤ _; omega⟩
    replace hv : (List.replicate x a.b)[y]? = some v := hv
    have hy := (List.getElem?_eq_some_iff.1 hv).1
    rw [List.length_replicate] at hy
    have := List.eq_of_mem_replicate (List.mem_of_getElem? hv)
    subst this
    simp [hy]
  rw [← hpv]
  clear hpx hb6
  have hB6 := hB3.ext hx36
  have hds6 := hds3.ext hx36
  have hds0 : 0 < ds.length := by omega
  have hmd : mm < ds.length := by omega
  have hdz := List.getElem?_eq_getElem hmd
  have hdm := List.getElem_mem hmd
  generalize ds[mm] = d at hdz hdm
  have hMd : M[mm]? = some d.dc := by rw [← hcon, List.getElem?_map, hdz]; rfl
  have hdsh := hshp.2 _ (List.mem_of_getElem? hMd)
  have hg1r : ∀ {u : World} {cs : Array Value} {f : Nat × Nat}, Known [⟨g1, 23, c.cs⟩] u → u.heap[gr]? = some (Obj.cells cs 61 f) → g1 ≠ gr := fun hk hb e => ne_ty (hk.get 0 rfl) hb (by show 23 ≠ 61; decide) e
  have hrl : ∀ {u : World}, DrsAt u w.heap.size (.slice (some ⟨gr, 0, none⟩) i kr) ds → LiesAt u ⟨gr, 0 + mm * 4, none⟩ d.vs := fun h => by
    obtain ⟨_, e, -, hl⟩ := h.at hdz
    cases e; exact hl
  have hkn : ∀ {u v : World} {M' : List Dc} {n' : Int}, BusC u g O M' n' → Known [⟨g1, 23, c.cs⟩] u → Chg O u v → Known [⟨g1, 23, c.cs⟩] v := fun hb hk hc => hk.chg hc (mem1 (Img.notO hb (hk.get 0 rfl) (by show 23 ≠ _; decide) (by show 23 ≠ _; decide) (by show 23 ≠ _; decide) (by show 23 ≠ _; decide) (by show 23 ≠ _; decide)))
  refine J.ix ga oa l.length k 5 s rfl hj ?_
  refine J.ld 3 ⟨ga, oa + s * 5 + 0, none⟩ (.one (.v (.int .i64 a.do_))) [⟨g1, 23, c.cs⟩] (fun u hk hr => hlies (hxw6.trans (same hk6 hk hr)) h0) ?_
  by_cases hd0 : a.do_ = 0
  · refine J.brt (a.do_ == 0) (by simp [hd0]) ?_
    refine J.call Tryz.func29 [.one (.v (.pointer (some ⟨g, 0, none⟩))), .one (.v (.int .i64 (mm : Nat))), .one (.v (.int .i64 (a.z % (na : Int)))), .one (.v px.val)] [⟨g1, 23, c.cs⟩] (fun w7 hk7 hr7 => ?_)
    have hx67 := same hk6 hk7 hr7
    have hB7 := hB6.ext hx67
    refine (c_append hB7 (by omega) (by omega) mm hMd (a.z % (na : Int)) px (hp6.ext hx67) hpB).mono ?_
    rintro e w8 ⟨rfl, hB8, hch⟩
    have hk8 := hkn hB7 hk7 hch
    have hxw8 : Ext w w8 := ext_chg (hxw6.trans hx67) hch hO
    have hds8 := (hds6.ext hx67).bus hB7 hch
    have hp8 : PAt w8 px := ⟨(hp6.ext hx67).at_.chg hch hB7.far, hp6.nil, hp6.le⟩
    refine ⟨.one (.v (.int .i64 (d.dc.append (a.z % (na : Int)) px.l).1)), _, rfl, rfl, hk8, ?_⟩
    refine J.ix gr 0 i kr 4 mm rfl hmml ?_
    refine J.ld 61 ⟨gr, 0 + mm * 4, none⟩ (.agg d.cs) [⟨g1, 23, c.cs⟩] (fun u hk hr => hrl (hds8.ext (same hk8 hk hr))) ?_
    refine J.call Tryz.func30 [.agg d.cs, .one (.v (.int .i64 (a.z % (na : Int)))), .one (.v px.val)] [⟨g1, 23, c.cs⟩] (fun w9 hk9 hr9 => ?_)
    have hx89 := same hk8 hk9 hr9
    refine (dapp_c d (a.z % (na : Int)) px w9 ((hds8.each d hdm).ext hx89) (hp8.ext hx89) hpc).mono ?_
    rintro e w10 ⟨d', rfl, hd10, hdc, hx⟩
    have hx810 := hx89.trans hx
    have hk10 := hx.known hk9
    refine ⟨.tup [(true, d'.cs), (false, [.v (.int .i64 (d.dc.append (a.z % (na : Int)) px.l).1)])], _, rfl, rfl, hk10, ?_⟩
    refine J.ix gr 0 i kr 4 mm rfl hmml ?_
    have hds10 := hds8.ext hx810
    obtain ⟨cur, hcur⟩ := hds10.opn hds0
    refine J.sto gr (0 + mm * 4) (.agg d'.cs) 61 (fun _ => cur) [⟨g1, 23, c.cs⟩] (fun w11 hk11 hr11 => ⟨(same hk10 hk11 hr11).blk hcur.blk, ?_⟩) (mem1 (hg1r hk10 hcur.blk)) (fun w11 w12 hk11 hr11 hk12 ho hb12 => ?_)
    · show 0 + mm * 4 + 4 ≤ cur.length
      have := hcur.size; have := hcur.le; omega
    have hx1011 := same hk10 hk11 hr11
    have hds12 := (hds10.ext hx1011).sto { hcur with blk := hx1011.blk hcur.blk } ho.chg hb12 (hd10.ext hx1011) hmd
    have hx12 : Ext w w12 := ext_chg ((hxw8.trans hx810).trans hx1011) ho.chg (fun q e => by rw [e]; exact hcur.low)
    have hB12 := BusC.keep ((hB8.ext hx810).ext hx1011) ho.chg (fun q e => by rw [e]; exact ⟨_, _, hx1011.blk hcur.blk⟩)
    have hc12 : (ds.set mm d').map Dr.dc = M.set mm (d.dc.append (a.z % (na : Int)) px.l).2 := by rw [List.map_set, hcon, hdc]
    refine J.ari ((s + 1 : Nat) : Int) (.add (x := s) (y := 1) (by omega) (by omega) (by omega)) ?_
    exact J.at (fun a' u g1' g2' hk hr => hq ⟨s + 1, M.set mm (d.dc.append (a.z % (na : Int)) px.l).2, n + 1, ds.set mm d'⟩ a' u g1' g2' hk ⟨hj, hx12.trans (same hk12 hk hr), hB12.ext (same hk12 hk hr), by show n + 1 ≤ ((s + 1 : Nat) : Int); omega, hds12.ext (same hk12 hk hr), hc12, hshp.set mm (hdsh.append _ _)⟩ (by show l.length - (s + 1) < l.length - s; omega))
  refine J.brf (a.do_ == 0) (by simp [hd0]) ?_
  by_cases hd1 : a.do_ = 1
  · refine J.brt (a.do_ == 1) (by simp [hd1]) ?_
    refine J.call Tryz.func31 [.one (.v (.pointer (some ⟨g, 0, none⟩))), .one (.v (.int .i64 (mm : Nat)))] [⟨g1, 23, c.cs⟩] (fun w7 hk7 hr7 => ?_)
    have hx67 := same hk6 hk7 hr7
    have hB7 := hB6.ext hx67
    refine (c_flush hB7 (by omega) (by omega) mm hMd).mono ?_
    rintro e w8 ⟨rfl, hB8, hch⟩
    have hk8 := hkn hB7 hk7 hch
    have hxw8 : Ext w w8 := ext_chg (hxw6.trans hx67) hch hO
    have hds8 := (hds6.ext hx67).bus hB7 hch
    have hp8 : PAt w8 px := ⟨(hp6.ext hx67).at_.chg hch hB7.far, hp6.nil, hp6.le⟩
    refine ⟨.one (.v (.int .i64 d.dc.flush.1)), _, rfl, rfl, hk8, ?_⟩
    refine J.ix gr 0 i kr 4 mm rfl hmml ?_
    refine J.ld 61 ⟨gr, 0 + mm * 4, none⟩ (.agg d.cs) [⟨g1, 23, c.cs⟩] (fun u hk hr => hrl (hds8.ext (same hk8 hk hr))) ?_
    refine J.call Tryz.func32 [.agg d.cs] [⟨g1, 23, c.cs⟩] (fun w9 hk9 hr9 => ?_)
    have hx89 := same hk8 hk9 hr9
    refine (dflush_c d w9 ((hds8.each d hdm).ext hx89) (by have h7 := hdsh.1; have h8 : d.dc.zs.length = d.zs.length := List.length_map ..; omega)).mono ?_
    rintro e w10 ⟨d', rfl, hd10, hdc, hx⟩
    have hx810 := hx89.trans hx
    have hk10 := hx.known hk9
    refine ⟨.tup [(true, d'.cs), (false, [.v (.int .i64 d.dc.flush.1)])], _, rfl, rfl, hk10, ?_⟩
    refine J.ix gr 0 i kr 4 mm rfl hmml ?_
    have hds10 := hds8.ext hx810
    obtain ⟨cur, hcur⟩ := hds10.opn hds0
    refine J.sto gr (0 + mm * 4) (.agg d'.cs) 61 (fun _ => cur) [⟨g1, 23, c.cs⟩] (fun w11 hk11 hr11 => ⟨(same hk10 hk11 hr11).blk hcur.blk, ?_⟩) (mem1 (hg1r hk10 hcur.blk)) (fun w11 w12 hk11 hr11 hk12 ho hb12 => ?_)
    · show 0 + mm * 4 + 4 ≤ cur.length
      have := hcur.size; have := hcur.le; omega
    have hx1011 := same hk10 hk11 hr11
    have hds12 := (hds10.ext hx1011).sto { hcur with blk := hx1011.blk hcur.blk } ho.chg hb12 (hd10.ext hx1011) hmd
    have hx12 : Ext w w12 := ext_chg ((hxw8.trans hx810).trans hx1011) ho.chg (fun q e => by rw [e]; exact hcur.low)
    have hB12 := BusC.keep ((hB8.ext hx810).ext hx1011) ho.chg (fun q e => by rw [e]; exact ⟨_, _, hx1011.blk hcur.blk⟩)
    have hc12 : (ds.set mm d').map Dr.dc = M.set mm d.dc.flush.2 := by rw [List.map_set, hcon, hdc]
    refine J.ari ((s + 1 : Nat) : Int) (.add (x := s) (y := 1) (by omega) (by omega) (by omega)) ?_
    exact J.at (fun a' u g1' g2' hk hr => hq ⟨s + 1, M.set mm d.dc.flush.2, n + 1, ds.set mm d'⟩ a' u g1' g2' hk ⟨hj, hx12.trans (same hk12 hk hr), hB12.ext (same hk12 hk hr), by show n + 1 ≤ ((s + 1 : Nat) : Int); omega, hds12.ext (same hk12 hk hr), hc12, hshp.set mm hdsh.flush⟩ (by show l.length - (s + 1) < l.length - s; omega))
  refine J.brf (a.do_ == 1) (by simp [hd1]) ?_
  by_cases hd2 : a.do_ = 2
  · refine J.brt (a.do_ == 2) (by simp [hd2]) ?_
    refine J.call Tryz.func33 [.one (.v (.pointer (some ⟨g, 0, none⟩))), .one (.v (.int .i64 (mm : Nat))), .one (.v (.int .i64 (a.z % (na : Int))))] [⟨g1, 23, c.cs⟩] (fun w7 hk7 hr7 => ?_)
    have hx67 := same hk6 hk7 hr7
    have hB7 := hB6.ext hx67
    refine (c_finish hB7 (by omega) (by omega) mm hMd (a.z % (na : Int))).mono ?_
    rintro e w8 ⟨rfl, hB8, hch⟩
    have hk8 := hkn hB7 hk7 hch
    have hxw8 : Ext w w8 := ext_chg (hxw6.trans hx67) hch hO
    have hds8 := (hds6.ext hx67).bus hB7 hch
    have hp8 : PAt w8 px := ⟨(hp6.ext hx67).at_.chg hch hB7.far, hp6.nil, hp6.le⟩
    refine ⟨.one (.v (.int .i64 (d.dc.finish (a.z % (na : Int))).1)), _, rfl, rfl, hk8, ?_⟩
    refine J.ix gr 0 i kr 4 mm rfl hmml ?_
    refine J.ld 61 ⟨gr, 0 + mm * 4, none⟩ (.agg d.cs) [⟨g1, 23, c.cs⟩] (fun u hk hr => hrl (hds8.ext (same hk8 hk hr))) ?_
    refine J.call Tryz.func34 [.agg d.cs, .one (.v (.int .i64 (a.z % (na : Int)))), .one (.v (.int .i64 1))] [⟨g1, 23, c.cs⟩] (fun w9 hk9 hr9 => ?_)
    have hx89 := same hk8 hk9 hr9
    refine (dfin_c d (a.z % (na : Int)) w9 ((hds8.each d hdm).ext hx89)).mono ?_
    rintro e w10 ⟨d', rfl, hd10, hdc, hx⟩
    have hx810 := hx89.trans hx
    have hk10 := hx.known hk9
    refine ⟨.tup [(true, d'.cs), (false, [.v (.int .i64 (d.dc.finish (a.z % (na : Int))).1)])], _, rfl, rfl, hk10, ?_⟩
    refine J.ix gr 0 i kr 4 mm rfl hmml ?_
    have hds10 := hds8.ext hx810
    obtain ⟨cur, hcur⟩ := hds10.opn hds0
    refine J.sto gr (0 + mm * 4) (.agg d'.cs) 61 (fun _ => cur) [⟨g1, 23, c.cs⟩] (fun w11 hk11 hr11 => ⟨(same hk10 hk11 hr11).blk hcur.blk, ?_⟩) (mem1 (hg1r hk10 hcur.blk)) (fun w11 w12 hk11 hr11 hk12 ho hb12 => ?_)
    · show 0 + mm * 4 + 4 ≤ cur.length
      have := hcur.size; have := hcur.le; omega
    have hx1011 := same hk10 hk11 hr11
    have hds12 := (hds10.ext hx1011).sto { hcur with blk := hx1011.blk hcur.blk } ho.chg hb12 (hd10.ext hx1011) hmd
    have hx12 : Ext w w12 := ext_chg ((hxw8.trans hx810).trans hx1011) ho.chg (fun q e => by rw [e]; exact hcur.low)
    have hB12 := BusC.keep ((hB8.ext hx810).ext hx1011) ho.chg (fun q e => by rw [e]; exact ⟨_, _, hx1011.blk hcur.blk⟩)
    have hc12 : (ds.set mm d').map Dr.dc = M.set mm (d.dc.finish (a.z % (na : Int))).2 := by rw [List.map_set, hcon, hdc]
    refine J.ari ((s + 1 : Nat) : Int) (.add (x := s) (y := 1) (by omega) (by omega) (by omega)) ?_
    exact J.at (fun a' u g1' g2' hk hr => hq ⟨s + 1, M.set mm (d.dc.finish (a.z % (na : Int))).2, n + 1, ds.set mm d'⟩ a' u g1' g2' hk ⟨hj, hx12.trans (same hk12 hk hr), hB12.ext (same hk12 hk hr), by show n + 1 ≤ ((s + 1 : Nat) : Int); omega, hds12.ext (same hk12 hk hr), hc12, hshp.set mm (hdsh.finish _)⟩ (by show l.length - (s + 1) < l.length - s; omega))
  refine J.brf (a.do_ == 2) (by simp [hd2]) ?_
  by_cases hd3 : a.do_ = 3
  · refine J.brt (a.do_ == 3) (by simp [hd3]) ?_
    refine J.call Tryz.func35 [.one (.v (.pointer (some ⟨g, 0, none⟩))), .one (.v (.int .i64 (mm : Nat))), .one (.v (.int .i64 0))] [⟨g1, 23, c.cs⟩] (fun w7 hk7 hr7 => ?_)
    have hx67 := same hk6 hk7 hr7
    have hB7 := hB6.ext hx67
    refine (c_kill hB7 (by omega) mm hMd).mono ?_
    rintro e w8 ⟨rfl, hB8, hch⟩
    have hk8 := hkn hB7 hk7 hch
    have hxw8 : Ext w w8 := ext_chg (hxw6.trans hx67) hch hO
    have hds8 := (hds6.ext hx67).bus hB7 hch
    refine ⟨.tup [], _, rfl, rfl, hk8, ?_⟩
    refine J.ix gr 0 i kr 4 mm rfl hmml ?_
    obtain ⟨cur, hcur⟩ := hds8.opn hds0
    refine J.sto gr (0 + mm * 4 + 2) (.one (.lit true)) 61 (fun _ => cur) [⟨g1, 23, c.cs⟩] (fun w11 hk11 hr11 => ⟨(same hk8 hk11 hr11).blk hcur.blk, ?_⟩) (mem1 (hg1r hk8 hcur.blk)) (fun w11 w12 hk11 hr11 hk12 ho hb12 => ?_)
    · show 0 + mm * 4 + 2 + 1 ≤ cur.length
      have := hcur.size; have := hcur.le; omega
    have hx1011 := same hk8 hk11 hr11
    have hd11 : DrAt w11 { d with lost := true } := let h := (hds8.each d hdm).ext hx1011; ⟨h.row, h.each, h.most⟩
    have hds12 := (hds8.ext hx1011).sto { hcur with blk := hx1011.blk hcur.blk } ho.chg (by rw [← put_lost hcur hdz]; exact hb12) hd11 hmd
    have hx12 : Ext w w12 := ext_chg (hxw8.trans hx1011) ho.chg (fun q e => by rw [e]; exact hcur.low)
    have hB12 := BusC.keep (hB8.ext hx1011) ho.chg (fun q e => by rw [e]; exact ⟨_, _, hx1011.blk hcur.blk⟩)
    have hc12 : (ds.set mm { d with lost := true }).map Dr.dc = M.set mm { d.dc with dead := true } := by rw [List.map_set, hcon]; rfl
    refine J.ari ((s + 1 : Nat) : Int) (.add (x := s) (y := 1) (by omega) (by omega) (by omega)) ?_
    exact J.at (fun a' u g1' g2' hk hr => hq ⟨s + 1, M.set mm { d.dc with dead := true }, n, ds.set mm { d with lost := true }⟩ a' u g1' g2' hk ⟨hj, hx12.trans (same hk12 hk hr), hB12.ext (same hk12 hk hr), by show n ≤ ((s + 1 : Nat) : Int); omega, hds12.ext (same hk12 hk hr), hc12, hshp.set mm hdsh.kill⟩ (by show l.length - (s + 1) < l.length - s; omega))
  refine J.brf (a.do_ == 3) (by simp [hd3]) ?_
  refine J.ari ((s + 1 : Nat) : Int) (.add (x := s) (y := 1) (by omega) (by omega) (by omega)) ?_
  exact J.at (fun a' u g1' g2' hk hr => hq ⟨s + 1, M, n, ds⟩ a' u g1' g2' hk ⟨hj, hxw6.trans (same hk6 hk hr), hB6.ext (same hk6 hk hr), by show n ≤ ((s + 1 : Nat) : Int); omega, hds6.ext (same hk6 hk hr), hcon, hshp⟩ (by show l.length - (s + 1) < l.length - s; omega))
end Go.Proofs.YtlhmpmmblnbmbaaGreat.Doc
set_option linter.unusedVariables false
set_option linter.unusedSimpArgs false
set_option maxRecDepth 100000
namespace Go.Proofs.YtlhmpmmblnbmbaaGreat.Img
open Go.Proofs.YtlhmpmmblnbmbaaGreat.Sx Go.Proofs.YtlhmpmmblnbmbaaGreat.Byt Go.Proofs.YtlhmpmmblnbmbaaGreat.Dev Go.Proofs.YtlhmpmmblnbmbaaGreat.Pck Go.Proofs.YtlhmpmmblnbmbaaGreat.Cnf Go.Proofs.YtlhmpmmblnbmbaaGreat.Bus Go.Lib
def cL : Cf := ⟨1, 3, 1, 64, 16, 1, 1, 3, 1, 1, 5⟩
def mL : List Dc := List.replicate 3 (Dc.new 5 16 64 5)
theorem mL_zs {d : Dc} (h : d ∈ mL) : d = Dc.new 5 16 64 5 := (List.mem_replicate.1 h).2
theorem mL_len : (dumpL cL mL).length = 474 := by decide
theorem mL_od {O : Nat → Prop} {k : Nat} : ¬ Od mL O k := fun ⟨_, d, hd, z, hz, h⟩ => by
  rw [mL_zs hd] at hz
  rw [(List.mem_replicate.1 hz).2] at h
  exact h rfl
def pBL : Pred := fun v u => ∃ g O, v = .pointer (some ⟨g, 0, none⟩) ∧ BusC u g O mL 0
def pDL : Pred := fun v _ => ∃ A k, v = .tuple #[.slice A 474 k, .int .i64 0]
def pSL : Pred := fun v _ => ∃ A k, v = .slice A 474 k
theorem live_c (w : World) : Calls Tryz.prog 10 #[] w fun e w' => e = .returned (.bool true) ∧ Ext w w' := by
  refine J.enter Tryz.func10 rfl [] [] 33 (known_nil w) ?_
  refine J.call Tryz.func15 [.one (.v nilP.val)] [] (fun w1 hk1 hr1 => ?_)
  have hx1 : Ext w w1 := hr1.ext' (fun x hx => by cases hx)
  refine (load_c nilP w1 .none (fun x hx => by cases hx)).mono ?_
  rintro e w2 ⟨hx, ⟨er, her, rfl, h14⟩ | ⟨c, g, O, ms, rfl, hck, hmem, hms, hl, -⟩⟩
  rotate_left
  · have := congrArg List.length hl
    simp only [List.length_append, hb, i8_len, nilP, List.length_nil] at this
    omega
  have := h14 rfl
  subst this
  have hx2 := hx1.trans hx
  refine ⟨.tup [(false, [.v (.pointer none)]), (true, zCf), (false, [.v (.int .i64 14)])], _, rfl, rfl, known_nil _, ?_⟩
  refine J.new 23 zCf [] (fun g2 hg2 _ => ?_)
  refine J.new 23 zCf [⟨g2, 23, zCf⟩] (fun g4 hg4 _ => ?_)
  refine J.drwU (E := Ext) [] 9 [] [] [(1, pBL), (3, pDL), (4, pDL), (5, pSL), (6, p00), (7, pSL), (8, p00)] [⟨g2, 23, zCf⟩, ⟨g4, 23, cL.cs⟩] .exts
    (fun wb wc _ _ _ => .nil) (fun _ _ _ => .nil)
    (fun wb hkb hrb => .cons (UAt.call Tryz.func27 [.agg cL.cs] (fun u hku hgu _ => (nbus_c cL u (by decide)).mono (by
        rintro e u2 ⟨hxu, g, B, rfl, hNB⟩
        exact ⟨_, rfl, hxu, g, _, rfl, hNB.con⟩))) (fun v u1 u2 ⟨g, O, e, h⟩ hx => ⟨g, O, e, h.ext hx⟩) trivial <|
      .cons (UAt.callO Tryz.func7 [.o 15, .t (.agg cL.cs)] [(15, pBL)] (fun u ρ hku hgu _ hdep => by
        obtain ⟨g, O, e2, hB⟩ := hdep 15 _ (List.mem_singleton.2 rfl)
        show Calls _ _ #[ρ 15, cL.val] u _
        rw [e2]
        refine (dump_c (c := cL) u hB (by decide) (by decide) (by decide) (fun d hd => by rw [mL_zs hd]; decide) (by rw [mL_len]; decide) (by decide) (by decide)).mono ?_
        rintro e u2 ⟨v2, n', rfl, ho, hB2, -, -, hc⟩
        obtain ⟨p, rfl, hpn, -⟩ := ho.part (by rw [mL_len]; decide)
        rw [mL_len] at hpn
        exact ⟨_, rfl, (.mk2 (hc.1) (fun k hk => hc.2 k hk mL_od)), p.A, p.c, by rw [← hpn]; rfl⟩)) (fun v u1 u2 h hx => h) trivial <|
      .cons (UAt.mvO 17 rfl) (fun v u1 u2 h hx => h) trivial <|
      .cons (UAt.exO pDL 13 0 rfl (fun v u ⟨A, k, e⟩ => ⟨_, _, e, rfl, A, k, rfl⟩)) (fun v u1 u2 h hx => h) trivial <|
      .cons (UAt.exO pDL 13 1 rfl (fun v u ⟨A, k, e⟩ => ⟨_, _, e, rfl, rfl⟩)) (fun v u1 u2 h hx => h) trivial <|
      .cons (UAt.mvO 18 rfl) (fun v u1 u2 h hx => h) trivial <|
      .cons (UAt.mvO 19 rfl) (fun v u1 u2 h hx => h) trivial .nil) ?_
  rintro wb w3 hkb hrb hx3 hk3 v1 - v3 - v4 - v5 - v6 - v7 ⟨A, k, rfl⟩ v8 rfl
  show SX _ _ _ _ _
  have hxb : Ext w wb := hx2.rel' hrb (mem2 (.inl (Nat.le_trans hx2.1 hg2)) (.inl (Nat.le_trans hx2.1 hg4)))
  have hxx3 := hxb.trans hx3
  refine J.call Tryz.func8 [.one (.v (.int .i64 14))] [⟨g2, 23, zCf⟩, ⟨g4, 23, cL.cs⟩] (fun w4 hk4 hr4 => ?_)
  have same : ∀ {u w1 : World}, Known [⟨g2, 23, zCf⟩, ⟨g4, 23, cL.cs⟩] u → Known [⟨g2, 23, zCf⟩, ⟨g4, 23, cL.cs⟩] w1 → Rel [⟨g2, 23, zCf⟩, ⟨g4, 23, cL.cs⟩] u w1 → Ext u w1 := fun h hk hr => hr.ext' (mem2 (.inr ((hk.get 0 rfl).trans (h.get 0 rfl).symm)) (.inr ((hk.get 1 rfl).trans (h.get 1 rfl).symm)))
  have hx4 := hxx3.trans (same hk3 hk4 hr4)
  refine (code_c 14 w4).mono ?_
  rintro e w5 ⟨rfl, hx⟩
  have hx5 := hx4.trans hx
  have hk5 := hx.known hk4
  refine ⟨.one (.v (.int .i64 14)), _, rfl, rfl, hk5, ?_⟩
  refine J.lit 23 ((14 : Int) == 14) true rfl ?_
  refine J.call Tryz.func8 [.one (.v (.int .i64 0))] [⟨g2, 23, zCf⟩, ⟨g4, 23, cL.cs⟩] (fun w6 hk6 hr6 => ?_)
  have hx6 := hx5.trans (same hk5 hk6 hr6)
  refine (code_c 0 w6).mono ?_
  rintro e w7 ⟨rfl, hx⟩
  have hx7 := hx6.trans hx
  have hk7 := hx.known hk6
  refine ⟨.one (.v (.int .i64 0)), _, rfl, rfl, hk7, ?_⟩
  refine J.lit 28 ((0 : Int) == 0) true rfl ?_
  refine J.ret (.one (.v (.bool ((474 : Int) == 474)))) [⟨g2, 23, zCf⟩, ⟨g4, 23, cL.cs⟩] (fun w8 hk8 hr8 => ?_)
  exact ⟨rfl, hx7.trans (same hk7 hk8 hr8)⟩
end Go.Proofs.YtlhmpmmblnbmbaaGreat.Img
set_option linter.unusedVariables false
set_option linter.unusedSimpArgs false
set_option maxRecDepth 100000
namespace Go.Proofs.YtlhmpmmblnbmbaaGreat.Bus
open Go.Proofs.YtlhmpmmblnbmbaaGreat.Sx Go.Proofs.YtlhmpmmblnbmbaaGreat.Zon Go.Proofs.YtlhmpmmblnbmbaaGreat.Byt Go.Proofs.YtlhmpmmblnbmbaaGreat.Dev Go.Proofs.YtlhmpmmblnbmbaaGreat.Pck
theorem count_c {g : Nat} {B : Bs} (w : World) (h : BusAt w g B) : Calls Tryz.prog 13 #[.pointer (some ⟨g, 0, none⟩)] w fun e w' => e = .returned (.int .i64 B.count) ∧ Ext w w' := by
  refine J.enter Tryz.func13 rfl [⟨g, 83, B.cs⟩] [.one (.ptr 0 0)] 9 h.known ?_
  exact J.ret (.one (.v (.int .i64 B.count))) [⟨g, 83, B.cs⟩] (fun w1 hk hr => ⟨rfl, hr.ext' (mem1 (.inr (h.same hk)))⟩)
section
variable {w w' : World} {g : Nat} {O : Nat → Prop} {M : List Dc} {n : Int} {B : Bs}
end
end Go.Proofs.YtlhmpmmblnbmbaaGreat.Bus
set_option linter.unusedVariables false
set_option linter.unusedSimpArgs false
set_option maxRecDepth 100000
namespace Go.Proofs.YtlhmpmmblnbmbaaGreat.Doc
open Go.Proofs.YtlhmpmmblnbmbaaGreat.Sx Go.Proofs.YtlhmpmmblnbmbaaGreat.Byt Go.Proofs.YtlhmpmmblnbmbaaGreat.Dev Go.Proofs.YtlhmpmmblnbmbaaGreat.Pck Go.Proofs.YtlhmpmmblnbmbaaGreat.Bus Go.Proofs.YtlhmpmmblnbmbaaGreat.Cnf Go.Lib
open Go.Proofs.YtlhmpmmblnbmbaaGreat.Img (dumpL mb zb hb rightE dump_c code_c live_c notO Od)
theorem flat_most {α : Type} {f : α → List Int} {k : Nat} : ∀ {l : List α}, (∀ x ∈ l, (f x).length ≤ k) → (l.flatMap f).length ≤ l.length * k
  | [], _ => by simp
  | x :: r, h => by
    rw [List.flatMap_cons, List.length_append, List.length_cons, Nat.add_mul]
    have := h x List.mem_cons_self
    have := flat_most (l := r) (fun y hy => h y (List.mem_cons_of_mem _ hy))
    omega
theorem small_all {c : Cf} (h : small c = true) : c.check = 0 ∧ c.members ≤ 5 ∧ c.block ≤ 128 ∧ c.cap ≤ 32 := by
  unfold small at h
  simp only [Bool.and_eq_true, decide_eq_true_eq, beq_iff_eq] at h
  omega
theorem dump_most {c : Cf} {M : List Dc} {w : World} {g : Nat} {O : Nat → Prop} {n : Int} (hs : small c = true) (h : BusC w g O M n) (hsh : Shape c M) : (dumpL c M).length ≤ 10000000 := by
  obtain ⟨hck, hm5, hbk, hc⟩ := small_all hs
  have hF := Img.cf_fits hck
  have hFa := hF.all2; have hFb := hF.block; have hFc := hF.cap
  have hz : ∀ d ∈ M, (mb d).length ≤ 1 + 64 * 4121 := fun d hd => by
    obtain ⟨i, hi⟩ := List.mem_iff_getElem?.1 hd
    have hS := hsh.2 d hd
    have : (d.zs.flatMap zb).length ≤ d.zs.length * 4121 := flat_most (fun z hzm => by
      obtain ⟨hok, -⟩ := h.zok hi hzm
      obtain ⟨hzb, hzc⟩ := hS.2 z hzm
      have hf := hok.full
      rw [hzb, hzc] at hf
      have hle : c.cap * c.block ≤ 32 * 128 := Int.mul_le_mul hc hbk (by omega) (by omega)
      unfold zb
      simp only [List.length_append, i8_len, List.length_cons, List.length_nil]
      omega)
    have h1 := hS.1
    unfold mb
    rw [List.length_cons]
    split
    · simp
    · have : d.zs.length ≤ 64 := by omega
      have : d.zs.length * 4121 ≤ 64 * 4121 := Nat.mul_le_mul_right _ this
      omega
  have hM := hsh.1
  have := flat_most hz
  have hl : M.length ≤ 5 := by omega
  have : M.length * (1 + 64 * 4121) ≤ 5 * (1 + 64 * 4121) := Nat.mul_le_mul_right _ hl
  unfold dumpL
  rw [List.length_append]
  have e : (hb c).length = 96 := by unfold hb; rw [List.length_append, i8_len, put_len]
  omega
theorem doc_B {M : List Dc} {w : World} {g : Nat} {O : Nat → Prop} {n : Int} {ds : List Dr} (h : BusC w g O M n) (hc : ds.map Dr.dc = M) : ∀ d ∈ ds, ∀ z ∈ d.zs, IsB z.L.flatten := fun d hd z hz => by
  have hm : d.dc ∈ M := by rw [← hc]; exact List.mem_map.2 ⟨d, hd, rfl⟩
  obtain ⟨i, hi⟩ := List.mem_iff_getElem?.1 hm
  exact (h.zok hi (z := z.zc) (List.mem_map.2 ⟨z, hz, rfl⟩)).2
theorem PAt.bus {M : List Dc} {w w' : World} {g : Nat} {O S : Nat → Prop} {n : Int} {p : Part} (hp : PAt w p) (h : BusC w g O M n) (hx : Chg S w w') (hS : ∀ k, S k → O k) : PAt w' p := ⟨hp.at_.chg hx (fun k cs fz hk => h.far k cs fz (hS k hk)), hp.nil, hp.le⟩
end Go.Proofs.YtlhmpmmblnbmbaaGreat.Doc
set_option linter.unusedVariables false
set_option linter.unusedSimpArgs false
set_option maxRecDepth 100000
namespace Go.Proofs.YtlhmpmmblnbmbaaGreat.Doc
open Go.Proofs.YtlhmpmmblnbmbaaGreat.Sx Go.Proofs.YtlhmpmmblnbmbaaGreat.Byt Go.Proofs.YtlhmpmmblnbmbaaGreat.Pck Go.Proofs.YtlhmpmmblnbmbaaGreat.Bus Go.Proofs.YtlhmpmmblnbmbaaGreat.Cnf
open Go.Proofs.YtlhmpmmblnbmbaaGreat.Img (dumpL mb zb hb)
theorem i8_eq (n : Int) : i8 n = [n % 256, n / 256 % 256, n / 65536 % 256, n / 16777216 % 256, n / 4294967296 % 256, n / 1099511627776 % 256, n / 281474976710656 % 256, n / 72057594037927936 % 256] := by
  show (List.range 8).map (fun j => n / 2 ^ (8 * j) % 256) = _
  simp [List.range_succ]
theorem i8_inj {n m : Int} (h : i8 n = i8 m) (hn0 : 0 ≤ n) (hn : n < 9223372036854775808) (hm0 : 0 ≤ m) (hm : m < 9223372036854775808) : n = m := by
  rw [i8_eq, i8_eq] at h
  simp only [List.cons.injEq, and_true] at h
  obtain ⟨h0, h1, h2, h3, h4, h5, h6, h7⟩ := h
  omega
theorem app8_inj {n m : Int} {r s : List Int} (h : i8 n ++ r = i8 m ++ s) (hn0 : 0 ≤ n) (hn : n < 9223372036854775808) (hm0 : 0 ≤ m) (hm : m < 9223372036854775808) : n = m ∧ r = s := by
  obtain ⟨h1, h2⟩ := List.append_inj h (by rw [i8_len, i8_len])
  exact ⟨i8_inj h1 hn0 hn hm0 hm, h2⟩
def SameZ (x y : Zc) : Prop := x.wp = y.wp ∧ x.safe = y.safe ∧ x.done = y.done ∧ x.l = y.l
def SameD (a b : Dc) : Prop := a.dead = b.dead ∧ (a.dead = false → ∀ (j : Nat) (x y : Zc), a.zs[j]? = some x → b.zs[j]? = some y → SameZ x y)
theorem zc_small {z : Zc} (h : z.Ok) : 0 ≤ z.wp ∧ z.wp < 9223372036854775808 ∧ 0 ≤ z.safe ∧ z.safe < 9223372036854775808 ∧ (z.l.length : Int) < 9223372036854775808 := by
  have h1 : z.cap * z.block ≤ 4096 * 4096 := Int.mul_le_mul h.cap1 h.blk1 (by have := h.blk0; omega) (by omega)
  have h2 := h.full
  have h3 := h.safe0
  have h4 := h.safe1
  have h5 : 0 ≤ z.wp := Int.ediv_nonneg (by omega) (by omega)
  have h6 : z.wp ≤ z.l.length := Int.ediv_le_self _ (by omega)
  omega
theorem b1_inj {a b : Bool} (h : b1 a = b1 b) : a = b := by
  cases a <;> cases b <;> first | rfl | (revert h; decide)
theorem zb_inj {x y : Zc} {r s : List Int} (hx : x.Ok) (hy : y.Ok) (h : zb x ++ r = zb y ++ s) : SameZ x y ∧ r = s := by
  obtain ⟨x1, x2, x3, x4, x5⟩ := zc_small hx
  obtain ⟨y1, y2, y3, y4, y5⟩ := zc_small hy
  unfold zb at h
  simp only [List.append_assoc] at h
  obtain ⟨e1, h⟩ := app8_inj h x1 x2 y1 y2
  obtain ⟨e2, h⟩ := app8_inj h x3 x4 y3 y4
  simp only [List.cons_append, List.nil_append, List.cons.injEq] at h
  obtain ⟨e3, h⟩ := h
  obtain ⟨e4, h⟩ := app8_inj h (by omega) x5 (by omega) y5
  obtain ⟨e5, h⟩ := List.append_inj h (by omega)
  exact ⟨⟨e1, e2, b1_inj e3, e5⟩, h⟩
theorem zs_inj : ∀ {xs ys : List Zc} {r s : List Int}, xs.length = ys.length → (∀ x ∈ xs, x.Ok) → (∀ y ∈ ys, y.Ok) → xs.flatMap zb ++ r = ys.flatMap zb ++ s → (∀ (j : Nat) (x y : Zc), xs[j]? = some x → ys[j]? = some y → SameZ x y) ∧ r = s
  | [], [], r, s, _, _, _, h => ⟨fun j x y hx => (by cases hx), by simpa using h⟩
  | [], _ :: _, _, _, hl, _, _, _ => by cases hl
  | _ :: _, [], _, _, hl, _, _, _ => by cases hl
  | a :: xs, b :: ys, r, s, hl, hx, hy, h => by
    rw [List.flatMap_cons, List.flatMap_cons, List.append_assoc, List.append_assoc] at h
    obtain ⟨e, h⟩ := zb_inj (hx a List.mem_cons_self) (hy b List.mem_cons_self) h
    obtain ⟨h1, h2⟩ := zs_inj (by simpa using hl) (fun x m => hx x (List.mem_cons_of_mem _ m)) (fun y m => hy y (List.mem_cons_of_mem _ m)) h
    refine ⟨fun j x y hjx hjy => ?_, h2⟩
    cases j with
    | zero => cases hjx; cases hjy; exact e
    | succ j => exact h1 j x y hjx hjy
theorem mb_inj {a b : Dc} {r s : List Int} (hl : a.zs.length = b.zs.length) (ha : ∀ x ∈ a.zs, x.Ok) (hb : ∀ y ∈ b.zs, y.Ok) (h : mb a ++ r = mb b ++ s) : SameD a b ∧ r = s := by
  unfold mb at h
  simp only [List.cons_append, List.cons.injEq] at h
  obtain ⟨e1, h⟩ := h
  have e1 := b1_inj e1
  by_cases hd : a.dead = true
  · rw [if_pos hd, if_pos (e1 ▸ hd)] at h
    exact ⟨⟨e1, fun h => by rw [hd] at h; cases h⟩, by simpa using h⟩
  · rw [if_neg hd, if_neg (e1 ▸ hd)] at h
    obtain ⟨h1, h2⟩ := zs_inj hl ha hb h
    exact ⟨⟨e1, fun _ => h1⟩, h2⟩
def OkM (M : List Dc) : Prop := ∀ d ∈ M, ∀ z ∈ d.zs, z.Ok
theorem ms_inj : ∀ {M N : List Dc} {r s : List Int}, M.length = N.length → (∀ (i : Nat) (a b : Dc), M[i]? = some a → N[i]? = some b → a.zs.length = b.zs.length) → OkM M → OkM N → M.flatMap mb ++ r = N.flatMap mb ++ s → (∀ (i : Nat) (a b : Dc), M[i]? = some a → N[i]? = some b → SameD a b) ∧ r = s
  | [], [], r, s, _, _, _, _, h => ⟨fun j x y hx => (by cases hx), by simpa using h⟩
  | [], _ :: _, _, _, hl, _, _, _, _ => by cases hl
  | _ :: _, [], _, _, hl, _, _, _, _ => by cases hl
  | a :: M, b :: N, r, s, hl, hz, hx, hy, h => by
    rw [List.flatMap_cons, List.flatMap_cons, List.append_assoc, List.append_assoc] at h
    obtain ⟨e, h⟩ := mb_inj (hz 0 a b rfl rfl) (hx a List.mem_cons_self) (hy b List.mem_cons_self) h
    obtain ⟨h1, h2⟩ := ms_inj (M := M) (N := N) (by simpa using hl) (fun i x y p q => hz (i + 1) x y p q) (fun x m => hx x (List.mem_cons_of_mem _ m)) (fun y m => hy y (List.mem_cons_of_mem _ m)) h
    refine ⟨fun j x y hjx hjy => ?_, h2⟩
    cases j with
    | zero => cases hjx; cases hjy; exact e
    | succ j => exact h1 j x y hjx hjy
theorem flat_same {α : Type} {f : α → List Int} : ∀ {xs ys : List α}, xs.length = ys.length → (∀ (j : Nat) (x y : α), xs[j]? = some x → ys[j]? = some y → f x = f y) → xs.flatMap f = ys.flatMap f
  | [], [], _, _ => rfl
  | [], _ :: _, hl, _ => by cases hl
  | _ :: _, [], hl, _ => by cases hl
  | a :: xs, b :: ys, hl, h => by
    rw [List.flatMap_cons, List.flatMap_cons, h 0 a b rfl rfl, flat_same (xs := xs) (ys := ys) (by simpa using hl) (fun j x y p q => h (j + 1) x y p q)]
theorem sameD_mb {a b : Dc} (hl : a.zs.length = b.zs.length) (h : SameD a b) : mb a = mb b := by
  unfold mb
  rw [h.1]
  by_cases hd : b.dead = true
  · rw [if_pos hd, if_pos hd]
  · rw [if_neg hd, if_neg hd]
    congr 1
    refine flat_same hl (fun j x y p q => ?_)
    obtain ⟨h1, h2, h3, h4⟩ := h.2 (by rw [h.1]; exact Bool.eq_false_iff.2 hd) j x y p q
    unfold zb
    rw [h1, h2, h3, h4]
theorem dump_iff {c : Cf} {M N : List Dc} (hl : M.length = N.length) (hz : ∀ (i : Nat) (a b : Dc), M[i]? = some a → N[i]? = some b → a.zs.length = b.zs.length) (hM : OkM M) (hN : OkM N) : dumpL c M = dumpL c N ↔ ∀ (i : Nat) (a b : Dc), M[i]? = some a → N[i]? = some b → SameD a b := by
  constructor
  · intro h
    unfold dumpL at h
    have h := List.append_cancel_left h
    exact (ms_inj (r := []) (s := []) hl hz hM hN (by simpa using h)).1
  · intro h
    unfold dumpL
    rw [flat_same hl (fun i a b p q => sameD_mb (hz i a b p q) (h i a b p q))]
theorem flat8_inj : ∀ {xs ys : List Int} {r s : List Int}, xs.length = ys.length → (∀ x ∈ xs, 0 ≤ x ∧ x < 9223372036854775808) → (∀ y ∈ ys, 0 ≤ y ∧ y < 9223372036854775808) → xs.flatMap i8 ++ r = ys.flatMap i8 ++ s → xs = ys ∧ r = s
  | [], [], r, s, _, _, _, h => ⟨rfl, by simpa using h⟩
  | [], _ :: _, _, _, hl, _, _, _ => by cases hl
  | _ :: _, [], _, _, hl, _, _, _ => by cases hl
  | a :: xs, b :: ys, r, s, hl, hx, hy, h => by
    rw [List.flatMap_cons, List.flatMap_cons, List.append_assoc, List.append_assoc] at h
    obtain ⟨x0, x1⟩ := hx a List.mem_cons_self
    obtain ⟨y0, y1⟩ := hy b List.mem_cons_self
    obtain ⟨e, h⟩ := app8_inj h x0 x1 y0 y1
    obtain ⟨h1, h2⟩ := flat8_inj (by simpa using hl) (fun x m => hx x (List.mem_cons_of_mem _ m)) (fun y m => hy y (List.mem_cons_of_mem _ m)) h
    exact ⟨by rw [e, h1], h2⟩
theorem ck_pos {c : Cf} (h : c.check = 0) : CkP c := Classical.byContradiction (fun hc => by rw [ck1 hc] at h; cases h)
theorem dump_head {c c' : Cf} {M N : List Dc} (hc : c.check = 0) (hc' : c'.check = 0) (h : dumpL c M = dumpL c' N) : c = c' ∧ dumpL c M = dumpL c N := by
  have p := ck_pos hc
  have p' := ck_pos hc'
  have h0 := h
  unfold dumpL hb Cf.put at h
  simp only [List.append_assoc] at h
  obtain ⟨-, h⟩ := app8_inj h (by decide) (by decide) (by decide) (by decide)
  unfold CkP at p p'
  obtain ⟨e1, h⟩ := app8_inj h (by omega) (by omega) (by omega) (by omega)
  obtain ⟨e2, -⟩ := flat8_inj (xs := c.nums) (ys := c'.nums) rfl (fun x hx => by
    unfold Cf.nums at hx
    simp only [List.mem_cons, List.not_mem_nil, or_false] at hx
    rcases hx with rfl | rfl | rfl | rfl | rfl | rfl | rfl | rfl | rfl | rfl <;> omega) (fun x hx => by
    unfold Cf.nums at hx
    simp only [List.mem_cons, List.not_mem_nil, or_false] at hx
    rcases hx with rfl | rfl | rfl | rfl | rfl | rfl | rfl | rfl | rfl | rfl <;> omega) h
  have e : c = c' := by
    obtain ⟨a0, a1, a2, a3, a4, a5, a6, a7, a8, a9, a10⟩ := c
    obtain ⟨b0, b1, b2, b3, b4, b5, b6, b7, b8, b9, b10⟩ := c'
    unfold Cf.nums at e2
    simp only [List.cons.injEq, and_true] at e2
    obtain ⟨f1, f2, f3, f4, f5, f6, f7, f8, f9, f10⟩ := e2
    replace e1 : a0 = b0 := e1
    subst e1 f1 f2 f3 f4 f5 f6 f7 f8 f9 f10
    rfl
  subst e
  exact ⟨rfl, h0⟩
theorem isB_app {a b : List Int} (ha : IsB a) (hb : IsB b) : IsB (a ++ b) := fun x hx => (List.mem_append.1 hx).elim (ha x) (hb x)
theorem isB_flat {α : Type} {f : α → List Int} {l : List α} (h : ∀ x ∈ l, IsB (f x)) : IsB (l.flatMap f) := fun y hy => by
  obtain ⟨x, hx, hyx⟩ := List.mem_flatMap.1 hy
  exact h x hx y hyx
theorem isB_b1 (b : Bool) : IsB [b1 b] := fun x hx => by
  rw [List.mem_singleton.1 hx]
  cases b <;> decide
theorem dump_isB {c : Cf} {M : List Dc} (h : ∀ d ∈ M, ∀ z ∈ d.zs, IsB z.l) : IsB (dumpL c M) := by
  unfold dumpL hb Cf.put
  refine isB_app (isB_app (i8_isB _) (isB_app (i8_isB _) (isB_flat (fun x _ => i8_isB x)))) (isB_flat (fun d hd => ?_))
  show IsB ([b1 d.dead] ++ (if d.dead = true then [] else d.zs.flatMap zb))
  by_cases hdd : d.dead = true
  · rw [if_pos hdd]
    exact isB_app (isB_b1 _) (fun x hx => by cases hx)
  · rw [if_neg hdd]
    refine isB_app (isB_b1 _) (isB_flat (fun z hz => ?_))
    unfold zb
    exact isB_app (isB_app (isB_app (i8_isB _) (i8_isB _)) (isB_b1 _)) (isB_app (i8_isB _) (h d hd z hz))
theorem bus_ok {w : World} {g : Nat} {O : Nat → Prop} {M : List Dc} {n : Int} (h : BusC w g O M n) : OkM M ∧ ∀ d ∈ M, ∀ z ∈ d.zs, IsB z.l := ⟨fun d hd z hz => by
  obtain ⟨i, hi⟩ := List.mem_iff_getElem?.1 hd
  exact (h.zok hi hz).1, fun d hd z hz => by
  obtain ⟨i, hi⟩ := List.mem_iff_getElem?.1 hd
  exact (h.zok hi hz).2⟩
end Go.Proofs.YtlhmpmmblnbmbaaGreat.Doc
