/- What a line tells, in plain numbers and texts: the program's way of parsing. -/
import Derived.Test.YtlhmpmmblnbmbaaDoorConOf
namespace Go.Proofs.YtlhmpmmblnbmbaaDoor.Con
open Go.Lib Go.RowKit Go.Proofs.YtlhmpmmblnbmbaaDoor.Cells Go.Proofs.YtlhmpmmblnbmbaaDoor.PConsoleParses Go.Proofs.YtlhmpmmblnbmbaaDoorW.PrintWords Go.Proofs.YtlhmpmmblnbmbaaDoorW.PrintLast Go.Proofs.YtlhmpmmblnbmbaaDoorW.PrintMore WordsPlain NumberPlain
structure A10 where
  kind : Int
  cmd : Int
  zone : Int
  at_ : Int
  n : Int
  data : List Int
  fua : Bool
  m : Int
  k : Int
  keep : List Int
def zA : A10 := ⟨0, 0, 0, 0, 0, [], false, 0, 0, []⟩
def setP (x : A10) (p : Nat) (v : Int) : A10 := match p with | 2 => { x with zone := v } | 3 => { x with at_ := v } | 4 => { x with n := v } | 7 => { x with m := v } | 8 => { x with k := v } | _ => x
def setB (x : A10) (p : Nat) (b : List Int) : A10 := if p = 5 then { x with data := b } else { x with keep := b }
def cellsA (x : A10) (vd vk : Value) : List Value := [.int .i64 x.kind, .int .i64 x.cmd, .int .i64 x.zone, .int .i64 x.at_, .int .i64 x.n, vd, .bool x.fua, .int .i64 x.m, .int .i64 x.k, vk]
/-- numbers laid into their places -/
def fil (x : A10) : List Nat → List ByteArray → Option A10
  | [], _ => some x
  | p :: ps, w :: ws => if (numb w).2 = true then fil (setP x p (numb w).1) ps ws else none
  | _ :: _, [] => none
def hexRun (s : ByteArray) (r : List Int × Bool) : Prop := ∃ k, console_Hex.f k s = some r
def FUA : ByteArray := ⟨#[102, 117, 97]⟩
def fuaB (kind cmd : Int) (l : List ByteArray) (need : Nat) : Bool := (kind == 0) && (cmd == 0) && (l.length == need + 1) && ((l.getD need ByteArray.empty).toList == ([102, 117, 97] : List UInt8))
def needB (ps : List Nat) (bs : Option Nat) : Nat := ps.length + (if bs.isSome = true then 1 else 0)
/-- what the line is, if hx tells the bytes of a text -/
def parse (hx : ByteArray → List Int × Bool) (s : ByteArray) : A10 × Bool := match words s with
  | [] => (zA, false)
  | w0 :: l => match form w0 with
    | none => (zA, false)
    | some (kind, cmd, ps, bs) =>
      let l2 := if fuaB kind cmd l (needB ps bs) = true then l.take (needB ps bs) else l
      if l2.length = needB ps bs then (match fil { zA with kind := kind, cmd := cmd, fua := fuaB kind cmd l (needB ps bs) } ps l2 with
        | none => (zA, false)
        | some x => match bs with
          | none => (x, true)
          | some p => if (hx (l2.getD (needB ps bs - 1) ByteArray.empty)).2 = true then (setB x p (hx (l2.getD (needB ps bs - 1) ByteArray.empty)).1, true) else (zA, false))
      else (zA, false)
def zero56 : Value := .agg #[.int .i64 0, .int .i64 0, .int .i64 0, .int .i64 0, .int .i64 0, .slice none 0 0, .bool false, .int .i64 0, .int .i64 0, .slice none 0 0]
theorem zero74_is : (Tryd.prog.info? 56).map (·.zero) = some (some zero56) := by kernel_rfl
theorem size56 : (Tryd.prog.info? 56).map (·.size) = some 10 := by kernel_rfl
/-- a row of texts -/
def Strs (w : World) (v : Value) (l : List ByteArray) : Prop := ∃ A c, v = .slice A l.length c ∧ l.length ≤ c ∧ (l ≠ [] → ∃ ad : Addr, A = some ad ∧ ∀ j s, l[j]? = some s → w.cell? (ad.add j) = some (.string s))
theorem Strs.below {w w1 : World} {v : Value} {l : List ByteArray} (h : Strs w v l) (hb : Below w.heap.size w w1) : Strs w1 v l := by
  obtain ⟨A, c, h1, h2, h4⟩ := h
  refine ⟨A, c, h1, h2, fun hn => ?_⟩
  obtain ⟨ad, h5, h6⟩ := h4 hn
  exact ⟨ad, h5, fun j s hj => (hb.cell (block_lt_of_cell (h6 j s hj))).trans (h6 j s hj)⟩
theorem placeN {x : A10} {p : Nat} (hp : p = 2 ∨ p = 3 ∨ p = 4 ∨ p = 7 ∨ p = 8) (vd vk : Value) (v : Int) : (cellsA x vd vk).toArray.setIfInBounds p (.int .i64 v) = (cellsA (setP x p v) vd vk).toArray := by
  rcases hp with rfl | rfl | rfl | rfl | rfl <;> rfl
set_option maxHeartbeats 1000000 in
theorem place2_c (g : Nat) (w : World) : Calls Tryd.prog 61 #[.pointer (some ⟨g, 0, none⟩)] w fun e w' => e = .returned (.pointer (some ⟨g, 2, none⟩)) ∧ w = w' := by
  have hu1 := Tryd.underlying56
  have hu2 := Tryd.underlying54
  go_enter Tryd.func61, Tryd.ntmps61
  go_wp2
  go_ret
  exact ⟨rfl, rfl⟩
set_option maxHeartbeats 1000000 in
theorem place3_c (g : Nat) (w : World) : Calls Tryd.prog 62 #[.pointer (some ⟨g, 0, none⟩)] w fun e w' => e = .returned (.pointer (some ⟨g, 3, none⟩)) ∧ w = w' := by
  have hu1 := Tryd.underlying56
  have hu2 := Tryd.underlying54
  go_enter Tryd.func62, Tryd.ntmps62
  go_wp2
  go_ret
  exact ⟨rfl, rfl⟩
set_option maxHeartbeats 1000000 in
theorem place4_c (g : Nat) (w : World) : Calls Tryd.prog 64 #[.pointer (some ⟨g, 0, none⟩)] w fun e w' => e = .returned (.pointer (some ⟨g, 4, none⟩)) ∧ w = w' := by
  have hu1 := Tryd.underlying56
  have hu2 := Tryd.underlying54
  go_enter Tryd.func64, Tryd.ntmps64
  go_wp2
  go_ret
  exact ⟨rfl, rfl⟩
set_option maxHeartbeats 1000000 in
theorem place7_c (g : Nat) (w : World) : Calls Tryd.prog 68 #[.pointer (some ⟨g, 0, none⟩)] w fun e w' => e = .returned (.pointer (some ⟨g, 7, none⟩)) ∧ w = w' := by
  have hu1 := Tryd.underlying56
  have hu2 := Tryd.underlying54
  go_enter Tryd.func68, Tryd.ntmps68
  go_wp2
  go_ret
  exact ⟨rfl, rfl⟩
set_option maxHeartbeats 1000000 in
theorem place8_c (g : Nat) (w : World) : Calls Tryd.prog 67 #[.pointer (some ⟨g, 0, none⟩)] w fun e w' => e = .returned (.pointer (some ⟨g, 8, none⟩)) ∧ w = w' := by
  have hu1 := Tryd.underlying56
  have hu2 := Tryd.underlying54
  go_enter Tryd.func67, Tryd.ntmps67
  go_wp2
  go_ret
  exact ⟨rfl, rfl⟩
set_option maxHeartbeats 1000000 in
theorem place5_c (g : Nat) (w : World) : Calls Tryd.prog 63 #[.pointer (some ⟨g, 0, none⟩)] w fun e w' => e = .returned (.pointer (some ⟨g, 5, none⟩)) ∧ w = w' := by
  have hu1 := Tryd.underlying56
  have hu2 := Tryd.underlying54
  go_enter Tryd.func63, Tryd.ntmps63
  go_wp2
  go_ret
  exact ⟨rfl, rfl⟩
set_option maxHeartbeats 1000000 in
theorem place9_c (g : Nat) (w : World) : Calls Tryd.prog 69 #[.pointer (some ⟨g, 0, none⟩)] w fun e w' => e = .returned (.pointer (some ⟨g, 9, none⟩)) ∧ w = w' := by
  have hu1 := Tryd.underlying56
  have hu2 := Tryd.underlying54
  go_enter Tryd.func69, Tryd.ntmps69
  go_wp2
  go_ret
  exact ⟨rfl, rfl⟩
/-- what stands in memory ahead of the step that is made -/
structure PS (w : World) (g2 g5 : Nat) (kind cmd : Int) (bs : Option Nat) (v4 : Value) (l : List ByteArray) (vn : Value) (ps : List Nat) (W : World) : Prop where
  k2 : W.heap[g2]? = some (.cells zero56.cells 56 (0, 0))
  k5 : W.heap[g5]? = some (.cells #[.int .i64 kind, .int .i64 cmd, vn, bv bs] 91 (0, 0))
  st : Strs W v4 l
  fr : FnRow W vn ps
  hb : Below w.heap.size w W
  n2 : w.heap.size ≤ g2
section
variable {w : World} {g2 g5 : Nat} {kind cmd : Int} {bs : Option Nat} {v4 vn : Value} {l : List ByteArray} {ps : List Nat} {W W1 : World}
theorem PS.below (h : PS w g2 g5 kind cmd bs v4 l vn ps W) (hb : Below W.heap.size W W1) : PS w g2 g5 kind cmd bs v4 l vn ps W1 :=
  ⟨blk_below h.k2 hb, blk_below h.k5 hb, h.st.below hb, h.fr.below hb, below_step h.hb hb, h.n2⟩
theorem PS.c0 (h : PS w g2 g5 kind cmd bs v4 l vn ps W) : W.cell? ⟨g5, 0, none⟩ = some (.int .i64 kind) := (blk_cell h.k5 0).trans rfl
theorem PS.c1 (h : PS w g2 g5 kind cmd bs v4 l vn ps W) : W.cell? ⟨g5, 1, none⟩ = some (.int .i64 cmd) := (blk_cell h.k5 1).trans rfl
theorem PS.c2 (h : PS w g2 g5 kind cmd bs v4 l vn ps W) : W.cell? ⟨g5, 2, none⟩ = some vn := (blk_cell h.k5 2).trans rfl
theorem PS.c3 (h : PS w g2 g5 kind cmd bs v4 l vn ps W) : W.cell? ⟨g5, 3, none⟩ = some (bv bs) := (blk_cell h.k5 3).trans rfl
end
theorem strs_R {w : World} {base : Nat} {v : Value} {l : List ByteArray} (h : Kd.R Kd.string 9 w base (fun _ => True) v l) : Strs w v l := by
  obtain ⟨A, c, h1, h2, h3⟩ := Kd.R_reads h
  refine ⟨A, c, h1, h2, fun hn => ?_⟩
  obtain ⟨ad, h4, h5⟩ := h3.2.2 (List.length_pos_iff.2 hn)
  refine ⟨ad, h4, fun j s hj => ?_⟩
  obtain ⟨c, hc, hk, hcell⟩ := h5 j s hj
  obtain rfl : c = [.string s] := hk
  have := hcell 0 _ rfl
  have e : j * Kd.string.sz + 0 = j := by show j * 1 + 0 = j; omega
  rw [e] at this; exact this
def ParsePost (w : World) (x : A10) (ok : Bool) (e : Ending) (w' : World) : Prop := ∃ vd vk, e = .returned (.tuple #[.agg (cellsA x vd vk).toArray, .bool ok]) ∧ Kd.R (Kd.int .u8) 5 w' w.heap.size (fun _ => True) vd x.data ∧ Kd.R (Kd.int .u8) 5 w' w.heap.size (fun _ => True) vk x.keep ∧ Below w.heap.size w w'
set_option maxHeartbeats 4000000 in
set_option maxRecDepth 100000 in
theorem parse_empty (s : ByteArray) (hs : s.size ≤ 1000000) (hw : words s = []) (w : World) : Calls Tryd.prog 28 #[.string s] w (ParsePost w zA false) := by
  have hu1 := Tryd.underlying56
  go_enter Tryd.func28, Tryd.ntmps28
  go_wp2_with (first | ((with_reducible refine gate_dst (N := 2) rfl ?_); refine Cells.alloc_event rfl (N := 2) rfl 56 rfl zero56 zero74_is ?_; intro g2 hg wa kg hba; have HB := Aside0.mk hba; have HG := Aside0.mk (show w.heap.size ≤ g2 by rw [hg]; exact Nat.le_refl _); clear hg hba) | (go_at_call 45; refine (words_calls s hs _).mono ?_; rintro e wb ⟨v4, rfl, hR, hbb⟩; rw [hw] at hR; have kg2 := blk_below kg hbb; clear kg; have kg := kg2; clear kg2; have HB2 := Aside0.mk (below_step HB.out hbb); clear HB hbb; have HB := HB2; clear HB2; obtain ⟨A, c, rfl, hlc, hrd⟩ := strs_R hR; clear hR) | ((with_reducible refine Cells.store_whole rfl rfl 56 _ _ rfl g2 [.int .i64 0, .int .i64 0, .int .i64 0, .int .i64 0, .int .i64 0, .slice none 0 0, .bool false, .int .i64 0, .int .i64 0, .slice none 0 0] zero56.cells ?sx ?sy kg ?ss ?si ?s1 ?_); (case sx => rfl); (case sy => rfl); (case ss => rfl); (case si => exact size56); (case s1 => first | rfl | (simp [List.all, Value.oneCell']; done)); intro w9 bg hfar hb3; have HB2 := Aside0.mk (HB.out.trans (hb3 _ HG.out)); clear kg HB hb3 hfar; have kg := bg; have HB := HB2; clear bg HB2))
  exact bodyPost_ret (results_ct Tryd.results28 _ _ g2 56 _ _ _ rfl kg Tryd.underlying56 rfl size56) rfl ⟨.slice none 0 0, .slice none 0 0, rfl, Kd.R_nil _ _ _ _ _, Kd.R_nil _ _ _ _ _, HB.out⟩
theorem of_at {s : ByteArray} {kind cmd : Int} {ps : List Nat} {bs : Option Nat} {ok : Bool} (hv : formV s = (kind, cmd, ps, bs)) (hok : (form s).isSome = ok) (w : World) :
    Calls Tryd.prog 46 #[.string s] w fun e w' => ∃ v, e = .returned (.tuple #[.agg #[.int .i64 kind, .int .i64 cmd, v, bv bs], .bool ok]) ∧ FnRow w' v ps ∧ Below w.heap.size w w' := by
  have := of_c s w
  unfold OfPost at this
  rw [hv, hok] at this
  exact this
theorem FnRow.is {w : World} {v : Value} {ps : List Nat} (h : FnRow w v ps) : ∃ An, v = .slice An ps.length ps.length ∧ (ps ≠ [] → ∃ g, An = some ⟨g, 0, none⟩ ∧ w.heap[g]? = some (.cells (ps.map fv).toArray 94 (0, 0))) := by
  rcases h with ⟨rfl, rfl⟩ | ⟨g, h1, h2⟩
  · exact ⟨none, rfl, fun h => absurd rfl h⟩
  · exact ⟨_, h1, fun _ => ⟨g, rfl, h2⟩⟩
theorem bv_one (bs : Option Nat) : (bv bs).oneCell' = true := by cases bs <;> rfl
theorem size9 : (Tryd.prog.info? 9).map (·.size) = some 1 := by kernel_rfl
theorem Strs.tail {w : World} {ad : Addr} {m c : Nat} {x : ByteArray} {l : List ByteArray} (h : Strs w (.slice (some ad) (m + 1) c) (x :: l)) : Strs w (.slice (if c = 1 then some ad else (some ad : Option Addr).map (·.add 1)) m (c - 1)) l := by
  obtain ⟨A, c', h1, h2, h4⟩ := h
  simp only [Value.slice.injEq, List.length_cons] at h1
  obtain ⟨h5, h6, rfl⟩ := h1
  obtain rfl : m = l.length := by omega
  refine ⟨_, _, rfl, by simp only [List.length_cons] at h2; omega, fun hn => ?_⟩
  obtain ⟨ad', h7, h8⟩ := h4 (by simp)
  have h9 : 0 < l.length := List.length_pos_iff.2 hn
  rw [if_neg (by simp only [List.length_cons] at h2; omega)]
  refine ⟨_, rfl, fun j s hj => ?_⟩
  obtain rfl : ad = ad' := by rw [← h5] at h7; exact Option.some.inj h7
  have := h8 (j + 1) s (by simpa using hj)
  rw [Addr.add_add]
  rw [Nat.add_comm 1 j]; exact this
theorem Strs.take {w : World} {A : Option Addr} {n c m : Nat} {l : List ByteArray} (h : Strs w (.slice A n c) l) (hm : m ≤ n) : Strs w (.slice A m c) (l.take m) := by
  obtain ⟨A', c', h1, h2, h4⟩ := h
  simp only [Value.slice.injEq] at h1
  obtain ⟨rfl, rfl, rfl⟩ := h1
  have hl : (l.take m).length = m := by rw [List.length_take]; omega
  refine ⟨A, c, by rw [hl], by omega, fun hn => ?_⟩
  obtain ⟨ad', h7, h8⟩ := h4 (by intro h0; simp [h0] at hn)
  refine ⟨ad', h7, fun j s hj => h8 j s ?_⟩
  rw [List.getElem?_take] at hj
  split at hj
  · exact hj
  · cases hj
theorem Strs.at_ {w : World} {A : Option Addr} {n c : Nat} {l : List ByteArray} (h : Strs w (.slice A n c) l) {j : Nat} (hj : j < l.length) : ∃ ad, A = some ad ∧ n = l.length ∧ w.cell? (ad.add j) = some (.string (l.getD j ByteArray.empty)) := by
  obtain ⟨A', c', h1, h2, h4⟩ := h
  simp only [Value.slice.injEq] at h1
  obtain ⟨rfl, rfl, rfl⟩ := h1
  obtain ⟨ad, h5, h6⟩ := h4 (by intro h0; simp [h0] at hj)
  refine ⟨ad, h5, rfl, h6 j _ ?_⟩
  rw [List.getD_eq_getElem?_getD, List.getElem?_eq_getElem hj]; rfl
section
variable {P : Program} {ops : Array Oper} {rest : List Oper} {o : Oper} {a : Act} {Q : Exit → Act → World → Prop}
theorem cut_event {w : World} (hgd : o.guard = none) {k : Nat} (ho : o.op = .slice 79 (.tmp k) (some (.const (.int .i64 1))) none none) {ad : Addr} {m c : Nat} {x : ByteArray} {l : List ByteArray} (hx : a.tmps.getD k undef = .slice (some ad) (m + 1) c) (hs : Strs w (.slice (some ad) (m + 1) c) (x :: l))
    (h : ∀ A' c', Strs w (.slice A' m c') l → wpList Tryd.prog ops Q rest (a.put o.dst (.slice A' m c')) w) : wpList Tryd.prog ops Q (o :: rest) a w := by
  have hx' : a.eval (.tmp k) = .slice (some ad) (m + 1) c := hx
  obtain ⟨A, c', h1, h2, h4⟩ := id hs
  simp only [Value.slice.injEq] at h1
  obtain ⟨h5, h6, rfl⟩ := h1
  refine Kd.event_run hgd (w1 := w) (v := .slice (if c = 1 then some ad else (some ad : Option Addr).map (·.add 1)) m (c - 1)) ?_ (h _ _ hs.tail)
  have hel : Tryd.prog.elem 79 = 9 := by simp [Program.elem, Tryd.underlying79]
  have hu : Tryd.prog.underlying 79 = some (.slice (Tryd.prog.elem 79)) := by rw [hel]; exact Tryd.underlying79
  obtain ⟨i, hi, hiz⟩ := Option.map_eq_some_iff.1 size9
  unfold execOp
  simp only [ho, hx', Option.map]
  have hc1 : a.eval (.const (.int .i64 1)) = .int .i64 1 := rfl
  rw [hc1, Sem.run_bind, run_sliceAt_slice w _ _ _ _ _ hu, run_slice_l w 79 (some ad) (m + 1) c hu .i64 1 (by omega) (by simp only [List.length_cons] at h2; omega), hel]
  simp [sizeOf, typeInfo, hi, hiz, sliced, Result.andThen]
end
/-- what stands in memory once the step is being made -/
structure PS2 (w : World) (g2 g5 g7 : Nat) (kind cmd : Int) (bs : Option Nat) (v4 : Value) (l : List ByteArray) (vn : Value) (ps : List Nat) (x : A10) (W : World) : Prop where
  p : ∃ Wb, PS w g2 g5 kind cmd bs v4 l vn ps Wb ∧ Wb.heap.size = g7 ∧ Below g7 Wb W
  k7 : W.heap[g7]? = some (.cells (cellsA x (.slice none 0 0) (.slice none 0 0)).toArray 56 (0, 0))
section
variable {w : World} {g2 g5 g7 : Nat} {kind cmd : Int} {bs : Option Nat} {v4 v4' vn : Value} {l l' : List ByteArray} {ps : List Nat} {x y : A10} {W W1 : World}
theorem PS2.base (h : PS2 w g2 g5 g7 kind cmd bs v4 l vn ps x W) : PS w g2 g5 kind cmd bs v4 l vn ps W := by
  obtain ⟨Wb, h1, rfl, h3⟩ := h.p
  exact h1.below h3
theorem PS2.below (h : PS2 w g2 g5 g7 kind cmd bs v4 l vn ps x W) (hb : Below W.heap.size W W1) : PS2 w g2 g5 g7 kind cmd bs v4 l vn ps x W1 := by
  obtain ⟨Wb, h1, rfl, h3⟩ := h.p
  exact ⟨⟨Wb, h1, rfl, below_step h3 hb⟩, blk_below h.k7 hb⟩
theorem PS2.set (h : PS2 w g2 g5 g7 kind cmd bs v4 l vn ps x W) (hb : Below g7 W W1) (k : W1.heap[g7]? = some (.cells (cellsA y (.slice none 0 0) (.slice none 0 0)).toArray 56 (0, 0))) : PS2 w g2 g5 g7 kind cmd bs v4 l vn ps y W1 := by
  obtain ⟨Wb, h1, h2, h3⟩ := h.p
  exact ⟨⟨Wb, h1, h2, h3.trans hb⟩, k⟩
theorem PS2.cut (h : PS2 w g2 g5 g7 kind cmd bs v4 l vn ps x W) (hs : ∀ W, Strs W v4 l → Strs W v4' l') : PS2 w g2 g5 g7 kind cmd bs v4' l' vn ps x W := by
  obtain ⟨Wb, h1, h2, h3⟩ := h.p
  exact ⟨⟨Wb, ⟨h1.k2, h1.k5, hs _ h1.st, h1.fr, h1.hb, h1.n2⟩, h2, h3⟩, h.k7⟩
theorem PS2.ne2 (h : PS2 w g2 g5 g7 kind cmd bs v4 l vn ps x W) : g2 < g7 := by
  obtain ⟨Wb, h1, h2, h3⟩ := h.p
  have := blk_lt h1.k2
  omega
theorem PS2.low (h : PS2 w g2 g5 g7 kind cmd bs v4 l vn ps x W) : w.heap.size ≤ g7 := by
  have := h.ne2
  have := h.base.n2
  omega
/-- into a place -/
theorem PS2.cell (h : PS2 w g2 g5 g7 kind cmd bs v4 l vn ps x W) (p : Nat) (v : Value) (e : (cellsA x (.slice none 0 0) (.slice none 0 0)).toArray.setIfInBounds p v = (cellsA y (.slice none 0 0) (.slice none 0 0)).toArray) : PS2 w g2 g5 g7 kind cmd bs v4 l vn ps y (W.setCell ⟨g7, p, none⟩ v) := by
  refine h.set ?_ (blk_put h.k7 p v e)
  refine Below.setCell (Below.refl g7 W) ?_ v
  exact Nat.le_refl g7
end
end Go.Proofs.YtlhmpmmblnbmbaaDoor.Con
