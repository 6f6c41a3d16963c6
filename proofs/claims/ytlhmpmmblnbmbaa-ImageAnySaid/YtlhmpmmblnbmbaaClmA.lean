/- The row of ImageAny: behind any call the law told true, and all that was handed in reads as it did. Written by openrow.py, this work's own program. -/
import Derived.Test.YtlhmpmmblnbmbaaClmA4
import Derived.Laws.BytesArg
import Derived.Laws.StructEq
import Derived.Test.YtlhmpmmblnbmbaaRows
import Derived.WalkKit
import Derived.ProofKit
import Derived.OpenShut
import Derived.ShutString
import Derived.ChangeOld
import Derived.Below
import Derived.SizedLaws
set_option linter.unusedVariables false
set_option linter.unusedSimpArgs false
namespace Go.Proofs.Ytlhmpmmblnbmbaa.Img
open Go.Proofs.Ytlhmpmmblnbmbaa.Sx Go.Proofs.Ytlhmpmmblnbmbaa.Byt Go.Proofs.Ytlhmpmmblnbmbaa.Dev Go.Proofs.Ytlhmpmmblnbmbaa.Pck Go.Proofs.Ytlhmpmmblnbmbaa.Cnf Go.Proofs.Ytlhmpmmblnbmbaa.Bus Go.Lib
theorem set_same {α : Type} {l : List α} {i : Nat} {x : α} (h : l[i]? = some x) : l.set i x = l := by
  refine List.ext_getElem? fun k => ?_
  rw [List.getElem?_set]
  split
  · rename_i e; subst e
    rw [if_pos (List.getElem?_eq_some_iff.1 h).1, h]
  · rfl
theorem more_nil (x : Zc) : x.more [] = x := by unfold Zc.more; rw [List.append_nil]
/-- An act that, where it does not fail, makes of a zone f of it. -/
def Makes (c : Cf) (act : Nat → Nat → Pz → Sg → Int × Sg) (f : Pz → Zc → Zc) : Prop := ∀ (m j : Nat) (p : Pz) (s : Sg) (d : Dc) (x : Zc), p.Ok c → s.1[m]? = some d → d.zs[j]? = some x → (act m j p s).1 = 0 → (act m j p s).2.1 = s.1.set m { d with zs := d.zs.set j (f p x) }
theorem cA_ok {m j : Nat} {b : List Int} {s : Sg} {d : Dc} {x : Zc} (hd : s.1[m]? = some d) (hx : d.zs[j]? = some x) (h : (cA m (j : Int) b s).1 = 0) : (cA m (j : Int) b s).2.1 = s.1.set m { d with zs := d.zs.set j (x.more b) } := by
  unfold cA at h ⊢
  rw [hd] at h ⊢
  replace h : (d.append (j : Int) b).1 = 0 := h
  show s.1.set m (d.append (j : Int) b).2 = _
  congr 1
  unfold Dc.append at h ⊢
  rw [Int.toNat_natCast, hx] at h
  rw [Int.toNat_natCast, hx]
  by_cases h1 : d.right (j : Int) ≠ 0
  · rw [if_pos h1] at h; exact absurd h h1
  rw [if_neg h1] at h ⊢
  simp only at h ⊢
  by_cases h2 : x.appErr b.length ≠ 0
  · rw [if_pos h2] at h; exact absurd h h2
  rw [if_neg h2] at h ⊢
  by_cases h3 : ((x.more b).active && (!x.active && decide (d.used ≥ d.limit))) = true
  · rw [if_pos h3] at h; cases h
  · rw [if_neg h3]
theorem cFin_ok {m j : Nat} {s : Sg} {d : Dc} {x : Zc} (hd : s.1[m]? = some d) (hx : d.zs[j]? = some x) (h : (cFin m (j : Int) s).1 = 0) : (cFin m (j : Int) s).2.1 = s.1.set m { d with zs := d.zs.set j x.finish } := by
  unfold cFin at h ⊢
  rw [hd] at h ⊢
  replace h : (d.finish (j : Int)).1 = 0 := h
  show s.1.set m (d.finish (j : Int)).2 = _
  congr 1
  unfold Dc.finish at h ⊢
  by_cases h1 : d.right (j : Int) ≠ 0
  · rw [if_pos h1] at h; exact absurd h h1
  rw [if_neg h1] at h ⊢
  rw [Int.toNat_natCast, hx]
theorem wr_ok {m j : Nat} {b : List Int} {s : Sg} {d : Dc} {x : Zc} (hd : s.1[m]? = some d) (hx : d.zs[j]? = some x) (h : (wr m (j : Int) b s).1 = 0) : (wr m (j : Int) b s).2.1 = s.1.set m { d with zs := d.zs.set j (x.more b) } := by
  unfold wr at h ⊢
  split at h
  · rename_i hb
    rw [if_pos hb, hb, more_nil, set_same hx]
    exact (set_same hd).symm
  · rename_i hb
    rw [if_neg hb]
    exact cA_ok hd hx h
def fD (p : Pz) (x : Zc) : Zc := if p.done = false then x else (x.more p.t.l).finish
def fS (block : Int) (p : Pz) (x : Zc) : Zc := if p.done = true then x else x.more ((p.t.l.drop 0).take ((p.safe * block).toNat - 0))
def fR (block : Int) (p : Pz) (x : Zc) : Zc := if p.done = true then x else x.more ((p.t.l.drop (p.safe * block).toNat).take ((p.wp * block).toNat - (p.safe * block).toNat))
theorem actD_ok (c : Cf) : Makes c actD fD := fun m j p s d x hp hd hx h => by
  unfold actD at h ⊢
  unfold fD
  split at h
  · rename_i hn
    rw [if_pos hn, if_pos hn, set_same hx]
    exact (set_same hd).symm
  · rename_i hn
    rw [if_neg hn, if_neg hn]
    split at h
    · rename_i h1; exact absurd h h1
    · rename_i h1
      rw [if_neg h1]
      have h1' : (wr m (j : Int) p.t.l s).1 = 0 := by simpa using h1
      have h2 := wr_ok hd hx h1'
      have hml : m < s.1.length := (List.getElem?_eq_some_iff.1 hd).1
      have hjl : j < d.zs.length := (List.getElem?_eq_some_iff.1 hx).1
      rw [cFin_ok (d := { d with zs := d.zs.set j (x.more p.t.l) }) (x := x.more p.t.l) (by rw [h2, List.getElem?_set_self hml]) (List.getElem?_set_self hjl) h, h2, List.set_set]
      simp only [List.set_set]
theorem actS_ok (c : Cf) : Makes c (actS c.block) (fS c.block) := fun m j p s d x hp hd hx h => by
  unfold actS at h ⊢
  unfold fS
  split at h
  · rename_i hn
    rw [if_pos hn, if_pos hn, set_same hx]
    exact (set_same hd).symm
  · rename_i hn
    rw [if_neg hn, if_neg hn]
    exact wr_ok hd hx h
theorem actR_ok (c : Cf) : Makes c (actR c.block) (fR c.block) := fun m j p s d x hp hd hx h => by
  unfold actR at h ⊢
  unfold fR
  split at h
  · rename_i hn
    rw [if_pos hn, if_pos hn, set_same hx]
    exact (set_same hd).symm
  · rename_i hn
    rw [if_neg hn, if_neg hn]
    exact wr_ok hd hx h
theorem zonesR_ok {c : Cf} {act : Nat → Nat → Pz → Sg → Int × Sg} {f : Pz → Zc → Zc} (ha : Makes c act f) (m : Nat) : ∀ (zs : List Pz) (j : Nat) (s : Sg) (d : Dc), (∀ z ∈ zs, z.Ok c) → s.1[m]? = some d → d.zs.length = j + zs.length → (zonesR act m j zs s).1 = 0 → (zonesR act m j zs s).2.1 = s.1.set m { d with zs := d.zs.take j ++ List.zipWith f zs (d.zs.drop j) }
  | [], j, s, d, _, hd, hl, _ => by
    show s.1 = _
    rw [List.zipWith_nil_left, List.append_nil, List.take_of_length_le (by simpa using Nat.le_of_eq hl)]
    exact (set_same hd).symm
  | z :: r, j, s, d, hok, hd, hl, h => by
    rw [List.length_cons] at hl
    have hj : j < d.zs.length := by omega
    obtain ⟨x, hx⟩ : ∃ x, d.zs[j]? = some x := ⟨_, List.getElem?_eq_getElem hj⟩
    have hml : m < s.1.length := (List.getElem?_eq_some_iff.1 hd).1
    unfold zonesR at h ⊢
    by_cases h1 : (act m j z s).1 = 0
    · rw [if_neg (by simp [h1])] at h ⊢
      have h2 := ha m j z s d x (hok z (List.mem_cons_self ..)) hd hx h1
      have ih := zonesR_ok ha m r (j + 1) (act m j z s).2 { d with zs := d.zs.set j (f z x) } (fun y hy => hok y (List.mem_cons_of_mem _ hy)) (by rw [h2, List.getElem?_set_self hml]) (by simp only [List.length_set]; omega) h
      rw [ih, h2, List.set_set]
      congr 2
      have e1 : (d.zs.set j (f z x)).take (j + 1) = d.zs.take j ++ [f z x] := by
        rw [List.take_add_one, List.take_set_of_le (Nat.le_refl j), List.getElem?_set_self hj]; rfl
      have e2 : (d.zs.set j (f z x)).drop (j + 1) = d.zs.drop (j + 1) := List.drop_set_of_lt (Nat.lt_succ_self j)
      have e3 : d.zs.drop j = x :: d.zs.drop (j + 1) := by
        have h3 := List.drop_eq_getElem_cons hj
        rw [(List.getElem?_eq_some_iff.1 hx).2] at h3; exact h3
      simp only [e1, e2, e3, List.zipWith_cons_cons, List.append_assoc, List.singleton_append]
    · rw [if_pos h1] at h; exact absurd h h1
def updM (f : Pz → Zc → Zc) (p : Pm) (d : Dc) : Dc := if p.zs = [] then d else { d with zs := List.zipWith f p.zs d.zs }
theorem updM_len {f : Pz → Zc → Zc} {p : Pm} {d : Dc} (h : p.zs = [] ∨ p.zs.length = d.zs.length) : (updM f p d).zs.length = d.zs.length := by
  unfold updM
  split
  · rfl
  · rename_i hn
    rcases h with h | h
    · exact absurd h hn
    · rw [List.length_zipWith]; omega
theorem eachR_ok {c : Cf} {act : Nat → Nat → Pz → Sg → Int × Sg} {f : Pz → Zc → Zc} (ha : Makes c act f) : ∀ (ms : List Pm) (i : Nat) (s : Sg), (∀ m ∈ ms, ∀ z ∈ m.zs, z.Ok c) → s.1.length = i + ms.length → (∀ (k : Nat) (p : Pm) (d : Dc), ms[k]? = some p → s.1[i + k]? = some d → p.zs = [] ∨ p.zs.length = d.zs.length) → (eachR act i ms s).1 = 0 → (eachR act i ms s).2.1 = s.1.take i ++ List.zipWith (updM f) ms (s.1.drop i)
  | [], i, s, _, hl, _, _ => by
    show s.1 = _
    rw [List.zipWith_nil_left, List.append_nil, List.take_of_length_le (by simpa using Nat.le_of_eq hl)]
  | p :: r, i, s, hok, hl, hz, h => by
    rw [List.length_cons] at hl
    have hi : i < s.1.length := by omega
    obtain ⟨d, hd⟩ : ∃ d, s.1[i]? = some d := ⟨_, List.getElem?_eq_getElem hi⟩
    unfold eachR at h ⊢
    by_cases h1 : (zonesR act i 0 p.zs s).1 = 0
    · rw [if_neg (by simp [h1])] at h ⊢
      have h2 : (zonesR act i 0 p.zs s).2.1 = s.1.set i (updM f p d) := by
        unfold updM
        by_cases hp : p.zs = []
        · rw [if_pos hp, hp, set_same hd]; rfl
        · rw [if_neg hp]
          have hlen := (hz 0 p d rfl hd).resolve_left hp
          have := zonesR_ok ha i p.zs 0 s d (hok p (List.mem_cons_self ..)) hd (by omega) h1
          simpa using this
      have ih := eachR_ok ha r (i + 1) (zonesR act i 0 p.zs s).2 (fun m hm => hok m (List.mem_cons_of_mem _ hm)) (by rw [h2, List.length_set]; omega) (fun k q e hk he => by
        rw [h2, List.getElem?_set_ne (by omega), show i + 1 + k = i + (k + 1) by omega] at he
        exact hz (k + 1) q e hk he) h
      rw [ih, h2]
      have e1 : (s.1.set i (updM f p d)).take (i + 1) = s.1.take i ++ [updM f p d] := by
        rw [List.take_add_one, List.take_set_of_le (Nat.le_refl i), List.getElem?_set_self hi]; rfl
      have e2 : (s.1.set i (updM f p d)).drop (i + 1) = s.1.drop (i + 1) := List.drop_set_of_lt (Nat.lt_succ_self i)
      have e3 : s.1.drop i = d :: s.1.drop (i + 1) := by
        have h3 := List.drop_eq_getElem_cons hi
        rw [(List.getElem?_eq_some_iff.1 hd).2] at h3; exact h3
      simp only [e1, e2, e3, List.zipWith_cons_cons, List.append_assoc, List.singleton_append]
    · rw [if_pos h1] at h; exact absurd h h1
def flushD (d : Dc) : Dc := { d with zs := d.zs.map Zc.flush }
theorem flR_ok : ∀ (ms : List Pm) (i : Nat) (s : Sg), s.1.length = i + ms.length → (flR ms i s).1 = 0 → (flR ms i s).2.1 = s.1.take i ++ (s.1.drop i).map flushD
  | [], i, s, hl, _ => by
    show s.1 = _
    have hl : s.1.length = i := by simpa using hl
    rw [List.drop_of_length_le (by omega), List.map_nil, List.append_nil, List.take_of_length_le (by omega)]
  | p :: r, i, s, hl, h => by
    rw [List.length_cons] at hl
    have hi : i < s.1.length := by omega
    obtain ⟨d, hd⟩ : ∃ d, s.1[i]? = some d := ⟨_, List.getElem?_eq_getElem hi⟩
    unfold flR at h ⊢
    by_cases h1 : (cFl i s).1 = 0
    · rw [if_neg (by simp [h1])] at h ⊢
      have h2 : (cFl i s).2.1 = s.1.set i (flushD d) := by
        unfold cFl at h1 ⊢
        rw [hd] at h1 ⊢
        replace h1 : d.flush.1 = 0 := h1
        show s.1.set i d.flush.2 = _
        congr 1
        unfold Dc.flush at h1 ⊢
        split at h1
        · rename_i h3; exact absurd h1 h3
        · rename_i h3; rw [if_neg h3]; rfl
      have ih := flR_ok r (i + 1) (cFl i s).2 (by rw [h2, List.length_set]; omega) h
      rw [ih, h2]
      have e1 : (s.1.set i (flushD d)).take (i + 1) = s.1.take i ++ [flushD d] := by
        rw [List.take_add_one, List.take_set_of_le (Nat.le_refl i), List.getElem?_set_self hi]; rfl
      have e2 : (s.1.set i (flushD d)).drop (i + 1) = s.1.drop (i + 1) := List.drop_set_of_lt (Nat.lt_succ_self i)
      have e3 : s.1.drop i = d :: s.1.drop (i + 1) := by
        have h3 := List.drop_eq_getElem_cons hi
        rw [(List.getElem?_eq_some_iff.1 hd).2] at h3; exact h3
      simp only [e1, e2, e3, List.map_cons, List.append_assoc, List.singleton_append]
    · rw [if_pos h1] at h; exact absurd h h1
def killM (p : Pm) (d : Dc) : Dc := if p.zs = [] then { d with dead := true } else d
theorem kR_ok : ∀ (ms : List Pm) (i : Nat) (s : Sg), s.1.length = i + ms.length → (kR ms i s).1 = s.1.take i ++ List.zipWith killM ms (s.1.drop i) ∧ (kR ms i s).2 = s.2
  | [], i, s, hl => by
    have hl : s.1.length = i := by simpa using hl
    refine ⟨?_, rfl⟩
    show s.1 = _
    rw [List.zipWith_nil_left, List.append_nil, List.take_of_length_le (by omega)]
  | p :: r, i, s, hl => by
    rw [List.length_cons] at hl
    have hi : i < s.1.length := by omega
    obtain ⟨d, hd⟩ : ∃ d, s.1[i]? = some d := ⟨_, List.getElem?_eq_getElem hi⟩
    have h2 : (if p.zs = [] then cK i s else s) = (s.1.set i (killM p d), s.2) := by
      unfold killM
      split
      · unfold cK; rw [hd]
      · rw [set_same hd]
    unfold kR
    rw [h2]
    obtain ⟨ih, ih2⟩ := kR_ok r (i + 1) (s.1.set i (killM p d), s.2) (by show (s.1.set i (killM p d)).length = _; rw [List.length_set]; omega)
    refine ⟨?_, ih2⟩
    rw [ih]
    have e1 : (s.1.set i (killM p d)).take (i + 1) = s.1.take i ++ [killM p d] := by
      rw [List.take_add_one, List.take_set_of_le (Nat.le_refl i), List.getElem?_set_self hi]; rfl
    have e2 : (s.1.set i (killM p d)).drop (i + 1) = s.1.drop (i + 1) := List.drop_set_of_lt (Nat.lt_succ_self i)
    have e3 : s.1.drop i = d :: s.1.drop (i + 1) := by
      have h3 := List.drop_eq_getElem_cons hi
      rw [(List.getElem?_eq_some_iff.1 hd).2] at h3; exact h3
    simp only [e1, e2, e3, List.zipWith_cons_cons, List.append_assoc, List.singleton_append]
theorem zip_rep {α β γ : Type} (f : α → β → γ) (b : β) : ∀ (l : List α), List.zipWith f l (List.replicate l.length b) = l.map fun a => f a b
  | [] => rfl
  | a :: l => by rw [List.length_cons, List.replicate_succ, List.zipWith_cons_cons, zip_rep f b l, List.map_cons]
theorem zip_map {α β γ : Type} (f : α → β → γ) (g : α → β) : ∀ (l : List α), List.zipWith f l (l.map g) = l.map fun a => f a (g a)
  | [] => rfl
  | a :: l => by rw [List.map_cons, List.zipWith_cons_cons, zip_map f g l, List.map_cons]
/-- A member behind the laying. -/
def outM (c : Cf) (D0 : Dc) (p : Pm) : Dc := killM p (updM (fR c.block) p (flushD (updM (fS c.block) p (updM fD p D0))))
theorem layR_ok {c : Cf} {ms : List Pm} {D0 : Dc} (hok : ∀ m ∈ ms, ∀ z ∈ m.zs, z.Ok c) (hlen : ∀ m ∈ ms, m.zs = [] ∨ m.zs.length = D0.zs.length) (h : (layR c ms (List.replicate ms.length D0, 0)).1 = 0) : (layR c ms (List.replicate ms.length D0, 0)).2.1 = ms.map (outM c D0) := by
  unfold layR at h ⊢
  obtain ⟨s0, hs0⟩ : ∃ s0 : Sg, s0 = (List.replicate ms.length D0, 0) := ⟨_, rfl⟩
  rw [← hs0] at h ⊢
  have l0 : s0.1.length = ms.length := by rw [hs0]; exact List.length_replicate ..
  have key : ∀ (F : Pm → Dc), (∀ m ∈ ms, m.zs = [] ∨ m.zs.length = (F m).zs.length) → ∀ (s : Sg), s.1 = ms.map F → ∀ (k : Nat) (p : Pm) (d : Dc), ms[k]? = some p → s.1[0 + k]? = some d → p.zs = [] ∨ p.zs.length = d.zs.length := fun F hF s hs k p d hk hd => by
    rw [hs, Nat.zero_add, List.getElem?_map, hk] at hd
    cases hd
    exact hF p (List.mem_of_getElem? hk)
  have hF0 : s0.1 = ms.map (fun _ => D0) := by
    rw [hs0]
    exact List.map_const'.symm
  by_cases h1 : (eachR actD 0 ms s0).1 = 0
  rotate_left
  · rw [if_pos h1] at h; exact absurd h h1
  rw [if_neg (by simp [h1])] at h ⊢
  have r1 := eachR_ok (actD_ok c) ms 0 s0 hok (by omega) (key _ (fun m hm => hlen m hm) s0 hF0) h1
  rw [List.take_zero, List.drop_zero, List.nil_append, hF0, zip_map] at r1
  have len1 : ∀ m ∈ ms, m.zs = [] ∨ m.zs.length = (updM fD m D0).zs.length := fun m hm => (hlen m hm).imp id (fun e => by rw [updM_len (hlen m hm)]; exact e)
  generalize eachR actD 0 ms s0 = y1 at *
  by_cases h2 : (eachR (actS c.block) 0 ms y1.2).1 = 0
  rotate_left
  · rw [if_pos h2] at h; exact absurd h h2
  rw [if_neg (by simp [h2])] at h ⊢
  have r2 := eachR_ok (actS_ok c) ms 0 y1.2 hok (by rw [r1, List.length_map]; omega) (key _ len1 y1.2 r1) h2
  rw [List.take_zero, List.drop_zero, List.nil_append, r1, zip_map] at r2
  have len2 : ∀ m ∈ ms, m.zs = [] ∨ m.zs.length = (updM (fS c.block) m (updM fD m D0)).zs.length := fun m hm => (len1 m hm).imp id (fun e => by rw [updM_len (len1 m hm)]; exact e)
  generalize eachR (actS c.block) 0 ms y1.2 = y2 at *
  by_cases h3 : (flR ms 0 y2.2).1 = 0
  rotate_left
  · rw [if_pos h3] at h; exact absurd h h3
  rw [if_neg (by simp [h3])] at h ⊢
  have r3 := flR_ok ms 0 y2.2 (by rw [r2, List.length_map]; omega) h3
  rw [List.take_zero, List.drop_zero, List.nil_append, r2, List.map_map] at r3
  have len3 : ∀ m ∈ ms, m.zs = [] ∨ m.zs.length = (flushD (updM (fS c.block) m (updM fD m D0))).zs.length := fun m hm => (len2 m hm).imp id (fun e => by show _ = (List.map _ _).length; rw [List.length_map]; exact e)
  generalize flR ms 0 y2.2 = y3 at *
  by_cases h4 : (eachR (actR c.block) 0 ms y3.2).1 = 0
  rotate_left
  · rw [if_pos h4] at h; exact absurd h h4
  rw [if_neg (by simp [h4])] at h ⊢
  have r4 := eachR_ok (actR_ok c) ms 0 y3.2 hok (by rw [r3, List.length_map]; omega) (key (fun m => flushD (updM (fS c.block) m (updM fD m D0))) len3 y3.2 r3) h4
  rw [List.take_zero, List.drop_zero, List.nil_append, r3, zip_map] at r4
  generalize eachR (actR c.block) 0 ms y3.2 = y4 at *
  have r5 := (kR_ok ms 0 y4.2 (by rw [r4, List.length_map]; omega)).1
  rw [List.take_zero, List.drop_zero, List.nil_append, r4, zip_map] at r5
  show (kR ms 0 y4.2).1 = _
  rw [r5]; rfl
/-- A zone behind the laying. -/
def outZ (block : Int) (Z0 : Zc) (z : Pz) : Zc := fR block z ((fS block z (fD z Z0)).flush)
theorem outZ_zb {c : Cf} {z : Pz} (hz : z.Ok c) (hb : 1 ≤ c.block) {cap : Int} {Z0 : Zc} (h0 : Z0 = ⟨cap, c.block, [], 0, false⟩) : zb (outZ c.block Z0 z) = zbp z := by
  have q1 := hz.safe0; have q2 := hz.safe1; have q3 := hz.wp0; have q5 := hz.len
  have hmx : max c.block 1 = c.block := by omega
  have hs0 : 0 ≤ z.safe * c.block := Int.mul_nonneg q1 (by omega)
  have hw0 : z.safe * c.block ≤ z.wp * c.block := Int.mul_le_mul_of_nonneg_right q2 (by omega)
  obtain ⟨xs, hxs⟩ : ∃ xs : Nat, z.safe * c.block = (xs : Int) := ⟨(z.safe * c.block).toNat, by omega⟩
  obtain ⟨xw, hxw⟩ : ∃ xw : Nat, z.wp * c.block = (xw : Int) := ⟨(z.wp * c.block).toNat, by omega⟩
  have hl : z.t.l.length = xw := by omega
  have hwp : (xw : Int) / c.block = z.wp := by rw [← hxw]; exact Int.mul_ediv_cancel _ (by omega)
  have hsp : (xs : Int) / c.block = z.safe := by rw [← hxs]; exact Int.mul_ediv_cancel _ (by omega)
  unfold outZ fR fS fD
  subst h0
  by_cases hd : z.done = true
  · rw [if_pos hd, if_pos hd, if_neg (by simp [hd])]
    unfold zb zbp Zc.flush Zc.finish Zc.more Zc.wp
    simp only [List.nil_append, hmx, hl, hwp, hd]
    rw [hz.dn hd]
  · have hd' : z.done = false := by simpa using hd
    rw [if_neg hd, if_neg hd, if_pos hd', hxs, hxw]
    have e1 : (z.t.l.drop 0).take ((xs : Int).toNat - 0) ++ (z.t.l.drop (xs : Int).toNat).take ((xw : Int).toNat - (xs : Int).toNat) = z.t.l := by
      rw [List.drop_zero, Int.toNat_natCast, Int.toNat_natCast, Nat.sub_zero]
      rw [List.take_of_length_le (l := z.t.l.drop xs) (by rw [List.length_drop, hl]; exact Nat.le_refl _)]
      exact List.take_append_drop xs z.t.l
    have e2 : ((z.t.l.drop 0).take ((xs : Int).toNat - 0)).length = xs := by
      rw [List.length_take, List.length_drop, Int.toNat_natCast, hl]; omega
    unfold zb zbp Zc.flush Zc.more Zc.wp
    simp only [List.nil_append, e1, e2, hmx, hl, hwp, hsp, hd']
theorem outM_mb {c : Cf} {p : Pm} {D0 : Dc} {Z0 : Zc} {cap : Int} (hF : 1 ≤ c.block) (hz : ∀ z ∈ p.zs, z.Ok c) (hl : p.zs = [] ∨ p.zs.length = D0.zs.length) (hD : D0.dead = false) (hD2 : D0.zs = List.replicate D0.zs.length Z0) (h0 : Z0 = ⟨cap, c.block, [], 0, false⟩) : mb (outM c D0 p) = mbp p ∧ (outM c D0 p).zs.length = D0.zs.length := by
  unfold outM killM
  by_cases hp : p.zs = []
  · rw [if_pos hp]
    unfold mb mbp updM flushD
    simp [hp, b1]
  · rw [if_neg hp]
    have hlen := hl.resolve_left hp
    have e : (updM (fR c.block) p (flushD (updM (fS c.block) p (updM fD p D0)))) = { D0 with zs := p.zs.map (outZ c.block Z0) } := by
      unfold updM flushD
      rw [if_neg hp, if_neg hp, if_neg hp]
      simp only
      congr 1
      rw [hD2, ← hlen, zip_rep, zip_map, List.map_map, zip_map]
      rfl
    rw [e]
    refine ⟨?_, by show (p.zs.map _).length = _; rw [List.length_map]; exact hlen⟩
    unfold mb mbp
    rw [if_neg hp]
    simp only [hD]
    rw [if_neg (by simp)]
    congr 1
    rw [List.flatMap_map]
    have : ∀ (l : List Pz), (∀ z ∈ l, z.Ok c) → l.flatMap (fun a => zb (outZ c.block Z0 a)) = l.flatMap zbp := fun l => by
      induction l with
      | nil => intro _; rfl
      | cons y ys ih =>
        intro hy
        rw [List.flatMap_cons, List.flatMap_cons, ih (fun z hz => hy z (List.mem_cons_of_mem _ hz)), outZ_zb (hy y (List.mem_cons_self ..)) hF h0]
    exact this p.zs hz
theorem cK_cnt (m : Nat) (s : Sg) : (cK m s).2 ≤ s.2 + 1 := by
  unfold cK
  split
  · show s.2 ≤ s.2 + 1; omega
  · show s.2 ≤ s.2 + 1; omega
theorem zonesR_cnt {act : Nat → Nat → Pz → Sg → Int × Sg} (h : ∀ m z p s, (act m z p s).2.2 ≤ s.2 + 2) (m : Nat) : ∀ (l : List Pz) (j : Nat) (s : Sg), (zonesR act m j l s).2.2 ≤ s.2 + 2 * (l.length : Nat)
  | [], j, s => by show s.2 ≤ _; simp
  | z :: r, j, s => by
    unfold zonesR
    have h1 := h m j z s
    have h2 := zonesR_cnt h m r (j + 1) (act m j z s).2
    rw [List.length_cons]
    split <;> omega
theorem eachR_cnt {act : Nat → Nat → Pz → Sg → Int × Sg} (h : ∀ m z p s, (act m z p s).2.2 ≤ s.2 + 2) : ∀ (ms : List Pm) (i : Nat) (s : Sg), (∀ m ∈ ms, m.zs.length ≤ 64) → (eachR act i ms s).2.2 ≤ s.2 + 128 * (ms.length : Nat)
  | [], i, s, _ => by show s.2 ≤ _; simp
  | p :: r, i, s, hz => by
    unfold eachR
    have h1 := zonesR_cnt h i p.zs 0 s
    have h2 := eachR_cnt h r (i + 1) (zonesR act i 0 p.zs s).2 (fun m hm => hz m (List.mem_cons_of_mem _ hm))
    have h3 := hz p (List.mem_cons_self ..)
    rw [List.length_cons]
    split <;> omega
theorem flR_cnt : ∀ (ms : List Pm) (i : Nat) (s : Sg), (flR ms i s).2.2 ≤ s.2 + (ms.length : Nat)
  | [], i, s => by show s.2 ≤ _; simp
  | p :: r, i, s => by
    unfold flR
    have h1 := cFl_cnt i s
    have h2 := flR_cnt r (i + 1) (cFl i s).2
    rw [List.length_cons]
    split <;> omega
theorem kR_cnt : ∀ (ms : List Pm) (i : Nat) (s : Sg), (kR ms i s).2 ≤ s.2 + (ms.length : Nat)
  | [], i, s => by show s.2 ≤ _; simp
  | p :: r, i, s => by
    unfold kR
    have h1 := cK_cnt i s
    have h2 := kR_cnt r (i + 1) (if p.zs = [] then cK i s else s)
    rw [List.length_cons]
    by_cases hp : p.zs = []
    · rw [if_pos hp] at h2 ⊢; omega
    · rw [if_neg hp] at h2 ⊢; omega
/-- Laying gives few commands. -/
theorem layR_cnt {c : Cf} {ms : List Pm} {s : Sg} (hml : ms.length ≤ 16) (hz : ∀ m ∈ ms, m.zs.length ≤ 64) : (layR c ms s).2.2 ≤ s.2 + 8000 := by
  unfold layR
  have h1 := eachR_cnt (actD_cnt) ms 0 s hz
  generalize eachR actD 0 ms s = y1 at *
  have h2 := eachR_cnt (actS_cnt c.block) ms 0 y1.2 hz
  generalize eachR (actS c.block) 0 ms y1.2 = y2 at *
  have h3 := flR_cnt ms 0 y2.2
  generalize flR ms 0 y2.2 = y3 at *
  have h4 := eachR_cnt (actR_cnt c.block) ms 0 y3.2 hz
  generalize eachR (actR c.block) 0 ms y3.2 = y4 at *
  have h5 := kR_cnt ms 0 y4.2
  split
  · omega
  split
  · omega
  split
  · omega
  split
  · omega
  · show (kR ms 0 y4.2).2 ≤ _; omega
/-- What Load lays is dumped as the bytes that were loaded. -/
theorem laid_dump {c : Cf} {ms : List Pm} {l : List Int} (hck : c.check = 0) (hmem : (ms.length : Int) = c.members) (hms : ∀ m ∈ ms, (m.zs = [] ∨ (m.zs.length : Int) = c.all) ∧ ∀ z ∈ m.zs, z.Ok c) (hl : l = hb c ++ ms.flatMap mbp) (h : (layR c ms (List.replicate ms.length (Dc.new c.all.toNat c.cap c.block c.limit), 0)).1 = 0) :
    ∃ M n, layR c ms (List.replicate ms.length (Dc.new c.all.toNat c.cap c.block c.limit), 0) = (0, M, n) ∧ n ≤ 8000 ∧ (M.length : Int) = c.members ∧ (∀ d ∈ M, (d.zs.length : Int) = c.all) ∧ dumpL c M = l := by
  have hF := cf_fits hck
  have hFm := hF.members; have hFb := hF.block; have hFa := hF.all2; have hFc := hF.cap
  have hFa0 : 1 ≤ c.all := by have := hF.all; have := hF.mta; have := hF.zones; have := hF.spare; omega
  obtain ⟨na, hna⟩ : ∃ na : Nat, c.all = (na : Int) := ⟨c.all.toNat, by omega⟩
  have hna2 : c.all.toNat = na := by omega
  have hzl : ∀ m ∈ ms, m.zs.length ≤ 64 := fun m hm => by
    rcases (hms m hm).1 with h | h
    · rw [h]; exact Nat.zero_le _
    · omega
  obtain ⟨D0, hD0⟩ : ∃ D0, D0 = Dc.new c.all.toNat c.cap c.block c.limit := ⟨_, rfl⟩
  have hDz : D0.zs = List.replicate na (Zc.new c.cap c.block) := by rw [hD0, hna2]; rfl
  have hDl : D0.zs.length = na := by rw [hDz]; exact List.length_replicate ..
  rw [← hD0] at h ⊢
  have hlen : ∀ m ∈ ms, m.zs = [] ∨ m.zs.length = D0.zs.length := fun m hm => (hms m hm).1.imp id (fun e => by rw [hDl]; omega)
  have r := layR_ok (fun m hm => (hms m hm).2) hlen h
  have hcnt := layR_cnt (c := c) (s := (List.replicate ms.length D0, 0)) (by omega) hzl
  have hZ : Zc.new c.cap c.block = ⟨min (max c.cap 1) 4096, c.block, [], 0, false⟩ := by
    unfold Zc.new
    rw [show min (max c.block 1) 4096 = c.block by omega]
  have hout : ∀ m ∈ ms, mb (outM c D0 m) = mbp m ∧ (outM c D0 m).zs.length = D0.zs.length := fun m hm => outM_mb (Z0 := Zc.new c.cap c.block) (by omega) (hms m hm).2 (hlen m hm) (by rw [hD0]; rfl) (by rw [hDl]; exact hDz) hZ
  refine ⟨ms.map (outM c D0), (layR c ms (List.replicate ms.length D0, 0)).2.2, ?_, by simpa using hcnt, by rw [List.length_map]; exact hmem, fun d hd => ?_, ?_⟩
  · rw [← r]; exact Prod.ext h rfl
  · obtain ⟨m, hm, rfl⟩ := List.mem_map.1 hd
    rw [(hout m hm).2, hDl, hna]
  · rw [hl]
    unfold dumpL
    rw [List.flatMap_map]
    congr 1
    have : ∀ (x : List Pm), (∀ m ∈ x, m ∈ ms) → x.flatMap (fun a => mb (outM c D0 a)) = x.flatMap mbp := fun x => by
      induction x with
      | nil => intro _; rfl
      | cons y ys ih =>
        intro hy
        rw [List.flatMap_cons, List.flatMap_cons, ih (fun z hz => hy z (List.mem_cons_of_mem _ hz)), (hout y (hy y (List.mem_cons_self ..))).1]
    exact this ms (fun m hm => hm)
end Go.Proofs.Ytlhmpmmblnbmbaa.Img
set_option linter.unusedVariables false
set_option linter.unusedSimpArgs false
set_option maxRecDepth 100000
namespace Go.Proofs.Ytlhmpmmblnbmbaa.Img
open Go.Proofs.Ytlhmpmmblnbmbaa.Sx Go.Proofs.Ytlhmpmmblnbmbaa.Byt Go.Proofs.Ytlhmpmmblnbmbaa.Dev Go.Proofs.Ytlhmpmmblnbmbaa.Pck Go.Proofs.Ytlhmpmmblnbmbaa.Cnf Go.Proofs.Ytlhmpmmblnbmbaa.Bus Go.Lib
theorem code_c (n : Int) (w : World) : Calls Try.prog 31 #[.int .i64 n] w fun e w' => e = .returned (.int .i64 n) ∧ Ext w w' := by
  refine J.enter Try.func31 rfl [] [.one (.v (.int .i64 n))] 4 (known_nil w) ?_
  exact J.ret (.one (.v (.int .i64 n))) [] (fun w1 _ hr => ⟨rfl, hr.ext' (fun x hx => by cases hx)⟩)
/-- A bus for settings: N.Bus. -/
theorem nbus_c (c : Cf) (w : World) (hck : c.check = 0) : Calls Try.prog 43 #[c.val] w fun e w' => Ext w w' ∧ ∃ g B, e = .returned (.pointer (some ⟨g, 0, none⟩)) ∧ NewBus w w' c.members.toNat c.all.toNat c.cap c.block c.limit g B := by
  have hF := cf_fits hck
  have hFm := hF.members; have hFb := hF.block; have hFa := hF.all2
  have hFa0 : 1 ≤ c.all := by have := hF.all; have := hF.mta; have := hF.zones; have := hF.spare; omega
  have hlim : 1 ≤ c.limit := by have := hF.limit; have := hF.active; have := hF.spare; have := hF.mta; omega
  obtain ⟨na, hna⟩ : ∃ na : Nat, c.all = (na : Int) := ⟨c.all.toNat, by omega⟩
  obtain ⟨nm, hnm⟩ : ∃ nm : Nat, c.members = (nm : Int) := ⟨c.members.toNat, by omega⟩
  have e1 : c.all.toNat = na := by omega
  have e2 : c.members.toNat = nm := by omega
  rw [e1, e2]
  refine J.enter Try.func43 rfl [] [.agg c.cs] 20 (known_nil w) ?_
  refine J.new 63 c.cs [] (fun g1 hg1 _ => ?_)
  refine J.drwU (E := Ext) [] 16 [] [(3, .one (.v (.int .i64 c.all)))] [(10, pNB w nm na c.cap c.block c.limit), (11, pNB w nm na c.cap c.block c.limit), (12, pNP w nm na c.cap c.block c.limit), (13, p00), (14, pNP w nm na c.cap c.block c.limit), (15, p00)] [⟨g1, 63, c.cs⟩] .exts
    (fun wb wc _ _ _ => .cons (Y.call Try.func46 [.agg c.cs] (fun u _ _ => all_c (c := c) u)) .nil) (fun _ _ _ => .nil)
    (fun wb hkb hrb => .cons (UAt.call Try.func45 [.one (.v (.int .i64 c.members)), .one (.v (.int .i64 c.all)), .one (.v (.int .i64 c.cap)), .one (.v (.int .i64 c.block)), .one (.v (.int .i64 c.limit))] (fun u hku hgu _ => by
      have hb := bnew_c nm na c.cap c.block c.limit u (by omega) (by rw [← hna]; exact new_okC hF hlim)
      have e1 : (([.one (.v (.int .i64 c.members)), .one (.v (.int .i64 c.all)), .one (.v (.int .i64 c.cap)), .one (.v (.int .i64 c.block)), .one (.v (.int .i64 c.limit))] : List SV).map (SV.den [⟨g1, 63, c.cs⟩])).toArray = #[.int .i64 (nm : Int), .int .i64 (na : Int), .int .i64 c.cap, .int .i64 c.block, .int .i64 c.limit] := by rw [← hnm, ← hna]; rfl
      rw [e1]
      refine hb.mono ?_
      rintro e u2 ⟨hxu, g, B, rfl, hNB⟩
      exact ⟨_, rfl, hxu, g, B, rfl, { hNB with news := fun k hk => Nat.le_trans (Nat.le_trans hrb.1 hgu.1) (hNB.news k hk), fresh := let ⟨g1, g2, g3, g4, a, b, c⟩ := hNB.fresh; ⟨g1, g2, g3, g4, a, b, fun x hx => ⟨Nat.le_trans (Nat.le_trans hrb.1 hgu.1) (c x hx).1, (c x hx).2⟩⟩ }⟩)) (fun v u1 u2 ⟨g, B, e, h⟩ hx => ⟨g, B, e, newBus_ext h hx⟩) trivial <|
      .cons (UAt.mvO 16 rfl) (fun v u1 u2 ⟨g, B, e, h⟩ hx => ⟨g, B, e, newBus_ext h hx⟩) trivial <|
      .cons (UAt.exO (pNB w nm na c.cap c.block c.limit) 5 0 rfl (fun v u ⟨g, B, e, h⟩ => ⟨_, _, e, rfl, g, B, rfl, h⟩)) (fun v u1 u2 ⟨g, B, e, h⟩ hx => ⟨g, B, e, newBus_ext h hx⟩) trivial <|
      .cons (UAt.exO (pNB w nm na c.cap c.block c.limit) 5 1 rfl (fun v u ⟨g, B, e, h⟩ => ⟨_, _, e, rfl, rfl⟩)) (fun v u1 u2 h hx => h) trivial <|
      .cons (UAt.mvO 17 rfl) (fun v u1 u2 ⟨g, B, e, h⟩ hx => ⟨g, B, e, newBus_ext h hx⟩) trivial <|
      .cons (UAt.mvO 18 rfl) (fun v u1 u2 h hx => h) trivial .nil) ?_
  rintro wb w3 hkb hrb hx3 hk3 v10 - v11 - v12 - v13 - v14 ⟨g, B, rfl, hNB⟩ v15 rfl
  show SX _ _ _ _ _
  refine J.ret (.one (.v (.pointer (some ⟨g, 0, none⟩)))) [⟨g1, 63, c.cs⟩] (fun w4 hk4 hr4 => ?_)
  have hx34 : Ext w3 w4 := hr4.ext' (mem1 (.inr ((hk4.get 0 rfl).trans (hk3.get 0 rfl).symm)))
  have hxb : Ext w wb := hrb.ext' (mem1 (.inl hg1))
  exact ⟨(hxb.trans hx3).trans hx34, g, B, rfl, newBus_ext hNB hx34⟩
end Go.Proofs.Ytlhmpmmblnbmbaa.Img
set_option linter.unusedVariables false
set_option linter.unusedSimpArgs false
set_option maxRecDepth 100000
namespace Go.Proofs.Ytlhmpmmblnbmbaa.Img
open Go.Proofs.Ytlhmpmmblnbmbaa.Sx Go.Proofs.Ytlhmpmmblnbmbaa.Byt Go.Proofs.Ytlhmpmmblnbmbaa.Dev Go.Proofs.Ytlhmpmmblnbmbaa.Pck Go.Proofs.Ytlhmpmmblnbmbaa.Cnf Go.Proofs.Ytlhmpmmblnbmbaa.Bus Go.Lib
def cL : Cf := ⟨1, 3, 1, 64, 16, 1, 1, 3, 1, 1, 5⟩
def mL : List Dc := List.replicate 3 (Dc.new 5 16 64 5)
theorem mL_zs {d : Dc} (h : d ∈ mL) : d = Dc.new 5 16 64 5 := (List.mem_replicate.1 h).2
theorem mL_len : (dumpL cL mL).length = 474 := by decide
theorem mL_od {O : Nat → Prop} {k : Nat} : ¬ Od mL O k := fun ⟨_, d, hd, z, hz, h⟩ => by
  rw [mL_zs hd] at hz
  rw [(List.mem_replicate.1 hz).2] at h
  exact h rfl
def pBL : Pred := fun v u => ∃ g O, v = .pointer (some ⟨g, 0, none⟩) ∧ BusC u g O mL 0
def pDL : Pred := fun v _ => ∃ A k, v = .tuple #[.slice A 474 k, .int .i64 0]
def pSL : Pred := fun v _ => ∃ A k, v = .slice A 474 k
theorem live_c (w : World) : Calls Try.prog 29 #[] w fun e w' => e = .returned (.bool true) ∧ Ext w w' := by
  refine J.enter Try.func29 rfl [] [] 33 (known_nil w) ?_
  refine J.call Try.func30 [.one (.v nilP.val)] [] (fun w1 hk1 hr1 => ?_)
  have hx1 : Ext w w1 := hr1.ext' (fun x hx => by cases hx)
  refine (load_c nilP w1 .none (fun x hx => by cases hx)).mono ?_
  rintro e w2 ⟨hx, ⟨er, her, rfl, h14⟩ | ⟨c, g, O, ms, rfl, hck, hmem, hms, hl, -⟩⟩
  rotate_left
  · have := congrArg List.length hl
    simp only [List.length_append, hb, i8_len, nilP, List.length_nil] at this
    omega
  have := h14 rfl
  subst this
  have hx2 := hx1.trans hx
  refine ⟨.tup [(false, [.v (.pointer none)]), (true, zCf), (false, [.v (.int .i64 14)])], _, rfl, rfl, known_nil _, ?_⟩
  refine J.new 63 zCf [] (fun g2 hg2 _ => ?_)
  refine J.new 63 zCf [⟨g2, 63, zCf⟩] (fun g4 hg4 _ => ?_)
  refine J.drwU (E := Ext) [] 9 [] [] [(1, pBL), (3, pDL), (4, pDL), (5, pSL), (6, p00), (7, pSL), (8, p00)] [⟨g2, 63, zCf⟩, ⟨g4, 63, cL.cs⟩] .exts
    (fun wb wc _ _ _ => .nil) (fun _ _ _ => .nil)
    (fun wb hkb hrb => .cons (UAt.call Try.func43 [.agg cL.cs] (fun u hku hgu _ => (nbus_c cL u (by decide)).mono (by
        rintro e u2 ⟨hxu, g, B, rfl, hNB⟩
        exact ⟨_, rfl, hxu, g, _, rfl, hNB.con⟩))) (fun v u1 u2 ⟨g, O, e, h⟩ hx => ⟨g, O, e, h.ext hx⟩) trivial <|
      .cons (UAt.callO Try.func32 [.o 15, .t (.agg cL.cs)] [(15, pBL)] (fun u ρ hku hgu _ hdep => by
        obtain ⟨g, O, e2, hB⟩ := hdep 15 _ (List.mem_singleton.2 rfl)
        show Calls _ _ #[ρ 15, cL.val] u _
        rw [e2]
        refine (dump_c (c := cL) u hB (by decide) (by decide) (by decide) (fun d hd => by rw [mL_zs hd]; decide) (by rw [mL_len]; decide) (by decide) (by decide)).mono ?_
        rintro e u2 ⟨v2, n', rfl, ho, hB2, -, -, hc⟩
        obtain ⟨p, rfl, hpn, -⟩ := ho.part (by rw [mL_len]; decide)
        rw [mL_len] at hpn
        exact ⟨_, rfl, (.mk2 (hc.1) (fun k hk => hc.2 k hk mL_od)), p.A, p.c, by rw [← hpn]; rfl⟩)) (fun v u1 u2 h hx => h) trivial <|
      .cons (UAt.mvO 17 rfl) (fun v u1 u2 h hx => h) trivial <|
      .cons (UAt.exO pDL 13 0 rfl (fun v u ⟨A, k, e⟩ => ⟨_, _, e, rfl, A, k, rfl⟩)) (fun v u1 u2 h hx => h) trivial <|
      .cons (UAt.exO pDL 13 1 rfl (fun v u ⟨A, k, e⟩ => ⟨_, _, e, rfl, rfl⟩)) (fun v u1 u2 h hx => h) trivial <|
      .cons (UAt.mvO 18 rfl) (fun v u1 u2 h hx => h) trivial <|
      .cons (UAt.mvO 19 rfl) (fun v u1 u2 h hx => h) trivial .nil) ?_
  rintro wb w3 hkb hrb hx3 hk3 v1 - v3 - v4 - v5 - v6 - v7 ⟨A, k, rfl⟩ v8 rfl
  show SX _ _ _ _ _
  have hxb : Ext w wb := hx2.rel' hrb (mem2 (.inl (Nat.le_trans hx2.1 hg2)) (.inl (Nat.le_trans hx2.1 hg4)))
  have hxx3 := hxb.trans hx3
  refine J.call Try.func31 [.one (.v (.int .i64 14))] [⟨g2, 63, zCf⟩, ⟨g4, 63, cL.cs⟩] (fun w4 hk4 hr4 => ?_)
  have same : ∀ {u w1 : World}, Known [⟨g2, 63, zCf⟩, ⟨g4, 63, cL.cs⟩] u → Known [⟨g2, 63, zCf⟩, ⟨g4, 63, cL.cs⟩] w1 → Rel [⟨g2, 63, zCf⟩, ⟨g4, 63, cL.cs⟩] u w1 → Ext u w1 := fun h hk hr => hr.ext' (mem2 (.inr ((hk.get 0 rfl).trans (h.get 0 rfl).symm)) (.inr ((hk.get 1 rfl).trans (h.get 1 rfl).symm)))
  have hx4 := hxx3.trans (same hk3 hk4 hr4)
  refine (code_c 14 w4).mono ?_
  rintro e w5 ⟨rfl, hx⟩
  have hx5 := hx4.trans hx
  have hk5 := hx.known hk4
  refine ⟨.one (.v (.int .i64 14)), _, rfl, rfl, hk5, ?_⟩
  refine J.lit 23 ((14 : Int) == 14) true rfl ?_
  refine J.call Try.func31 [.one (.v (.int .i64 0))] [⟨g2, 63, zCf⟩, ⟨g4, 63, cL.cs⟩] (fun w6 hk6 hr6 => ?_)
  have hx6 := hx5.trans (same hk5 hk6 hr6)
  refine (code_c 0 w6).mono ?_
  rintro e w7 ⟨rfl, hx⟩
  have hx7 := hx6.trans hx
  have hk7 := hx.known hk6
  refine ⟨.one (.v (.int .i64 0)), _, rfl, rfl, hk7, ?_⟩
  refine J.lit 28 ((0 : Int) == 0) true rfl ?_
  refine J.ret (.one (.v (.bool ((474 : Int) == 474)))) [⟨g2, 63, zCf⟩, ⟨g4, 63, cL.cs⟩] (fun w8 hk8 hr8 => ?_)
  exact ⟨rfl, hx7.trans (same hk7 hk8 hr8)⟩
end Go.Proofs.Ytlhmpmmblnbmbaa.Img
set_option linter.unusedVariables false
set_option linter.unusedSimpArgs false
namespace Go.Proofs.Ytlhmpmmblnbmbaa.Sx
open Go.RowKit
def cmpAt (S : List (Nat × SV)) (o : Oper) : Option (BinOp × Nat × SV × SV) := match o.op with
  | .binOp op T x y _ => match opd S x, opd S y with
    | some a, some b => some (op, T, a, b)
    | _, _ => none
  | _ => none
def cmpOf (n : Nat) (s : St) : Option (BinOp × Nat × SV × SV) := (opAt n s).bind (cmpAt s.S)
section
variable {P : Program} {Q : Exit → Act → World → Prop} {tab : Tab} {n : Nat} {s : St} {w0 : World}
/-- Two values of any kind are set against each other. -/
theorem J.cmp [ht : Ok P tab] [hQ : RetOk Q] {op : BinOp} {T : Nat} {u v : SV} (b : Bool) (L : List Blk) (hg : ∀ x y w, (eqGuard op T x y (u.den L) (v.den L)).run P w = .ok () w) (hz : ∀ w, (binOp op T (u.den L) (v.den L)).run P w = .ok (.bool b) w) (hn : SX P Q n (ansK (go tab n s) (.one (.lit b)) L) w0)
    (h : cmpOf n (go tab n s) = some (op, T, u, v) := by kernel_rfl) (hL : (go tab n s).L = L := by kernel_rfl) : SX P Q n s w0 := by
  obtain ⟨o, ho, hh⟩ := Option.bind_eq_some_iff.1 h
  subst hL
  refine J.val (.one (.lit b)) ho (fun a w hS hK hR => ?_) hn
  unfold cmpAt at hh
  split at hh <;> try (cases hh; done)
  rename_i op' T' x y T2 hop
  split at hh <;> try (cases hh; done)
  rename_i u' v' hu hv
  cases hh
  have ex : a.eval x = u.den _ := opd_ok hS hu
  have ey : a.eval y = v.den _ := opd_ok hS hv
  unfold execOp
  simp only [hop, ex, ey, Sem.run_bind, hg, Result.andThen_ok, hz]
  rfl
/-- Two strings. -/
theorem J.seq [ht : Ok P tab] [hQ : RetOk Q] {T : Nat} {x y : ByteArray} (b : Bool) (L : List Blk) (hb : (x.toList == y.toList) = b) (hn : SX P Q n (ansK (go tab n s) (.one (.lit b)) L) w0)
    (h : cmpOf n (go tab n s) = some (.eql, T, .one (.v (.string x)), .one (.v (.string y))) := by kernel_rfl) (hL : (go tab n s).L = L := by kernel_rfl) : SX P Q n s w0 :=
  J.cmp b L (fun u v w => by show (eqGuard _ _ _ _ (.string x) (.string y)).run P w = _; simp [eqGuard, Sem.run_bind]) (fun w => by show (binOp .eql T (.string x) (.string y)).run P w = _; rw [binOp_string_eql, hb]; rfl) hn h hL
/-- A row of bytes as a string. -/
theorem J.str [ht : Ok P tab] [hQ : RetOk Q] {src dst e k c : Nat} {A : Option Addr} (x : ByteArray) (L : List Blk) (hs : P.underlying src = some (.slice e)) (he : P.underlying e = some (.int .u8)) (hd : P.underlying dst = some .string) (hx : ∀ w, Rel L w0 w → Known L w → (convert src dst (.slice A k c)).run P w = .ok (.string x) w) (hn : SX P Q n (ansK (go tab n s) (.one (.v (.string x))) L) w0)
    (h : cvOf n (go tab n s) = some (src, dst, .one (.v (.slice A k c))) := by kernel_rfl) (hL : (go tab n s).L = L := by kernel_rfl) : SX P Q n s w0 := by
  obtain ⟨o, ho, hh⟩ := Option.bind_eq_some_iff.1 h
  subst hL
  refine J.val (.one (.v (.string x))) ho (fun a w hS hK hR => ?_) hn
  unfold cvAt at hh
  split at hh <;> try (cases hh; done)
  rename_i s' d' x' hop
  obtain ⟨v, hv, e⟩ := Option.map_eq_some_iff.1 hh
  cases e
  have ex : a.eval x' = .slice A k c := opd_ok hS hv
  unfold execOp
  simp only [hop, ex, Sem.run_bind, hx w hR hK, Result.andThen_ok]
  rfl
end
end Go.Proofs.Ytlhmpmmblnbmbaa.Sx
set_option linter.unusedVariables false
set_option linter.unusedSimpArgs false
set_option maxRecDepth 100000
namespace Go.Proofs.Ytlhmpmmblnbmbaa.Img
open Go.Proofs.Ytlhmpmmblnbmbaa.Sx Go.Proofs.Ytlhmpmmblnbmbaa.Byt Go.Proofs.Ytlhmpmmblnbmbaa.Dev Go.Proofs.Ytlhmpmmblnbmbaa.Pck Go.Proofs.Ytlhmpmmblnbmbaa.Cnf Go.Proofs.Ytlhmpmmblnbmbaa.Bus Go.Lib
theorem str_run {w : World} {p : Part} (hp : PAt w p) : (convert 27 9 p.val).run Try.prog w = .ok (.string (strOfNums p.l)) w := by
  obtain ⟨A, n, c, l⟩ := p
  have h1 : l.length = n := hp.at_.1
  show (convert _ _ (.slice A n c)).run _ _ = _
  rw [run_convert_bytes_string w 27 9 5 A n c (by kernel_rfl) (by kernel_rfl) (by kernel_rfl)]
  show _ = Result.ok (Value.string (strOfNums l)) w
  rcases hp.at_.2 with h0 | ⟨g, o, cs, fz, hA, ⟨_, _, hg⟩, hc⟩
  · replace h0 : n = 0 := h0
    subst h0
    obtain rfl : l = [] := List.length_eq_zero_iff.1 h1
    cases A with
    | none => rfl
    | some a => exact run_bytesToString w a 0 c [] rfl
  · replace hA : A = some ⟨g, o, none⟩ := hA
    subst hA
    have := run_convert_bytes_arg (P := Try.prog) w 27 5 (by kernel_rfl) (by kernel_rfl) g o n c l h1 (fun i hi => by
      unfold World.cell?
      have hl : l[i]? = some (l.getD i 0) := by
        rw [List.getD_eq_getElem?_getD, List.getElem?_eq_getElem (by omega)]; rfl
      simp only [hg]
      exact hc i _ hl) 9 (by kernel_rfl)
    rw [run_convert_bytes_string w 27 9 5 _ n c (by kernel_rfl) (by kernel_rfl) (by kernel_rfl)] at this
    exact this
theorem zeq_run (w : World) : (binOp .eql 63 Cf.zero.val Cf.zero.val).run Try.prog w = .ok (.bool true) w := by
  unfold Cf.val
  rw [run_eql_struct]
  have : ((Op.equalIn 10000 63 Cf.zero.val Cf.zero.val).run Try.prog w) = .ok true w := by kernel_rfl
  unfold Cf.val at this
  rw [this]; rfl
theorem zgd_run (x y : Operand) (w : World) : (eqGuard .eql 63 x y Cf.zero.val Cf.zero.val).run Try.prog w = .ok () w := run_eqGuard_agg w _ _ _ _ _ _ (by kernel_rfl)
/-- ImageAny tells true. -/
theorem any_c (p : Part) (w : World) (hp6 : p.n ≤ 6000 → PAt w p) (hB : IsB p.l) : Calls Try.prog 7 #[p.val] w fun e w' => e = .returned (.bool true) ∧ Ext w w' := by
  refine J.enter Try.func7 rfl [] [.one (.v p.val)] 60 (known_nil w) ?_
  have fin0 : ∀ {u w1 : World}, Rel [] u w1 → Ext u w1 := fun hr => hr.ext' (fun x hx => by cases hx)
  by_cases h6 : p.n > 6000
  · refine J.brt (decide ((p.n : Int) > 6000)) (decide_eq_true (by omega)) ?_
    refine J.call Try.func29 [] [] (fun w1 _ hr1 => ?_)
    refine (live_c w1).mono ?_
    rintro e w2 ⟨rfl, hx⟩
    refine ⟨.one (.v (.bool true)), _, rfl, rfl, known_nil _, ?_⟩
    exact J.ret (.one (.v (.bool true))) [] (fun w3 _ hr3 => ⟨rfl, ((fin0 hr1).trans hx).trans (fin0 hr3)⟩)
  have hp : PAt w p := hp6 (by omega)
  refine J.brf (decide ((p.n : Int) > 6000)) (decide_eq_false (by omega)) ?_
  refine J.call Try.func30 [.one (.v p.val)] [] (fun w1 hk1 hr1 => ?_)
  have hx1 : Ext w w1 := fin0 hr1
  refine (load_c p w1 (hp.ext hx1) hB).mono ?_
  rintro e w2 ⟨hx, ⟨er, her, rfl, -⟩ | ⟨c, g, O, ms, rfl, hck, hmem, hms, hl, h0, hBC, hO⟩⟩
  · have hx2 := hx1.trans hx
    refine ⟨.tup [(false, [.v (.pointer none)]), (true, zCf), (false, [.v (.int .i64 er)])], _, rfl, rfl, known_nil _, ?_⟩
    refine J.new 63 zCf [] (fun g4 hg4 _ => ?_)
    have same : ∀ {u w1 : World}, Known [⟨g4, 63, zCf⟩] u → Known [⟨g4, 63, zCf⟩] w1 → Rel [⟨g4, 63, zCf⟩] u w1 → Ext u w1 := fun h hk hr => hr.ext' (mem1 (.inr ((hk.get 0 rfl).trans (h.get 0 rfl).symm)))
    refine J.call Try.func31 [.one (.v (.int .i64 er))] [⟨g4, 63, zCf⟩] (fun w3 hk3 hr3 => ?_)
    have hx3 := hx2.rel' hr3 (mem1 (.inl (Nat.le_trans hx2.1 hg4)))
    refine (code_c er w3).mono ?_
    rintro e w4 ⟨rfl, hx⟩
    have hx4 := hx3.trans hx
    have hk4 := hx.known hk3
    refine ⟨.one (.v (.int .i64 er)), _, rfl, rfl, hk4, ?_⟩
    refine J.brt (er != 0) (by rcases her with rfl | rfl <;> rfl) ?_
    refine J.cmp true [⟨g4, 63, zCf⟩] (op := .eql) (T := 63) (u := .agg zCf) (v := .agg zCf) (fun x y w => zgd_run x y w) (fun w => zeq_run w) ?_
    refine J.call Try.func31 [.one (.v (.int .i64 er))] [⟨g4, 63, zCf⟩] (fun w5 hk5 hr5 => ?_)
    have hx5 := hx4.trans (same hk4 hk5 hr5)
    refine (code_c er w5).mono ?_
    rintro e w6 ⟨rfl, hx⟩
    have hx6 := hx5.trans hx
    have hk6 := hx.known hk5
    refine ⟨.one (.v (.int .i64 er)), _, rfl, rfl, hk6, ?_⟩
    rcases her with rfl | rfl
    · refine J.lit 32 ((13 : Int) == 13) true rfl ?_
      refine J.call Try.func29 [] [⟨g4, 63, zCf⟩] (fun w7 hk7 hr7 => ?_)
      have hx7 := hx6.trans (same hk6 hk7 hr7)
      refine (live_c w7).mono ?_
      rintro e w8 ⟨rfl, hx⟩
      have hx8 := hx7.trans hx
      have hk8 := hx.known hk7
      refine ⟨.one (.v (.bool true)), _, rfl, rfl, hk8, ?_⟩
      exact J.ret (.one (.v (.bool true))) [⟨g4, 63, zCf⟩] (fun w9 hk9 hr9 => ⟨rfl, hx8.trans (same hk8 hk9 hr9)⟩)
    · refine J.lit 32 ((14 : Int) == 13) false rfl ?_
      refine J.call Try.func31 [.one (.v (.int .i64 14))] [⟨g4, 63, zCf⟩] (fun w5b hk5b hr5b => ?_)
      have hx5b := hx6.trans (same hk6 hk5b hr5b)
      refine (code_c 14 w5b).mono ?_
      rintro e w6b ⟨rfl, hx⟩
      have hx6b := hx5b.trans hx
      have hk6b := hx.known hk5b
      refine ⟨.one (.v (.int .i64 14)), _, rfl, rfl, hk6b, ?_⟩
      refine J.lit 38 ((14 : Int) == 14) true rfl ?_
      refine J.call Try.func29 [] [⟨g4, 63, zCf⟩] (fun w7 hk7 hr7 => ?_)
      have hx7 := hx6b.trans (same hk6b hk7 hr7)
      refine (live_c w7).mono ?_
      rintro e w8 ⟨rfl, hx⟩
      have hx8 := hx7.trans hx
      have hk8 := hx.known hk7
      refine ⟨.one (.v (.bool true)), _, rfl, rfl, hk8, ?_⟩
      exact J.ret (.one (.v (.bool true))) [⟨g4, 63, zCf⟩] (fun w9 hk9 hr9 => ⟨rfl, hx8.trans (same hk8 hk9 hr9)⟩)
  · have hx2 := hx1.trans hx
    have hF := cf_fits hck
    have hFm := hF.members; have hFa := hF.all2
    obtain ⟨M, n, hLR, hn, hMl, hMz, hdl⟩ := laid_dump hck hmem hms hl h0
    rw [hLR] at hBC
    replace hBC : BusC w2 g O M n := hBC
    refine ⟨.tup [(false, [.v (.pointer (some ⟨g, 0, none⟩))]), (true, c.cs), (false, [.v (.int .i64 0)])], _, rfl, rfl, known_nil _, ?_⟩
    refine J.new 63 zCf [] (fun g4 hg4 _ => ?_)
    have same : ∀ {u w1 : World}, Known [⟨g4, 63, c.cs⟩] u → Known [⟨g4, 63, c.cs⟩] w1 → Rel [⟨g4, 63, c.cs⟩] u w1 → Ext u w1 := fun h hk hr => hr.ext' (mem1 (.inr ((hk.get 0 rfl).trans (h.get 0 rfl).symm)))
    refine J.call Try.func31 [.one (.v (.int .i64 0))] [⟨g4, 63, c.cs⟩] (fun w3 hk3 hr3 => ?_)
    have hx23 : Ext w2 w3 := hr3.ext' (mem1 (.inl hg4))
    refine (code_c 0 w3).mono ?_
    rintro e w4 ⟨rfl, hx⟩
    have hx24 := hx23.trans hx
    have hk4 := hx.known hk3
    refine ⟨.one (.v (.int .i64 0)), _, rfl, rfl, hk4, ?_⟩
    refine J.brf ((0 : Int) != 0) rfl ?_
    refine J.call Try.func32 [.one (.v (.pointer (some ⟨g, 0, none⟩))), .agg c.cs] [⟨g4, 63, c.cs⟩] (fun w5 hk5 hr5 => ?_)
    have hx25 := hx24.trans (same hk4 hk5 hr5)
    have hB5 := hBC.ext hx25
    have hx5 := hx2.trans hx25
    refine (dump_c (c := c) w5 hB5 (by omega) hck hMl hMz (by rw [hdl, hp.len]; omega) (by omega) (by omega)).mono ?_
    rintro e w6 ⟨v6, n', rfl, ho6, hB6, -, -, hch⟩
    have hch0 : Chg O w5 w6 := Chg.mono hch (fun k _ h => h.1)
    rw [hdl] at ho6
    obtain ⟨q, rfl, hqn, hql, hq⟩ := ho6.part (by rw [hp.len]; omega)
    have hk6 : Known [⟨g4, 63, c.cs⟩] w6 := hk5.chg hch0 (mem1 (notO hB5 (hk5.get 0 rfl) (by show 63 ≠ _; decide) (by show 63 ≠ _; decide) (by show 63 ≠ _; decide) (by show 63 ≠ _; decide) (by show 63 ≠ _; decide)))
    have hx6 : Ext w w6 := (.mk2 (Nat.le_trans hx5.1 hch0.1) (fun k hk => (hch0.2 k (Nat.lt_of_lt_of_le hk hx5.1) (fun h => by have := hO k h; have := hx1.1; omega)).trans (hx5.2 k hk)))
    refine ⟨.tup [(false, [.v q.val]), (false, [.v (.int .i64 0)])], _, rfl, rfl, hk6, ?_⟩
    refine J.call Try.func31 [.one (.v (.int .i64 0))] [⟨g4, 63, c.cs⟩] (fun w7 hk7 hr7 => ?_)
    have hx67 := same hk6 hk7 hr7
    refine (code_c 0 w7).mono ?_
    rintro e w8 ⟨rfl, hx⟩
    have hx68 := hx67.trans hx
    have hk8 := hx.known hk7
    refine ⟨.one (.v (.int .i64 0)), _, rfl, rfl, hk8, ?_⟩
    refine J.lit 50 ((0 : Int) == 0) true rfl ?_
    have ext : ∀ {u : World}, Rel [⟨g4, 63, c.cs⟩] w8 u → Known [⟨g4, 63, c.cs⟩] u → Ext w8 u := fun hr hk => same hk8 hk hr
    refine J.str (strOfNums q.l) [⟨g4, 63, c.cs⟩] (e := 5) (by kernel_rfl) (by kernel_rfl) (by kernel_rfl) (fun u hr hk => str_run (hq.ext (hx68.trans (ext hr hk)))) ?_
    refine J.str (strOfNums p.l) [⟨g4, 63, c.cs⟩] (e := 5) (by kernel_rfl) (by kernel_rfl) (by kernel_rfl) (fun u hr hk => str_run (hp.ext (hx6.trans (hx68.trans (ext hr hk))))) ?_
    refine J.seq (T := 9) (x := strOfNums q.l) (y := strOfNums p.l) true [⟨g4, 63, c.cs⟩] (by rw [hql]; exact beq_self_eq_true _) ?_
    refine J.call Try.func29 [] [⟨g4, 63, c.cs⟩] (fun w9 hk9 hr9 => ?_)
    have hx9 := (hx6.trans hx68).trans (same hk8 hk9 hr9)
    refine (live_c w9).mono ?_
    rintro e w10 ⟨rfl, hx⟩
    have hx10 := hx9.trans hx
    have hk10 := hx.known hk9
    refine ⟨.one (.v (.bool true)), _, rfl, rfl, hk10, ?_⟩
    exact J.ret (.one (.v (.bool true))) [⟨g4, 63, c.cs⟩] (fun w11 hk11 hr11 => ⟨rfl, hx10.trans (same hk10 hk11 hr11)⟩)
theorem ext_below {w w' : World} (h : Ext w w') : Go.RowKit.Below w.heap.size w w' := ⟨congrArg (fun x => x.1) h.still, congrArg (fun x => x.2.1) h.still, congrArg (fun x => x.2.2) h.still, h.le, h.old⟩
/-- A run of the kind fits lies in a block that has such a type in it. -/
theorem leaf_row {P : Program} {fits : TypeId → Bool} : ∀ (d : Nat) (e count off n : Nat), rowAt P fits d e count off n = true → leafU P fits d e = true
  | 0, e, count, off, n, h => by unfold rowAt at h; cases h
  | d + 1, e, count, off, n, h => by
    unfold rowAt at h
    unfold leafU
    by_cases hf : fits e = true
    · rw [hf]; rfl
    · simp only [hf, Bool.and_false, Bool.false_or] at h ⊢
      split at h
      · cases h
      rw [Bool.and_eq_true] at h
      have h2 := h.2
      split at h2
      · rename_i fs hu
        rw [Bool.and_eq_true, Array.any_eq_true] at h2
        obtain ⟨i, hi, h3⟩ := h2.2
        rw [Bool.and_eq_true, Bool.and_eq_true] at h3
        rw [hu]
        exact Array.any_eq_true.2 ⟨i, hi, leaf_row d _ _ _ _ h3.2⟩
      · rename_i m t hu
        rw [hu]
        exact leaf_row d _ _ _ _ h2
      · cases h2
/-- What a call is handed: a row of bytes. -/
theorem pat_arg {W : World} {r : Reach} {base : Nat} {A : Option Addr} {c : Nat} {xs : List Int} (hv : Value.okWide Try.prog W r base 27 (.slice A xs.length c))
    (hr : 0 < xs.length → ∃ ad, A = some ad ∧ ∀ (j : Nat) (x : Int), xs[j]? = some x → W.cell? (ad.add j) = some (.int .u8 x)) (hle : xs.length ≤ 6000) : PAt W ⟨A, xs.length, c, xs⟩ := by
  have hu : Try.prog.underlying 27 = some (.slice 5) := by kernel_rfl
  unfold Value.okWide at hv
  simp only [hu] at hv
  unfold Cell.okWide at hv
  simp only [hu] at hv
  unfold Cell.ok at hv
  simp only [hu] at hv
  cases A with
  | none =>
    cases hl : xs.length with
    | zero =>
      obtain rfl : xs = [] := List.length_eq_zero_iff.1 hl
      cases c with
      | zero => exact ⟨⟨rfl, .inl rfl⟩, fun _ => rfl, by show (0 : Nat) ≤ _; omega⟩
      | succ c => exact absurd hv (by simp)
    | succ n => obtain ⟨ad, h, _⟩ := hr (by omega); cases h
  | some a =>
    refine ⟨⟨rfl, ?_⟩, (fun h => by cases h), by show xs.length ≤ _; omega⟩
    by_cases h0 : xs.length = 0
    · exact .inl h0
    refine .inr ?_
    obtain ⟨ad, ha, hc⟩ := hr (by omega)
    cases ha
    obtain ⟨_, _, hh⟩ := hv
    obtain ⟨_, hspot, row, cells, hs, hla⟩ := hh
    obtain ⟨g, o, sp⟩ := a
    replace hspot : sp = none := hspot
    subst hspot
    unfold World.shape? at hs
    split at hs <;> try (cases hs; done)
    rename_i cs elem fz hg
    cases hs
    refine ⟨g, o, cs, fz, rfl, ⟨row, ?_, hg⟩, fun i x hx => ?_⟩
    · have hd : ∃ d, Try.prog.depth = d + 1 := ⟨Try.prog.depth - 1, by have : 0 < Try.prog.depth := by decide +kernel
                                                                       omega⟩
      obtain ⟨d, hd⟩ := hd
      have hla2 := hla
      rw [show Try.prog.depth = d + 1 from hd] at hla2
      unfold liesAt at hla2
      have hu5 : Try.prog.underlying 5 = some (.int .u8) := by kernel_rfl
      simp only [hu5, Bool.or_false] at hla2
      exact leaf_row _ _ _ _ _ hla2
    · have h1 := hc i x hx
      rw [Addr.add_mid] at h1
      unfold World.cell? at h1
      rw [hg] at h1
      exact h1
theorem any_b (A : Option Addr) (c : Nat) (xs : List Int) (w : World) (hp6 : xs.length ≤ 6000 → PAt w ⟨A, xs.length, c, xs⟩) (hB : IsB xs) : Calls Try.prog 7 #[.slice A xs.length c] w fun e w' => e = .returned (.bool true) ∧ Go.RowKit.Below w.heap.size w w' := (any_c ⟨A, xs.length, c, xs⟩ w hp6 hB).mono fun e w' ⟨h, hx⟩ => ⟨h, ext_below hx⟩
end Go.Proofs.Ytlhmpmmblnbmbaa.Img
namespace Go.Proofs.Ytlhmpmmblnbmbaa.imageAny
open Go.RowKit
open Go.Proofs.YtlhmpmmblnbmbaaW.PrintWords Go.Proofs.YtlhmpmmblnbmbaaW.PrintLast Go.Proofs.YtlhmpmmblnbmbaaW.PrintMore Go.Proofs.Ytlhmpmmblnbmbaa.Open
theorem cells_of {W : World} {A : Option Addr} {xs : List Int} (h : (Kd.int .u8).C W A xs.length xs) : 0 < xs.length → ∃ ad, A = some ad ∧ ∀ (j : Nat) (x : Int), xs[j]? = some x → W.cell? (ad.add j) = some (.int .u8 x) := fun h0 => by
  obtain ⟨ad, ha, hc⟩ := h.2.2 h0
  refine ⟨ad, ha, fun j x hx => ?_⟩
  obtain ⟨c, hl, hk, hcell⟩ := hc j x hx
  obtain rfl : c = [.int .u8 x] := hk
  have h1 := hcell 0 _ rfl
  have h2 : j * (Kd.int .u8).sz + 0 = j := Nat.mul_one j
  rw [h2] at h1
  exact h1
theorem isB_of {xs : List Int} (g : xs.length ≤ maxLen ∧ ∀ y ∈ xs, (Lit.int .u8 y).wf = true) : Pck.IsB xs := fun b hb => by
  have h := g.2 b hb
  unfold Lit.wf at h
  rw [Bool.and_eq_true, decide_eq_true_eq, decide_eq_true_eq] at h
  have h1 : IntKind.min .u8 = 0 := by decide
  have h2 : IntKind.max .u8 = 255 := by decide
  rw [h1, h2] at h
  omega
end Go.Proofs.Ytlhmpmmblnbmbaa.imageAny
namespace Go.Proofs.Ytlhmpmmblnbmbaa.imageAny
open Go.ChangeShapes Go.WideShapes Go.ChangeAt Go.RowKit
open Go.ChangeMaps (open_string shut_string)
open Go.Proofs.YtlhmpmmblnbmbaaW.PrintWords Go.Proofs.YtlhmpmmblnbmbaaW.PrintLast Go.Proofs.YtlhmpmmblnbmbaaW.PrintMore Go.Proofs.Ytlhmpmmblnbmbaa.Open
set_option linter.unusedVariables false
theorem own : ownKnob Try.prog.godebug = none := by kernel_rfl
theorem laid : laidOutB Try.prog = true := by kernel_rfl
theorem reads : (Try.f7.params.toList.all fun t => Try.prog.readableRec t && decide (t < Try.prog.types.size)) = true := by kernel_rfl
set_option maxRecDepth 100000 in
set_option maxHeartbeats 4000000 in
theorem lifted (os : Os) (started : os.Started) (H : Type) (enc : TypeId × Value → H) :
    ReturnsInHanded {} Try.checked os 7 .any (Rows.imageAnySpec.pre6 enc Try.prog Try.f7 Rows.imageAnyRow.domain false) (Rows.imageAnySpec.post enc Try.prog Try.f7 false true false false) := by
  refine returnsInHanded_of_change_sized (C := Try.checked) own started (by kernel_rfl) Try.func7
    (ChangeSpec.witness6 (enc := enc) (C := Try.checked) false ⟨#[], #[.slice none 0 0], []⟩ 8 (by kernel_rfl) (by kernel_rfl) (by kernel_rfl) (by kernel_rfl)) ?_
  intro W base args ds gs before hval0 hW hcnd hsz0 _
  have hsz : (DataW.weightsEach Try.prog (Try.f7.params.toList ++ Rows.imageAnySpec.plain.varTypes Try.prog) (ds ++ gs)).all (· ≤ reachBytes) = true := hsz0
  have hval : ∀ (j : Nat) t v, Try.f7.params[j]? = some t → args[j]? = some v → Value.okWide Try.prog W .any base t v := hval0
  have hW' := hW
  obtain ⟨p, q, hA0, hV, rfl, hfz, hnd⟩ := hW
  have hA : DataW.TrodAll enc Try.prog W 0 (fun _ => true) true Try.f7.params.toList args.toList ds p := hA0
  have hA2 := hA
  rw [Try.params7] at hA hval hsz
  obtain ⟨v0, vs0, d0, ds0, p0, q0, hargs, rfl, rfl, h0, r0⟩ := trodAll_cons hA
  obtain ⟨rfl, rfl, rfl⟩ := trodAll_nil r0
  obtain rfl : args = #[v0] := by cases args; simp_all
  obtain ⟨rfl, rfl⟩ := trodVars_none hV
  obtain ⟨a0, A0, c0, rfl, hc0, hr0, g0⟩ := arg_slice Try.underlying27 o27 (hval 0 27 v0 rfl rfl) h0
  clear hA0 hval0 hsz0 hsz
  refine (Img.any_b A0 c0 a0 W (fun h => Img.pat_arg (hval 0 27 _ rfl rfl) (cells_of hr0) h) (isB_of g0)).mono fun e W' ⟨he, bel⟩ => ?_
  subst he
  exact ⟨_, rfl, _, _, _, [], _, [], hW', trodAll_mk1 (shut_bool Try.underlying4 _), args_stay laid reads hA2 bel, rfl, bel.frame _, fun h => by cases h⟩
theorem over : Rows.imageAnyRow.holds Try.pinned (OpenSpec.ofChange Rows.imageAnySpec) :=
  OpenClaim.holds_of_wide 7 Try.f7 rfl rfl rfl rfl rfl rfl rfl ⟨rfl, rfl, rfl, rfl, rfl⟩ rfl rfl rfl rfl rfl (by kernel_rfl) Try.func7 (by kernel_rfl)
    (of_decide_eq_true (by kernel_rfl)) (by unfold Func.isWrapper; first | (rw [if_pos (by decide +kernel)]; kernel_rfl) | (rw [if_neg (by decide +kernel)]; exact ⟨rfl, rfl⟩))
    (fun os started H enc _ => lifted os started H enc)
theorem proved : Rows.ImageAnySaid := over
#print axioms proved
end Go.Proofs.Ytlhmpmmblnbmbaa.imageAny
namespace Go.Proofs.Ytlhmpmmblnbmbaa
/-- The row, under a short name, for the claim. -/
theorem imageAny_holds : Rows.ImageAnySaid := imageAny.proved
end Go.Proofs.Ytlhmpmmblnbmbaa
