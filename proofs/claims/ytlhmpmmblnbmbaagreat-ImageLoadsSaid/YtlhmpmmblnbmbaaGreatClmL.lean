/- The row of ImageLoads: behind any call the law told true, and all that was handed in reads as it did. Written by openrow.py, this work's own program. -/
import Derived.Test.YtlhmpmmblnbmbaaGreatClmL5
import Derived.Test.YtlhmpmmblnbmbaaGreatRows
import Derived.WalkKit
import Derived.ProofKit
import Derived.OpenShut
import Derived.ShutString
import Derived.ChangeOld
import Derived.Below
import Derived.SizedLaws
set_option linter.unusedVariables false
set_option linter.unusedSimpArgs false
namespace Go.Proofs.YtlhmpmmblnbmbaaGreat.Sx
open Go.RowKit
section
variable {P : Program} {n : Nat} {w0 : World}
theorem cmp_run {S : List (Nat × SV)} {L : List Blk} {a : Act} (hS : Slots n L S a) {o : Oper} {op : BinOp} {T : Nat} {u v : SV} {b : Bool} (h : cmpAt S o = some (op, T, u, v)) (w : World) (hg : ∀ x y w, (eqGuard op T x y (u.den L) (v.den L)).run P w = .ok () w) (hz : ∀ w, (binOp op T (u.den L) (v.den L)).run P w = .ok (.bool b) w) : (execOp a.eval o).run P w = .ok (.value (.bool b)) w := by
  unfold cmpAt at h
  split at h <;> try (cases h; done)
  rename_i op' T' x y T2 hop
  split at h <;> try (cases h; done)
  rename_i u' v' hu hv
  cases h
  have ex : a.eval x = u.den _ := opd_ok hS hu
  have ey : a.eval y = v.den _ := opd_ok hS hv
  unfold execOp
  simp only [hop, ex, ey, Sem.run_bind, hg, Result.andThen_ok, hz]
  rfl
theorem Y.cmp {L : List Blk} {E : Oper → List (Nat × SV)} {ops : Array Oper} {k : Nat} {op : BinOp} {T : Nat} {u v : SV} (b : Bool) (hg : ∀ x y w, (eqGuard op T x y (u.den L) (v.den L)).run P w = .ok () w) (hz : ∀ w, (binOp op T (u.den L) (v.den L)).run P w = .ok (.bool b) w)
    (h : (ops[k]?).bind (fun o => cmpAt (E o) o) = some (op, T, u, v) := by kernel_rfl) : YAt P n L E ops k (.one (.lit b)) w0 := ⟨fun o ho => by
  rw [ho] at h
  exact Yields.run fun a w hS _ _ => cmp_run hS h w hg hz⟩
theorem Y.seq {L : List Blk} {E : Oper → List (Nat × SV)} {ops : Array Oper} {k T : Nat} {x y : ByteArray} (b : Bool) (hb : (x.toList == y.toList) = b)
    (h : (ops[k]?).bind (fun o => cmpAt (E o) o) = some (.eql, T, .one (.v (.string x)), .one (.v (.string y))) := by kernel_rfl) : YAt P n L E ops k (.one (.lit b)) w0 :=
  Y.cmp b (fun u v w => by show (eqGuard _ _ _ _ (.string x) (.string y)).run P w = _; simp [eqGuard, Sem.run_bind]) (fun w => by show (binOp .eql T (.string x) (.string y)).run P w = _; rw [binOp_string_eql, hb]; rfl) h
/-- A row of bytes as a string. -/
theorem Y.str {L : List Blk} {E : Oper → List (Nat × SV)} {ops : Array Oper} {i src dst k c : Nat} {A : Option Addr} (x : ByteArray) (hx : ∀ w, Rel L w0 w → Known L w → (convert src dst (.slice A k c)).run P w = .ok (.string x) w)
    (h : (ops[i]?).bind (fun o => cvAt (E o) o) = some (src, dst, .one (.v (.slice A k c))) := by kernel_rfl) : YAt P n L E ops i (.one (.v (.string x))) w0 := ⟨fun o ho => by
  rw [ho] at h
  refine Yields.run fun a w hS hK hR => ?_
  replace h : cvAt (E o) o = _ := h
  unfold cvAt at h
  split at h <;> try (cases h; done)
  rename_i s' d' x' hop
  obtain ⟨v, hv, e⟩ := Option.map_eq_some_iff.1 h
  cases e
  have ex : a.eval x' = .slice A k c := opd_ok hS hv
  unfold execOp
  simp only [hop, ex, Sem.run_bind, hx w hR hK, Result.andThen_ok]
  rfl⟩
def cvkAt (o : Oper) : Option (Nat × Nat × Nat) := match o.op with
  | .convert s d (.tmp k) => some (s, d, k)
  | _ => none
/-- A conversion of what a fact tells of. -/
theorem UAt.cvO {L : List Blk} {G : World → World → Prop} {ls : List (Nat × Loud)} {S : Oper → List (Nat × SV)} {D : Oper → List (Nat × Pred)} {ops : Array Oper} {i : Nat} {wb : World} (src dst k : Nat) (p : Pred) (r : Value) (hl : lookL ls i = none) (hp : ∀ v w, p v w → (convert src dst v).run P w = .ok r w)
    (ho : (ops[i]?).bind cvkAt = some (src, dst, k) := by kernel_rfl) (hd : (ops[i]?).bind (fun o => lookO (D o) k) = some p := by kernel_rfl) : UAt P n L G ls S D ops i (fun x _ => x = r) wb := .run fun o hop a w hS hK hG hU hdep => by
  rw [hop] at ho hd
  replace ho : cvkAt o = _ := ho
  replace hd : lookO (D o) k = _ := hd
  have h1 := hp _ _ (hdep k _ (lookO_mem hd))
  refine ⟨r, w, ?_, ?_, rfl⟩
  · unfold cvkAt at ho
    split at ho <;> try (cases ho; done)
    rename_i s d k' hopc
    cases ho
    have ex : a.eval (.tmp k) = a.tmps.getD k undef := rfl
    unfold execOp
    simp only [hopc, ex, Sem.run_bind, h1, Result.andThen_ok]
    rfl
  · unfold loudE
    rw [hl]
    exact Ext.refl w
end
end Go.Proofs.YtlhmpmmblnbmbaaGreat.Sx
set_option linter.unusedVariables false
set_option linter.unusedSimpArgs false
set_option maxRecDepth 100000
namespace Go.Proofs.YtlhmpmmblnbmbaaGreat.Doc
open Go.Proofs.YtlhmpmmblnbmbaaGreat.Sx Go.Proofs.YtlhmpmmblnbmbaaGreat.Zon Go.Proofs.YtlhmpmmblnbmbaaGreat.Byt Go.Proofs.YtlhmpmmblnbmbaaGreat.Dev Go.Proofs.YtlhmpmmblnbmbaaGreat.Pck Go.Proofs.YtlhmpmmblnbmbaaGreat.Bus Go.Proofs.YtlhmpmmblnbmbaaGreat.Cnf Go.Lib
open Go.Proofs.YtlhmpmmblnbmbaaGreat.Img (dumpL mb zb hb rightE zlk text_c)
theorem look_fs : (Tryz.prog.fieldsOf 53).toList.map (fun f => (f.name == "_", f.type, f.offset)) = [(false, 3, 0), (false, 3, 1), (false, 4, 2)] := by kernel_rfl
theorem conf_fs : (Tryz.prog.fieldsOf 23).toList.map (fun f => (f.name == "_", f.type, f.offset)) = [(false, 3, 0), (false, 3, 1), (false, 3, 2), (false, 3, 3), (false, 3, 4), (false, 3, 5), (false, 3, 6), (false, 3, 7), (false, 3, 8), (false, 3, 9), (false, 3, 10)] := by kernel_rfl
theorem eqF {P : Program} (d : Nat) (xs ys : Array Value) : ∀ (fs : List Field) (l : List (Nat × Nat × Value × Value × Bool)) (w : World), fs.map (fun f => (f.name == "_", f.type, f.offset)) = l.map (fun x => (false, x.1, x.2.1)) → (∀ x ∈ l, ∀ u, (part x.1 xs x.2.1).run P u = .ok x.2.2.1 u ∧ (part x.1 ys x.2.1).run P u = .ok x.2.2.2.1 u ∧ (Op.equalIn d x.1 x.2.2.1 x.2.2.2.1).run P u = .ok x.2.2.2.2 u) → (Op.eqFields d xs ys fs).run P w = .ok (l.all (fun x => x.2.2.2.2)) w
  | [], [], w, _, _ => by simp [Op.eqFields]
  | [], _ :: _, w, h, _ => by simp at h
  | _ :: _, [], w, h, _ => by simp at h
  | f :: fs, x :: l, w, h, hp => by
    simp only [List.map_cons, List.cons.injEq, Prod.mk.injEq] at h
    obtain ⟨⟨h1, h2, h3⟩, h4⟩ := h
    obtain ⟨p1, p2, p3⟩ := hp x List.mem_cons_self w
    have ih := eqF d xs ys fs l w h4 (fun y hy => hp y (List.mem_cons_of_mem _ hy))
    have hn : f.name ≠ "_" := by simpa using h1
    simp only [Op.eqFields, hn, ne_eq, not_false_eq_true, if_true, h2, h3, Sem.run_bind, p1, p2, p3, Result.andThen_ok, List.all_cons]
    cases x.2.2.2.2
    · simp
    · simp [ih]
theorem intEq (a b : Int) (w : World) : (Op.equalIn 9999 3 (.int .i64 a) (.int .i64 b)).run Tryz.prog w = .ok (a == b) w := run_equalIn_int w 9998 3 .i64 .i64 a b (by kernel_rfl)
theorem lookEq (a b : Int) (d : Bool) (a' b' : Int) (d' : Bool) (w : World) : (Op.equalIn 10000 53 (.agg #[.int .i64 a, .int .i64 b, .bool d]) (.agg #[.int .i64 a', .int .i64 b', .bool d'])).run Tryz.prog w = .ok (a == a' && (b == b' && d == d')) w := by
  rw [run_equalIn_agg w 9999 _ _ _ (by kernel_rfl) (by kernel_rfl)]
  rw [eqF 9999 _ _ _ [(3, 0, .int .i64 a, .int .i64 a', a == a'), (3, 1, .int .i64 b, .int .i64 b', b == b'), (4, 2, .bool d, .bool d', d == d')] w look_fs (fun x hx u => by
    simp only [List.mem_cons, List.not_mem_nil, or_false] at hx
    rcases hx with rfl | rfl | rfl
    · exact ⟨by kernel_rfl, by kernel_rfl, intEq _ _ u⟩
    · exact ⟨by kernel_rfl, by kernel_rfl, intEq _ _ u⟩
    · exact ⟨by kernel_rfl, by kernel_rfl, run_equalIn_bool' u 9998 4 d d' (by kernel_rfl)⟩)]
  simp
theorem confEq (c : Cf) (w : World) : (Op.equalIn 10000 23 c.val c.val).run Tryz.prog w = .ok true w := by
  unfold Cf.val
  rw [run_equalIn_agg w 9999 _ _ _ (by kernel_rfl) (by kernel_rfl)]
  rw [eqF 9999 _ _ _ [(3, 0, .int .i64 c.id, .int .i64 c.id, true), (3, 1, .int .i64 c.members, .int .i64 c.members, true), (3, 2, .int .i64 c.unit, .int .i64 c.unit, true), (3, 3, .int .i64 c.block, .int .i64 c.block, true), (3, 4, .int .i64 c.cap, .int .i64 c.cap, true), (3, 5, .int .i64 c.zones, .int .i64 c.zones, true), (3, 6, .int .i64 c.spare, .int .i64 c.spare, true), (3, 7, .int .i64 c.mta, .int .i64 c.mta, true), (3, 8, .int .i64 c.opn, .int .i64 c.opn, true), (3, 9, .int .i64 c.active, .int .i64 c.active, true), (3, 10, .int .i64 c.limit, .int .i64 c.limit, true)] w conf_fs (fun x hx u => by
    simp only [List.mem_cons, List.not_mem_nil, or_false] at hx
    rcases hx with rfl | rfl | rfl | rfl | rfl | rfl | rfl | rfl | rfl | rfl | rfl <;> exact ⟨by kernel_rfl, by kernel_rfl, by rw [intEq]; simp⟩)]
  rfl
theorem bneq_run (a b : Bool) (w : World) : (binOp .neq 4 (.bool a) (.bool b)).run Tryz.prog w = .ok (.bool (a != b)) w := by
  cases a <;> cases b <;> kernel_rfl
theorem bguard (a b : Bool) (x y : Operand) (w : World) : (eqGuard .neq 4 x y (.bool a) (.bool b)).run Tryz.prog w = .ok () w := by simp [eqGuard]
theorem map_inj8 : ∀ {a b : List Int}, IsB a → IsB b → a.map (fun n => UInt8.ofNat n.toNat) = b.map (fun n => UInt8.ofNat n.toNat) → a = b
  | [], [], _, _, _ => rfl
  | [], _ :: _, _, _, h => by cases h
  | _ :: _, [], _, _, h => by cases h
  | x :: a, y :: b, ha, hb, h => by
    simp only [List.map_cons, List.cons.injEq] at h
    obtain ⟨h1, h2⟩ := h
    have e1 := congrArg UInt8.toNat h1
    have q1 : (UInt8.ofNat x.toNat).toNat = x.toNat % 256 := UInt8.toNat_ofNat'
    have q2 : (UInt8.ofNat y.toNat).toNat = y.toNat % 256 := UInt8.toNat_ofNat'
    rw [q1, q2] at e1
    have hx := ha x List.mem_cons_self
    have hy := hb y List.mem_cons_self
    rw [map_inj8 (fun z hz => ha z (List.mem_cons_of_mem _ hz)) (fun z hz => hb z (List.mem_cons_of_mem _ hz)) h2, show x = y by omega]
theorem str_eq {a b : List Int} (ha : IsB a) (hb : IsB b) : ((strOfNums a).toList == (strOfNums b).toList) = decide (a = b) := by
  rw [Go.ByteArray.toList_eq, Go.ByteArray.toList_eq, strOfNums_data, strOfNums_data]
  by_cases h : a = b
  · subst h; simp
  · rw [decide_eq_false h]
    refine Bool.eq_false_iff.2 (fun hc => h (map_inj8 ha hb (by simpa using hc)))
theorem equal_c (p q : Part) (w : World) (hp : PAt w p) (hq : PAt w q) (hpB : IsB p.l) (hqB : IsB q.l) : Calls Tryz.prog 72 #[p.val, q.val] w fun e w' => e = .returned (.bool (decide (p.l = q.l))) ∧ Ext w w' := by
  refine J.enter Tryz.func72 rfl [] [.one (.v p.val), .one (.v q.val)] 10 (known_nil w) ?_
  have fin : ∀ {w1 : World}, Rel [] w w1 → Ext w w1 := fun hr => hr.ext' (fun b hb => by cases hb)
  refine J.str (strOfNums p.l) [] (e := 5) (by kernel_rfl) (by kernel_rfl) (by kernel_rfl) (fun u hr hk => str_run (hp.ext (fin hr))) ?_
  refine J.str (strOfNums q.l) [] (e := 5) (by kernel_rfl) (by kernel_rfl) (by kernel_rfl) (fun u hr hk => str_run (hq.ext (fin hr))) ?_
  refine J.seq (T := 9) (x := strOfNums p.l) (y := strOfNums q.l) (decide (p.l = q.l)) [] (str_eq hpB hqB) ?_
  exact J.ret (.one (.lit (decide (p.l = q.l)))) [] (fun w1 _ hr => ⟨rfl, fin hr⟩)
theorem BusC.apart {w w' : World} {g : Nat} {O : Nat → Prop} {M : List Dc} {n : Int} {S : Nat → Prop} (h : BusC w g O M n) (hx : Chg S w w') (h1 : ∀ k, S k → ¬ O k) (h2 : ∀ (k : Nat) (cs : Array Value) (fz : Nat × Nat), S k → U8 w k cs fz → False) : BusC w' g O M n := by
  obtain ⟨B, hB⟩ := h
  have no : ∀ {k : Nat}, B.own g k → ¬ S k := fun hk hs => h1 _ hs ((hB.own _).2 hk)
  have hb := hB.bus
  have hm : ∀ m ∈ B.ms, DevAt w' m.gd m.gz m.cap m.d := fun m hm => DevAt.chg (hb.mem m hm) hx (no (.inr (.inr (.inr (.inr ⟨m, hm, .inl rfl⟩))))) (no (.inr (.inr (.inr (.inr ⟨m, hm, .inr rfl⟩))))) h2
  exact ⟨B, { hB with bus := { hb with bus := hx.blk hb.bus (no (.inl rfl)), ptrs := hb.ptrs.chg hx (no (.inr (.inl rfl))), times := hb.times.chg hx (no (.inr (.inr (.inl rfl)))), turns := hb.turns.chg hx (no (.inr (.inr (.inr (.inl rfl))))), mem := hm } }⟩
theorem samez_c {ga gb : Nat} {Oa Ob : Nat → Prop} {Ma Mb : List Dc} {na nb : Int} (w : World) (ha : BusC w ga Oa Ma na) (hb : BusC w gb Ob Mb nb) (hap : ∀ k, Oa k → Ob k → False) (hna : na ≤ 2000000000) (hnb : nb ≤ 2000000000) (hla : Ma.length ≤ 1000000) (hlb : Mb.length ≤ 1000000) (i j : Nat) {a b : Dc} (hia : Ma[i]? = some a) (hib : Mb[i]? = some b) (hra : a.right j = 0) (hrb : b.right j = 0) {x y : Zc} (hx : a.zs[j]? = some x) (hy : b.zs[j]? = some y) :
    Calls Tryz.prog 40 #[.pointer (some ⟨ga, 0, none⟩), .pointer (some ⟨gb, 0, none⟩), .int .i64 (i : Nat), .int .i64 (j : Nat)] w fun e w' => ∃ B : Bool, e = .returned (.bool B) ∧ (B = true ↔ SameZ x y) ∧ (∃ n', n' ≤ na + 1 ∧ BusC w' ga Oa Ma n') ∧ (∃ n', n' ≤ nb + 1 ∧ BusC w' gb Ob Mb n') ∧ Chg (fun k => Oa k ∨ Ob k) w w' := by
  refine J.enter Tryz.func40 rfl [] [.one (.v (.pointer (some ⟨ga, 0, none⟩))), .one (.v (.pointer (some ⟨gb, 0, none⟩))), .one (.v (.int .i64 (i : Nat))), .one (.v (.int .i64 (j : Nat)))] 66 (known_nil w) ?_
  have nil0 : ∀ {u w1 : World}, Rel [] u w1 → Ext u w1 := fun hr => hr.ext' (fun b hb => by cases hb)
  refine J.call Tryz.func24 [.one (.v (.pointer (some ⟨ga, 0, none⟩))), .one (.v (.int .i64 (i : Nat))), .one (.v (.int .i64 (j : Nat)))] [] (fun w1 hk1 hr1 => ?_)
  have hx1 := nil0 hr1
  refine (c_look (ha.ext hx1) i j hia).mono ?_
  rintro e w2 ⟨hxx, ⟨h, -⟩ | ⟨z, -, hz, rfl⟩⟩
  · exact absurd hra h
  rw [hx] at hz; cases hz
  have hx2 := hx1.trans hxx
  refine ⟨.tup [(true, Img.Zc.cs x), (false, [.v (.bool true)])], _, rfl, rfl, known_nil _, ?_⟩
  refine J.new 53 zlk [] (fun g9 hg9 _ => ?_)
  have h9 : w.heap.size ≤ g9 := Nat.le_trans hx2.1 hg9
  refine J.call Tryz.func24 [.one (.v (.pointer (some ⟨gb, 0, none⟩))), .one (.v (.int .i64 (i : Nat))), .one (.v (.int .i64 (j : Nat)))] [⟨g9, 53, Img.Zc.cs x⟩] (fun w3 hk3 hr3 => ?_)
  have hx3 : Ext w w3 := hx2.rel' hr3 (mem1 (.inl h9))
  refine (c_look (hb.ext hx3) i j hib).mono ?_
  rintro e w4 ⟨hxx, ⟨h, -⟩ | ⟨z, -, hz, rfl⟩⟩
  · exact absurd hrb h
  rw [hy] at hz; cases hz
  have hx4 := hx3.trans hxx
  have hk4 := hxx.known hk3
  refine ⟨.tup [(true, Img.Zc.cs y), (false, [.v (.bool true)])], _, rfl, rfl, hk4, ?_⟩
  refine J.new 53 zlk [⟨g9, 53, Img.Zc.cs x⟩] (fun g11 hg11 hn11 => ?_)
  have h11 : w.heap.size ≤ g11 := Nat.le_trans hx4.1 hg11
  have fin : ∀ {u w1 : World} {c1 c2 : List C}, Ext w u → Rel [⟨g9, 53, c1⟩, ⟨g11, 53, c2⟩] u w1 → Ext w w1 := fun hx hr => hx.rel' hr (mem2 (.inl h9) (.inl h11))
  have same : ∀ {u w1 : World}, Known [⟨g9, 53, Img.Zc.cs x⟩, ⟨g11, 53, Img.Zc.cs y⟩] u → Known [⟨g9, 53, Img.Zc.cs x⟩, ⟨g11, 53, Img.Zc.cs y⟩] w1 → Rel [⟨g9, 53, Img.Zc.cs x⟩, ⟨g11, 53, Img.Zc.cs y⟩] u w1 → Ext u w1 := fun h hk hr => hr.ext' (mem2 (.inr ((hk.get 0 rfl).trans (h.get 0 rfl).symm)) (.inr ((hk.get 1 rfl).trans (h.get 1 rfl).symm)))
  refine J.cmp false [⟨g9, 53, Img.Zc.cs x⟩, ⟨g11, 53, Img.Zc.cs y⟩] (op := .neq) (T := 4) (u := .one (.v (.bool true))) (v := .one (.v (.bool true))) (fun x y w => bguard true true x y w) (fun w => bneq_run true true w) ?_
  have hgd : ∀ (o1 o2 : Operand) (u : World), (eqGuard .neq 53 o1 o2 (SV.den [⟨g9, 53, Img.Zc.cs x⟩, ⟨g11, 53, Img.Zc.cs y⟩] (.agg (Img.Zc.cs x))) (SV.den [⟨g9, 53, Img.Zc.cs x⟩, ⟨g11, 53, Img.Zc.cs y⟩] (.agg (Img.Zc.cs y)))).run Tryz.prog u = .ok () u := fun o1 o2 u => run_eqGuard_agg u _ _ _ _ _ _ (by kernel_rfl)
  have hne : ∀ (u : World), (binOp .neq 53 (SV.den [⟨g9, 53, Img.Zc.cs x⟩, ⟨g11, 53, Img.Zc.cs y⟩] (.agg (Img.Zc.cs x))) (SV.den [⟨g9, 53, Img.Zc.cs x⟩, ⟨g11, 53, Img.Zc.cs y⟩] (.agg (Img.Zc.cs y)))).run Tryz.prog u = .ok (.bool (!(x.wp == y.wp && (x.safe == y.safe && x.done == y.done)))) u := fun u => by
    show (binOp .neq 53 (.agg #[.int .i64 x.wp, .int .i64 x.safe, .bool x.done]) (.agg #[.int .i64 y.wp, .int .i64 y.safe, .bool y.done])).run Tryz.prog u = _
    rw [run_neq_struct, lookEq]; rfl
  by_cases hL : x.wp = y.wp ∧ x.safe = y.safe ∧ x.done = y.done
  rotate_left
  · refine J.cmp true [⟨g9, 53, Img.Zc.cs x⟩, ⟨g11, 53, Img.Zc.cs y⟩] (op := .neq) (T := 53) (u := .agg (Img.Zc.cs x)) (v := .agg (Img.Zc.cs y)) hgd (fun u => by
      rw [hne]
      have : (x.wp == y.wp && (x.safe == y.safe && x.done == y.done)) = false := by
        refine Bool.eq_false_iff.2 (fun h => hL ?_)
        simpa using h
      rw [this]; rfl) ?_
    refine J.ret (.one (.lit false)) [⟨g9, 53, Img.Zc.cs x⟩, ⟨g11, 53, Img.Zc.cs y⟩] (fun w5 hk5 hr5 => ?_)
    have hx5 := fin hx4 hr5
    exact ⟨false, rfl, ⟨fun h => (by cases h), fun h => absurd ⟨h.1, h.2.1, h.2.2.1⟩ hL⟩, ⟨na, by omega, ha.ext hx5⟩, ⟨nb, by omega, hb.ext hx5⟩, .of_ext hx5⟩
  refine J.cmp false [⟨g9, 53, Img.Zc.cs x⟩, ⟨g11, 53, Img.Zc.cs y⟩] (op := .neq) (T := 53) (u := .agg (Img.Zc.cs x)) (v := .agg (Img.Zc.cs y)) hgd (fun u => by
    rw [hne]
    have : (x.wp == y.wp && (x.safe == y.safe && x.done == y.done)) = true := by simpa using hL
    rw [this]; rfl) ?_
  have kn : ∀ {u v : World} {g : Nat} {O S : Nat → Prop} {M : List Dc} {n : Int}, BusC u g O M n → Chg S u v → (∀ k, S k → O k) → Known [⟨g9, 53, Img.Zc.cs x⟩, ⟨g11, 53, Img.Zc.cs y⟩] u → Known [⟨g9, 53, Img.Zc.cs x⟩, ⟨g11, 53, Img.Zc.cs y⟩] v := fun hb hc hS hk => hk.chg (Chg.mono hc (fun k _ h => hS k h)) (mem2 (Img.notO hb (hk.get 0 rfl) (by show 53 ≠ _; decide) (by show 53 ≠ _; decide) (by show 53 ≠ _; decide) (by show 53 ≠ _; decide) (by show 53 ≠ _; decide)) (Img.notO hb (hk.get 1 rfl) (by show 53 ≠ _; decide) (by show 53 ≠ _; decide) (by show 53 ≠ _; decide) (by show 53 ≠ _; decide) (by show 53 ≠ _; decide)))
  refine J.call Tryz.func25 [.one (.v (.pointer (some ⟨ga, 0, none⟩))), .one (.v (.int .i64 (i : Nat))), .one (.v (.int .i64 (j : Nat))), .agg (Img.Zc.cs x)] [⟨g9, 53, Img.Zc.cs x⟩, ⟨g11, 53, Img.Zc.cs y⟩] (fun w5 hk5 hr5 => ?_)
  have hx5 := fin hx4 hr5
  have ha5 := ha.ext hx5
  have hb5 := hb.ext hx5
  refine (text_c ha5 (by omega) hla i j hia hra hx).mono ?_
  rintro e w6 ⟨p, rfl, hp, hpl, ⟨n6, -, hn6, ha6⟩, hc6⟩
  have hk6 := kn ha5 hc6 (fun k h => h.1) hk5
  have hb6 := BusC.apart hb5 hc6 (fun k h ho => hap k h.1 ho) (fun k cs fz h => ha5.far k cs fz h.1)
  refine ⟨.tup [(false, [.v p.val]), (false, [.v (.int .i64 0)])], _, rfl, rfl, hk6, ?_⟩
  refine J.call Tryz.func25 [.one (.v (.pointer (some ⟨gb, 0, none⟩))), .one (.v (.int .i64 (i : Nat))), .one (.v (.int .i64 (j : Nat))), .agg (Img.Zc.cs y)] [⟨g9, 53, Img.Zc.cs x⟩, ⟨g11, 53, Img.Zc.cs y⟩] (fun w7 hk7 hr7 => ?_)
  have hx67 := same hk6 hk7 hr7
  have ha7 := ha6.ext hx67
  have hb7 := hb6.ext hx67
  refine (text_c hb7 (by omega) hlb i j hib hrb hy).mono ?_
  rintro e w8 ⟨q, rfl, hq, hql, ⟨n8, -, hn8, hb8⟩, hc8⟩
  have hk8 := kn hb7 hc8 (fun k h => h.1) hk7
  have ha8 := BusC.apart ha7 hc8 (fun k h ho => hap k ho h.1) (fun k cs fz h => hb7.far k cs fz h.1)
  have hp8 : PAt w8 p := PAt.bus (hp.ext hx67) hb7 hc8 (fun k h => h.1)
  refine ⟨.tup [(false, [.v q.val]), (false, [.v (.int .i64 0)])], _, rfl, rfl, hk8, ?_⟩
  refine J.lit 57 ((0 : Int) == 0) true rfl ?_
  refine J.lit 61 ((0 : Int) == 0) true rfl ?_
  refine J.call Tryz.func72 [.one (.v p.val), .one (.v q.val)] [⟨g9, 53, Img.Zc.cs x⟩, ⟨g11, 53, Img.Zc.cs y⟩] (fun w9 hk9 hr9 => ?_)
  have hx89 := same hk8 hk9 hr9
  have hxB : IsB x.l := (ha.zok hia (List.mem_of_getElem? hx)).2
  have hyB : IsB y.l := (hb.zok hib (List.mem_of_getElem? hy)).2
  refine (equal_c p q w9 (hp8.ext hx89) (hq.ext hx89) (by rw [hpl]; exact hxB) (by rw [hql]; exact hyB)).mono ?_
  rintro e w10 ⟨rfl, hxx⟩
  have hx810 := hx89.trans hxx
  have hk10 := hxx.known hk9
  rw [hpl, hql]
  refine ⟨.one (.v (.bool (decide (x.l = y.l)))), _, rfl, rfl, hk10, ?_⟩
  refine J.ret (.one (.v (.bool (decide (x.l = y.l))))) [⟨g9, 53, Img.Zc.cs x⟩, ⟨g11, 53, Img.Zc.cs y⟩] (fun w11 hk11 hr11 => ?_)
  have hx811 := hx810.trans (same hk10 hk11 hr11)
  refine ⟨decide (x.l = y.l), rfl, ⟨fun h => ⟨hL.1, hL.2.1, hL.2.2, of_decide_eq_true h⟩, fun h => decide_eq_true h.2.2.2⟩, ⟨n6, by omega, ha8.ext hx811⟩, ⟨n8, by omega, hb8.ext hx811⟩, ?_⟩
  exact (((Chg.of_ext hx5).trans (Chg.mono hc6 (fun k _ h => .inl h.1))).trans (.of_ext hx67)).trans ((Chg.mono hc8 (fun k _ h => .inr h.1)).trans (.of_ext hx811))
end Go.Proofs.YtlhmpmmblnbmbaaGreat.Doc
set_option linter.unusedVariables false
set_option linter.unusedSimpArgs false
set_option maxRecDepth 100000
namespace Go.Proofs.YtlhmpmmblnbmbaaGreat.Doc
open Go.Proofs.YtlhmpmmblnbmbaaGreat.Sx Go.Proofs.YtlhmpmmblnbmbaaGreat.Zon Go.Proofs.YtlhmpmmblnbmbaaGreat.Byt Go.Proofs.YtlhmpmmblnbmbaaGreat.Dev Go.Proofs.YtlhmpmmblnbmbaaGreat.Pck Go.Proofs.YtlhmpmmblnbmbaaGreat.Bus Go.Proofs.YtlhmpmmblnbmbaaGreat.Cnf Go.Lib
open Go.Proofs.YtlhmpmmblnbmbaaGreat.Img (dumpL mb zb hb rightE)
theorem sameN_c {g : Nat} {O : Nat → Prop} {M : List Dc} {n : Int} {c : Cf} (w : World) (h : BusC w g O M n) (hck : c.check = 0) (hml : (M.length : Int) = c.members) : Calls Tryz.prog 14 #[.pointer (some ⟨g, 0, none⟩), .pointer none, c.val] w fun e w' => e = .returned (.bool false) ∧ Ext w w' := by
  refine J.enter Tryz.func14 rfl [] [.one (.v (.pointer (some ⟨g, 0, none⟩))), .one (.v (.pointer none)), .agg c.cs] 50 (known_nil w) ?_
  refine J.new 23 c.cs [] (fun g5 hg5 _ => ?_)
  have fin : ∀ {u w1 : World}, Ext w u → Rel [⟨g5, 23, c.cs⟩] u w1 → Ext w w1 := fun hx hr => hx.rel' hr (mem1 (.inl hg5))
  refine J.call Tryz.func18 [.one (.v (.pointer (some ⟨g, 0, none⟩))), .agg c.cs] [⟨g5, 23, c.cs⟩] (fun w1 hk1 hr1 => ?_)
  have hx1 := fin (.refl w) hr1
  refine (Img.right_c (c := c) w1 (h.ext hx1)).mono ?_
  rintro e w2 ⟨rfl, hx⟩
  have hx2 := hx1.trans hx
  have hk2 := hx.known hk1
  have hre : rightE c (some M.length) = 0 := by unfold rightE; rw [if_neg (by simp [hck])]; simp [hml]
  rw [hre]
  refine ⟨.one (.v (.int .i64 0)), _, rfl, rfl, hk2, ?_⟩
  refine J.lit 13 ((0 : Int) != 0) false rfl ?_
  refine J.call Tryz.func18 [.one (.v (.pointer none)), .agg c.cs] [⟨g5, 23, c.cs⟩] (fun w3 hk3 hr3 => ?_)
  have hx3 := fin hx2 hr3
  refine (Img.rightN_c (c := c) w3).mono ?_
  rintro e w4 ⟨rfl, hx⟩
  have hx4 := hx3.trans hx
  have hrn : rightE c none = 16 := by unfold rightE; rw [if_neg (by simp [hck])]
  rw [hrn]
  refine ⟨.one (.v (.int .i64 16)), _, rfl, rfl, hx.known hk3, ?_⟩
  refine J.brt ((16 : Int) != 0) rfl ?_
  exact J.ret (.one (.lit false)) [⟨g5, 23, c.cs⟩] (fun w5 _ hr5 => ⟨rfl, fin hx4 hr5⟩)
structure S3 where
  i : Nat
  na : Int
  nb : Int
theorem right_dead {d : Dc} {j : Nat} (h : d.dead = false) (hj : j < d.zs.length) : d.right (j : Int) = 0 := by
  unfold Dc.right
  rw [if_neg (by rw [h]; decide), if_neg (by omega)]
set_option maxHeartbeats 2000000 in
theorem same_c {ga gb : Nat} {Oa Ob : Nat → Prop} {Ma Mb : List Dc} {na nb : Int} {c : Cf} (w : World) (ha : BusC w ga Oa Ma na) (hb : BusC w gb Ob Mb nb) (hap : ∀ k, Oa k → Ob k → False) (hna : na ≤ 1000000000) (hnb : nb ≤ 1000000000) (hck : c.check = 0) (hmla : (Ma.length : Int) = c.members) (hmlb : (Mb.length : Int) = c.members) (hza : ∀ d ∈ Ma, (d.zs.length : Int) = c.all) (hzb : ∀ d ∈ Mb, (d.zs.length : Int) = c.all) :
    Calls Tryz.prog 14 #[.pointer (some ⟨ga, 0, none⟩), .pointer (some ⟨gb, 0, none⟩), c.val] w fun e w' => ∃ B : Bool, e = .returned (.bool B) ∧ (B = true ↔ dumpL c Ma = dumpL c Mb) ∧ (∃ n', n' ≤ na + 1024 ∧ BusC w' ga Oa Ma n') ∧ (∃ n', n' ≤ nb + 1024 ∧ BusC w' gb Ob Mb n') ∧ Chg (fun k => Oa k ∨ Ob k) w w' := by
  have hF := Img.cf_fits hck
  have hFm := hF.members; have hFa := hF.all2
  have hlen : Ma.length = Mb.length := by omega
  have hiff : dumpL c Ma = dumpL c Mb ↔ ∀ (i : Nat) (a b : Dc), Ma[i]? = some a → Mb[i]? = some b → SameD a b := dump_iff hlen (fun i a b p q => by
    have := hza a (List.mem_of_getElem? p); have := hzb b (List.mem_of_getElem? q); omega) (bus_ok ha).1 (bus_ok hb).1
  refine J.enter Tryz.func14 rfl [] [.one (.v (.pointer (some ⟨ga, 0, none⟩))), .one (.v (.pointer (some ⟨gb, 0, none⟩))), .agg c.cs] 50 (known_nil w) ?_
  refine J.new 23 c.cs [] (fun g5 hg5 _ => ?_)
  have fin : ∀ {u w1 : World}, Ext w u → Rel [⟨g5, 23, c.cs⟩] u w1 → Ext w w1 := fun hx hr => hx.rel' hr (mem1 (.inl hg5))
  have same : ∀ {u w1 : World}, Known [⟨g5, 23, c.cs⟩] u → Known [⟨g5, 23, c.cs⟩] w1 → Rel [⟨g5, 23, c.cs⟩] u w1 → Ext u w1 := fun h hk hr => hr.ext' (mem1 (.inr ((hk.get 0 rfl).trans (h.get 0 rfl).symm)))
  have kn : ∀ {u v : World} {n m : Int}, BusC u ga Oa Ma n → BusC u gb Ob Mb m → Chg (fun k => Oa k ∨ Ob k) u v → Known [⟨g5, 23, c.cs⟩] u → Known [⟨g5, 23, c.cs⟩] v := fun h1 h2 hc hk => hk.chg hc (mem1 (fun h => h.elim (Img.notO h1 (hk.get 0 rfl) (by show 23 ≠ _; decide) (by show 23 ≠ _; decide) (by show 23 ≠ _; decide) (by show 23 ≠ _; decide) (by show 23 ≠ _; decide)) (Img.notO h2 (hk.get 0 rfl) (by show 23 ≠ _; decide) (by show 23 ≠ _; decide) (by show 23 ≠ _; decide) (by show 23 ≠ _; decide) (by show 23 ≠ _; decide))))
  refine J.call Tryz.func18 [.one (.v (.pointer (some ⟨ga, 0, none⟩))), .agg c.cs] [⟨g5, 23, c.cs⟩] (fun w1 hk1 hr1 => ?_)
  have hx1 := fin (.refl w) hr1
  refine (Img.right_c (c := c) w1 (ha.ext hx1)).mono ?_
  rintro e w2 ⟨rfl, hx⟩
  have hx2 := hx1.trans hx
  have hk2 := hx.known hk1
  have hre : ∀ {M : List Dc}, (M.length : Int) = c.members → rightE c (some M.length) = 0 := fun hml => by unfold rightE; rw [if_neg (by simp [hck])]; simp [hml]
  rw [hre hmla]
  refine ⟨.one (.v (.int .i64 0)), _, rfl, rfl, hk2, ?_⟩
  refine J.lit 13 ((0 : Int) != 0) false rfl ?_
  refine J.call Tryz.func18 [.one (.v (.pointer (some ⟨gb, 0, none⟩))), .agg c.cs] [⟨g5, 23, c.cs⟩] (fun w3 hk3 hr3 => ?_)
  have hx3 := fin hx2 hr3
  refine (Img.right_c (c := c) w3 (hb.ext hx3)).mono ?_
  rintro e w4 ⟨rfl, hx⟩
  have hx4 := hx3.trans hx
  have hk4 := hx.known hk3
  rw [hre hmlb]
  refine ⟨.one (.v (.int .i64 0)), _, rfl, rfl, hk4, ?_⟩
  refine J.brf ((0 : Int) != 0) rfl ?_
  refine J.loop (fun x : S3 => [(0, .one (.v (.pointer (some ⟨ga, 0, none⟩)))), (1, .one (.v (.pointer (some ⟨gb, 0, none⟩)))), (5, .one (.ptr 0 0)), (20, .one (.v (.int .i64 c.members))), (21, .one (.v (.int .i64 (x.i : Nat))))]) (fun _ => [⟨g5, 23, c.cs⟩]) (fun x u => x.i ≤ Ma.length ∧ BusC u ga Oa Ma x.na ∧ BusC u gb Ob Mb x.nb ∧ x.na ≤ na + (x.i * 64 : Nat) ∧ x.nb ≤ nb + (x.i * 64 : Nat) ∧ Chg (fun k => Oa k ∨ Ob k) w u ∧ ∀ (i : Nat) (a b : Dc), i < x.i → Ma[i]? = some a → Mb[i]? = some b → SameD a b) (fun x => Ma.length - x.i) [] ⟨0, na, nb⟩ (fun w5 hk5 hr5 => ?_) ?_
  · have hx5 := hx4.trans (same hk4 hk5 hr5)
    exact ⟨Nat.zero_le _, ha.ext hx5, hb.ext hx5, by simp, by simp, .of_ext hx5, fun i a b h => absurd h (Nat.not_lt_zero _)⟩
  clear hx1 hx2 hx3 hx4 hk1 hk2 hk3 hk4
  rintro p ⟨i, n1, n2⟩ w5 hp ⟨hi, hA, hB, hn1, hn2, hch, hsame⟩ hk5
  replace hi : i ≤ Ma.length := hi
  replace hA : BusC w5 ga Oa Ma n1 := hA
  replace hB : BusC w5 gb Ob Mb n2 := hB
  replace hn1 : n1 ≤ na + (i * 64 : Nat) := hn1
  replace hn2 : n2 ≤ nb + (i * 64 : Nat) := hn2
  replace hsame : ∀ (q : Nat) (a b : Dc), q < i → Ma[q]? = some a → Mb[q]? = some b → SameD a b := hsame
  refine J.brd ((i : Int) < c.members) (fun h1 => ?_) (fun h1 => ?_)
  rotate_left
  · refine J.ret (.one (.lit true)) [⟨g5, 23, c.cs⟩] (fun w6 hk6 hr6 => ?_)
    have hx6 := same hk5 hk6 hr6
    exact ⟨true, rfl, ⟨fun _ => hiff.2 (fun q a b ha hb => hsame q a b (by have := (List.getElem?_eq_some_iff.1 ha).1; omega) ha hb), fun _ => rfl⟩, ⟨n1, by omega, hA.ext hx6⟩, ⟨n2, by omega, hB.ext hx6⟩, hch.trans (.of_ext hx6)⟩
  have hia : i < Ma.length := by omega
  obtain ⟨a, hMa⟩ : ∃ a, Ma[i]? = some a := ⟨_, List.getElem?_eq_getElem hia⟩
  obtain ⟨b, hMb⟩ : ∃ b, Mb[i]? = some b := ⟨_, List.getElem?_eq_getElem (by omega)⟩
  have haz := hza a (List.mem_of_getElem? hMa)
  have hbz := hzb b (List.mem_of_getElem? hMb)
  have leave : ∀ {u : World} {m1 m2 : Int}, ¬ SameD a b → BusC u ga Oa Ma m1 → BusC u gb Ob Mb m2 → m1 ≤ na + 1024 → m2 ≤ nb + 1024 → Chg (fun k => Oa k ∨ Ob k) w u → ∃ B : Bool, Ending.returned (.bool false) = .returned (.bool B) ∧ (B = true ↔ dumpL c Ma = dumpL c Mb) ∧ (∃ n', n' ≤ na + 1024 ∧ BusC u ga Oa Ma n') ∧ (∃ n', n' ≤ nb + 1024 ∧ BusC u gb Ob Mb n') ∧ Chg (fun k => Oa k ∨ Ob k) w u := fun hn h1 h2 l1 l2 hc => ⟨false, rfl, ⟨fun h => (by cases h), fun h => absurd (hiff.1 h i a b hMa hMb) hn⟩, ⟨_, l1, h1⟩, ⟨_, l2, h2⟩, hc⟩
  refine J.call Tryz.func22 [.one (.v (.pointer (some ⟨ga, 0, none⟩))), .one (.v (.int .i64 (i : Nat)))] [⟨g5, 23, c.cs⟩] (fun w6 hk6 hr6 => ?_)
  have hx6 := same hk5 hk6 hr6
  refine (c_dead (hA.ext hx6) i hMa).mono ?_
  rintro e w7 ⟨rfl, hx⟩
  have hx7 := hx6.trans hx
  have hk7 := hx.known hk6
  refine ⟨.one (.v (.bool a.dead)), _, rfl, rfl, hk7, ?_⟩
  refine J.call Tryz.func22 [.one (.v (.pointer (some ⟨gb, 0, none⟩))), .one (.v (.int .i64 (i : Nat)))] [⟨g5, 23, c.cs⟩] (fun w8 hk8 hr8 => ?_)
  have hx8 := hx7.trans (same hk7 hk8 hr8)
  refine (c_dead (hB.ext hx8) i hMb).mono ?_
  rintro e w9 ⟨rfl, hx⟩
  have hx9 := hx8.trans hx
  have hk9 := hx.known hk8
  refine ⟨.one (.v (.bool b.dead)), _, rfl, rfl, hk9, ?_⟩
  by_cases hdd : a.dead = b.dead
  rotate_left
  · refine J.cmp true [⟨g5, 23, c.cs⟩] (op := .neq) (T := 4) (u := .one (.v (.bool a.dead))) (v := .one (.v (.bool b.dead))) (fun x y u => bguard _ _ x y u) (fun u => by
      show (binOp .neq 4 (.bool a.dead) (.bool b.dead)).run Tryz.prog u = _
      rw [bneq_run, show (a.dead != b.dead) = true by simpa using hdd]) ?_
    refine J.ret (.one (.lit false)) [⟨g5, 23, c.cs⟩] (fun w10 hk10 hr10 => ?_)
    have hx10 := hx9.trans (same hk9 hk10 hr10)
    exact leave (fun h => hdd h.1) (hA.ext hx10) (hB.ext hx10) (by omega) (by omega) (hch.trans (.of_ext hx10))
  refine J.cmp false [⟨g5, 23, c.cs⟩] (op := .neq) (T := 4) (u := .one (.v (.bool a.dead))) (v := .one (.v (.bool b.dead))) (fun x y u => bguard _ _ x y u) (fun u => by
    show (binOp .neq 4 (.bool a.dead) (.bool b.dead)).run Tryz.prog u = _
    rw [bneq_run, show (a.dead != b.dead) = false by simpa using hdd]) ?_
  refine J.call Tryz.func23 [.agg c.cs] [⟨g5, 23, c.cs⟩] (fun w10 hk10 hr10 => ?_)
  have hx10 := hx9.trans (same hk9 hk10 hr10)
  refine (all_c (c := c) w10).mono ?_
  rintro e w11 ⟨rfl, hx⟩
  have hx11 := hx10.trans hx
  have hk11 := hx.known hk10
  refine ⟨.one (.v (.int .i64 c.all)), _, rfl, rfl, hk11, ?_⟩
  refine J.loop (fun x : S3 => [(0, .one (.v (.pointer (some ⟨ga, 0, none⟩)))), (1, .one (.v (.pointer (some ⟨gb, 0, none⟩)))), (5, .one (.ptr 0 0)), (7, .one (.v (.int .i64 (i : Nat)))), (20, .one (.v (.int .i64 c.members))), (21, .one (.v (.int .i64 (i : Nat)))), (32, .one (.v (.int .i64 c.all))), (33, .one (.v (.int .i64 (x.i : Nat))))]) (fun _ => [⟨g5, 23, c.cs⟩]) (fun x u => x.i ≤ a.zs.length ∧ BusC u ga Oa Ma x.na ∧ BusC u gb Ob Mb x.nb ∧ x.na ≤ n1 + (x.i : Nat) ∧ x.nb ≤ n2 + (x.i : Nat) ∧ Chg (fun k => Oa k ∨ Ob k) w u ∧ (a.dead = false → ∀ (j : Nat) (x' y' : Zc), j < x.i → a.zs[j]? = some x' → b.zs[j]? = some y' → SameZ x' y')) (fun x => a.zs.length - x.i) [] ⟨0, n1, n2⟩ (fun w12 hk12 hr12 => ?_) ?_
  · have hx12 := hx11.trans (same hk11 hk12 hr12)
    exact ⟨Nat.zero_le _, hA.ext hx12, hB.ext hx12, by simp, by simp, hch.trans (.of_ext hx12), fun _ j x y h => absurd h (Nat.not_lt_zero _)⟩
  clear hA hB hch hx6 hx7 hx8 hx9 hx10 hx11 hk6 hk7 hk8 hk9 hk10 hk11 hk5
  rintro q ⟨j, m1, m2⟩ w12 hq ⟨hj, hA, hB, hm1, hm2, hch, hsz⟩ hk12
  replace hj : j ≤ a.zs.length := hj
  replace hA : BusC w12 ga Oa Ma m1 := hA
  replace hB : BusC w12 gb Ob Mb m2 := hB
  replace hm1 : m1 ≤ n1 + (j : Nat) := hm1
  replace hm2 : m2 ≤ n2 + (j : Nat) := hm2
  replace hsz : a.dead = false → ∀ (q : Nat) (x' y' : Zc), q < j → a.zs[q]? = some x' → b.zs[q]? = some y' → SameZ x' y' := hsz
  refine J.brd ((j : Int) < c.all) (fun h2 => ?_) (fun h2 => ?_)
  rotate_left
  · refine J.ari ((i + 1 : Nat) : Int) (.add (x := i) (y := 1) (by omega) (by omega) (by omega)) ?_
    refine J.at (fun a' u g1' g2' hk hr => hp ⟨i + 1, m1, m2⟩ a' u g1' g2' hk ⟨hia, hA.ext (same hk12 hk hr), hB.ext (same hk12 hk hr), by show m1 ≤ na + (((i + 1) * 64 : Nat) : Int); omega, by show m2 ≤ nb + (((i + 1) * 64 : Nat) : Int); omega, hch.trans (.of_ext (same hk12 hk hr)), fun q x y hq hx hy => ?_⟩ (by show Ma.length - (i + 1) < Ma.length - i; omega))
    replace hq : q < i + 1 := hq
    by_cases hqi : q = i
    · subst hqi
      rw [hMa] at hx; cases hx
      rw [hMb] at hy; cases hy
      exact ⟨hdd, fun hd z x' y' hx' hy' => hsz hd z x' y' (by have := (List.getElem?_eq_some_iff.1 hx').1; omega) hx' hy'⟩
    · exact hsame q x y (by omega) hx hy
  have hjz : j < a.zs.length := by omega
  refine J.call Tryz.func22 [.one (.v (.pointer (some ⟨ga, 0, none⟩))), .one (.v (.int .i64 (i : Nat)))] [⟨g5, 23, c.cs⟩] (fun w13 hk13 hr13 => ?_)
  have hx13 := same hk12 hk13 hr13
  refine (c_dead (hA.ext hx13) i hMa).mono ?_
  rintro e w14 ⟨rfl, hx⟩
  have hx14 := hx13.trans hx
  have hk14 := hx.known hk13
  refine ⟨.one (.v (.bool a.dead)), _, rfl, rfl, hk14, ?_⟩
  by_cases hd : a.dead = true
  · refine J.lit 40 (!a.dead) false (by rw [hd]; rfl) ?_
    refine J.ari ((j + 1 : Nat) : Int) (.add (x := j) (y := 1) (by omega) (by omega) (by omega)) ?_
    exact J.at (fun a' u g1' g2' hk hr => hq ⟨j + 1, m1, m2⟩ a' u g1' g2' hk ⟨hjz, hA.ext (hx14.trans (same hk14 hk hr)), hB.ext (hx14.trans (same hk14 hk hr)), by show m1 ≤ n1 + ((j + 1 : Nat) : Int); omega, by show m2 ≤ n2 + ((j + 1 : Nat) : Int); omega, hch.trans (.of_ext (hx14.trans (same hk14 hk hr))), fun h => by rw [hd] at h; cases h⟩ (by show a.zs.length - (j + 1) < a.zs.length - j; omega))
  have hd' : a.dead = false := Bool.eq_false_iff.2 hd
  refine J.lit 40 (!a.dead) true (by rw [hd']; rfl) ?_
  obtain ⟨x, hxz⟩ : ∃ x, a.zs[j]? = some x := ⟨_, List.getElem?_eq_getElem hjz⟩
  obtain ⟨y, hyz⟩ : ∃ y, b.zs[j]? = some y := ⟨_, List.getElem?_eq_getElem (by omega)⟩
  refine J.call Tryz.func40 [.one (.v (.pointer (some ⟨ga, 0, none⟩))), .one (.v (.pointer (some ⟨gb, 0, none⟩))), .one (.v (.int .i64 (i : Nat))), .one (.v (.int .i64 (j : Nat)))] [⟨g5, 23, c.cs⟩] (fun w15 hk15 hr15 => ?_)
  have hx15 := hx14.trans (same hk14 hk15 hr15)
  have hA15 := hA.ext hx15
  have hB15 := hB.ext hx15
  refine (samez_c w15 hA15 hB15 hap (by omega) (by omega) (by omega) (by omega) i j hMa hMb (right_dead hd' hjz) (right_dead (hdd ▸ hd') (by omega)) hxz hyz).mono ?_
  rintro e w16 ⟨B, rfl, hBi, ⟨m3, hm3, hA16⟩, ⟨m4, hm4, hB16⟩, hc16⟩
  have hk16 := kn hA15 hB15 hc16 hk15
  have hch16 := (hch.trans (.of_ext hx15)).trans hc16
  refine ⟨.one (.v (.bool B)), _, rfl, rfl, hk16, ?_⟩
  cases B
  · refine J.brt (!false) rfl ?_
    refine J.ret (.one (.lit false)) [⟨g5, 23, c.cs⟩] (fun w17 hk17 hr17 => ?_)
    have hx17 := same hk16 hk17 hr17
    exact leave (fun h => by have := hBi.2 (h.2 hd' j x y hxz hyz); cases this) (hA16.ext hx17) (hB16.ext hx17) (by omega) (by omega) (hch16.trans (.of_ext hx17))
  · refine J.brf (!true) rfl ?_
    refine J.ari ((j + 1 : Nat) : Int) (.add (x := j) (y := 1) (by omega) (by omega) (by omega)) ?_
    refine J.at (fun a' u g1' g2' hk hr => hq ⟨j + 1, m3, m4⟩ a' u g1' g2' hk ⟨hjz, hA16.ext (same hk16 hk hr), hB16.ext (same hk16 hk hr), by show m3 ≤ n1 + ((j + 1 : Nat) : Int); omega, by show m4 ≤ n2 + ((j + 1 : Nat) : Int); omega, hch16.trans (.of_ext (same hk16 hk hr)), fun h q' x' y' hq' hx' hy' => ?_⟩ (by show a.zs.length - (j + 1) < a.zs.length - j; omega))
    replace hq' : q' < j + 1 := hq'
    by_cases hqj : q' = j
    · subst hqj
      rw [hxz] at hx'; cases hx'
      rw [hyz] at hy'; cases hy'
      exact hBi.1 rfl
    · exact hsz h q' x' y' (by omega) hx' hy'
end Go.Proofs.YtlhmpmmblnbmbaaGreat.Doc
set_option linter.unusedVariables false
set_option linter.unusedSimpArgs false
set_option maxRecDepth 100000
namespace Go.Proofs.YtlhmpmmblnbmbaaGreat.Doc
open Go.Proofs.YtlhmpmmblnbmbaaGreat.Sx Go.Proofs.YtlhmpmmblnbmbaaGreat.Byt Go.Proofs.YtlhmpmmblnbmbaaGreat.Dev Go.Proofs.YtlhmpmmblnbmbaaGreat.Pck Go.Proofs.YtlhmpmmblnbmbaaGreat.Bus Go.Proofs.YtlhmpmmblnbmbaaGreat.Cnf Go.Lib
open Go.Proofs.YtlhmpmmblnbmbaaGreat.Img (dumpL mb zb hb rightE dump_c code_c live_c load_c laid_dump notO Od)
theorem DrsAt.far {w w' : World} {b : Nat} {v : Value} {ds : List Dr} {S : Nat → Prop} (h : DrsAt w b v ds) (hx : Chg S w w') (hS : ∀ (k : Nat) (cs : Array Value) (t : Nat) (f : Nat × Nat), S k → w.heap[k]? = some (Obj.cells cs t f) → (t = 61 ∨ t = 78 ∨ t = 9) → False) : DrsAt w' b v ds := ⟨ownsRow_chg h.row hx (fun k hk hs => by
  obtain ⟨cs, hb, _⟩ := own_ty h.row hk
  exact hS k cs _ _ hs hb (.inl rfl)), fun d hd => ⟨ownsRow_chg (h.each d hd).row hx (fun k hk hs => by
  obtain ⟨cs, hb, _⟩ := own_ty (h.each d hd).row hk
  exact hS k cs _ _ hs hb (.inr (.inl rfl))), fun z hz => ((h.each d hd).each z hz).chg hx (fun k cs hs hb => hS k cs _ _ hs hb (.inr (.inr rfl))), (h.each d hd).most⟩⟩
theorem PAt.far {w w' : World} {p : Part} {S : Nat → Prop} {nb : Nat} (h : PAt w p) (hx : Chg S w w') (hnew : ∀ g o s, p.A = some ⟨g, o, s⟩ → nb ≤ g) (hS : ∀ k, S k → k < nb) : PAt w' p := ⟨⟨h.at_.1, h.at_.2.imp id (fun ⟨g, o, cs, fz, h1, h2, h3⟩ => ⟨g, o, cs, fz, h1, h2.chg hx (fun hs => by have := hS g hs; have := hnew g o none h1; omega), h3⟩)⟩, h.nil, h.le⟩
section
variable (g1 g2 : Nat) (O1 O2 : Nat → Prop) (M1 M2 : List Dc)
/-- Both buses, within so many commands. -/
def U2 (N : Int) (u : World) : Prop := ∃ n m, n ≤ N ∧ m ≤ N ∧ BusC u g1 O1 M1 n ∧ BusC u g2 O2 M2 m
def E2 (u v : World) : Prop := Chg (fun k => O1 k ∨ O2 k) u v ∧ ((∀ N, U2 g1 g2 O1 O2 M1 M2 N u → U2 g1 g2 O1 O2 M1 M2 N v) ∨ U2 g1 g2 O1 O2 M1 M2 5000 v)
end
section
variable {g1 g2 : Nat} {O1 O2 : Nat → Prop} {M1 M2 : List Dc}
theorem U2.ext {N : Int} {u v : World} (h : U2 g1 g2 O1 O2 M1 M2 N u) (hx : Ext u v) : U2 g1 g2 O1 O2 M1 M2 N v := let ⟨n, m, a, b, c, d⟩ := h; ⟨n, m, a, b, c.ext hx, d.ext hx⟩
theorem E2.of {u v : World} (h : Ext u v) : E2 g1 g2 O1 O2 M1 M2 u v := ⟨.of_ext h, .inl fun N k => k.ext h⟩
theorem E2.trans {u v w : World} (a : E2 g1 g2 O1 O2 M1 M2 u v) (b : E2 g1 g2 O1 O2 M1 M2 v w) : E2 g1 g2 O1 O2 M1 M2 u w := ⟨a.1.trans b.1, by
  rcases b.2 with hb | hb
  · rcases a.2 with ha | ha
    · exact .inl fun N k => hb N (ha N k)
    · exact .inr (hb _ ha)
  · exact .inr hb⟩
theorem E2.end {u v : World} (h : E2 g1 g2 O1 O2 M1 M2 u v) (h0 : U2 g1 g2 O1 O2 M1 M2 1000 u) : U2 g1 g2 O1 O2 M1 M2 5000 v := by
  rcases h.2 with k | k
  · obtain ⟨n, m, a, b, c, d⟩ := k _ h0
    exact ⟨n, m, by omega, by omega, c, d⟩
  · exact k
end
def p8 (nb : Nat) (l : List Int) : Pred := fun v u => ∃ q : Part, v = q.val ∧ PAt u q ∧ q.l = l ∧ ∀ g o s, q.A = some ⟨g, o, s⟩ → nb ≤ g
set_option maxHeartbeats 4000000 in
theorem loads_c {c : Cf} {A A2 : Option Addr} {k k2 : Nat} (l l2 : List Ac) (w : World) (hl : l.length ≤ 30 → ActsAt w A l) (hok : ∀ a ∈ l, a.Ok) (hl2 : l2.length ≤ 30 → ActsAt w A2 l2) (hok2 : ∀ a ∈ l2, a.Ok) : Calls Tryz.prog 4 #[c.val, .slice A l.length k, .slice A2 l2.length k2] w fun e w' => e = .returned (.bool true) ∧ Ext w w' := by
  refine J.enter Tryz.func4 rfl [] [.agg c.cs, .one (.v (.slice A l.length k)), .one (.v (.slice A2 l2.length k2))] 123 (known_nil w) ?_
  refine J.new 23 c.cs [] (fun g3 hg3 _ => ?_)
  have fin : ∀ {u w1 : World}, Ext w u → Rel [⟨g3, 23, c.cs⟩] u w1 → Ext w w1 := fun hx hr => hx.rel' hr (mem1 (.inl hg3))
  have same : ∀ {u w1 : World}, Known [⟨g3, 23, c.cs⟩] u → Known [⟨g3, 23, c.cs⟩] w1 → Rel [⟨g3, 23, c.cs⟩] u w1 → Ext u w1 := fun h hk hr => hr.ext' (mem1 (.inr ((hk.get 0 rfl).trans (h.get 0 rfl).symm)))
  have live1 : ∀ {u : World}, Ext w u → ∀ {v : World}, Ext u v → Ext w v := fun a _ b => a.trans b
  by_cases h30 : (l.length : Int) > 30
  · refine J.lit 22 (decide ((l.length : Int) > 30)) true (decide_eq_true h30) ?_
    refine J.call Tryz.func10 [] [⟨g3, 23, c.cs⟩] (fun u9 hk9 hr9 => ?_)
    have hy9 := fin (.refl w) hr9
    refine (live_c u9).mono ?_
    rintro e v9 ⟨rfl, hx⟩
    have hz9 := hy9.trans hx
    refine ⟨.one (.v (.bool true)), _, rfl, rfl, hx.known hk9, ?_⟩
    exact J.ret (.one (.v (.bool true))) [⟨g3, 23, c.cs⟩] (fun w9 hk9 hr9 => ⟨rfl, fin hz9 hr9⟩)
  refine J.lit 22 (decide ((l.length : Int) > 30)) false (decide_eq_false h30) ?_
  by_cases h302 : (l2.length : Int) > 30
  · refine J.lit 27 (decide ((l2.length : Int) > 30)) true (decide_eq_true h302) ?_
    refine J.call Tryz.func10 [] [⟨g3, 23, c.cs⟩] (fun u9 hk9 hr9 => ?_)
    have hy9 := fin (.refl w) hr9
    refine (live_c u9).mono ?_
    rintro e v9 ⟨rfl, hx⟩
    have hz9 := hy9.trans hx
    refine ⟨.one (.v (.bool true)), _, rfl, rfl, hx.known hk9, ?_⟩
    exact J.ret (.one (.v (.bool true))) [⟨g3, 23, c.cs⟩] (fun w9 hk9 hr9 => ⟨rfl, fin hz9 hr9⟩)
  refine J.lit 27 (decide ((l2.length : Int) > 30)) false (decide_eq_false h302) ?_
  refine J.call Tryz.func5 [.agg c.cs] [⟨g3, 23, c.cs⟩] (fun w1 hk1 hr1 => ?_)
  have hx1 := fin (.refl w) hr1
  refine (rcheck_c (c := c) w1).mono ?_
  rintro e w2 ⟨rfl, hx⟩
  have hx2 := hx1.trans hx
  have hk2 := hx.known hk1
  refine ⟨.one (.v (.int .i64 c.check)), _, rfl, rfl, hk2, ?_⟩
  by_cases hck : c.check = 0
  rotate_left
  · refine J.lit 32 (c.check != 0) true (by simp [hck]) ?_
    refine J.call Tryz.func10 [] [⟨g3, 23, c.cs⟩] (fun u9 hk9 hr9 => ?_)
    have hy9 := fin hx2 hr9
    refine (live_c u9).mono ?_
    rintro e v9 ⟨rfl, hx⟩
    have hz9 := hy9.trans hx
    refine ⟨.one (.v (.bool true)), _, rfl, rfl, hx.known hk9, ?_⟩
    exact J.ret (.one (.v (.bool true))) [⟨g3, 23, c.cs⟩] (fun w9 hk9 hr9 => ⟨rfl, fin hz9 hr9⟩)
  refine J.lit 32 (c.check != 0) false (by simp [hck]) ?_
  refine J.call Tryz.func6 [.agg c.cs] [⟨g3, 23, c.cs⟩] (fun w3 hk3 hr3 => ?_)
  have hx3 := fin hx2 hr3
  refine (rsmall_c (c := c) w3).mono ?_
  rintro e w4 ⟨rfl, hx⟩
  have hx4 := hx3.trans hx
  have hk4 := hx.known hk3
  refine ⟨.one (.v (.bool (small c))), _, rfl, rfl, hk4, ?_⟩
  by_cases hsm : small c = true
  rotate_left
  · refine J.brt (!small c) (by rw [Bool.eq_false_iff.2 hsm]; rfl) ?_
    refine J.call Tryz.func10 [] [⟨g3, 23, c.cs⟩] (fun u9 hk9 hr9 => ?_)
    have hy9 := fin hx4 hr9
    refine (live_c u9).mono ?_
    rintro e v9 ⟨rfl, hx⟩
    have hz9 := hy9.trans hx
    refine ⟨.one (.v (.bool true)), _, rfl, rfl, hx.known hk9, ?_⟩
    exact J.ret (.one (.v (.bool true))) [⟨g3, 23, c.cs⟩] (fun w9 hk9 hr9 => ⟨rfl, fin hz9 hr9⟩)
  refine J.brf (!small c) (by rw [hsm]; rfl) ?_
  have hlA := hl (by omega)
  have hlA2 := hl2 (by omega)
  have hF := Img.cf_fits hck
  have hFm := hF.members; have hFa := hF.all2
  refine J.call Tryz.func11 [.agg c.cs, .one (.v (.slice A l.length k))] [⟨g3, 23, c.cs⟩] (fun w5 hk5 hr5 => ?_)
  have hx5 := fin hx4 hr5
  refine (members_c l w5 (hlA.ext hx5) hok hck (by omega)).mono ?_
  rintro e w6 ⟨g1, O1, M1, n1, gr1, kr1, ds1, rfl, hx, hB1, hn1, hO1, hds1, hcon1, hsh1⟩
  have hx6 := hx5.trans hx
  have hk6 := hx.known hk5
  refine ⟨.tup [(false, [.v (.pointer (some ⟨g1, 0, none⟩))]), (false, [.v (.slice (some ⟨gr1, 0, none⟩) ds1.length kr1)])], _, rfl, rfl, hk6, ?_⟩
  have hO1w : ∀ q, O1 q → w.heap.size ≤ q := fun q hq => Nat.le_trans hx5.1 (hO1 q hq)
  refine J.call Tryz.func11 [.agg c.cs, .one (.v (.slice A2 l2.length k2))] [⟨g3, 23, c.cs⟩] (fun w7 hk7 hr7 => ?_)
  have hx67 := same hk6 hk7 hr7
  have hx7 := hx6.trans hx67
  refine (members_c l2 w7 (hlA2.ext hx7) hok2 hck (by omega)).mono ?_
  rintro e w8 ⟨g2, O2, M2, n2, gr2, kr2, ds2, rfl, hx, hB2, hn2, hO2, hds2, hcon2, hsh2⟩
  have hx68 := hx67.trans hx
  have hx8 := hx6.trans hx68
  have hk8 := hx.known hk7
  refine ⟨.tup [(false, [.v (.pointer (some ⟨g2, 0, none⟩))]), (false, [.v (.slice (some ⟨gr2, 0, none⟩) ds2.length kr2)])], _, rfl, rfl, hk8, ?_⟩
  have hO2w : ∀ q, O2 q → w.heap.size ≤ q := fun q hq => Nat.le_trans hx7.1 (hO2 q hq)
  have hap : ∀ q, O1 q → O2 q → False := fun q h1 h2 => by
    have := hB1.lt h1; have := hO2 q h2; have := hx67.1; omega
  have hml1 := hsh1.1
  have hml2 := hsh2.1
  have hz1 : ∀ d ∈ M1, (d.zs.length : Int) = c.all := fun d hd => (hsh1.2 d hd).1
  have hz2 : ∀ d ∈ M2, (d.zs.length : Int) = c.all := fun d hd => (hsh2.2 d hd).1
  have hdl1 : ds1.length = M1.length := by rw [← hcon1, List.length_map]
  have hdl2 : ds2.length = M2.length := by rw [← hcon2, List.length_map]
  have hsz1 := dump_most hsm hB1 hsh1
  have hsz2 := dump_most hsm hB2 hsh2
  have hB18 := hB1.ext hx68
  have hIs1 : IsB (dumpL c M1) := dump_isB (bus_ok hB1).2
  have hIs2 : IsB (dumpL c M2) := dump_isB (bus_ok hB2).2
  refine J.call Tryz.func12 [.agg c.cs, .one (.v (.slice (some ⟨gr1, 0, none⟩) ds1.length kr1))] [⟨g3, 23, c.cs⟩] (fun w9 hk9 hr9 => ?_)
  have hx89 := same hk8 hk9 hr9
  refine (rdump_c (c := c) ds1 w9 (hds1.ext (hx68.trans hx89)) (doc_B hB1 hcon1) (by rw [hcon1]; omega) (by omega)).mono ?_
  rintro e w10 ⟨v10, rfl, hb10⟩
  rw [hcon1] at hb10
  obtain ⟨p, rfl, hpn, hpl, hp10⟩ := hb10.pat (by omega)
  have hx810 := hx89.trans hb10.1
  have hk10 := hb10.1.known hk9
  refine ⟨.one (.v p.val), _, rfl, rfl, hk10, ?_⟩
  have hBa := hB18.ext hx810
  have hBb := hB2.ext hx810
  have hdsb := hds2.ext hx810
  have hnO3 : ¬ (O1 g3 ∨ O2 g3) := fun h => h.elim (notO hBa (hk10.get 0 rfl) (by show 23 ≠ _; decide) (by show 23 ≠ _; decide) (by show 23 ≠ _; decide) (by show 23 ≠ _; decide) (by show 23 ≠ _; decide)) (notO hBb (hk10.get 0 rfl) (by show 23 ≠ _; decide) (by show 23 ≠ _; decide) (by show 23 ≠ _; decide) (by show 23 ≠ _; decide) (by show 23 ≠ _; decide))
  have hlow : ∀ q, (O1 q ∨ O2 q) → q < w10.heap.size := fun q h => h.elim (fun h => hBa.lt h) (fun h => hBb.lt h)
  have hx10 := hx8.trans hx810
  obtain ⟨D, hD⟩ : ∃ D : Bool, D = decide (dumpL c M1 = dumpL c M2) := ⟨_, rfl⟩
  have hU0 : ∀ {u : World}, Ext w10 u → U2 g1 g2 O1 O2 M1 M2 1000 u := fun hx => ⟨n1, n2, hn1, hn2, hBa.ext hx, hBb.ext hx⟩
  have hEE : EOk [⟨g3, 23, c.cs⟩] (E2 g1 g2 O1 O2 M1 M2) := ⟨fun u v h => .of h, fun u v x a b => a.trans b, fun u v hK h => hK.chg h.1 (mem1 hnO3)⟩
  have farU : ∀ {u : World}, Ext w10 u → ∀ (q : Nat) (cs : Array Value) (fz : Nat × Nat), (O1 q ∨ O2 q) → U8 u q cs fz → False := fun hx q cs fz h hu => h.elim (fun h => (hBa.ext hx).far q cs fz h hu) (fun h => (hBb.ext hx).far q cs fz h hu)
  have hpE : ∀ {wb u : World}, Known [⟨g3, 23, c.cs⟩] wb → Rel [⟨g3, 23, c.cs⟩] w10 wb → E2 g1 g2 O1 O2 M1 M2 wb u → PAt u p := fun hkb hrb hE => ⟨(hp10.ext (same hk10 hkb hrb)).at_.chg hE.1 (farU (same hk10 hkb hrb)), hp10.nil, hp10.le⟩
  refine J.drwW (E := E2 g1 g2 O1 O2 M1 M2) [(3, ⟨E2 g1 g2 O1 O2 M1 M2, U2 g1 g2 O1 O2 M1 M2 1000⟩)] 15 [] [(3, .one (.v (.bool D))), (5, .one (.v (.string (strOfNums (dumpL c M1))))), (9, .one (.v (.string (strOfNums (dumpL c M2))))), (10, .one (.lit D)), (11, .one (.lit false))] [(8, p8 w10.heap.size (dumpL c M2))] [⟨g3, 23, c.cs⟩] hEE
    (fun wb hkb hrb => .loud (UAt.call Tryz.func14 [.one (.v (.pointer (some ⟨g1, 0, none⟩))), .one (.v (.pointer (some ⟨g2, 0, none⟩))), .agg c.cs] (fun u hku hgu hU => by
        obtain ⟨n, m, hn, hm, h1, h2⟩ := (show U2 g1 g2 O1 O2 M1 M2 1000 u from hU)
        refine (same_c (c := c) u h1 h2 hap (by omega) (by omega) hck hml1 hml2 hz1 hz2).mono ?_
        rintro e u2 ⟨B, rfl, hBi, ⟨n', hn', h1'⟩, ⟨m', hm', h2'⟩, hc⟩
        refine ⟨_, rfl, ⟨hc, .inr ⟨n', m', by omega, by omega, h1', h2'⟩⟩, ?_⟩
        show Value.bool B = Value.bool D
        rw [hD]
        congr 1
        cases B
        · exact (decide_eq_false (fun h => by have := hBi.2 h; cases this)).symm
        · exact (decide_eq_true (hBi.1 rfl)).symm)) <|
      .cons (fun wc hE => Y.str (strOfNums (dumpL c M1)) (fun u hr hk => by
        have := str_run ((hpE hkb hrb hE).ext (same (hEE.known _ _ hkb hE) hk hr))
        rw [hpl] at this; exact this)) <|
      .loud (UAt.cvO 27 9 61 (p8 w10.heap.size (dumpL c M2)) (.string (strOfNums (dumpL c M2))) rfl (fun v u ⟨q, e, hq, hql, _⟩ => by
        rw [e]
        have := str_run hq
        rw [hql] at this; exact this)) <|
      .cons (fun wc hE => Y.seq (T := 9) D (by rw [str_eq hIs1 hIs2, hD])) <|
      .cons (fun wc hE => Y.cmp (op := .neq) (T := 4) (u := .one (.v (.bool D))) (v := .one (.lit D)) false (fun x y u => bguard _ _ x y u) (fun u => by
        show (binOp .neq 4 (.bool D) (.bool D)).run Tryz.prog u = _
        rw [bneq_run]; simp)) .nil)
    (fun wb hkb hrb => .cons (hU0 (same hk10 hkb hrb)) (fun u v h => .of h) (fun u v h => h) (fun u v h hx => h.ext hx) ⟨fun hne => absurd hne (by decide), trivial⟩ .nil)
    (fun wb hkb hrb => .cons (UAt.call Tryz.func12 [.agg c.cs, .one (.v (.slice (some ⟨gr2, 0, none⟩) ds2.length kr2))] (fun u hku hgu _ => by
        have hdu : DrsAt u _ _ ds2 := DrsAt.far (hdsb.ext (same hk10 hkb hrb)) hgu.1 (fun q cs t f hS hb ht => hS.elim (fun h => busTy (hBa.ext (same hk10 hkb hrb)) hb h ht) (fun h => busTy (hBb.ext (same hk10 hkb hrb)) hb h ht))
        refine (rdump_c (c := c) ds2 u hdu (doc_B hB2 hcon2) (by rw [hcon2]; omega) (by omega)).mono ?_
        rintro e u2 ⟨v, rfl, hb⟩
        rw [hcon2] at hb
        obtain ⟨q, rfl, hqn, hql, hqa, hqnil, hqnew⟩ := hb.part
        exact ⟨_, rfl, hb.1, q, rfl, ⟨hqa, hqnil, by omega⟩, hql, fun g o s h => Nat.le_trans (Nat.le_trans hrb.1 hgu.1.1) (hqnew g o s h)⟩)) (fun v u1 u2 ⟨q, e, hq, hql, hqn⟩ hx => ⟨q, e, hq.ext hx, hql, hqn⟩) ⟨fun _ v u1 u2 ⟨q, e, hq, hql, hqn⟩ hE => ⟨q, e, PAt.far hq hE.1 hqn hlow, hql, hqn⟩, trivial⟩ .nil) ?_
  rintro wb w11 hkb hrb hE11 hk11 v8 -
  show SX _ _ _ _ _
  have hx10b := same hk10 hkb hrb
  obtain ⟨n3, m3, hn3, -, hB11, -⟩ := hE11.end (hU0 hx10b)
  have hp11 : PAt w11 p := hpE hkb hrb hE11
  have hx11 : Ext w w11 := ext_chg (hx10.trans hx10b) hE11.1 (fun q h => h.elim (hO1w q) (hO2w q))
  refine J.call Tryz.func14 [.one (.v (.pointer (some ⟨g1, 0, none⟩))), .one (.v (.pointer none)), .agg c.cs] [⟨g3, 23, c.cs⟩] (fun w12 hk12 hr12 => ?_)
  have hx1112 := same hk11 hk12 hr12
  refine (sameN_c (c := c) w12 (hB11.ext hx1112) hck hml1).mono ?_
  rintro e w13 ⟨rfl, hx⟩
  have hx1113 := hx1112.trans hx
  have hk13 := hx.known hk12
  refine ⟨.one (.v (.bool false)), _, rfl, rfl, hk13, ?_⟩
  refine J.brf false rfl ?_
  refine J.call Tryz.func7 [.one (.v (.pointer (some ⟨g1, 0, none⟩))), .agg c.cs] [⟨g3, 23, c.cs⟩] (fun w14 hk14 hr14 => ?_)
  have hx1114 := hx1113.trans (same hk13 hk14 hr14)
  have hB14 := hB11.ext hx1114
  refine (dump_c (c := c) w14 hB14 (by omega) hck hml1 hz1 (by omega) (by omega) hFa).mono ?_
  rintro e w15 ⟨v15, n4, rfl, ho15, hB15, -, hn4, hch⟩
  have hch0 : Chg O1 w14 w15 := Chg.mono hch (fun k _ h => h.1)
  obtain ⟨q, rfl, hqn, hql, hq15⟩ := ho15.part (by omega)
  have hk15 : Known [⟨g3, 23, c.cs⟩] w15 := hk14.chg hch0 (mem1 (fun h => hnO3 (.inl h)))
  have hx15 : Ext w w15 := ext_chg (hx11.trans hx1114) hch0 hO1w
  refine ⟨.tup [(false, [.v q.val]), (false, [.v (.int .i64 0)])], _, rfl, rfl, hk15, ?_⟩
  refine J.call Tryz.func15 [.one (.v q.val)] [⟨g3, 23, c.cs⟩] (fun w16 hk16 hr16 => ?_)
  have hx1516 := same hk15 hk16 hr16
  refine (load_c q w16 (hq15.ext hx1516) (by rw [hql]; exact hIs1)).mono ?_
  rintro e w17 ⟨hx, ⟨er, her, rfl, -⟩ | ⟨c', g', O', ms, rfl, hck', hmem, hms, hll, h0, hBC, hO'⟩⟩
  · have hx17 := (hx15.trans hx1516).trans hx
    have hk17 := hx.known hk16
    refine ⟨.tup [(false, [.v (.pointer none)]), (true, zCf), (false, [.v (.int .i64 er)])], _, rfl, rfl, hk17, ?_⟩
    refine J.new 23 zCf [⟨g3, 23, c.cs⟩] (fun g15 hg15 _ => ?_)
    have hg15w : w.heap.size ≤ g15 := Nat.le_trans hx17.1 hg15
    have fin2 : ∀ {u w1 : World}, Ext w u → Rel [⟨g3, 23, c.cs⟩, ⟨g15, 23, zCf⟩] u w1 → Ext w w1 := fun hx hr => hx.rel' hr (mem2 (.inl hg3) (.inl hg15w))
    refine J.call Tryz.func8 [.one (.v (.int .i64 0))] [⟨g3, 23, c.cs⟩, ⟨g15, 23, zCf⟩] (fun w18 hk18 hr18 => ?_)
    have hx18 := fin2 hx17 hr18
    refine (code_c 0 w18).mono ?_
    rintro e w19 ⟨rfl, hx⟩
    have hx19 := hx18.trans hx
    refine ⟨.one (.v (.int .i64 0)), _, rfl, rfl, hx.known hk18, ?_⟩
    refine J.brf ((0 : Int) != 0) rfl ?_
    refine J.call Tryz.func8 [.one (.v (.int .i64 er))] [⟨g3, 23, c.cs⟩, ⟨g15, 23, zCf⟩] (fun w20 hk20 hr20 => ?_)
    have hx20 := fin2 hx19 hr20
    refine (code_c er w20).mono ?_
    rintro e w21 ⟨rfl, hx⟩
    have hx21 := hx20.trans hx
    refine ⟨.one (.v (.int .i64 er)), _, rfl, rfl, hx.known hk20, ?_⟩
    refine J.brt (er != 0) (by rcases her with rfl | rfl <;> rfl) ?_
    refine J.call Tryz.func10 [] [⟨g3, 23, c.cs⟩, ⟨g15, 23, zCf⟩] (fun u9 hk9 hr9 => ?_)
    have hy9 := fin2 hx21 hr9
    refine (live_c u9).mono ?_
    rintro e v9 ⟨rfl, hx⟩
    have hz9 := hy9.trans hx
    refine ⟨.one (.v (.bool true)), _, rfl, rfl, hx.known hk9, ?_⟩
    exact J.ret (.one (.v (.bool true))) [⟨g3, 23, c.cs⟩, ⟨g15, 23, zCf⟩] (fun w9 hk9 hr9 => ⟨rfl, fin2 hz9 hr9⟩)
  obtain ⟨M', n', hLR, hn', hMl, hMz, hdl⟩ := laid_dump hck' hmem hms hll h0
  rw [hLR] at hBC
  replace hBC : BusC w17 g' O' M' n' := hBC
  rw [hql] at hdl
  obtain ⟨rfl, -⟩ := dump_head hck hck' hdl.symm
  have hx1617 := hx
  have hx17 := (hx15.trans hx1516).trans hx
  have hk17 := hx.known hk16
  have hx1517 := hx1516.trans hx
  have hB17 := hB15.ext hx1517
  have hO'w : ∀ j, O' j → w16.heap.size ≤ j := hO'
  have hap' : ∀ j, O1 j → O' j → False := fun j h1 h2 => by
    have := hB15.lt h1; have := hO' j h2; have := hx1516.1; omega
  refine ⟨.tup [(false, [.v (.pointer (some ⟨g', 0, none⟩))]), (true, c.cs), (false, [.v (.int .i64 0)])], _, rfl, rfl, hk17, ?_⟩
  refine J.new 23 zCf [⟨g3, 23, c.cs⟩] (fun g15 hg15 _ => ?_)
  have hg15w : w.heap.size ≤ g15 := Nat.le_trans hx17.1 hg15
  have fin2 : ∀ {u w1 : World}, Ext w u → Rel [⟨g3, 23, c.cs⟩, ⟨g15, 23, c.cs⟩] u w1 → Ext w w1 := fun hx hr => hx.rel' hr (mem2 (.inl hg3) (.inl hg15w))
  have same2 : ∀ {u w1 : World}, Known [⟨g3, 23, c.cs⟩, ⟨g15, 23, c.cs⟩] u → Known [⟨g3, 23, c.cs⟩, ⟨g15, 23, c.cs⟩] w1 → Rel [⟨g3, 23, c.cs⟩, ⟨g15, 23, c.cs⟩] u w1 → Ext u w1 := fun h hk hr => hr.ext' (mem2 (.inr ((hk.get 0 rfl).trans (h.get 0 rfl).symm)) (.inr ((hk.get 1 rfl).trans (h.get 1 rfl).symm)))
  have kn : ∀ {u v : World} {gg : Nat} {O S : Nat → Prop} {M : List Dc} {n : Int}, BusC u gg O M n → Chg S u v → (∀ k, S k → O k) → Known [⟨g3, 23, c.cs⟩, ⟨g15, 23, c.cs⟩] u → Known [⟨g3, 23, c.cs⟩, ⟨g15, 23, c.cs⟩] v := fun hb hc hS hk => hk.chg (Chg.mono hc (fun k _ h => hS k h)) (mem2 (notO hb (hk.get 0 rfl) (by show 23 ≠ _; decide) (by show 23 ≠ _; decide) (by show 23 ≠ _; decide) (by show 23 ≠ _; decide) (by show 23 ≠ _; decide)) (notO hb (hk.get 1 rfl) (by show 23 ≠ _; decide) (by show 23 ≠ _; decide) (by show 23 ≠ _; decide) (by show 23 ≠ _; decide) (by show 23 ≠ _; decide)))
  refine J.call Tryz.func8 [.one (.v (.int .i64 0))] [⟨g3, 23, c.cs⟩, ⟨g15, 23, c.cs⟩] (fun w18 hk18 hr18 => ?_)
  have hx1718 : Ext w17 w18 := hr18.ext' (mem2 (.inr ((hk18.get 0 rfl).trans (hk17.get 0 rfl).symm)) (.inl hg15))
  refine (code_c 0 w18).mono ?_
  rintro e w19 ⟨rfl, hx⟩
  have hx1719 := hx1718.trans hx
  have hk19 := hx.known hk18
  refine ⟨.one (.v (.int .i64 0)), _, rfl, rfl, hk19, ?_⟩
  refine J.brf ((0 : Int) != 0) rfl ?_
  refine J.call Tryz.func8 [.one (.v (.int .i64 0))] [⟨g3, 23, c.cs⟩, ⟨g15, 23, c.cs⟩] (fun w20 hk20 hr20 => ?_)
  have hx1720 := hx1719.trans (same2 hk19 hk20 hr20)
  refine (code_c 0 w20).mono ?_
  rintro e w21 ⟨rfl, hx⟩
  have hx1721 := hx1720.trans hx
  have hk21 := hx.known hk20
  refine ⟨.one (.v (.int .i64 0)), _, rfl, rfl, hk21, ?_⟩
  refine J.brf ((0 : Int) != 0) rfl ?_
  refine J.call Tryz.func7 [.one (.v (.pointer (some ⟨g', 0, none⟩))), .agg c.cs] [⟨g3, 23, c.cs⟩, ⟨g15, 23, c.cs⟩] (fun w22 hk22 hr22 => ?_)
  have hx1722 := hx1721.trans (same2 hk21 hk22 hr22)
  have hC22 := hBC.ext hx1722
  have hB22 := hB17.ext hx1722
  refine (dump_c (c := c) w22 hC22 (by omega) hck hMl hMz (by rw [hdl]; omega) (by omega) hFa).mono ?_
  rintro e w23 ⟨v23, n5, rfl, ho23, hC23, -, hn5, hch⟩
  rw [hdl] at ho23
  have hch1 : Chg O' w22 w23 := Chg.mono hch (fun k _ h => h.1)
  obtain ⟨q2, rfl, hq2n, hq2l, hq23⟩ := ho23.part (by omega)
  have hk23 := kn hC22 hch1 (fun k h => h) hk22
  have hB23 := BusC.apart hB22 hch1 (fun j h ho => hap' j ho h) (fun j cs fz h => hC22.far j cs fz h)
  have hqq23 : PAt w23 q := PAt.bus (hq15.ext (hx1517.trans hx1722)) hC22 hch1 (fun _ h => h)
  have hx23 : Ext w w23 := ext_chg (hx17.trans hx1722) hch1 (fun j h => Nat.le_trans (hx15.trans hx1516).1 (hO' j h))
  refine ⟨.tup [(false, [.v q2.val]), (false, [.v (.int .i64 0)])], _, rfl, rfl, hk23, ?_⟩
  refine J.cmp true [⟨g3, 23, c.cs⟩, ⟨g15, 23, c.cs⟩] (op := .eql) (T := 23) (u := .agg c.cs) (v := .agg c.cs) (fun x y u => run_eqGuard_agg u _ _ _ _ _ _ (by kernel_rfl)) (fun u => by
    show (binOp .eql 23 c.val c.val).run Tryz.prog u = _
    have := confEq c u
    unfold Cf.val at this ⊢
    rw [run_eql_struct, this]; rfl) ?_
  refine J.call Tryz.func14 [.one (.v (.pointer (some ⟨g1, 0, none⟩))), .one (.v (.pointer (some ⟨g', 0, none⟩))), .agg c.cs] [⟨g3, 23, c.cs⟩, ⟨g15, 23, c.cs⟩] (fun w24 hk24 hr24 => ?_)
  have hx2324 := same2 hk23 hk24 hr24
  have hB24 := hB23.ext hx2324
  have hC24 := hC23.ext hx2324
  refine (same_c (c := c) w24 hB24 hC24 hap' (by omega) (by omega) hck hml1 hMl hz1 hMz).mono ?_
  rintro e w25 ⟨B, rfl, hBi, -, -, hc25⟩
  have hBt : B = true := hBi.2 hdl.symm
  subst hBt
  have hk25 : Known [⟨g3, 23, c.cs⟩, ⟨g15, 23, c.cs⟩] w25 := hk24.chg hc25 (mem2 (fun h => h.elim (notO hB24 (hk24.get 0 rfl) (by show 23 ≠ _; decide) (by show 23 ≠ _; decide) (by show 23 ≠ _; decide) (by show 23 ≠ _; decide) (by show 23 ≠ _; decide)) (notO hC24 (hk24.get 0 rfl) (by show 23 ≠ _; decide) (by show 23 ≠ _; decide) (by show 23 ≠ _; decide) (by show 23 ≠ _; decide) (by show 23 ≠ _; decide))) (fun h => h.elim (notO hB24 (hk24.get 1 rfl) (by show 23 ≠ _; decide) (by show 23 ≠ _; decide) (by show 23 ≠ _; decide) (by show 23 ≠ _; decide) (by show 23 ≠ _; decide)) (notO hC24 (hk24.get 1 rfl) (by show 23 ≠ _; decide) (by show 23 ≠ _; decide) (by show 23 ≠ _; decide) (by show 23 ≠ _; decide) (by show 23 ≠ _; decide))))
  have far25 : ∀ (j : Nat) (cs : Array Value) (fz : Nat × Nat), (O1 j ∨ O' j) → U8 w24 j cs fz → False := fun j cs fz h hu => h.elim (fun h => hB24.far j cs fz h hu) (fun h => hC24.far j cs fz h hu)
  have hq25 : PAt w25 q := ⟨(hqq23.ext hx2324).at_.chg hc25 far25, hqq23.nil, hqq23.le⟩
  have hq225 : PAt w25 q2 := ⟨(hq23.ext hx2324).at_.chg hc25 far25, hq23.nil, hq23.le⟩
  have hx25 : Ext w w25 := ext_chg (hx23.trans hx2324) hc25 (fun j h => h.elim (hO1w j) (fun h => Nat.le_trans (hx15.trans hx1516).1 (hO' j h)))
  refine ⟨.one (.v (.bool true)), _, rfl, rfl, hk25, ?_⟩
  refine J.lit 108 true true rfl ?_
  refine J.call Tryz.func8 [.one (.v (.int .i64 0))] [⟨g3, 23, c.cs⟩, ⟨g15, 23, c.cs⟩] (fun w26 hk26 hr26 => ?_)
  have hx2526 := same2 hk25 hk26 hr26
  refine (code_c 0 w26).mono ?_
  rintro e w27 ⟨rfl, hx⟩
  have hx2527 := hx2526.trans hx
  have hk27 := hx.known hk26
  refine ⟨.one (.v (.int .i64 0)), _, rfl, rfl, hk27, ?_⟩
  refine J.lit 113 ((0 : Int) == 0) true rfl ?_
  refine J.str (strOfNums q2.l) [⟨g3, 23, c.cs⟩, ⟨g15, 23, c.cs⟩] (e := 5) (by kernel_rfl) (by kernel_rfl) (by kernel_rfl) (fun u hr hk => str_run (hq225.ext (hx2527.trans (same2 hk27 hk hr)))) ?_
  refine J.str (strOfNums q.l) [⟨g3, 23, c.cs⟩, ⟨g15, 23, c.cs⟩] (e := 5) (by kernel_rfl) (by kernel_rfl) (by kernel_rfl) (fun u hr hk => str_run (hq25.ext (hx2527.trans (same2 hk27 hk hr)))) ?_
  refine J.seq (T := 9) (x := strOfNums q2.l) (y := strOfNums q.l) true [⟨g3, 23, c.cs⟩, ⟨g15, 23, c.cs⟩] (by rw [hq2l, hql]; exact beq_self_eq_true _) ?_
  refine J.call Tryz.func10 [] [⟨g3, 23, c.cs⟩, ⟨g15, 23, c.cs⟩] (fun u9 hk9 hr9 => ?_)
  have hy9 := fin2 (hx25.trans hx2527) hr9
  refine (live_c u9).mono ?_
  rintro e v9 ⟨rfl, hx⟩
  have hz9 := hy9.trans hx
  refine ⟨.one (.v (.bool true)), _, rfl, rfl, hx.known hk9, ?_⟩
  exact J.ret (.one (.v (.bool true))) [⟨g3, 23, c.cs⟩, ⟨g15, 23, c.cs⟩] (fun w9 hk9 hr9 => ⟨rfl, fin2 hz9 hr9⟩)
end Go.Proofs.YtlhmpmmblnbmbaaGreat.Doc
namespace Go.Proofs.YtlhmpmmblnbmbaaGreat.imageLoads
open Go.RowKit
open Go.Proofs.YtlhmpmmblnbmbaaGreatW.PrintWords Go.Proofs.YtlhmpmmblnbmbaaGreatW.PrintLast Go.Proofs.YtlhmpmmblnbmbaaGreatW.PrintMore Go.Proofs.YtlhmpmmblnbmbaaGreat.Open
set_option maxRecDepth 100000
def toAc (x : S64) : Doc.Ac := ⟨x.f0, x.f1, x.f2, x.f3, x.f4⟩
def toCf (x : S23) : Cnf.Cf := ⟨x.f0, x.f1, x.f2, x.f3, x.f4, x.f5, x.f6, x.f7, x.f8, x.f9, x.f10⟩
theorem ext_below {w w' : World} (h : Sx.Ext w w') : Go.RowKit.Below w.heap.size w w' := ⟨congrArg (fun x => x.1) h.still, congrArg (fun x => x.2.1) h.still, congrArg (fun x => x.2.2) h.still, h.le, h.old⟩
theorem u8_of {x : Int} (h : (Lit.int .u8 x).wf = true) : 0 ≤ x ∧ x < 256 := by
  unfold Lit.wf at h
  rw [Bool.and_eq_true, decide_eq_true_eq, decide_eq_true_eq] at h
  have h1 : IntKind.min .u8 = 0 := by decide
  have h2 : IntKind.max .u8 = 255 := by decide
  rw [h1, h2] at h
  omega
theorem ac_ok {xs : List S64} (g : xs.length ≤ maxLen ∧ ∀ y ∈ xs, Q64 y) : ∀ a ∈ xs.map toAc, a.Ok := fun a ha => by
  obtain ⟨x, hx, rfl⟩ := List.mem_map.1 ha
  obtain ⟨-, h1, h2, h3, h4⟩ := g.2 x hx
  have := u8_of h1; have := u8_of h2; have := u8_of h3; have := u8_of h4
  exact ⟨by show 0 ≤ x.f1; omega, by show x.f1 < 256; omega, by show 0 ≤ x.f2; omega, by show x.f2 < 256; omega, by show 0 ≤ x.f3; omega, by show x.f3 < 256; omega, by show 0 ≤ x.f4; omega, by show x.f4 < 256; omega⟩
theorem acts_arg {W : World} {r : Reach} {base : Nat} {A : Option Addr} {c : Nat} {xs : List S64} (hv : Value.okWide Tryz.prog W r base 24 (.slice A xs.length c)) (hr : k64.C W A xs.length xs) : Doc.ActsAt W A (xs.map toAc) := by
  have hu : Tryz.prog.underlying 24 = some (.slice 64) := by kernel_rfl
  by_cases h0 : xs.length = 0
  · obtain rfl : xs = [] := List.length_eq_zero_iff.1 h0
    exact .inl rfl
  refine .inr ?_
  obtain ⟨ad, rfl, hc⟩ := hr.2.2 (by omega)
  unfold Value.okWide at hv
  simp only [hu] at hv
  unfold Cell.okWide at hv
  simp only [hu] at hv
  unfold Cell.ok at hv
  simp only [hu] at hv
  obtain ⟨_, _, hh⟩ := hv
  obtain ⟨_, hspot, row, cells, hs, hla⟩ := hh
  obtain ⟨g, o, sp⟩ := ad
  replace hspot : sp = none := hspot
  subst hspot
  unfold World.shape? at hs
  split at hs <;> try (cases hs; done)
  rename_i cs elem fz hg
  cases hs
  refine ⟨g, o, cs, _, fz, rfl, hg, fun i a hi j v hjv => ?_⟩
  rw [List.getElem?_map] at hi
  obtain ⟨x, hx, rfl⟩ := Option.map_eq_some_iff.1 hi
  obtain ⟨c, hl, hk, hcell⟩ := hc i x hx
  obtain rfl := k64_open hk
  have h1 := hcell j v hjv
  rw [Addr.add_mid] at h1
  unfold World.cell? at h1
  rw [hg] at h1
  have h2 : o + i * 5 + j = o + (i * k64.sz + j) := by
    show o + i * 5 + j = o + (i * 5 + j)
    omega
  rw [h2]
  exact h1
theorem calls_b (a0 : S23) (a1 a2 : List S64) (A A2 : Option Addr) (c c2 : Nat) (w : World) (hl : Doc.ActsAt w A (a1.map toAc)) (hok : ∀ a ∈ a1.map toAc, a.Ok) (hl2 : Doc.ActsAt w A2 (a2.map toAc)) (hok2 : ∀ a ∈ a2.map toAc, a.Ok) : Calls Tryz.prog 4 #[.agg #[.int .i64 a0.f0, .int .i64 a0.f1, .int .i64 a0.f2, .int .i64 a0.f3, .int .i64 a0.f4, .int .i64 a0.f5, .int .i64 a0.f6, .int .i64 a0.f7, .int .i64 a0.f8, .int .i64 a0.f9, .int .i64 a0.f10], .slice A a1.length c, .slice A2 a2.length c2] w fun e w' => e = .returned (.bool true) ∧ Go.RowKit.Below w.heap.size w w' := by
  have h := Doc.loads_c (c := toCf a0) (k := c) (k2 := c2) (a1.map toAc) (a2.map toAc) w (fun _ => hl) hok (fun _ => hl2) hok2
  rw [List.length_map, List.length_map] at h
  exact h.mono fun e w' ⟨h1, h2⟩ => ⟨h1, ext_below h2⟩
end Go.Proofs.YtlhmpmmblnbmbaaGreat.imageLoads
namespace Go.Proofs.YtlhmpmmblnbmbaaGreat.imageLoads
open Go.ChangeShapes Go.WideShapes Go.ChangeAt Go.RowKit
open Go.ChangeMaps (open_string shut_string)
open Go.Proofs.YtlhmpmmblnbmbaaGreatW.PrintWords Go.Proofs.YtlhmpmmblnbmbaaGreatW.PrintLast Go.Proofs.YtlhmpmmblnbmbaaGreatW.PrintMore Go.Proofs.YtlhmpmmblnbmbaaGreat.Open
set_option linter.unusedVariables false
theorem own : ownKnob Tryz.prog.godebug = none := by kernel_rfl
theorem laid : laidOutB Tryz.prog = true := by kernel_rfl
theorem reads : (Tryz.f4.params.toList.all fun t => Tryz.prog.readableRec t && decide (t < Tryz.prog.types.size)) = true := by kernel_rfl
set_option maxRecDepth 100000 in
set_option maxHeartbeats 4000000 in
theorem lifted (os : Os) (started : os.Started) (H : Type) (enc : TypeId × Value → H) :
    ReturnsInHanded {} Tryz.checked os 4 .any (Rows.imageLoadsSpec.pre6 enc Tryz.prog Tryz.f4 Rows.imageLoadsRow.domain false) (Rows.imageLoadsSpec.post enc Tryz.prog Tryz.f4 false true false false) := by
  refine returnsInHanded_of_change_sized (C := Tryz.checked) own started (by kernel_rfl) Tryz.func4
    (ChangeSpec.witness6 (enc := enc) (C := Tryz.checked) false ⟨#[], #[.agg #[.int .i64 0, .int .i64 0, .int .i64 0, .int .i64 0, .int .i64 0, .int .i64 0, .int .i64 0, .int .i64 0, .int .i64 0, .int .i64 0, .int .i64 0], .slice none 0 0, .slice none 0 0], []⟩ 8 (by kernel_rfl) (by kernel_rfl) (by kernel_rfl) (by kernel_rfl)) ?_
  intro W base args ds gs before hval0 hW hcnd hsz0 _
  have hsz : (DataW.weightsEach Tryz.prog (Tryz.f4.params.toList ++ Rows.imageLoadsSpec.plain.varTypes Tryz.prog) (ds ++ gs)).all (· ≤ reachBytes) = true := hsz0
  have hval : ∀ (j : Nat) t v, Tryz.f4.params[j]? = some t → args[j]? = some v → Value.okWide Tryz.prog W .any base t v := hval0
  have hW' := hW
  obtain ⟨p, q, hA0, hV, rfl, hfz, hnd⟩ := hW
  have hA : DataW.TrodAll enc Tryz.prog W 0 (fun _ => true) true Tryz.f4.params.toList args.toList ds p := hA0
  have hA2 := hA
  rw [Tryz.params4] at hA hval hsz
  obtain ⟨v0, vs0, d0, ds0, p0, q0, hargs, rfl, rfl, h0, r0⟩ := trodAll_cons hA
  obtain ⟨v1, vs1, d1, ds1, p1, q1, rfl, rfl, rfl, h1, r1⟩ := trodAll_cons r0
  obtain ⟨v2, vs2, d2, ds2, p2, q2, rfl, rfl, rfl, h2, r2⟩ := trodAll_cons r1
  obtain ⟨rfl, rfl, rfl⟩ := trodAll_nil r2
  obtain rfl : args = #[v0, v1, v2] := by cases args; simp_all
  obtain ⟨rfl, rfl⟩ := trodVars_none hV
  obtain ⟨a0, cs0, rfl, hk0, g0⟩ := arg_struct Tryz.underlying23 o23 (hval 0 23 v0 rfl rfl) h0
  obtain rfl := k23_open hk0
  obtain ⟨a1, A1, c1, rfl, hc1, hr1, g1⟩ := arg_slice Tryz.underlying24 o24 (hval 1 24 v1 rfl rfl) h1
  obtain ⟨a2, A2, c2, rfl, hc2, hr2, g2⟩ := arg_slice Tryz.underlying24 o24 (hval 2 24 v2 rfl rfl) h2
  clear hA0 hval0 hsz0 hsz
  refine (calls_b a0 a1 a2 A1 A2 c1 c2 W (acts_arg (hval 1 24 _ rfl rfl) hr1) (ac_ok g1) (acts_arg (hval 2 24 _ rfl rfl) hr2) (ac_ok g2)).mono fun e W' ⟨he, bel⟩ => ?_
  subst he
  exact ⟨_, rfl, _, _, _, [], _, [], hW', trodAll_mk1 (shut_bool Tryz.underlying4 _), args_stay laid reads hA2 bel, rfl, bel.frame _, fun h => by cases h⟩
theorem over : Rows.imageLoadsRow.holds Tryz.pinned (OpenSpec.ofChange Rows.imageLoadsSpec) :=
  OpenClaim.holds_of_wide 4 Tryz.f4 rfl rfl rfl rfl rfl rfl rfl ⟨rfl, rfl, rfl, rfl, rfl⟩ rfl rfl rfl rfl rfl (by kernel_rfl) Tryz.func4 (by kernel_rfl)
    (of_decide_eq_true (by kernel_rfl)) (by unfold Func.isWrapper; first | (rw [if_pos (by decide +kernel)]; kernel_rfl) | (rw [if_neg (by decide +kernel)]; exact ⟨rfl, rfl⟩))
    (fun os started H enc _ => lifted os started H enc)
theorem proved : Rows.ImageLoadsSaid := over
#print axioms proved
end Go.Proofs.YtlhmpmmblnbmbaaGreat.imageLoads
namespace Go.Proofs.YtlhmpmmblnbmbaaGreat
/-- The row, under a short name, for the claim. -/
theorem imageLoads_holds : Rows.ImageLoadsSaid := imageLoads.proved
end Go.Proofs.YtlhmpmmblnbmbaaGreat
