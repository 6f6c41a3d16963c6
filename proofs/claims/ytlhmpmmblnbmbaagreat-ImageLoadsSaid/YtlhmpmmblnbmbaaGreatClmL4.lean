/- Own work and lines of the print, as much as imageLoads_holds needs: part 4. -/
import Derived.Test.YtlhmpmmblnbmbaaGreatClmL3
import Derived.Laws.BitsLemmas
import Derived.Laws.Shifts
import Derived.Laws.MakeOwn
import Derived.Laws.IdiomCopy
set_option linter.unusedVariables false
set_option linter.unusedSimpArgs false
namespace Go.Proofs.YtlhmpmmblnbmbaaGreat.Sx
open Go.RowKit
def cvAt (S : List (Nat × SV)) (o : Oper) : Option (Nat × Nat × SV) := match o.op with
  | .convert s d x => (opd S x).map fun v => (s, d, v)
  | _ => none
def cvOf (n : Nat) (s : St) : Option (Nat × Nat × SV) := (opAt n s).bind (cvAt s.S)
section
variable {P : Program} {Q : Exit → Act → World → Prop} {tab : Tab} {n : Nat} {s : St} {w0 : World}
theorem bop_run {S : List (Nat × SV)} {L : List Blk} {a : Act} (hS : Slots n L S a) {o : Oper} {op : BinOp} {k k2 : IntKind} {x y : Int} {z : Value} (h : binAt S o = some (op, .one (.v (.int k x)), .one (.v (.int k2 y)))) (hz : ∀ T w, (binOp op T (.int k x) (.int k2 y)).run P w = .ok z w) (w : World) : (execOp a.eval o).run P w = .ok (.value z) w := by
  unfold binAt at h
  split at h <;> try (cases h; done)
  rename_i op' T x' y' T' ho
  split at h <;> try (cases h; done)
  rename_i u v hu hv
  cases h
  have ex : a.eval x' = .int k x := opd_ok hS hu
  have ey : a.eval y' = .int k2 y := opd_ok hS hv
  unfold execOp
  simp only [ho, ex, ey]
  have hg : (eqGuard op T x' y' (.int k x) (.int k2 y)).run P w = .ok () w := by
    unfold eqGuard
    cases op <;> simp [Sem.run_bind]
  simp only [Sem.run_bind, hg, Result.andThen_ok, hz]
  rfl
/-- A sum of any kind. -/
theorem J.bop [ht : Ok P tab] [hQ : RetOk Q] {op : BinOp} {k k2 : IntKind} {x y : Int} (z : Value) (hz : ∀ T w, (binOp op T (.int k x) (.int k2 y)).run P w = .ok z w) (hn : SX P Q n (ansK (go tab n s) (.one (.v z)) (go tab n s).L) w0)
    (h : binOf n (go tab n s) = some (op, .one (.v (.int k x)), .one (.v (.int k2 y))) := by kernel_rfl) : SX P Q n s w0 := by
  obtain ⟨o, ho, hh⟩ := Option.bind_eq_some_iff.1 h
  exact J.val (.one (.v z)) ho (fun a w hS hK hR => bop_run hS hh hz w) hn
theorem cv_run {S : List (Nat × SV)} {L : List Blk} {a : Act} (hS : Slots n L S a) {o : Oper} {src dst : Nat} {k k2 : IntKind} {x z : Int} (h : cvAt S o = some (src, dst, .one (.v (.int k x)))) (hs : (P.underlying src).isSome = true) (hd : P.underlying dst = some (.int k2)) (hi : P.intKind dst = k2) (hz : k2.wrap x = z) (w : World) : (execOp a.eval o).run P w = .ok (.value (.int k2 z)) w := by
  unfold cvAt at h
  split at h <;> try (cases h; done)
  rename_i s' d' x' ho
  obtain ⟨v, hv, e⟩ := Option.map_eq_some_iff.1 h
  cases e
  have ex : a.eval x' = .int k x := opd_ok hS hv
  subst hi
  unfold execOp
  simp only [ho, ex, Sem.run_bind, run_convert_int w _ _ k x hs hd, Result.andThen_ok, hz]
  rfl
/-- A whole number as one of another kind. -/
theorem J.cv [ht : Ok P tab] [hQ : RetOk Q] (src dst : Nat) (k k2 : IntKind) {x : Int} (z : Int) (hz : k2.wrap x = z) (hn : SX P Q n (ansK (go tab n s) (.one (.v (.int k2 z))) (go tab n s).L) w0)
    (h : cvOf n (go tab n s) = some (src, dst, .one (.v (.int k x))) := by kernel_rfl) (hs : (P.underlying src).isSome = true := by kernel_rfl) (hd : P.underlying dst = some (.int k2) := by kernel_rfl) (hi : P.intKind dst = k2 := by kernel_rfl) : SX P Q n s w0 := by
  obtain ⟨o, ho, hh⟩ := Option.bind_eq_some_iff.1 h
  exact J.val (.one (.v (.int k2 z))) ho (fun a w hS hK hR => cv_run hS hh hs hd hi hz w) hn
theorem Y.cv {L : List Blk} {E : Oper → List (Nat × SV)} {ops : Array Oper} {i : Nat} (src dst : Nat) (k k2 : IntKind) {x : Int} (z : Int) (hz : k2.wrap x = z)
    (h : (ops[i]?).bind (fun o => cvAt (E o) o) = some (src, dst, .one (.v (.int k x))) := by kernel_rfl) (hs : (P.underlying src).isSome = true := by kernel_rfl) (hd : P.underlying dst = some (.int k2) := by kernel_rfl) (hi : P.intKind dst = k2 := by kernel_rfl) : YAt P n L E ops i (.one (.v (.int k2 z))) w0 := ⟨fun o ho => by
  rw [ho] at h
  exact Yields.run fun a w hS _ _ => cv_run hS h hs hd hi hz w⟩
theorem shr_run (k k2 : IntKind) (x y : Int) (m : Nat) (hy : y = (m : Int)) (hm : m ≤ k.bits) (T : Nat) (w : World) : (binOp .shr T (.int k x) (.int k2 y)).run P w = .ok (.int k (x / 2 ^ m)) w := by
  rw [binOp_shr, shift_shr_any k k2 x y (by omega), hy, Int.toNat_natCast, Nat.min_eq_left hm]; rfl
theorem shl_run (k k2 : IntKind) (x y : Int) (m : Nat) (hy : y = (m : Int)) (hm : m ≤ k.bits) (T : Nat) (w : World) : (binOp .shl T (.int k x) (.int k2 y)).run P w = .ok (.int k (k.wrap (x * 2 ^ m))) w := by
  rw [binOp_shl, shift_shl_any k k2 x y (by omega), hy, Int.toNat_natCast, Nat.min_eq_left hm]; rfl
theorem or_run (k : IntKind) (x y : Int) (T : Nat) (w : World) : (binOp .or T (.int k x) (.int k y)).run P w = .ok (.int k (bits .or k x y)) w := by
  rw [binOp_or]; rfl
end
section
variable {P : Program} {Q : Exit → Act → World → Prop} {tab : Tab} {n : Nat} {s : St} {w0 : World}
/-- Some of what is known is known no more: slots and cells are told by values alone. ix: which blocks stay. -/
theorem J.fgt [ht : Ok P tab] [hQ : RetOk Q] (T : List (Nat × SV)) (L' : List Blk) (ix : List Nat) (L : List Blk) (hn : ∀ w1, Known L w1 → Rel L w0 w1 → SX P Q n ⟨(go tab n s).k, T, L', (go tab n s).D⟩ w1)
    (hL : (go tab n s).L = L := by kernel_rfl) (hT : T.map (fun x => (look (go tab n s).S x.1).map (SV.den L)) = T.map (fun x => some (x.2.den L')) := by kernel_rfl) (hx : (ix.map fun i => (L[i]?).map fun b => (b.g, b.ty, b.cs.map (C.den L))) = L'.map (fun b => some (b.g, b.ty, b.cs.map (C.den L'))) := by kernel_rfl) (hnd : ix.Nodup := by decide) : SX P Q n s w0 := by
  refine run_ok ht.ok hQ.ok 1000 (s := s) ?_
  change SX P Q n (go tab n s) w0
  generalize go tab n s = s1 at *
  obtain ⟨k1, S, L1, D⟩ := s1
  replace hL : L1 = _ := hL
  subst hL
  refine ⟨fun a w hS hD hK hR => ?_⟩
  replace hS : Slots n L1 S a := hS
  replace hK : Known L1 w := hK
  replace hR : Rel L1 w0 w := hR
  have hget : ∀ (j : Nat) (b : Blk), L'[j]? = some b → ∃ i c, ix[j]? = some i ∧ L1[i]? = some c ∧ c.g = b.g ∧ c.ty = b.ty ∧ c.cs.map (C.den L1) = b.cs.map (C.den L') := fun j b hb => by
    have h1 : (L'.map (fun b => some (b.g, b.ty, b.cs.map (C.den L'))))[j]? = some (some (b.g, b.ty, b.cs.map (C.den L'))) := by rw [List.getElem?_map, hb]; rfl
    rw [← hx, List.getElem?_map] at h1
    obtain ⟨i, hi, h2⟩ := Option.map_eq_some_iff.1 h1
    obtain ⟨c, hc, h3⟩ := Option.map_eq_some_iff.1 h2
    have e1 : c.g = b.g := congrArg Prod.fst h3
    have e2 : c.ty = b.ty := congrArg (fun x => x.2.1) h3
    have e3 : c.cs.map (C.den L1) = b.cs.map (C.den L') := congrArg (fun x => x.2.2) h3
    exact ⟨i, c, hi, hc, e1, e2, e3⟩
  refine (hn w hK hR).of a w ⟨hS.1, fun k v hk => ?_⟩ hD ⟨fun j b hb => ?_, fun i j b c hi hj e => ?_⟩ (rel_refl _ _)
  · replace hk : look T k = some v := hk
    have hmem : (k, v) ∈ T := by
      have : ∀ (l : List (Nat × SV)), look l k = some v → (k, v) ∈ l := fun l => by
        induction l with
        | nil => intro h; cases h
        | cons y l ih =>
          intro h
          unfold look at h
          split at h
          · rename_i e; cases h
            have := Nat.eq_of_beq_eq_true e
            subst this
            exact List.mem_cons_self ..
          · exact List.mem_cons_of_mem _ (ih h)
      exact this T hk
    obtain ⟨j, hj⟩ := List.mem_iff_getElem?.1 hmem
    have h1 : (T.map (fun x => some (x.2.den L')))[j]? = some (some (v.den L')) := by rw [List.getElem?_map, hj]; rfl
    rw [← hT, List.getElem?_map, hj] at h1
    simp only [Option.map_some, Option.some.injEq] at h1
    obtain ⟨v', hv', e⟩ := Option.map_eq_some_iff.1 h1
    rw [← e]
    exact hS.2 k v' hv'
  · replace hb : L'[j]? = some b := hb
    obtain ⟨i, c, _, hc, e1, e2, e3⟩ := hget j b hb
    have h0 := hK.1 i c hc
    rw [e1, e2, e3] at h0; exact h0
  · replace hi : L'[i]? = some b := hi
    replace hj : L'[j]? = some c := hj
    obtain ⟨i2, b2, hi2, hb2, e1, _, _⟩ := hget i b hi
    obtain ⟨j2, c2, hj2, hc2, e4, _, _⟩ := hget j c hj
    have : i2 = j2 := hK.2 i2 j2 b2 c2 hb2 hc2 (by rw [e1, e4, e])
    subst this
    have l1 := (List.getElem?_eq_some_iff.1 hi2).1
    have l2 := (List.getElem?_eq_some_iff.1 hj2).1
    have e5 : ix[i] = ix[j] := by rw [(List.getElem?_eq_some_iff.1 hi2).2, (List.getElem?_eq_some_iff.1 hj2).2]
    rcases Nat.lt_trichotomy i j with h | h | h
    · exact absurd e5 (List.pairwise_iff_getElem.1 hnd i j l1 l2 h)
    · exact h
    · exact absurd e5.symm (List.pairwise_iff_getElem.1 hnd j i l2 l1 h)
end
/-- A number below 2^i and one that is a multiple of 2^i, as one number. -/
theorem or64 (a t i : Nat) (ha : a < 2 ^ i) (hd : t % 2 ^ i = 0) (hi : i ≤ 64) (ht : t < 2 ^ 64) : bits .or .i64 (a : Int) (IntKind.i64.wrap (t : Int)) = IntKind.i64.wrap ((a + t : Nat) : Int) := by
  have e : BitVec.ofInt 64 (IntKind.i64.wrap (t : Int)) = BitVec.ofNat 64 t := by
    apply BitVec.eq_of_toNat_eq
    rw [BitVec.toNat_ofInt, BitVec.toNat_ofNat, IntKind.wrap_i64]
    omega
  have ha2 : a < 2 ^ 64 := Nat.lt_of_lt_of_le ha (Nat.pow_le_pow_right (by decide) hi)
  change IntKind.i64.wrap ((BitVec.ofInt 64 (a : Int) ||| BitVec.ofInt 64 (IntKind.i64.wrap (t : Int))).toNat : Int) = _
  simp only [e, BitVec.ofInt_natCast, BitVec.toNat_or, BitVec.toNat_ofNat, Nat.mod_eq_of_lt ha2, Nat.mod_eq_of_lt ht]
  have hq : t = 2 ^ i * (t / 2 ^ i) := by
    have := Nat.div_add_mod t (2 ^ i)
    omega
  have h2 : a ||| t = a + t := by
    rw [hq, Nat.or_comm, ← Nat.two_pow_add_eq_or_of_lt ha, Nat.add_comm]
  rw [h2]
/-- An argument: told, or a slot. -/
inductive Arg where
  | t (v : SV)
  | o (k : Nat)
def Arg.val (L : List Blk) (ρ : Nat → Value) : Arg → Value
  | .t v => v.den L
  | .o k => ρ k
def argOf (S : List (Nat × SV)) (x : Operand) : Option Arg := match opd S x with
  | some v => some (.t v)
  | none => match x with
    | .tmp k => some (.o k)
    | _ => none
def argsOf (S : List (Nat × SV)) : List Operand → Option (List Arg)
  | [] => some []
  | x :: r => match argOf S x, argsOf S r with
    | some a, some l => some (a :: l)
    | _, _ => none
def callOAt (S : List (Nat × SV)) (o : Oper) : Option (FuncId × List Arg) := match o.op with
  | .call { callee := .value f, args, .. } => match opd S f, argsOf S args.toList with
    | some (.one (.v (.func (.func f) first cap))), some l => some (f, first.toList.map (fun v => .t (.one (.v v))) ++ l ++ cap.toList.map (fun v => .t (.one (.v v))))
    | _, _ => none
  | _ => none
section
variable {P : Program} {Q : Exit → Act → World → Prop} {tab : Tab} {n : Nat} {s : St} {w0 : World}
theorem args_ok {S : List (Nat × SV)} {L : List Blk} {a : Act} (hS : Slots n L S a) : ∀ {l : List Operand} {r : List Arg}, argsOf S l = some r → l.map a.eval = r.map (Arg.val L fun k => a.tmps.getD k undef)
  | [], _, h => by cases h; rfl
  | x :: l, r, h => by
    unfold argsOf at h
    split at h <;> try (cases h; done)
    rename_i b r' hb hr
    cases h
    rw [List.map_cons, List.map_cons, args_ok hS hr]
    congr 1
    unfold argOf at hb
    split at hb
    · rename_i v hv; cases hb; exact opd_ok hS hv
    · split at hb
      · cases hb; rfl
      · cases hb
theorem callO_run {S : List (Nat × SV)} {L : List Blk} {a : Act} (hS : Slots n L S a) {o : Oper} {f : FuncId} {fn : Func} {l : List Arg} (h : callOAt S o = some (f, l)) (hf : P.funcs[f]? = some fn) (hname : (fn.name == "runtime.NumGoroutine") = false) (hb : fn.body.isSome = true) (w : World) :
    (execOp a.eval o).run P w = .ok (.enter f (l.map (Arg.val L fun k => a.tmps.getD k undef)).toArray) w := by
  unfold callOAt at h
  split at h <;> try (cases h; done)
  rename_i fo as1 ts hop
  split at h <;> try (cases h; done)
  rename_i f' first cap l' hfo hl
  cases h
  have e1 : a.eval fo = .func (.func f) first cap := opd_ok hS hfo
  have e2 : (as1.map a.eval).toList = l'.map (Arg.val L fun k => a.tmps.getD k undef) := by rw [Array.toList_map]; exact args_ok hS hl
  have e3 : as1.map a.eval = (l'.map (Arg.val L fun k => a.tmps.getD k undef)).toArray := by rw [← e2]
  have hm : ∀ q : Array Value, (q.toList.map (fun v => Arg.t (SV.one (.v v)))).map (Arg.val L fun k => a.tmps.getD k undef) = q.toList := fun q => by
    rw [List.map_map]; exact List.map_id _
  have hne : fn.name ≠ "runtime.NumGoroutine" := by simpa using hname
  obtain ⟨c, hcb⟩ := Option.isSome_iff_exists.1 hb
  rw [List.map_append, List.map_append, hm, hm]
  unfold execOp
  simp only [hop, resolve, e1, Deferred.ofValue, Sem.run_bind, Sem.run_pure, Result.andThen_ok, invoke, e3]
  simp [callFunc, hf, hne, hcb, Sem.run_bind]
/-- Each key once. -/
def onceD : List (Nat × Pred) → List (Nat × Pred)
  | [] => []
  | x :: r => if (onceD r).any (fun y => Nat.beq y.1 x.1) then onceD r else x :: onceD r
theorem onceD_mem : ∀ {l : List (Nat × Pred)} {x : Nat × Pred}, x ∈ onceD l → x ∈ l
  | [], _, h => by cases h
  | y :: r, x, h => by
    unfold onceD at h
    split at h
    · exact List.mem_cons_of_mem _ (onceD_mem h)
    · rcases List.mem_cons.1 h with rfl | h
      · exact List.mem_cons_self ..
      · exact List.mem_cons_of_mem _ (onceD_mem h)
/-- A call of what only facts tell. -/
theorem UAt.callO {L : List Blk} {G : World → World → Prop} {ls : List (Nat × Loud)} {S : Oper → List (Nat × SV)} {D : Oper → List (Nat × Pred)} {ops : Array Oper} {i : Nat} {p : Pred} {wb : World} {f : FuncId} {fn : Func} (hf : P.funcs[f]? = some fn) (l : List Arg) (ds : List (Nat × Pred))
    (hc : ∀ w (ρ : Nat → Value), Known L w → G wb w → loudU ls i w → (∀ k q, (k, q) ∈ ds → q (ρ k) w) → Calls P f (l.map (Arg.val L ρ)).toArray w fun e w' => ∃ v, e = .returned v ∧ loudE ls i w w' ∧ p v w')
    (h : (ops[i]?).bind (fun o => callOAt (S o) o) = some (f, l) := by kernel_rfl) (hd : (ops[i]?).map (fun o => onceD (D o)) = some ds := by kernel_rfl) (hname : (fn.name == "runtime.NumGoroutine") = false := by kernel_rfl) (hb : fn.body.isSome = true := by kernel_rfl) : UAt P n L G ls S D ops i p wb := ⟨fun o ho Q a w hS hK hG hU hdep K hk => by
  rw [ho] at h hd
  replace hd : some (onceD (D o)) = some ds := hd
  injection hd with hd
  have hrun := callO_run hS h hf hname hb w
  unfold Oper.wp
  rw [hrun]
  show Calls P f _ w _
  refine (hc w (fun k => a.tmps.getD k undef) hK hG hU (fun k q hq => hdep k q (onceD_mem (by rw [hd]; exact hq)))).mono ?_
  rintro e w' ⟨v, rfl, hx, hp⟩
  exact hk v w' hx hp⟩
end
/-- What is known was known. -/
theorem Known.same {L : List Blk} {u v : World} (h : Known L u) (k : Known L v) (hr : Rel L u v) : Ext u v := hr.ext' (fun b hb => .inr (by
  obtain ⟨i, hi⟩ := List.mem_iff_getElem?.1 hb
  exact (k.1 i b hi).trans (h.1 i b hi).symm))
theorem Known.same2 {L M : List Blk} {u v : World} (h : Known L u) (k : Known (L ++ M) v) (hr : Rel (L ++ M) u v) (hM : ∀ b ∈ M, u.heap.size ≤ b.g) (hl : (L.all fun b => b.cs.all (C.lt L.length)) = true := by kernel_rfl) : Ext u v := hr.ext' (fun b hb => by
  rcases List.mem_append.1 hb with hb | hb
  · refine .inr ?_
    obtain ⟨i, hi⟩ := List.mem_iff_getElem?.1 hb
    have h2 := k.1 i b (by rw [List.getElem?_append_left (List.getElem?_eq_some_iff.1 hi).1]; exact hi)
    have hbl := List.all_eq_true.1 hl b hb
    have e : b.cs.map (C.den (L ++ M)) = b.cs.map (C.den L) := List.map_congr_left (fun c hc => all_lt (sv := .one c) (List.all_eq_true.1 hbl c hc))
    rw [e] at h2
    exact h2.trans (h.1 i b hi).symm
  · exact .inl (hM b hb))
/-- The first of what is known. -/
theorem Known.fst {L M : List Blk} {u : World} (k : Known (L ++ M) u) (hl : (L.all fun b => b.cs.all (C.lt L.length)) = true := by kernel_rfl) : Known L u := ⟨fun i b hi => by
  have h2 := k.1 i b (by rw [List.getElem?_append_left (List.getElem?_eq_some_iff.1 hi).1]; exact hi)
  have hbl := List.all_eq_true.1 hl b (List.mem_of_getElem? hi)
  have e : b.cs.map (C.den (L ++ M)) = b.cs.map (C.den L) := List.map_congr_left (fun c hc => all_lt (sv := .one c) (List.all_eq_true.1 hbl c hc))
  rw [e] at h2; exact h2, fun i j b c hi hj e => k.2 i j b c (by rw [List.getElem?_append_left (List.getElem?_eq_some_iff.1 hi).1]; exact hi) (by rw [List.getElem?_append_left (List.getElem?_eq_some_iff.1 hj).1]; exact hj) e⟩
/-- A block of another type is not written. -/
theorem Known.far {L : List Blk} {u v : World} {g t : Nat} {cs : Array Value} {f : Nat × Nat} (h : Known L u) (hg : u.heap[g]? = some (Obj.cells cs t f)) (ht : (L.all fun b => !Nat.beq b.ty t) = true) (hx : Chg (fun k => k = g) u v) : Known L v := h.chg hx (fun b hb e => by
  obtain ⟨i, hi⟩ := List.mem_iff_getElem?.1 hb
  have h1 := h.1 i b hi
  have h2 := List.all_eq_true.1 ht b hb
  rw [e, hg] at h1
  injection h1 with h1
  injection h1 with _ h3 _
  rw [h3, Nat.beq_refl] at h2
  cases h2)
end Go.Proofs.YtlhmpmmblnbmbaaGreat.Sx
set_option linter.unusedVariables false
set_option linter.unusedSimpArgs false
set_option maxRecDepth 100000
namespace Go.Proofs.YtlhmpmmblnbmbaaGreat.Pck
open Go.Proofs.YtlhmpmmblnbmbaaGreat.Sx Go.Proofs.YtlhmpmmblnbmbaaGreat.Byt Go.Lib
/-- A row of bytes of one's own, made since w. -/
def Bts (w w' : World) (l : List Int) (v : Value) : Prop := Ext w w' ∧ w'.ownsRow w.heap.size 5 1 v l.length (enc l)
theorem Bts.from {w0 w w' : World} {l : List Int} {v : Value} (h : Bts w w' l v) (hx : Ext w0 w) : Bts w0 w' l v := ⟨hx.trans h.1, owns_base h.2 hx.1⟩
/-- It is a part, for whoever reads it. -/
theorem Bts.part {w w' : World} {l : List Int} {v : Value} (h : Bts w w' l v) : ∃ p : Part, v = p.val ∧ p.n = l.length ∧ p.l = l ∧ BAt w' p.A p.n p.l ∧ (p.A = none → p.c = 0) ∧ ∀ g o s, p.A = some ⟨g, o, s⟩ → w.heap.size ≤ g := by
  obtain ⟨A, c, rfl, h1, h2, h3⟩ := owns_BAt h.2
  exact ⟨⟨A, l.length, c, l⟩, rfl, rfl, rfl, h1, h2, h3⟩
/-- What may be handed on as bytes. -/
structure PAt (w : World) (p : Part) : Prop where
  at_ : BAt w p.A p.n p.l
  nil : p.A = none → p.c = 0
  le : p.n ≤ 1000000000
theorem PAt.ext {w w' : World} {p : Part} (h : PAt w p) (hx : Ext w w') : PAt w' p := ⟨h.at_.ext hx, h.nil, h.le⟩
theorem PAt.len {w : World} {p : Part} (h : PAt w p) : p.l.length = p.n := h.at_.1
theorem Bts.pat {w w' : World} {l : List Int} {v : Value} (h : Bts w w' l v) (hle : l.length ≤ 1000000000) : ∃ p : Part, v = p.val ∧ p.n = l.length ∧ p.l = l ∧ PAt w' p := by
  obtain ⟨p, h1, h2, h3, h4, h5, _⟩ := h.part
  exact ⟨p, h1, h2, h3, h4, h5, by omega⟩
def nilP : Part := ⟨none, 0, 0, []⟩
theorem PAt.none {w : World} : PAt w nilP := ⟨⟨rfl, .inl rfl⟩, fun _ => rfl, Nat.zero_le _⟩
theorem clone_o (p : Part) (w : World) (hp : PAt w p) : Calls Tryz.prog 48 #[p.val] w fun e w' => ∃ v, e = .returned v ∧ Bts w w' p.l v := by
  have hlen := hp.len
  have hle := hp.le
  have fin : ∀ {u w1 : World}, Ext w u → Rel [] u w1 → Ext w w1 := fun hx hr => hx.rel' hr (fun b hb => by cases hb)
  cases hA : p.A with
  | none =>
    have hn0 : p.n = 0 := by
      rcases hp.at_.2 with h0 | ⟨g, o, cs, fz, h1, _⟩
      · exact h0
      · rw [hA] at h1; cases h1
    refine J.enter Tryz.func48 rfl [] [.one (.v (.slice none p.n p.c))] 8 (known_nil w) ?_ (by unfold Part.val; rw [hA]; rfl)
    refine J.ret (.one (.v (.slice none 0 0))) [] (fun w1 _ hr => ⟨_, rfl, fin (.refl w) hr, ?_⟩)
    have : p.l = [] := List.length_eq_zero_iff.1 (hlen.trans hn0)
    rw [this]
    exact ⟨rfl, .inl ⟨rfl, rfl⟩⟩
  | some ad =>
    refine J.enter Tryz.func48 rfl [] [.one (.v (.slice (some ad) p.n p.c))] 8 (known_nil w) ?_ (by unfold Part.val; rw [hA]; rfl)
    refine J.bslO 5 0 1 [] [] [] (fun w0 w1 _ hr0 _ hx0 hb0 => ?_)
    have hx1 : Ext w w1 := (fin (.refl w) hr0).trans hx0
    refine J.app 27 27 (.one (.v (.slice (some ⟨w0.heap.size, 0, none⟩) 0 0))) (.one (.v (.slice (some ad) p.n p.c))) [] (fun ty w2 hk hr => ?_)
    have hx2 := fin hx1 hr
    have hown : w2.ownsRow w.heap.size 5 1 (.slice (some ⟨w0.heap.size, 0, none⟩) 0 0) 0 [] := ⟨rfl, .inr ⟨w0.heap.size, 0, #[], rfl, hr0.1, (hr.ext' (fun b hb => by cases hb)).blk hb0, Nat.le_refl _, Nat.zero_le _, rfl, rfl⟩⟩
    obtain ⟨v', w3, e1, e2, e3⟩ := app_bytes hown p (hp.at_.ext hx2) hp.nil hx2.1 (by omega) ty
    rw [Nat.zero_add, List.nil_append] at e2
    have hx3 : Ext w w3 := (.mk2 (Nat.le_trans hx2.1 e3.1) (fun k hk => (e3.2 k (Nat.lt_of_lt_of_le hk hx2.1) (by omega)).trans (hx2.2 k hk)))
    refine ⟨v', w3, by unfold Part.val at e1; rw [hA] at e1; exact e1, known_nil _, ?_⟩
    refine J.ret (.one (.v v')) [] (fun w4 _ hr4 => ⟨v', rfl, fin hx3 hr4, ?_⟩)
    rw [hlen]
    exact owns_ext e2 (hr4.ext' (fun b hb => by cases hb))
/-- The first i of a number's bytes. -/
def by8 (i : Nat) (n : Int) : List Int := (List.range i).map fun j => n / 2 ^ (8 * j) % 256
theorem by8_len (i : Nat) (n : Int) : (by8 i n).length = i := by simp [by8]
theorem by8_step (i : Nat) (n : Int) : by8 (i + 1) n = by8 i n ++ [n / 2 ^ (8 * i) % 256] := by simp [by8, List.range_succ]
def i8 (n : Int) : List Int := by8 8 n
theorem i8_len (n : Int) : (i8 n).length = 8 := by8_len 8 n
/-- One byte more. -/
theorem app_byte {w : World} {b n : Nat} {v : Value} {l : List Int} (h : w.ownsRow b 5 1 v n (enc l)) (x : Int) {g : Nat} (hg : w.heap[g]? = some (Obj.cells #[.int .u8 x] 5 (0, 0))) (hb : b ≤ w.heap.size) (hm : n + 1 ≤ 109951162777600) (ty : Nat) :
    ∃ v' w', (Builtin.append_ #[27, 27] ty #[v, .slice (some ⟨g, 0, none⟩) 1 1]).run Tryz.prog w = .ok v' w' ∧ w'.ownsRow b 5 1 v' (n + 1) (enc (l ++ [x])) ∧ Chg (fun k => b ≤ k) w w' := by
  obtain ⟨v', w', h1, h2, h3⟩ := app_bytes h ⟨some ⟨g, 0, none⟩, 1, 1, [x]⟩ ⟨rfl, .inr ⟨g, 0, _, _, rfl, .of hg, fun i y hy => by
    cases i with
    | zero => cases hy; rfl
    | succ i => cases hy⟩⟩ (fun h => by cases h) hb hm ty
  refine ⟨v', w', h1, ?_, h3⟩
  have e : enc (l ++ [x]) = enc l ++ enc [x] := by simp [enc]
  rw [e]; exact h2
theorem int_c (p : Part) (n : Int) (w : World) (hp : PAt w p) : Calls Tryz.prog 26 #[p.val, .int .i64 n] w fun e w' => ∃ v, e = .returned v ∧ Bts w w' (p.l ++ i8 n) v := by
  have hlen := hp.len
  have hle := hp.le
  refine J.enter Tryz.func26 rfl [] [.one (.v p.val), .one (.v (.int .i64 n))] 22 (known_nil w) ?_
  have fin : ∀ {u w1 : World}, Ext w u → Rel [] u w1 → Ext w w1 := fun hx hr => hx.rel' hr (fun b hb => by cases hb)
  have fin0 : ∀ {u w1 : World}, Rel [] u w1 → Ext u w1 := fun hr => hr.ext' (fun b hb => by cases hb)
  refine J.call Tryz.func48 [.one (.v p.val)] [] (fun w1 hk1 hr1 => ?_)
  have hx1 := fin (.refl w) hr1
  refine (clone_o p w1 (hp.ext hx1)).mono ?_
  rintro e w2 ⟨v0, rfl, hb0⟩
  replace hb0 := hb0.from hx1
  refine ⟨.one (.v v0), [], rfl, rfl, known_nil w2, ?_⟩
  refine J.loop (fun x : Nat × Value => [(1, .one (.v (.int .i64 n))), (5, .one (.v x.2)), (9, .one (.v (.int .i64 x.1)))]) (fun _ => []) (fun x u => x.1 ≤ 8 ∧ Ext w u ∧ u.ownsRow w.heap.size 5 1 x.2 (p.n + x.1) (enc (p.l ++ by8 x.1 n))) (fun x => 8 - x.1) [] (0, v0) (fun w3 hk3 hr3 => ⟨Nat.zero_le _, fin hb0.1 hr3, ?_⟩) ?_
  · have := owns_ext hb0.2 (fin0 hr3)
    rw [hlen] at this
    rw [show p.l ++ by8 0 n = p.l by simp [by8]]; exact this
  rintro q ⟨i, v⟩ w3 hq ⟨hi, hx3, hv⟩ hk3
  refine J.brd ((i : Int) < 8) (fun h1 => ?_) (fun h1 => ?_)
  · refine J.ari (8 * (i : Int)) (.mul (x := 8) (y := i) rfl (by omega) (by omega)) ?_
    refine J.bop _ (shr_run .i64 .i64 n (8 * (i : Int)) (8 * i) (by omega) (by show 8 * i ≤ 64; omega)) ?_
    refine J.cv 3 5 .i64 .u8 (n / 2 ^ (8 * i) % 256) (IntKind.wrap_u8 _) ?_
    refine J.bslO 5 1 1 [.int .u8 0] [.v (.int .u8 (n / 2 ^ (8 * i) % 256))] [] (fun w4 w5 _ hr4 _ hx5 hb5 => ?_)
    have hx45 := (fin0 hr4).trans hx5
    refine J.app 27 27 (.one (.v v)) (.one (.v (.slice (some ⟨w4.heap.size, 0, none⟩) 1 1))) [] (fun ty w6 hk6 hr6 => ?_)
    have hx6 := hx45.trans (fin0 hr6)
    obtain ⟨v', w7, e1, e2, e3⟩ := app_byte (owns_ext hv hx6) (n / 2 ^ (8 * i) % 256) ((fin0 hr6).blk hb5) (hx3.trans hx6).1 (by show p.n + i + 1 ≤ _; omega) ty
    refine ⟨v', w7, e1, known_nil _, ?_⟩
    have hxw := hx3.trans hx6
    have hx7 : Ext w w7 := (.mk2 (Nat.le_trans hxw.1 e3.1) (fun k hk => (e3.2 k (Nat.lt_of_lt_of_le hk hxw.1) (by omega)).trans (hxw.2 k hk)))
    refine J.ari ((i + 1 : Nat) : Int) (.add (x := i) (y := 1) (by omega) (by omega) (by omega)) ?_
    rw [List.append_assoc, ← by8_step] at e2
    exact J.at (fun a u h1 h2 hk hr => hq (i + 1, v') a u h1 h2 hk ⟨by show i + 1 ≤ 8; omega, fin hx7 hr, owns_ext e2 (fin0 hr)⟩ (by show 8 - (i + 1) < 8 - i; omega))
  · replace hi : i ≤ 8 := hi
    have : i = 8 := by omega
    subst this
    refine J.ret (.one (.v v)) [] (fun w4 hk4 hr4 => ⟨v, rfl, fin hx3 hr4, ?_⟩)
    have := owns_ext hv (fin0 hr4)
    rw [List.length_append, i8_len, hlen]; exact this
theorem bytes_c (p q : Part) (w : World) (hp : PAt w p) (hq : PAt w q) : Calls Tryz.prog 19 #[p.val, q.val] w fun e w' => ∃ v, e = .returned v ∧ Bts w w' (p.l ++ i8 q.n ++ q.l) v := by
  have hlen := hp.len
  have hle := hp.le
  have hlen2 := hq.len
  have hle2 := hq.le
  refine J.enter Tryz.func19 rfl [] [.one (.v p.val), .one (.v q.val)] 11 (known_nil w) ?_
  have fin : ∀ {u w1 : World}, Ext w u → Rel [] u w1 → Ext w w1 := fun hx hr => hx.rel' hr (fun b hb => by cases hb)
  have fin0 : ∀ {u w1 : World}, Rel [] u w1 → Ext u w1 := fun hr => hr.ext' (fun b hb => by cases hb)
  refine J.call Tryz.func26 [.one (.v p.val), .one (.v (.int .i64 q.n))] [] (fun w1 hk1 hr1 => ?_)
  have hx1 := fin (.refl w) hr1
  refine (int_c p q.n w1 (hp.ext hx1)).mono ?_
  rintro e w2 ⟨v0, rfl, hb0⟩
  replace hb0 := hb0.from hx1
  refine ⟨.one (.v v0), [], rfl, rfl, known_nil w2, ?_⟩
  refine J.app 27 27 (.one (.v v0)) (.one (.v q.val)) [] (fun ty w3 hk3 hr3 => ?_)
  have hx3 := fin hb0.1 hr3
  obtain ⟨v', w4, e1, e2, e3⟩ := app_bytes (owns_ext hb0.2 (fin0 hr3)) q (hq.at_.ext hx3) hq.nil hx3.1 (by rw [List.length_append, i8_len]; omega) ty
  refine ⟨v', w4, e1, known_nil _, ?_⟩
  have hx4 : Ext w w4 := (.mk2 (Nat.le_trans hx3.1 e3.1) (fun k hk => (e3.2 k (Nat.lt_of_lt_of_le hk hx3.1) (by omega)).trans (hx3.2 k hk)))
  refine J.ret (.one (.v v')) [] (fun w5 hk5 hr5 => ⟨v', rfl, fin hx4 hr5, ?_⟩)
  have := owns_ext e2 (fin0 hr5)
  have e : enc (p.l ++ i8 q.n ++ q.l) = enc (p.l ++ i8 q.n) ++ enc q.l := by simp [enc]
  rw [e, List.length_append, hlen2]; exact this
def b1 (b : Bool) : Int := if b = true then 1 else 0
theorem flag_c (p : Part) (b : Bool) (w : World) (hp : PAt w p) : Calls Tryz.prog 21 #[p.val, .bool b] w fun e w' => ∃ v, e = .returned v ∧ Bts w w' (p.l ++ [b1 b]) v := by
  have hlen := hp.len
  have hle := hp.le
  refine J.enter Tryz.func21 rfl [] [.one (.v p.val), .one (.v (.bool b))] 12 (known_nil w) ?_
  have fin : ∀ {u w1 : World}, Ext w u → Rel [] u w1 → Ext w w1 := fun hx hr => hx.rel' hr (fun b hb => by cases hb)
  have fin0 : ∀ {u w1 : World}, Rel [] u w1 → Ext u w1 := fun hr => hr.ext' (fun b hb => by cases hb)
  cases b
  · refine J.brf false rfl ?_
    refine J.call Tryz.func48 [.one (.v p.val)] [] (fun w1 hk1 hr1 => ?_)
    have hx1 := fin (.refl w) hr1
    refine (clone_o p w1 (hp.ext hx1)).mono ?_
    rintro e w2 ⟨v0, rfl, hb0⟩
    replace hb0 := hb0.from hx1
    refine ⟨.one (.v v0), [], rfl, rfl, known_nil w2, ?_⟩
    refine J.bslO 5 1 1 [.int .u8 0] [.v (.int .u8 0)] [] (fun w4 w5 _ hr4 _ hx5 hb5 => ?_)
    have hx45 := (fin0 hr4).trans hx5
    refine J.app 27 27 (.one (.v v0)) (.one (.v (.slice (some ⟨w4.heap.size, 0, none⟩) 1 1))) [] (fun ty w6 hk6 hr6 => ?_)
    have hx6 := hx45.trans (fin0 hr6)
    have hxw := hb0.1.trans hx6
    obtain ⟨v', w7, e1, e2, e3⟩ := app_byte (owns_ext hb0.2 hx6) 0 ((fin0 hr6).blk hb5) hxw.1 (by omega) ty
    refine ⟨v', w7, e1, known_nil _, ?_⟩
    have hx7 : Ext w w7 := (.mk2 (Nat.le_trans hxw.1 e3.1) (fun k hk => (e3.2 k (Nat.lt_of_lt_of_le hk hxw.1) (by omega)).trans (hxw.2 k hk)))
    exact J.ret (.one (.v v')) [] (fun w8 hk8 hr8 => ⟨v', rfl, fin hx7 hr8, by rw [List.length_append]; exact owns_ext e2 (fin0 hr8)⟩)
  · refine J.brt true rfl ?_
    refine J.call Tryz.func48 [.one (.v p.val)] [] (fun w1 hk1 hr1 => ?_)
    have hx1 := fin (.refl w) hr1
    refine (clone_o p w1 (hp.ext hx1)).mono ?_
    rintro e w2 ⟨v0, rfl, hb0⟩
    replace hb0 := hb0.from hx1
    refine ⟨.one (.v v0), [], rfl, rfl, known_nil w2, ?_⟩
    refine J.bslO 5 1 1 [.int .u8 0] [.v (.int .u8 1)] [] (fun w4 w5 _ hr4 _ hx5 hb5 => ?_)
    have hx45 := (fin0 hr4).trans hx5
    refine J.app 27 27 (.one (.v v0)) (.one (.v (.slice (some ⟨w4.heap.size, 0, none⟩) 1 1))) [] (fun ty w6 hk6 hr6 => ?_)
    have hx6 := hx45.trans (fin0 hr6)
    have hxw := hb0.1.trans hx6
    obtain ⟨v', w7, e1, e2, e3⟩ := app_byte (owns_ext hb0.2 hx6) 1 ((fin0 hr6).blk hb5) hxw.1 (by omega) ty
    refine ⟨v', w7, e1, known_nil _, ?_⟩
    have hx7 : Ext w w7 := (.mk2 (Nat.le_trans hxw.1 e3.1) (fun k hk => (e3.2 k (Nat.lt_of_lt_of_le hk hxw.1) (by omega)).trans (hxw.2 k hk)))
    exact J.ret (.one (.v v')) [] (fun w8 hk8 hr8 => ⟨v', rfl, fin hx7 hr8, by rw [List.length_append]; exact owns_ext e2 (fin0 hr8)⟩)
end Go.Proofs.YtlhmpmmblnbmbaaGreat.Pck
set_option linter.unusedVariables false
set_option linter.unusedSimpArgs false
set_option maxRecDepth 100000
namespace Go.Proofs.YtlhmpmmblnbmbaaGreat.Pck
open Go.Proofs.YtlhmpmmblnbmbaaGreat.Sx Go.Proofs.YtlhmpmmblnbmbaaGreat.Byt Go.Lib
/-- A part of a part. -/
def subP (p : Part) (a n : Nat) : Part := ⟨if p.c = a then p.A else p.A.map (·.add (a * 1)), n, p.c - a, (p.l.drop a).take n⟩
theorem subP_at {w : World} {p : Part} (h : PAt w p) (hc : p.n ≤ p.c) {a n : Nat} (hn : a + n ≤ p.n) : PAt w (subP p a n) := by
  have hlen := h.len
  have hle := h.le
  refine ⟨⟨by show ((p.l.drop a).take n).length = n; rw [List.length_take, List.length_drop]; omega, ?_⟩, fun hA => ?_, by show n ≤ _; omega⟩
  · by_cases h0 : n = 0
    · exact .inl h0
    · rcases h.at_.2 with h9 | ⟨g, o, cs, fz, g1, g2, g3⟩
      · omega
      · refine .inr ⟨g, o + a * 1, cs, fz, ?_, g2, fun i x hx => ?_⟩
        · show (if p.c = a then p.A else p.A.map (·.add (a * 1))) = _
          rw [if_neg (by omega), g1, Option.map_some, Addr.add_mid]
        · replace hx : ((p.l.drop a).take n)[i]? = some x := hx
          have hi : i < n := by
            have := (List.getElem?_eq_some_iff.1 hx).1
            rw [List.length_take] at this; omega
          rw [List.getElem?_take_of_lt hi, List.getElem?_drop] at hx
          have := g3 (a + i) x hx
          rw [show o + a * 1 + i = o + (a + i) by omega]; exact this
  · replace hA : (if p.c = a then p.A else p.A.map (·.add (a * 1))) = none := hA
    show p.c - a = 0
    split at hA
    · omega
    · have := h.nil (Option.map_eq_none_iff.1 hA); omega
theorem subP_val (p : Part) (a n : Nat) : sliced p.A a (a + n) p.c 1 = (subP p a n).val := by
  unfold sliced subP Part.val
  rw [Nat.add_sub_cancel_left]
def IsB (l : List Int) : Prop := ∀ b ∈ l, 0 ≤ b ∧ b < 256
theorem IsB.sub {l : List Int} (h : IsB l) (a n : Nat) : IsB ((l.drop a).take n) := fun b hb => h b (List.mem_of_mem_drop (List.mem_of_mem_take hb))
/-- A reader, as told. -/
structure Rd where
  p : Part
  at_ : Nat
  e : Int
def Rd.cs (R : Rd) : List C := [.v R.p.val, .v (.int .i64 R.at_), .v (.int .i64 R.e)]
structure RdAt (w : World) (g : Nat) (R : Rd) : Prop where
  blk : w.heap[g]? = some (Obj.cells #[R.p.val, .int .i64 R.at_, .int .i64 R.e] 148 (0, 0))
  pat : PAt w R.p
  cap : R.p.n ≤ R.p.c
  le : R.at_ ≤ R.p.n
  rng : IsB R.p.l
theorem RdAt.known {w : World} {g : Nat} {R : Rd} (h : RdAt w g R) : Known [⟨g, 148, R.cs⟩] w := known_one h.blk
theorem PAt.chg {w w' : World} {p : Part} {S : Nat → Prop} (h : PAt w p) (hx : Chg S w w') (hS : ∀ k cs fz, S k → U8 w k cs fz → False) : PAt w' p := ⟨h.at_.chg hx hS, h.nil, h.le⟩
theorem RdAt.far {w : World} {g : Nat} {R : Rd} (h : RdAt w g R) : ∀ k (cs : Array Value) (fz : Nat × Nat), k = g → U8 w k cs fz → False := fun k cs fz e hk => by
  subst e; exact ne_u8 h.blk hk (by show u8ty 148 = false; kernel_rfl) rfl
theorem RdAt.ext {w w' : World} {g : Nat} {R : Rd} (h : RdAt w g R) (hx : Ext w w') : RdAt w' g R := ⟨hx.blk h.blk, h.pat.ext hx, h.cap, h.le, h.rng⟩
theorem RdAt.put {w w' : World} {g : Nat} {R R' : Rd} (h : RdAt w g R) (hx : Chg (fun k => k = g) w w') (hb : w'.heap[g]? = some (Obj.cells #[R'.p.val, .int .i64 R'.at_, .int .i64 R'.e] 148 (0, 0))) (hp : R'.p = R.p) (hl : R'.at_ ≤ R'.p.n) : RdAt w' g R' := ⟨hb, by rw [hp]; exact h.pat.chg hx h.far, by rw [hp]; exact h.cap, hl, by rw [hp]; exact h.rng⟩
def Rd.take (R : Rd) (n : Nat) : Rd := if R.e = 0 then (if n ≤ R.p.n - R.at_ then { R with at_ := R.at_ + n } else { R with e := 14 }) else R
def Rd.got (R : Rd) (n : Nat) : Part := if R.e = 0 ∧ n ≤ R.p.n - R.at_ then subP R.p R.at_ n else nilP
theorem take_c {g : Nat} {R : Rd} (n : Nat) (w : World) (h : RdAt w g R) (hn : n ≤ 1000000000) : Calls Tryz.prog 103 #[.pointer (some ⟨g, 0, none⟩), .int .i64 n] w fun e w' => e = .returned (R.got n).val ∧ RdAt w' g (R.take n) ∧ PAt w' (R.got n) ∧ Chg (fun k => k = g) w w' := by
  have hle := h.pat.le
  have hat := h.le
  have hcap := h.cap
  refine J.enter Tryz.func103 rfl [⟨g, 148, R.cs⟩] [.one (.ptr 0 0), .one (.v (.int .i64 n))] 55 h.known ?_
  have chg : ∀ {cs : List C} {w1 : World}, Rel [⟨g, 148, cs⟩] w w1 → Chg (fun k => k = g) w w1 := fun hr => hr.chg' (mem1 (.inl rfl))
  by_cases h0 : R.e = 0
  · have hb : (R.e == 0) = true := by simp [h0]
    refine J.drw 19 [(4, .one (.lit true)), (16, .one (.v (.int .i64 ((R.p.n : Int) - R.at_))))] [⟨g, 148, R.cs⟩] (.cons (Y.lit (R.e == 0) hb) <| .cons (Y.ari (.sub (x := R.p.n) (y := R.at_) rfl (by omega) (by omega))) .nil) ?_
    refine J.brd ((n : Int) > (R.p.n : Int) - R.at_) (fun h1 => ?_) (fun h1 => ?_)
    · refine J.brt ((14 : Int) != 0) rfl ?_
      refine J.ret (.one (.v (.slice none 0 0))) [⟨g, 148, ({ R with e := 14 } : Rd).cs⟩] (fun w1 hk hr => ?_)
      have e1 : R.take n = { R with e := 14 } := by unfold Rd.take; rw [if_pos h0, if_neg (by omega)]
      have e2 : R.got n = nilP := by unfold Rd.got; rw [if_neg (by omega)]
      rw [e1, e2]
      exact ⟨rfl, h.put (chg hr) (hk.get 0 rfl) rfl hat, .none, chg hr⟩
    · refine J.brf (R.e != 0) (by simp [h0]) ?_
      refine J.ari ((R.at_ + n : Nat) : Int) (.add (x := R.at_) (y := n) (by omega) (by omega) (by omega)) ?_
      have hin : n ≤ R.p.n - R.at_ := by omega
      refine J.drw 14 [(9, .one (.v (.int .i64 (R.at_ : Int))))] [⟨g, 148, ({ R with at_ := R.at_ + n } : Rd).cs⟩] (.cons (Y.ari (.sub (x := ((R.at_ + n : Nat) : Int)) (y := n) (by omega) (by omega) (by omega))) .nil) ?_
      refine J.sl 27 R.p.A R.p.n R.p.c (some (.one (.v (.int .i64 (R.at_ : Int))))) (some (.one (.v (.int .i64 ((R.at_ + n : Nat) : Int))))) none R.at_ (R.at_ + n) R.p.c 1 (fun L w => sb_lh (by omega) (by omega) w) (subP R.p R.at_ n).val (subP_val R.p R.at_ n) ?_
      refine J.ret (.one (.v (subP R.p R.at_ n).val)) [⟨g, 148, ({ R with at_ := R.at_ + n } : Rd).cs⟩] (fun w1 hk hr => ?_)
      have e1 : R.take n = { R with at_ := R.at_ + n } := by unfold Rd.take; rw [if_pos h0, if_pos hin]
      have e2 : R.got n = subP R.p R.at_ n := by unfold Rd.got; rw [if_pos ⟨h0, hin⟩]
      rw [e1, e2]
      exact ⟨rfl, h.put (chg hr) (hk.get 0 rfl) rfl (by show R.at_ + n ≤ R.p.n; omega), subP_at (h.pat.chg (chg hr) h.far) hcap (by omega), chg hr⟩
  · have hb : (R.e == 0) = false := by simp [h0]
    refine J.drw 19 [(4, .one (.lit false))] [⟨g, 148, R.cs⟩] (.cons (Y.lit (R.e == 0) hb) .nil) ?_
    refine J.brt (R.e != 0) (by simp [h0]) ?_
    refine J.ret (.one (.v (.slice none 0 0))) [⟨g, 148, R.cs⟩] (fun w1 hk hr => ?_)
    have e1 : R.take n = R := by unfold Rd.take; rw [if_neg h0]
    have e2 : R.got n = nilP := by unfold Rd.got; rw [if_neg (fun h => h0 h.1)]
    rw [e1, e2]
    exact ⟨rfl, h.put (chg hr) (hk.get 0 rfl) rfl hat, .none, chg hr⟩
theorem new_c (p : Part) (w : World) (hp : PAt w p) (hB : IsB p.l) : Calls Tryz.prog 73 #[p.val] w fun e w' => ∃ g q, e = .returned (.pointer (some ⟨g, 0, none⟩)) ∧ RdAt w' g ⟨q, 0, 0⟩ ∧ q.n = p.n ∧ q.l = p.l ∧ Ext w w' ∧ w.heap.size ≤ g := by
  have hlen := hp.len
  refine J.enter Tryz.func73 rfl [] [.one (.v p.val)] 7 (known_nil w) ?_
  have fin : ∀ {u w1 : World}, Ext w u → Rel [] u w1 → Ext w w1 := fun hx hr => hx.rel' hr (fun b hb => by cases hb)
  refine J.call Tryz.func48 [.one (.v p.val)] [] (fun w1 hk1 hr1 => ?_)
  have hx1 := fin (.refl w) hr1
  refine (clone_o p w1 (hp.ext hx1)).mono ?_
  rintro e w2 ⟨v0, rfl, hb0⟩
  have hb0 := hb0.from hx1
  obtain ⟨q, rfl, hq1, hq2, hq3⟩ := hb0.pat (by rw [hlen]; exact hp.le)
  have hqc : q.n ≤ q.c := by
    rcases hb0.2.2 with ⟨h1, h2⟩ | ⟨g, cap, cur, h1, _, _, h2, _⟩
    · rw [hq1, h2]; exact Nat.zero_le _
    · unfold Part.val at h1
      injection h1 with _ _ h3
      rw [hq1, h3]; exact h2
  refine ⟨.one (.v q.val), [], rfl, rfl, known_nil w2, ?_⟩
  refine J.new 148 [.v q.val, .v (.int .i64 0), .v (.int .i64 0)] [] (fun g hg _ => ?_)
  refine J.ret (.one (.ptr 0 0)) [⟨g, 148, [.v q.val, .v (.int .i64 0), .v (.int .i64 0)]⟩] (fun w3 hk hr => ?_)
  have hx3 : Ext w2 w3 := hr.ext' (mem1 (.inl hg))
  exact ⟨g, q, rfl, ⟨hk.get 0 rfl, hq3.ext hx3, hqc, Nat.zero_le _, by show IsB q.l; rw [hq2]; exact hB⟩, by omega, hq2, hb0.1.trans hx3, Nat.le_trans hb0.1.1 hg⟩
/-- A number of bytes. -/
def leN : List Int → Nat
  | [] => 0
  | b :: r => b.toNat + 256 * leN r
theorem leN_append (l : List Int) (b : Int) : leN (l ++ [b]) = leN l + b.toNat * 2 ^ (8 * l.length) := by
  induction l with
  | nil => simp [leN]
  | cons c r ih =>
    simp only [List.cons_append, leN, ih, List.length_cons]
    rw [show 8 * (r.length + 1) = 8 * r.length + 8 by omega, Nat.pow_add]
    generalize 2 ^ (8 * r.length) = z
    rw [Nat.mul_add, show (2 : Nat) ^ 8 = 256 from rfl, ← Nat.mul_assoc b.toNat, Nat.mul_comm (b.toNat * z) 256]
    omega
theorem leN_lt : ∀ (l : List Int), (∀ b ∈ l, 0 ≤ b ∧ b < 256) → leN l < 2 ^ (8 * l.length)
  | [], _ => by simp [leN]
  | b :: r, h => by
    have h1 := h b (List.mem_cons_self ..)
    have h2 := leN_lt r (fun x hx => h x (List.mem_cons_of_mem _ hx))
    simp only [leN, List.length_cons]
    rw [show 8 * (r.length + 1) = 8 * r.length + 8 by omega, Nat.pow_add, show (2 : Nat) ^ 8 = 256 from rfl]
    generalize 2 ^ (8 * r.length) = z at *
    omega
def num (l : List Int) : Int := IntKind.i64.wrap (leN l : Nat)
theorem num_step {l : List Int} (hl : l.length = 8) (hB : IsB l) {i : Nat} {b : Int} (hi : l[i]? = some b) : bits .or .i64 (num (l.take i)) (IntKind.i64.wrap (b * 2 ^ (8 * i))) = num (l.take (i + 1)) := by
  have hi8 : i < 8 := by have := (List.getElem?_eq_some_iff.1 hi).1; omega
  have hb := hB b (List.mem_of_getElem? hi)
  obtain ⟨n, rfl⟩ := Int.eq_ofNat_of_zero_le hb.1
  have hn : n < 256 := by have := hb.2; omega
  have hlen : (l.take i).length = i := by rw [List.length_take]; omega
  have hlt := leN_lt (l.take i) (fun x hx => hB x (List.mem_of_mem_take hx))
  rw [hlen] at hlt
  have h56 : 2 ^ (8 * i) ≤ 2 ^ 56 := Nat.pow_le_pow_right (by decide) (by omega)
  have e1 : num (l.take i) = ((leN (l.take i) : Nat) : Int) := i64w (by omega) (by
    have : (2 : Nat) ^ 56 = 72057594037927936 := by decide
    omega)
  have e2 : ((n : Nat) : Int) * 2 ^ (8 * i) = ((n * 2 ^ (8 * i) : Nat) : Int) := by push_cast; rfl
  have e3 : l.take (i + 1) = l.take i ++ [((n : Nat) : Int)] := by rw [List.take_add_one, hi]; rfl
  have ht : n * 2 ^ (8 * i) < 2 ^ 64 := by
    have h1 : n * 2 ^ (8 * i) ≤ 255 * 2 ^ (8 * i) := Nat.mul_le_mul_right _ (by omega)
    have h2 : 255 * 2 ^ (8 * i) ≤ 255 * 2 ^ 56 := Nat.mul_le_mul_left _ h56
    have h3 : (255 : Nat) * 2 ^ 56 < 2 ^ 64 := by decide
    omega
  rw [e1, e2, or64 (leN (l.take i)) (n * 2 ^ (8 * i)) (8 * i) hlt (Nat.mul_mod_left _ _) (by omega) ht, e3]
  unfold num
  rw [leN_append, hlen]
  simp
theorem BAt.lies {w : World} {g o n i : Nat} {l : List Int} {x : Int} (h : BAt w (some ⟨g, o, none⟩) n l) (hx : l[i]? = some x) : LiesAt w ⟨g, o + i * 1, none⟩ [.int .u8 x] := fun j v hv => by
  have hl := (List.getElem?_eq_some_iff.1 hx).1
  rcases h.2 with h0 | ⟨g', o', cs, fz, h1, ⟨_, _, h2⟩, h3⟩
  · have := h.1; omega
  · cases h1
    cases j with
    | zero =>
      cases hv
      rw [Addr.add_mid]
      unfold World.cell?
      rw [h2]
      have := h3 i x hx
      simpa using this
    | succ j => cases hv
def Rd.int (R : Rd) (low high : Int) : Rd × Int := if (R.take 8).e ≠ 0 then (R.take 8, 0) else if num (R.got 8).l < low ∨ num (R.got 8).l > high then ({ R.take 8 with e := 13 }, 0) else (R.take 8, num (R.got 8).l)
theorem take_p (R : Rd) (n : Nat) : (R.take n).p = R.p := by
  unfold Rd.take
  split
  · split <;> rfl
  · rfl
theorem take_ok {R : Rd} {n : Nat} (h : (R.take n).e = 0) : R.e = 0 ∧ n ≤ R.p.n - R.at_ ∧ R.take n = { R with at_ := R.at_ + n } ∧ R.got n = subP R.p R.at_ n := by
  unfold Rd.take at h ⊢
  unfold Rd.got
  by_cases h0 : R.e = 0
  · rw [if_pos h0] at h ⊢
    by_cases h1 : n ≤ R.p.n - R.at_
    · exact ⟨h0, h1, if_pos h1, if_pos ⟨h0, h1⟩⟩
    · rw [if_neg h1] at h; cases h
  · rw [if_neg h0] at h; exact absurd h h0
theorem int_r {g : Nat} {R : Rd} (low high : Int) (w : World) (h : RdAt w g R) : Calls Tryz.prog 78 #[.pointer (some ⟨g, 0, none⟩), .int .i64 low, .int .i64 high] w fun e w' => e = .returned (.int .i64 (R.int low high).2) ∧ RdAt w' g (R.int low high).1 ∧ Chg (fun k => k = g) w w' := by
  refine J.enter Tryz.func78 rfl [⟨g, 148, R.cs⟩] [.one (.ptr 0 0), .one (.v (.int .i64 low)), .one (.v (.int .i64 high))] 45 h.known ?_
  have chg : ∀ {u w1 : World} {cs : List C}, Chg (fun k => k = g) w u → Rel [⟨g, 148, cs⟩] u w1 → Chg (fun k => k = g) w w1 := fun hx hr => hx.trans (hr.chg' (mem1 (.inl rfl)))
  have same : ∀ {u w1 : World} {R1 : Rd}, RdAt u g R1 → Known [⟨g, 148, R1.cs⟩] w1 → Rel [⟨g, 148, R1.cs⟩] u w1 → Ext u w1 := fun h hk hr => hr.ext' (mem1 (.inr ((hk.get 0 rfl).trans h.blk.symm)))
  refine J.call Tryz.func103 [.one (.ptr 0 0), .one (.v (.int .i64 8))] [⟨g, 148, R.cs⟩] (fun w1 hk1 hr1 => ?_)
  refine (take_c 8 w1 (h.ext (same h hk1 hr1)) (by omega)).mono ?_
  rintro e w2 ⟨rfl, h2, hq2, hx2⟩
  have hx2 := (chg .refl hr1).trans hx2
  refine ⟨.one (.v (R.got 8).val), [⟨g, 148, (R.take 8).cs⟩], rfl, rfl, h2.known, ?_⟩
  by_cases h0 : (R.take 8).e = 0
  rotate_left
  · refine J.brt ((R.take 8).e != 0) (by simp [h0]) ?_
    refine J.ret (.one (.v (.int .i64 0))) [⟨g, 148, (R.take 8).cs⟩] (fun w3 hk3 hr3 => ?_)
    have e1 : R.int low high = (R.take 8, 0) := by unfold Rd.int; rw [if_pos h0]
    rw [e1]
    exact ⟨rfl, h2.ext (same h2 hk3 hr3), chg hx2 hr3⟩
  refine J.brf ((R.take 8).e != 0) (by simp [h0]) ?_
  obtain ⟨-, hin, ht, hg⟩ := take_ok h0
  have hB : IsB (R.got 8).l := by rw [hg]; exact h.rng.sub _ _
  have hqn : (R.got 8).n = 8 := by rw [hg]; rfl
  have hql : (R.got 8).l.length = 8 := hq2.len.trans hqn
  obtain ⟨x, hx⟩ : ∃ x, x = (R.got 8).l := ⟨_, rfl⟩
  obtain ⟨gq, oq, hA⟩ : ∃ gq oq, (R.got 8).A = some ⟨gq, oq, none⟩ := by
    rcases hq2.at_.2 with h9 | ⟨gq, o, _, _, h1, _⟩
    · omega
    · exact ⟨gq, o, h1⟩
  have hval : (R.got 8).val = .slice (some ⟨gq, oq, none⟩) 8 (R.got 8).c := by unfold Part.val; rw [hA, hqn]
  have hba : BAt w2 (some ⟨gq, oq, none⟩) 8 x := by
    have := hq2.at_
    rw [hA, hqn, ← hx] at this; exact this
  rw [hval]
  rw [← hx] at hql hB
  have hint : R.int low high = if num x < low ∨ num x > high then ({ R.take 8 with e := 13 }, 0) else (R.take 8, num x) := by unfold Rd.int; rw [if_neg (by simp [h0]), ← hx]
  generalize (R.got 8).c = cq
  obtain ⟨R1, hR1⟩ : ∃ R1, R1 = R.take 8 := ⟨_, rfl⟩
  rw [← hR1] at hint h2 h0 ⊢
  refine J.loop (fun i : Nat => [(0, .one (.ptr 0 0)), (1, .one (.v (.int .i64 low))), (2, .one (.v (.int .i64 high))), (7, .one (.v (.slice (some ⟨gq, oq, none⟩) 8 cq))), (8, .one (.v (.int .i64 (num (x.take i))))), (19, .one (.v (.int .i64 i)))]) (fun _ => [⟨g, 148, R1.cs⟩]) (fun i u => i ≤ 8 ∧ Ext w2 u) (fun i => 8 - i) [] 0 (fun w3 hk3 hr3 => ⟨Nat.zero_le _, same h2 hk3 hr3⟩) ?_
  intro p i w3 hp ⟨hi, hx3⟩ hk3
  have h3 := h2.ext hx3
  refine J.brd ((i : Int) < 8) (fun h1 => ?_) (fun h1 => ?_)
  · have hj : i < x.length := by omega
    have hjz := List.getElem?_eq_getElem hj
    generalize x[i] = b at hjz
    have hb := hB b (List.mem_of_getElem? hjz)
    refine J.ix gq oq 8 cq 1 i rfl (by omega) ?_
    refine J.ld 5 ⟨gq, oq + i * 1, none⟩ (.one (.v (.int .u8 b))) [⟨g, 148, R1.cs⟩] (fun w4 hk4 hr4 => BAt.lies (hba.ext (hx3.trans (same h3 hk4 hr4))) hjz) ?_
    refine J.cv 5 3 .u8 .i64 b (i64w (by omega) (by omega)) ?_
    refine J.ari (8 * (i : Int)) (.mul (x := 8) (y := i) rfl (by omega) (by omega)) ?_
    refine J.bop _ (shl_run .i64 .i64 b (8 * (i : Int)) (8 * i) (by omega) (by show 8 * i ≤ 64; omega)) ?_
    refine J.bop (.int .i64 (num (x.take (i + 1)))) (fun T w => by rw [or_run, num_step hql hB hjz]) ?_
    refine J.ari ((i + 1 : Nat) : Int) (.add (x := i) (y := 1) (by omega) (by omega) (by omega)) ?_
    exact J.at (fun a u h1 h2' hk hr => hp (i + 1) a u h1 h2' hk ⟨by omega, hx3.trans (same h3 hk hr)⟩ (by omega))
  · have : i = 8 := by omega
    subst this
    rw [show x.take 8 = x by rw [← hql]; exact List.take_length]
    have bad : num x < low ∨ num x > high → ∀ w4, Known [⟨g, 148, ({ R1 with e := 13 } : Rd).cs⟩] w4 → Rel [⟨g, 148, ({ R1 with e := 13 } : Rd).cs⟩] w3 w4 → Ending.returned (.int .i64 0) = .returned (.int .i64 (R.int low high).2) ∧ RdAt w4 g (R.int low high).1 ∧ Chg (fun k => k = g) w w4 := fun hbad w4 hk4 hr4 => by
      rw [hint, if_pos hbad]
      have hc : Chg (fun k => k = g) w3 w4 := hr4.chg' (mem1 (.inl rfl))
      exact ⟨rfl, h3.put hc (hk4.get 0 rfl) rfl h3.le, (hx2.trans (.of_ext hx3)).trans hc⟩
    by_cases c1 : num x < low
    · refine J.lit 36 (decide (num x < low)) true (decide_eq_true c1) ?_
      exact J.ret (.one (.v (.int .i64 0))) [⟨g, 148, ({ R1 with e := 13 } : Rd).cs⟩] (fun w4 hk4 hr4 => bad (.inl c1) w4 hk4 hr4)
    refine J.lit 36 (decide (num x < low)) false (decide_eq_false c1) ?_
    refine J.brd (num x > high) (fun c2 => ?_) (fun c2 => ?_)
    · exact J.ret (.one (.v (.int .i64 0))) [⟨g, 148, ({ R1 with e := 13 } : Rd).cs⟩] (fun w4 hk4 hr4 => bad (.inr c2) w4 hk4 hr4)
    · refine J.ret (.one (.v (.int .i64 (num x)))) [⟨g, 148, R1.cs⟩] (fun w4 hk4 hr4 => ?_)
      rw [hint, if_neg (fun h => h.elim c1 c2)]
      exact ⟨rfl, h3.ext (same h3 hk4 hr4), (hx2.trans (.of_ext hx3)).trans (.of_ext (same h3 hk4 hr4))⟩
theorem int_low {R : Rd} {low high : Int} (h : low ≤ 0) : low ≤ (R.int low high).2 ∧ ((R.int low high).2 ≤ high ∨ (R.int low high).2 = 0) := by
  unfold Rd.int
  split
  · exact ⟨h, .inr rfl⟩
  · split
    · exact ⟨h, .inr rfl⟩
    · rename_i h1
      exact ⟨by show low ≤ num _; omega, .inl (by show num _ ≤ high; omega)⟩
def Rd.bytes (R : Rd) (most : Int) : Rd × List Int := ((R.int 0 most).1.take (R.int 0 most).2.toNat, ((R.int 0 most).1.got (R.int 0 most).2.toNat).l)
theorem bytes_r {g : Nat} {R : Rd} (most : Int) (w : World) (h : RdAt w g R) (hm : most ≤ 1000000000) : Calls Tryz.prog 74 #[.pointer (some ⟨g, 0, none⟩), .int .i64 most] w fun e w' => ∃ v, e = .returned v ∧ RdAt w' g (R.bytes most).1 ∧ w'.ownsRow w.heap.size 5 1 v (R.bytes most).2.length (enc (R.bytes most).2) ∧ Chg (fun k => k = g) w w' := by
  refine J.enter Tryz.func74 rfl [⟨g, 148, R.cs⟩] [.one (.ptr 0 0), .one (.v (.int .i64 most))] 15 h.known ?_
  have same : ∀ {u w1 : World} {R1 : Rd}, RdAt u g R1 → Known [⟨g, 148, R1.cs⟩] w1 → Rel [⟨g, 148, R1.cs⟩] u w1 → Ext u w1 := fun h hk hr => hr.ext' (mem1 (.inr ((hk.get 0 rfl).trans h.blk.symm)))
  have hgl : g < w.heap.size := (Array.getElem?_eq_some_iff.1 h.blk).1
  refine J.call Tryz.func78 [.one (.ptr 0 0), .one (.v (.int .i64 0)), .one (.v (.int .i64 most))] [⟨g, 148, R.cs⟩] (fun w1 hk1 hr1 => ?_)
  refine (int_r 0 most w1 (h.ext (same h hk1 hr1))).mono ?_
  rintro e w2 ⟨rfl, h2, hx2⟩
  have hx2 := (Chg.of_ext (same h hk1 hr1)).trans hx2
  have hlow := int_low (R := R) (low := 0) (high := most) (Int.le_refl _)
  obtain ⟨R1, hR1⟩ : ∃ R1, R1 = (R.int 0 most).1 := ⟨_, rfl⟩
  obtain ⟨n, hn⟩ : ∃ n : Nat, (R.int 0 most).2 = (n : Int) := ⟨_, (Int.toNat_of_nonneg hlow.1).symm⟩
  have hb : R.bytes most = (R1.take n, (R1.got n).l) := by unfold Rd.bytes; rw [hn, Int.toNat_natCast, ← hR1]
  rw [← hR1] at h2
  refine ⟨.one (.v (.int .i64 n)), [⟨g, 148, R1.cs⟩], by rw [hn]; rfl, rfl, h2.known, ?_⟩
  refine J.call Tryz.func103 [.one (.ptr 0 0), .one (.v (.int .i64 n))] [⟨g, 148, R1.cs⟩] (fun w3 hk3 hr3 => ?_)
  refine (take_c n w3 (h2.ext (same h2 hk3 hr3)) (by omega)).mono ?_
  rintro e w4 ⟨rfl, h4, hq4, hx4⟩
  have hx4 := (hx2.trans (.of_ext (same h2 hk3 hr3))).trans hx4
  refine ⟨.one (.v (R1.got n).val), [⟨g, 148, (R1.take n).cs⟩], rfl, rfl, h4.known, ?_⟩
  refine J.call Tryz.func48 [.one (.v (R1.got n).val)] [⟨g, 148, (R1.take n).cs⟩] (fun w5 hk5 hr5 => ?_)
  have hx5 := same h4 hk5 hr5
  refine (clone_o (R1.got n) w5 (hq4.ext hx5)).mono ?_
  rintro e w6 ⟨v, rfl, hv⟩
  have hx6 := hx5.trans hv.1
  refine ⟨.one (.v v), _, rfl, rfl, hv.1.known hk5, ?_⟩
  refine J.ret (.one (.v v)) [⟨g, 148, (R1.take n).cs⟩] (fun w7 hk7 hr7 => ?_)
  have hx7 := same (h4.ext hx6) hk7 hr7
  rw [hb]
  exact ⟨v, rfl, (h4.ext hx6).ext hx7, owns_base (owns_ext hv.2 hx7) (Nat.le_trans hx4.1 hx5.1), (hx4.trans (.of_ext hx6)).trans (.of_ext hx7)⟩
def Rd.flag (R : Rd) : Rd × Bool := if (R.take 1).e ≠ 0 then (R.take 1, false) else (if (R.got 1).l.headD 0 > 1 then { R.take 1 with e := 13 } else R.take 1, (R.got 1).l.headD 0 == 1)
theorem flag_r {g : Nat} {R : Rd} (w : World) (h : RdAt w g R) : Calls Tryz.prog 77 #[.pointer (some ⟨g, 0, none⟩)] w fun e w' => e = .returned (.bool R.flag.2) ∧ RdAt w' g R.flag.1 ∧ Chg (fun k => k = g) w w' := by
  refine J.enter Tryz.func77 rfl [⟨g, 148, R.cs⟩] [.one (.ptr 0 0)] 24 h.known ?_
  have chg : ∀ {u w1 : World} {cs : List C}, Chg (fun k => k = g) w u → Rel [⟨g, 148, cs⟩] u w1 → Chg (fun k => k = g) w w1 := fun hx hr => hx.trans (hr.chg' (mem1 (.inl rfl)))
  have same : ∀ {u w1 : World} {R1 : Rd}, RdAt u g R1 → Known [⟨g, 148, R1.cs⟩] w1 → Rel [⟨g, 148, R1.cs⟩] u w1 → Ext u w1 := fun h hk hr => hr.ext' (mem1 (.inr ((hk.get 0 rfl).trans h.blk.symm)))
  refine J.call Tryz.func103 [.one (.ptr 0 0), .one (.v (.int .i64 1))] [⟨g, 148, R.cs⟩] (fun w1 hk1 hr1 => ?_)
  refine (take_c 1 w1 (h.ext (same h hk1 hr1)) (by omega)).mono ?_
  rintro e w2 ⟨rfl, h2, hq2, hx2⟩
  have hx2 := (chg .refl hr1).trans hx2
  refine ⟨.one (.v (R.got 1).val), [⟨g, 148, (R.take 1).cs⟩], rfl, rfl, h2.known, ?_⟩
  by_cases h0 : (R.take 1).e = 0
  rotate_left
  · refine J.brt ((R.take 1).e != 0) (by simp [h0]) ?_
    refine J.ret (.one (.lit false)) [⟨g, 148, (R.take 1).cs⟩] (fun w3 hk3 hr3 => ?_)
    have e1 : R.flag = (R.take 1, false) := by unfold Rd.flag; rw [if_pos h0]
    rw [e1]
    exact ⟨rfl, h2.ext (same h2 hk3 hr3), chg hx2 hr3⟩
  refine J.brf ((R.take 1).e != 0) (by simp [h0]) ?_
  obtain ⟨-, hin, ht, hg⟩ := take_ok h0
  have hqn : (R.got 1).n = 1 := by rw [hg]; rfl
  have hql : (R.got 1).l.length = 1 := hq2.len.trans hqn
  obtain ⟨b, hx⟩ : ∃ b, (R.got 1).l = [b] := by
    match hm : (R.got 1).l, hql with
    | [b], _ => exact ⟨b, rfl⟩
  obtain ⟨gq, oq, hA⟩ : ∃ gq oq, (R.got 1).A = some ⟨gq, oq, none⟩ := by
    rcases hq2.at_.2 with h9 | ⟨gq, o, _, _, h1, _⟩
    · omega
    · exact ⟨gq, o, h1⟩
  have hval : (R.got 1).val = .slice (some ⟨gq, oq, none⟩) 1 (R.got 1).c := by unfold Part.val; rw [hA, hqn]
  have hba : BAt w2 (some ⟨gq, oq, none⟩) 1 [b] := by
    have := hq2.at_
    rw [hA, hqn, hx] at this; exact this
  rw [hval]
  have hfl : R.flag = (if b > 1 then { R.take 1 with e := 13 } else R.take 1, b == 1) := by unfold Rd.flag; rw [if_neg (by simp [h0]), hx]; rfl
  generalize (R.got 1).c = cq
  obtain ⟨R1, hR1⟩ : ∃ R1, R1 = R.take 1 := ⟨_, rfl⟩
  rw [← hR1] at hfl h2 h0 ⊢
  refine J.ix gq oq 1 cq 1 0 rfl (by omega) ?_
  refine J.ld 5 ⟨gq, oq + 0 * 1, none⟩ (.one (.v (.int .u8 b))) [⟨g, 148, R1.cs⟩] (fun w4 hk4 hr4 => BAt.lies (i := 0) (hba.ext (same h2 hk4 hr4)) rfl) ?_
  refine J.brd (b > 1) (fun c1 => ?_) (fun c1 => ?_)
  · refine J.ix gq oq 1 cq 1 0 rfl (by omega) ?_
    refine J.ld 5 ⟨gq, oq + 0 * 1, none⟩ (.one (.v (.int .u8 b))) [⟨g, 148, ({ R1 with e := 13 } : Rd).cs⟩] (fun w4 hk4 hr4 => BAt.lies (i := 0) (hba.chg (show Chg (fun k => k = g) w2 w4 from hr4.chg' (mem1 (.inl rfl))) h2.far) rfl) ?_
    refine J.ret (.one (.v (.bool (b == 1)))) [⟨g, 148, ({ R1 with e := 13 } : Rd).cs⟩] (fun w4 hk4 hr4 => ?_)
    have hc : Chg (fun k => k = g) w2 w4 := hr4.chg' (mem1 (.inl rfl))
    rw [hfl, if_pos c1]
    exact ⟨rfl, h2.put hc (hk4.get 0 rfl) rfl h2.le, hx2.trans hc⟩
  · refine J.ix gq oq 1 cq 1 0 rfl (by omega) ?_
    refine J.ld 5 ⟨gq, oq + 0 * 1, none⟩ (.one (.v (.int .u8 b))) [⟨g, 148, R1.cs⟩] (fun w4 hk4 hr4 => BAt.lies (i := 0) (hba.ext (same h2 hk4 hr4)) rfl) ?_
    refine J.ret (.one (.v (.bool (b == 1)))) [⟨g, 148, R1.cs⟩] (fun w4 hk4 hr4 => ?_)
    rw [hfl, if_neg c1]
    exact ⟨rfl, h2.ext (same h2 hk4 hr4), hx2.trans (.of_ext (same h2 hk4 hr4))⟩
theorem left_r {g : Nat} {R : Rd} (w : World) (h : RdAt w g R) : Calls Tryz.prog 79 #[.pointer (some ⟨g, 0, none⟩)] w fun e w' => e = .returned (.int .i64 ((R.p.n : Int) - R.at_)) ∧ Ext w w' := by
  have hle := h.pat.le
  have hat := h.le
  refine J.enter Tryz.func79 rfl [⟨g, 148, R.cs⟩] [.one (.ptr 0 0)] 15 h.known ?_
  refine J.drw 9 [] [⟨g, 148, R.cs⟩] .nil ?_
  refine J.ari ((R.p.n : Int) - R.at_) (.sub (x := R.p.n) (y := R.at_) rfl (by omega) (by omega)) ?_
  exact J.ret (.one (.v (.int .i64 ((R.p.n : Int) - R.at_)))) [⟨g, 148, R.cs⟩] (fun w1 hk hr => ⟨rfl, hr.ext' (mem1 (.inr ((hk.get 0 rfl).trans h.blk.symm)))⟩)
theorem err_r {g : Nat} {R : Rd} (w : World) (h : RdAt w g R) : Calls Tryz.prog 75 #[.pointer (some ⟨g, 0, none⟩)] w fun e w' => e = .returned (.int .i64 R.e) ∧ Ext w w' := by
  refine J.enter Tryz.func75 rfl [⟨g, 148, R.cs⟩] [.one (.ptr 0 0)] 9 h.known ?_
  exact J.ret (.one (.v (.int .i64 R.e))) [⟨g, 148, R.cs⟩] (fun w1 hk hr => ⟨rfl, hr.ext' (mem1 (.inr ((hk.get 0 rfl).trans h.blk.symm)))⟩)
end Go.Proofs.YtlhmpmmblnbmbaaGreat.Pck
set_option linter.unusedVariables false
set_option linter.unusedSimpArgs false
set_option maxRecDepth 100000
namespace Go.Proofs.YtlhmpmmblnbmbaaGreat.Bus
open Go.Proofs.YtlhmpmmblnbmbaaGreat.Sx Go.Proofs.YtlhmpmmblnbmbaaGreat.Zon Go.Proofs.YtlhmpmmblnbmbaaGreat.Byt Go.Proofs.YtlhmpmmblnbmbaaGreat.Dev Go.Proofs.YtlhmpmmblnbmbaaGreat.Pck
/-- A zone by what it holds. -/
structure Zc where
  cap : Int
  block : Int
  l : List Int
  safe : Int
  done : Bool
def Zc.wp (z : Zc) : Int := (z.l.length : Int) / max z.block 1
def Zc.active (z : Zc) : Bool := !z.done && (decide (z.wp > 0) && decide (z.wp < z.cap))
def Zc.appErr (z : Zc) (m : Nat) : Int := if m = 0 ∨ (m : Int) % max z.block 1 ≠ 0 then 3 else if z.done = true ∨ (m : Int) / max z.block 1 > z.cap - z.wp then 6 else 0
def Zc.more (z : Zc) (b : List Int) : Zc := { z with l := z.l ++ b }
def Zc.flush (z : Zc) : Zc := { z with safe := z.wp }
def Zc.finish (z : Zc) : Zc := { z with safe := z.wp, done := true }
structure Zc.Ok (z : Zc) : Prop where
  cap0 : 1 ≤ z.cap
  cap1 : z.cap ≤ 4096
  blk0 : 1 ≤ z.block
  blk1 : z.block ≤ 4096
  mult : (z.l.length : Int) % z.block = 0
  full : (z.l.length : Int) ≤ z.cap * z.block
  safe0 : 0 ≤ z.safe
  safe1 : z.safe ≤ z.wp
/-- A member by what it holds. -/
structure Dc where
  zs : List Zc
  limit : Int
  dead : Bool
def Dc.right (d : Dc) (z : Int) : Int := if d.dead = true then 11 else if z < 0 ∨ z ≥ d.zs.length then 2 else 0
def Dc.used (d : Dc) : Int := if d.dead = true then 0 else ((d.zs.countP Zc.active : Nat) : Int)
def Dc.append (d : Dc) (z : Int) (b : List Int) : Int × Dc := if d.right z ≠ 0 then (d.right z, d) else match d.zs[z.toNat]? with
  | some x => if x.appErr b.length ≠ 0 then (x.appErr b.length, d) else if ((x.more b).active && (!x.active && decide (d.used ≥ d.limit))) = true then (8, d) else (0, { d with zs := d.zs.set z.toNat (x.more b) })
  | none => (0, d)
def Dc.finish (d : Dc) (z : Int) : Int × Dc := if d.right z ≠ 0 then (d.right z, d) else match d.zs[z.toNat]? with
  | some x => (0, { d with zs := d.zs.set z.toNat x.finish })
  | none => (0, d)
def Dc.flush (d : Dc) : Int × Dc := if d.right 0 ≠ 0 then (d.right 0, d) else (0, { d with zs := d.zs.map Zc.flush })
def Zn.zc (z : Zn) : Zc := ⟨z.cap, z.block, z.l, z.safe, z.done⟩
def Dv.dc (D : Dv) : Dc := ⟨D.zs.map Zn.zc, D.limit, D.dead⟩
theorem zc_wp {z : Zn} (h : z.l.length = z.n) : (Zn.zc z).wp = z.wp := by
  unfold Zc.wp Zn.wp Zn.zc
  rw [h]
theorem zc_active {z : Zn} (h : z.l.length = z.n) : (Zn.zc z).active = z.active := by
  unfold Zc.active Zn.active
  rw [zc_wp h]; rfl
theorem zc_appErr {z : Zn} (h : z.l.length = z.n) (m : Nat) : (Zn.zc z).appErr m = z.appErr m := by
  unfold Zc.appErr Zn.appErr
  rw [zc_wp h]; rfl
theorem zc_ok {w : World} {z : Zn} (h : ZOk w z) : (Zn.zc z).Ok := by
  have hl : z.l.length = z.n := h.dat.1
  refine ⟨h.cap0, h.cap1, h.blk0, h.blk1, ?_, ?_, h.safe0, ?_⟩
  · show (z.l.length : Int) % z.block = 0
    rw [hl]; exact h.mult
  · show (z.l.length : Int) ≤ z.cap * z.block
    rw [hl]; exact h.full
  · rw [zc_wp hl]; exact h.safe1
theorem dc_right (D : Dv) (z : Int) : (Dv.dc D).right z = D.right z := by
  unfold Dc.right Dv.right Dv.dc
  simp only [List.length_map]
theorem dc_used {D : Dv} (h : ∀ z ∈ D.zs, z.l.length = z.n) : (Dv.dc D).used = D.used := by
  unfold Dc.used Dv.used usedN Dv.dc
  rw [List.take_length, List.countP_map]
  congr 2
  refine List.countP_congr (fun z hz => ?_)
  simp only [Function.comp_apply]
  rw [zc_active (h z hz)]
theorem dc_append {D D' : Dv} {z : Int} {b : Part} {err : Int} (hb : b.l.length = b.n) (hz : ∀ z ∈ D.zs, z.l.length = z.n) (h : D.Appends z b err D') : err = ((Dv.dc D).append z b.l).1 ∧ Dv.dc D' = ((Dv.dc D).append z b.l).2 := by
  have key : ∀ {j : Nat} {zn : Zn}, z = (j : Int) → D.zs[j]? = some zn → (Dv.dc D).zs[z.toNat]? = some (Zn.zc zn) ∧ zn ∈ D.zs := fun {j zn} e hj => ⟨by
    subst e
    show (D.zs.map Zn.zc)[((j : Nat) : Int).toNat]? = _
    rw [Int.toNat_natCast, List.getElem?_map, hj]; rfl, List.mem_of_getElem? hj⟩
  unfold Dc.append
  rw [dc_right]
  cases h with
  | wrong h => rw [if_pos h]; exact ⟨rfl, rfl⟩
  | err h hz' hj he =>
    obtain ⟨h1, h2⟩ := key hz' hj
    rw [if_neg (by simp [h]), h1]
    simp only [zc_appErr (hz _ h2), hb]
    rw [if_pos he]
    exact ⟨rfl, rfl⟩
  | many h hz' hj he hm =>
    obtain ⟨h1, h2⟩ := key hz' hj
    rename_i j zn
    rw [if_neg (by simp [h]), h1]
    simp only [zc_appErr (hz _ h2), hb]
    rw [if_neg (by simp [he])]
    have e1 : ((Zn.zc zn).more b.l).active = (moreZ zn b none 0).active := by
      have : (Zn.zc zn).more b.l = Zn.zc (moreZ zn b none 0) := rfl
      rw [this]
      refine zc_active ?_
      show (zn.l ++ b.l).length = zn.n + b.n
      rw [List.length_append, hz _ h2, hb]
    rw [e1, zc_active (hz _ h2), dc_used hz]
    rw [show (Dv.dc D).limit = D.limit from rfl]
    unfold Dv.tooMany at hm
    rw [if_pos hm]
    exact ⟨rfl, rfl⟩
  | ok h hz' hj he hm =>
    obtain ⟨h1, h2⟩ := key hz' hj
    rename_i j zn A c
    rw [if_neg (by simp [h]), h1]
    simp only [zc_appErr (hz _ h2), hb]
    rw [if_neg (by simp [he])]
    have e1 : ((Zn.zc zn).more b.l).active = (moreZ zn b none 0).active := by
      have : (Zn.zc zn).more b.l = Zn.zc (moreZ zn b none 0) := rfl
      rw [this]
      refine zc_active ?_
      show (zn.l ++ b.l).length = zn.n + b.n
      rw [List.length_append, hz _ h2, hb]
    rw [e1, zc_active (hz _ h2), dc_used hz]
    rw [show (Dv.dc D).limit = D.limit from rfl]
    unfold Dv.tooMany at hm
    rw [if_neg (by simp [hm])]
    refine ⟨rfl, ?_⟩
    show Dv.dc (D.put j (moreZ zn b A c)) = _
    unfold Dv.dc Dv.put
    simp only [List.map_set]
    subst hz'
    rw [Int.toNat_natCast]; rfl
theorem dc_finish {D : Dv} (z : Int) (hz : ∀ z ∈ D.zs, z.l.length = z.n) : D.right z = ((Dv.dc D).finish z).1 ∧ Dv.dc (D.change z Zn.finish) = ((Dv.dc D).finish z).2 := by
  unfold Dc.finish Dv.change
  rw [dc_right]
  by_cases h : D.right z = 0
  · obtain ⟨-, j, zn, rfl, hj, hjz⟩ := D.right_0 h
    have h1 : (Dv.dc D).zs[((j : Nat) : Int).toNat]? = some (Zn.zc zn) := by
      show (D.zs.map Zn.zc)[((j : Nat) : Int).toNat]? = _
      rw [Int.toNat_natCast, List.getElem?_map, hjz]; rfl
    rw [if_pos h, if_neg (by simp [h]), h1]
    rw [Int.toNat_natCast, hjz]
    refine ⟨h, ?_⟩
    have hm := hz zn (List.mem_of_getElem? hjz)
    show Dv.dc (D.put j zn.finish) = _
    unfold Dv.dc Dv.put
    simp only [List.map_set]
    congr 2
    show Zn.zc zn.finish = (Zn.zc zn).finish
    unfold Zc.finish
    rw [zc_wp hm]; rfl
  · rw [if_neg h, if_pos h]
    exact ⟨rfl, rfl⟩
theorem dc_flush {D : Dv} (hz : ∀ z ∈ D.zs, z.l.length = z.n) : D.right 0 = ((Dv.dc D).flush).1 ∧ Dv.dc (fl0 D) = ((Dv.dc D).flush).2 := by
  unfold Dc.flush fl0
  rw [dc_right]
  by_cases h : D.right 0 = 0
  · rw [if_pos h, if_neg (by simp [h])]
    refine ⟨h, ?_⟩
    unfold Dv.dc Dv.fl
    rw [List.take_length, List.drop_length, List.append_nil]
    congr 1
    rw [List.map_map, List.map_map]
    refine List.map_congr_left (fun z hm => ?_)
    show Zn.zc z.flush = (Zn.zc z).flush
    unfold Zc.flush
    rw [zc_wp (hz z hm)]; rfl
  · rw [if_neg h, if_pos h]
    exact ⟨rfl, rfl⟩
end Go.Proofs.YtlhmpmmblnbmbaaGreat.Bus
set_option linter.unusedVariables false
set_option linter.unusedSimpArgs false
set_option maxRecDepth 100000
namespace Go.Proofs.YtlhmpmmblnbmbaaGreat.Bus
open Go.Proofs.YtlhmpmmblnbmbaaGreat.Sx Go.Proofs.YtlhmpmmblnbmbaaGreat.Zon Go.Proofs.YtlhmpmmblnbmbaaGreat.Byt Go.Proofs.YtlhmpmmblnbmbaaGreat.Dev Go.Proofs.YtlhmpmmblnbmbaaGreat.Pck
/-- The bus at g holds M; its blocks are O; n commands were given. -/
structure BusB (w : World) (g : Nat) (O : Nat → Prop) (M : List Dc) (n : Int) (B : Bs) : Prop where
  bus : BusAt w g B
  fuse : B.fuse = -1
  down : B.down = false
  calm : ∀ t ∈ B.times, t = -1
  count : B.count = n
  bad : ∀ x ∈ B.ms, 0 ≤ x.d.bad ∧ x.d.bad ≤ n
  con : B.ms.map (fun x => Dv.dc x.d) = M
  own : ∀ k, O k ↔ B.own g k
  pos : 0 ≤ n
  rng : ∀ d ∈ M, ∀ z ∈ d.zs, IsB z.l
def BusC (w : World) (g : Nat) (O : Nat → Prop) (M : List Dc) (n : Int) : Prop := ∃ B, BusB w g O M n B
section
variable {w w' : World} {g : Nat} {O : Nat → Prop} {M : List Dc} {n : Int} {B : Bs}
theorem BusB.ext (h : BusB w g O M n B) (hx : Ext w w') : BusB w' g O M n B := { h with bus := h.bus.ext hx }
theorem BusC.ext (h : BusC w g O M n) (hx : Ext w w') : BusC w' g O M n := let ⟨B, hB⟩ := h; ⟨B, hB.ext hx⟩
theorem BusB.fits (h : BusB w g O M n B) (hn : n < 4611686018427387904) (hl : M.length ≤ 1000000) : B.Fits := by
  have hml : B.ms.length = M.length := by rw [← h.con, List.length_map]
  refine ⟨by omega, by rw [h.fuse]; decide, by rw [h.fuse]; decide, by rw [h.count]; exact h.pos, by rw [h.count]; omega, fun x hx => ?_⟩
  have := h.bad x hx; omega
theorem BusC.far (h : BusC w g O M n) : ∀ (k : Nat) (cs : Array Value) (fz : Nat × Nat), O k → U8 w k cs fz → False := let ⟨B, hB⟩ := h; fun k cs fz hk => hB.bus.far k cs fz ((hB.own k).1 hk)
theorem BusC.typ (h : BusC w g O M n) {k : Nat} (hk : O k) : ∃ cs t, w.heap[k]? = some (Obj.cells cs t (0, 0)) ∧ (t = 83 ∨ t = 97 ∨ t = 3 ∨ t = 133 ∨ t = 137) := let ⟨B, hB⟩ := h; hB.bus.typ ((hB.own k).1 hk)
theorem BusC.lt (h : BusC w g O M n) {k : Nat} (hk : O k) : k < w.heap.size := by
  obtain ⟨cs, t, hc, _⟩ := h.typ hk
  exact (Array.getElem?_eq_some_iff.1 hc).1
theorem BusB.dev (h : BusB w g O M n B) {i : Nat} {d : Dc} (hi : M[i]? = some d) : ∃ x, B.ms[i]? = some x ∧ Dv.dc x.d = d ∧ (∀ z ∈ x.d.zs, z.l.length = z.n) ∧ x ∈ B.ms := by
  rw [← h.con, List.getElem?_map] at hi
  obtain ⟨x, hx, hd⟩ := Option.map_eq_some_iff.1 hi
  have hm := List.mem_of_getElem? hx
  exact ⟨x, hx, hd, fun z hz => ((h.bus.mem x hm).fit z hz).dat.1, hm⟩
theorem BusC.zok (h : BusC w g O M n) {i : Nat} {d : Dc} (hi : M[i]? = some d) {z : Zc} (hz : z ∈ d.zs) : z.Ok ∧ IsB z.l := by
  obtain ⟨B, hB⟩ := h
  obtain ⟨x, hx, rfl, _, hm⟩ := hB.dev hi
  refine ⟨?_, hB.rng _ (List.mem_of_getElem? hi) z hz⟩
  obtain ⟨y, hy, rfl⟩ := List.mem_map.1 hz
  exact zc_ok ((hB.bus.mem x hm).fit y hy)
theorem lose1_calm (h : ∀ t ∈ B.times, t = -1) (i : Nat) : lose1 B i = B := by
  unfold lose1
  split
  · rename_i a x ha hx
    have := h a (List.mem_of_getElem? ha)
    rw [if_neg (by omega)]
  · rfl
theorem loseN_calm (h : ∀ t ∈ B.times, t = -1) : ∀ i, loseN B i = B
  | 0 => rfl
  | i + 1 => by
    show lose1 (loseN B i) i = B
    rw [loseN_calm h i]; exact lose1_calm h i
/-- One command more. -/
def Bs.tick (B : Bs) : Bs := { B with count := B.count + 1 }
theorem BusB.there (h : BusB w g O M n B) {i : Nat} (hi : i < M.length) : B.there (i : Int) = true := by
  have hml : B.ms.length = M.length := by rw [← h.con, List.length_map]
  unfold Bs.there
  exact decide_eq_true (by omega)
theorem BusB.cmd (h : BusB w g O M n B) {i : Nat} (hi : i < M.length) : B.cmd (i : Int) = (0, B.tick) := by
  unfold Bs.cmd
  rw [if_neg (by rw [h.there hi]; decide), if_neg (by rw [h.down]; decide), if_neg (by rw [h.fuse]; decide)]
  have e : B.ticked = B.tick := by
    unfold Bs.ticked Bs.tick
    rw [h.fuse]; rfl
  rw [e, loseN_calm (B := B.tick) h.calm]
theorem put_own2 {j : Nat} {x : Mb} {d : Dv} {k : Nat} (hj : B.ms[j]? = some x) (h : B.own g k) : (B.put j x d).own g k := by
  rcases h with h | h | h | h | ⟨y, hy, h⟩
  · exact .inl h
  · exact .inr (.inl h)
  · exact .inr (.inr (.inl h))
  · exact .inr (.inr (.inr (.inl h)))
  · obtain ⟨i, hi⟩ := List.mem_iff_getElem?.1 hy
    by_cases e : j = i
    · subst e
      rw [hj] at hi; cases hi
      refine .inr (.inr (.inr (.inr ⟨{ x with d := d }, ?_, h⟩)))
      refine List.mem_iff_getElem?.2 ⟨j, ?_⟩
      show (B.ms.set j { x with d := d })[j]? = _
      rw [List.getElem?_set_self (List.getElem?_eq_some_iff.1 hj).1]
    · refine .inr (.inr (.inr (.inr ⟨y, ?_, h⟩)))
      refine List.mem_iff_getElem?.2 ⟨i, ?_⟩
      show (B.ms.set j { x with d := d })[i]? = _
      rw [List.getElem?_set_ne e]; exact hi
/-- A member is another behind a command. -/
theorem BusB.put (h : BusB w g O M n B) {i : Nat} {x : Mb} {D : Dv} {N : List Dc} (hx : B.ms[i]? = some x) (hb : BusAt w' g (B.tick.put i x D)) (hbad : 0 ≤ D.bad ∧ D.bad ≤ n + 1) (hN : N = M.set i (Dv.dc D)) (hr : ∀ z ∈ (Dv.dc D).zs, IsB z.l) : BusB w' g O N (n + 1) (B.tick.put i x D) := by
  refine ⟨hb, h.fuse, h.down, h.calm, by show B.count + 1 = _; rw [h.count], fun y hy => ?_, ?_, fun k => ?_, by have := h.pos; omega, fun d hd => ?_⟩
  · have hy : y ∈ B.ms.set i { x with d := D } := hy
    rcases List.mem_or_eq_of_mem_set hy with hy | rfl
    · have := h.bad y hy; omega
    · exact hbad
  · show (B.ms.set i { x with d := D }).map _ = _
    rw [List.map_set, h.con, hN]
  · rw [h.own k]
    exact ⟨fun hk => put_own2 (B := B.tick) hx hk, fun hk => put_own (B := B.tick) hx hk⟩
  · rw [hN] at hd
    rcases List.mem_or_eq_of_mem_set hd with hd | rfl
    · exact h.rng d hd
    · exact hr
theorem cnt_bad {D : Dv} {e n : Int} (h : 0 ≤ D.bad ∧ D.bad ≤ n) : 0 ≤ (D.cnt e).bad ∧ (D.cnt e).bad ≤ n + 1 := by
  unfold Dv.cnt
  show 0 ≤ (if counted e = true then D.bad + 1 else D.bad) ∧ (if counted e = true then D.bad + 1 else D.bad) ≤ n + 1
  split <;> omega
theorem cnt_dc (D : Dv) (e : Int) : Dv.dc (D.cnt e) = Dv.dc D := rfl
theorem c_dead (h : BusC w g O M n) (i : Nat) {d : Dc} (hi : M[i]? = some d) : Calls Tryz.prog 22 #[.pointer (some ⟨g, 0, none⟩), .int .i64 i] w fun e w' => e = .returned (.bool d.dead) ∧ Ext w w' := by
  obtain ⟨B, hB⟩ := h
  obtain ⟨x, hx, rfl, _, _⟩ := hB.dev hi
  have hil : i < M.length := (List.getElem?_eq_some_iff.1 hi).1
  refine (dead_c (i : Int) w hB.bus).mono ?_
  rintro e w' ⟨rfl, h⟩
  refine ⟨?_, h⟩
  unfold Bs.isDead
  rw [hB.there hil, Int.toNat_natCast, hx]; rfl
def lookC (z : Zc) : Value := .agg #[.int .i64 z.wp, .int .i64 z.safe, .bool z.done]
theorem c_look (h : BusC w g O M n) (i j : Nat) {d : Dc} (hi : M[i]? = some d) : Calls Tryz.prog 24 #[.pointer (some ⟨g, 0, none⟩), .int .i64 i, .int .i64 j] w fun e w' => Ext w w' ∧ ((d.right j ≠ 0 ∧ e = .returned (.tuple #[.agg #[.int .i64 0, .int .i64 0, .bool false], .bool false])) ∨ ∃ z, d.right j = 0 ∧ d.zs[j]? = some z ∧ e = .returned (.tuple #[lookC z, .bool true])) := by
  obtain ⟨B, hB⟩ := h
  obtain ⟨x, hx, rfl, hl, hm⟩ := hB.dev hi
  have hil : i < M.length := (List.getElem?_eq_some_iff.1 hi).1
  refine (look_c (i : Int) (j : Int) w hB.bus).mono ?_
  rintro e w' ⟨hxx, ⟨rfl, h | ⟨i2, x2, h2, h3, h4⟩⟩ | ⟨i2, q, x2, zn, h2, h3, h4, h5, h6, rfl⟩⟩
  · rw [hB.there hil] at h; cases h
  · have : i2 = i := by omega
    subst this
    rw [hx] at h3; cases h3
    exact ⟨hxx, .inl ⟨by rw [dc_right]; exact h4, rfl⟩⟩
  · have : i2 = i := by omega
    subst this
    have : q = j := by omega
    subst this
    rw [hx] at h4; cases h4
    refine ⟨hxx, .inr ⟨Zn.zc zn, by rw [dc_right]; exact h5, ?_, ?_⟩⟩
    · show (x.d.zs.map Zn.zc)[q]? = _
      rw [List.getElem?_map, h6]; rfl
    · unfold lookC
      rw [zc_wp (hl zn (List.mem_of_getElem? h6))]; rfl
theorem c_members (h : BusC w g O M n) : Calls Tryz.prog 46 #[.pointer (some ⟨g, 0, none⟩)] w fun e w' => e = .returned (.int .i64 M.length) ∧ Ext w w' := by
  obtain ⟨B, hB⟩ := h
  refine (members_c w hB.bus).mono ?_
  rintro e w' ⟨rfl, h⟩
  exact ⟨by rw [← hB.con, List.length_map], h⟩
theorem c_append (h : BusC w g O M n) (hn : n < 4611686018427387904) (hl : M.length ≤ 1000000) (i : Nat) {d : Dc} (hi : M[i]? = some d) (z : Int) (b : Part) (hb : PAt w b) (hB : IsB b.l) : Calls Tryz.prog 29 #[.pointer (some ⟨g, 0, none⟩), .int .i64 i, .int .i64 z, b.val] w fun e w' => e = .returned (.int .i64 (d.append z b.l).1) ∧ BusC w' g O (M.set i (d.append z b.l).2) (n + 1) ∧ Chg O w w' := by
  obtain ⟨B, hBB⟩ := h
  obtain ⟨x, hx, rfl, hz, hm⟩ := hBB.dev hi
  have hil : i < M.length := (List.getElem?_eq_some_iff.1 hi).1
  refine (bappend_c (i : Int) z b w hBB.bus (hBB.fits hn hl) hb.at_ hb.nil hb.le).mono ?_
  rintro e w' ⟨err, B', rfl, hb', hap, hch⟩
  unfold Bs.Appends at hap
  rw [hBB.cmd hil] at hap
  rw [if_neg (by simp)] at hap
  obtain ⟨x2, D', hx2, hap, rfl⟩ := hap
  rw [Int.toNat_natCast] at hx2 hb'
  replace hx2 : B.ms[i]? = some x2 := hx2
  rw [hx] at hx2; cases hx2
  obtain ⟨e1, e2⟩ := dc_append hb.len hz hap
  refine ⟨by rw [e1], ⟨_, hBB.put hx hb' ?_ (by rw [e2]) ?_⟩, hch.mono (fun k _ hk => (hBB.own k).2 hk)⟩
  · have hbd := hBB.bad x hm
    cases hap with
    | wrong h => exact cnt_bad hbd
    | err h _ _ he => exact cnt_bad hbd
    | many h _ _ he hm => exact cnt_bad hbd
    | ok h _ _ he hm => show 0 ≤ x.d.bad ∧ x.d.bad ≤ n + 1; omega
  · rw [e2]
    intro y hy
    have hr := hBB.rng _ (List.mem_of_getElem? hi)
    unfold Dc.append at hy
    split at hy
    · exact hr y hy
    · split at hy
      · rename_i z0 hz0
        split at hy
        · exact hr y hy
        · split at hy
          · exact hr y hy
          · rcases List.mem_or_eq_of_mem_set hy with hy | rfl
            · exact hr y hy
            · intro c hc
              rcases List.mem_append.1 hc with hc | hc
              · exact hr z0 (List.mem_of_getElem? hz0) c hc
              · exact hB c hc
      · exact hr y hy
theorem act_eq (hBB : BusB w g O M n B) {i : Nat} {x : Mb} (hx : B.ms[i]? = some x) (hil : i < M.length) (r : Dv → Int) (f : Dv → Dv) : B.act (i : Int) r f = (r x.d, B.tick.put i x (f x.d)) := by
  unfold Bs.act
  rw [hBB.cmd hil, if_neg (by simp)]
  have : B.tick.ms[((i : Nat) : Int).toNat]? = some x := by rw [Int.toNat_natCast]; exact hx
  rw [this, Int.toNat_natCast]
theorem c_finish (h : BusC w g O M n) (hn : n < 4611686018427387904) (hl : M.length ≤ 1000000) (i : Nat) {d : Dc} (hi : M[i]? = some d) (z : Int) : Calls Tryz.prog 33 #[.pointer (some ⟨g, 0, none⟩), .int .i64 i, .int .i64 z] w fun e w' => e = .returned (.int .i64 (d.finish z).1) ∧ BusC w' g O (M.set i (d.finish z).2) (n + 1) ∧ Chg O w w' := by
  obtain ⟨B, hBB⟩ := h
  obtain ⟨x, hx, rfl, hz, hm⟩ := hBB.dev hi
  have hil : i < M.length := (List.getElem?_eq_some_iff.1 hi).1
  refine (bfinish_c (i : Int) z w hBB.bus (hBB.fits hn hl)).mono ?_
  rintro e w' ⟨rfl, hb', hch⟩
  rw [act_eq hBB hx hil] at hb' ⊢
  obtain ⟨e1, e2⟩ := dc_finish z hz
  refine ⟨by show Ending.returned (.int .i64 (x.d.right z)) = _; rw [e1], ⟨_, hBB.put hx hb' ?_ (by rw [e2]) ?_⟩, hch.mono (fun k _ hk => (hBB.own k).2 hk)⟩
  · have hbd := hBB.bad x hm
    unfold Dv.change
    split
    · split
      · show 0 ≤ x.d.bad ∧ x.d.bad ≤ n + 1; omega
      · omega
    · exact cnt_bad hbd
  · rw [e2]
    intro y hy
    have hr := hBB.rng _ (List.mem_of_getElem? hi)
    unfold Dc.finish at hy
    split at hy
    · exact hr y hy
    · split at hy
      · rename_i z0 hz0
        rcases List.mem_or_eq_of_mem_set hy with hy | rfl
        · exact hr y hy
        · exact hr z0 (List.mem_of_getElem? hz0)
      · exact hr y hy
theorem c_flush (h : BusC w g O M n) (hn : n < 4611686018427387904) (hl : M.length ≤ 1000000) (i : Nat) {d : Dc} (hi : M[i]? = some d) : Calls Tryz.prog 31 #[.pointer (some ⟨g, 0, none⟩), .int .i64 i] w fun e w' => e = .returned (.int .i64 d.flush.1) ∧ BusC w' g O (M.set i d.flush.2) (n + 1) ∧ Chg O w w' := by
  obtain ⟨B, hBB⟩ := h
  obtain ⟨x, hx, rfl, hz, hm⟩ := hBB.dev hi
  have hil : i < M.length := (List.getElem?_eq_some_iff.1 hi).1
  refine (bflush_c (i : Int) w hBB.bus (hBB.fits hn hl)).mono ?_
  rintro e w' ⟨rfl, hb', hch⟩
  rw [act_eq hBB hx hil] at hb' ⊢
  obtain ⟨e1, e2⟩ := dc_flush hz
  refine ⟨by show Ending.returned (.int .i64 (x.d.right 0)) = _; rw [e1], ⟨_, hBB.put hx hb' ?_ (by rw [e2]) ?_⟩, hch.mono (fun k _ hk => (hBB.own k).2 hk)⟩
  · have hbd := hBB.bad x hm
    unfold fl0
    split
    · show 0 ≤ x.d.bad ∧ x.d.bad ≤ n + 1; omega
    · omega
  · rw [e2]
    intro y hy
    have hr := hBB.rng _ (List.mem_of_getElem? hi)
    unfold Dc.flush at hy
    split at hy
    · exact hr y hy
    · obtain ⟨z0, hz0, rfl⟩ := List.mem_map.1 hy
      exact hr z0 hz0
theorem c_kill (h : BusC w g O M n) (hn : n < 4611686018427387904) (i : Nat) {d : Dc} (hi : M[i]? = some d) : Calls Tryz.prog 35 #[.pointer (some ⟨g, 0, none⟩), .int .i64 i, .int .i64 0] w fun e w' => e = .returned (.tuple #[]) ∧ BusC w' g O (M.set i { d with dead := true }) n ∧ Chg O w w' := by
  obtain ⟨B, hBB⟩ := h
  obtain ⟨x, hx, rfl, hz, hm⟩ := hBB.dev hi
  have hil : i < M.length := (List.getElem?_eq_some_iff.1 hi).1
  refine (kill_c (i : Int) 0 w hBB.bus (by rw [hBB.count]; exact hBB.pos) (by rw [hBB.count]; exact hn)).mono ?_
  rintro e w' ⟨rfl, hb', hch⟩
  have e1 : B.kill (i : Int) 0 = B.put i x { x.d with dead := true } := by
    unfold Bs.kill
    rw [if_neg (by rw [hBB.there hil]; decide), Int.toNat_natCast, hx]
    simp
  rw [e1] at hb'
  refine ⟨rfl, ⟨_, hb', hBB.fuse, hBB.down, hBB.calm, hBB.count, fun y hy => ?_, ?_, fun k => ?_, hBB.pos, fun d hd => ?_⟩, hch.mono (fun k _ hk => (hBB.own k).2 hk)⟩
  · have hy : y ∈ B.ms.set i { x with d := { x.d with dead := true } } := hy
    rcases List.mem_or_eq_of_mem_set hy with hy | rfl
    · exact hBB.bad y hy
    · exact hBB.bad x hm
  · show (B.ms.set i { x with d := { x.d with dead := true } }).map _ = _
    rw [List.map_set, hBB.con]; rfl
  · rw [hBB.own k]
    exact ⟨fun hk => put_own2 hx hk, fun hk => put_own hx hk⟩
  · rcases List.mem_or_eq_of_mem_set hd with hd | rfl
    · exact hBB.rng d hd
    · exact hBB.rng (Dv.dc x.d) (List.mem_of_getElem? hi)
/-- All that a zone holds. -/
theorem c_read (h : BusC w g O M n) (hn : n < 4611686018427387904) (hl : M.length ≤ 1000000) (i j : Nat) {d : Dc} (hi : M[i]? = some d) {z : Zc} (hr : d.right j = 0) (hz : d.zs[j]? = some z) : Calls Tryz.prog 54 #[.pointer (some ⟨g, 0, none⟩), .int .i64 i, .int .i64 j, .int .i64 0, .int .i64 z.wp] w fun e w' => ∃ p : Part, e = .returned (.tuple #[p.val, .int .i64 0]) ∧ PAt w' p ∧ p.l = z.l ∧ BusC w' g O M (n + 1) ∧ Chg O w w' := by
  obtain ⟨B, hBB⟩ := h
  obtain ⟨x, hx, rfl, hzl, hm⟩ := hBB.dev hi
  have hil : i < M.length := (List.getElem?_eq_some_iff.1 hi).1
  obtain ⟨zn, hzn, rfl⟩ : ∃ zn, x.d.zs[j]? = some zn ∧ Zn.zc zn = z := by
    replace hz : (x.d.zs.map Zn.zc)[j]? = some z := hz
    rw [List.getElem?_map] at hz
    obtain ⟨zn, h1, h2⟩ := Option.map_eq_some_iff.1 hz
    exact ⟨zn, h1, h2⟩
  have hzl' := hzl zn (List.mem_of_getElem? hzn)
  have hok := (hBB.bus.mem x hm).fit zn (List.mem_of_getElem? hzn)
  rw [dc_right] at hr
  have hwp := zn.wp0
  have hno : ¬ zn.noRead 0 zn.wp := by unfold Zn.noRead; omega
  have hre : x.d.readErr (j : Int) 0 zn.wp = 0 := by
    unfold Dv.readErr
    rw [if_pos hr, Int.toNat_natCast, hzn]
    simp only
    rw [if_neg hno]
  rw [zc_wp hzl']
  refine (bread_c (i : Int) (j : Int) 0 zn.wp w hBB.bus (hBB.fits hn hl)).mono ?_
  rintro e w' ⟨hb', hch, hcase⟩
  have hrd : B.read (i : Int) (j : Int) 0 zn.wp = (0, B.tick.put i x (x.d.cnt 0)) := by
    unfold Bs.read
    rw [act_eq hBB hx hil, hre]
  rw [hrd] at hb' hcase
  rcases hcase with ⟨h1, _⟩ | ⟨_, i2, j2, x2, zn2, A, c, _, h3, h4, h5, h6, _, rfl, hbt, hnil⟩
  · exact absurd rfl h1
  · have : i2 = i := by omega
    subst this
    have : j2 = j := by omega
    subst this
    rw [hBB.cmd hil] at h4
    replace h4 : B.ms[i2]? = some x2 := h4
    rw [hx] at h4; cases h4
    rw [hzn] at h6; cases h6
    have hsz : zn.size = zn.block := by have := hok.blk0; unfold Zn.size; omega
    have hwb : zn.wp * zn.size = (zn.n : Int) := by
      have hmx : max zn.block 1 = zn.block := by have := hok.blk0; omega
      have := Int.emod_add_mul_ediv (zn.n : Int) zn.block
      rw [hok.mult] at this
      rw [hsz]
      unfold Zn.wp
      rw [hmx, Int.mul_comm]; omega
    have e0 : ((0 : Int) * zn.size).toNat = 0 := by rw [Int.zero_mul]; rfl
    rw [hwb, Int.toNat_natCast, e0, List.drop_zero] at hbt
    rw [hwb, Int.toNat_natCast]
    have e3 : zn.l.take zn.n = zn.l := by rw [← hzl']; exact List.take_length
    rw [e3] at hbt
    refine ⟨⟨A, zn.n, c, zn.l⟩, rfl, ⟨hbt, hnil, ?_⟩, rfl, ⟨_, hBB.put hx hb' (cnt_bad (hBB.bad x hm)) ?_ (hBB.rng _ (List.mem_of_getElem? hi))⟩, hch.mono (fun k _ hk => (hBB.own k).2 hk)⟩
    · have := hok.small; show zn.n ≤ _; omega
    · rw [cnt_dc]
      refine (List.ext_getElem? fun k => ?_)
      rw [List.getElem?_set]
      split
      · rename_i e; subst e; exact hi
      · rfl
def Zc.new (cap block : Int) : Zc := ⟨min (max cap 1) 4096, min (max block 1) 4096, [], 0, false⟩
def Dc.new (zones : Nat) (cap block limit : Int) : Dc := ⟨List.replicate zones (Zc.new cap block), limit, false⟩
theorem NewBus.con {members zones : Nat} {cap block limit : Int} (h : NewBus w w' members zones cap block limit g B) : BusC w' g (B.own g) (List.replicate members (Dc.new zones cap block limit)) 0 := by
  refine ⟨B, h.bus, h.fuse, h.down, fun t ht => ?_, h.count, fun x hx => ?_, ?_, fun k => Iff.rfl, Int.le_refl _, fun d hd z hz => ?_⟩
  · rw [h.times] at ht; exact List.eq_of_mem_replicate ht
  · rw [h.mem x hx]; exact ⟨Int.le_refl _, Int.le_refl _⟩
  · refine List.eq_replicate_iff.2 ⟨by rw [List.length_map, h.len], fun d hd => ?_⟩
    obtain ⟨x, hx, rfl⟩ := List.mem_map.1 hd
    rw [h.mem x hx]
    unfold Dv.new Dv.dc Dc.new
    simp only [List.map_replicate]
    rfl
  · rw [List.eq_of_mem_replicate hd] at hz
    rw [List.eq_of_mem_replicate hz]
    intro b hb; cases hb
end
end Go.Proofs.YtlhmpmmblnbmbaaGreat.Bus
set_option linter.unusedVariables false
set_option linter.unusedSimpArgs false
set_option maxRecDepth 100000
namespace Go.Proofs.YtlhmpmmblnbmbaaGreat.Cnf
open Go.Proofs.YtlhmpmmblnbmbaaGreat.Sx Go.Proofs.YtlhmpmmblnbmbaaGreat.Byt Go.Proofs.YtlhmpmmblnbmbaaGreat.Pck Go.Lib
/-- Settings, as told. -/
structure Cf where
  id : Int
  members : Int
  unit : Int
  block : Int
  cap : Int
  zones : Int
  spare : Int
  mta : Int
  opn : Int
  active : Int
  limit : Int
def Cf.cs (c : Cf) : List C := [.v (.int .i64 c.id), .v (.int .i64 c.members), .v (.int .i64 c.unit), .v (.int .i64 c.block), .v (.int .i64 c.cap), .v (.int .i64 c.zones), .v (.int .i64 c.spare), .v (.int .i64 c.mta), .v (.int .i64 c.opn), .v (.int .i64 c.active), .v (.int .i64 c.limit)]
def Cf.vs (c : Cf) : List Value := [.int .i64 c.id, .int .i64 c.members, .int .i64 c.unit, .int .i64 c.block, .int .i64 c.cap, .int .i64 c.zones, .int .i64 c.spare, .int .i64 c.mta, .int .i64 c.opn, .int .i64 c.active, .int .i64 c.limit]
def Cf.val (c : Cf) : Value := .agg #[.int .i64 c.id, .int .i64 c.members, .int .i64 c.unit, .int .i64 c.block, .int .i64 c.cap, .int .i64 c.zones, .int .i64 c.spare, .int .i64 c.mta, .int .i64 c.opn, .int .i64 c.active, .int .i64 c.limit]
def Cf.nums (c : Cf) : List Int := [c.members, c.unit, c.block, c.cap, c.zones, c.spare, c.mta, c.opn, c.active, c.limit]
def ptrs (g : Nat) : List Value := [.pointer (some ⟨g, 1, none⟩), .pointer (some ⟨g, 2, none⟩), .pointer (some ⟨g, 3, none⟩), .pointer (some ⟨g, 4, none⟩), .pointer (some ⟨g, 5, none⟩), .pointer (some ⟨g, 6, none⟩), .pointer (some ⟨g, 7, none⟩), .pointer (some ⟨g, 8, none⟩), .pointer (some ⟨g, 9, none⟩), .pointer (some ⟨g, 10, none⟩)]
def CfAt (w : World) (g : Nat) (c : Cf) : Prop := w.heap[g]? = some (Obj.cells c.vs.toArray 23 (0, 0))
def PtAt (w : World) (gr g : Nat) : Prop := w.heap[gr]? = some (Obj.cells (ptrs g).toArray 96 (0, 0))
theorem CfAt.known {w : World} {g : Nat} {c : Cf} (h : CfAt w g c) : Known [⟨g, 23, c.cs⟩] w := known_one h
theorem ptrs_get {g i : Nat} (h : i < 10) : (ptrs g)[i]? = some (.pointer (some ⟨g, i + 1, none⟩)) := by
  match i, h with
  | 0, _ => rfl
  | 1, _ => rfl
  | 2, _ => rfl
  | 3, _ => rfl
  | 4, _ => rfl
  | 5, _ => rfl
  | 6, _ => rfl
  | 7, _ => rfl
  | 8, _ => rfl
  | 9, _ => rfl
theorem nums_get {c : Cf} {i : Nat} {x : Int} (h : c.nums[i]? = some x) : c.vs[i + 1]? = some (.int .i64 x) := by
  match i, h with
  | 0, h => cases h; rfl
  | 1, h => cases h; rfl
  | 2, h => cases h; rfl
  | 3, h => cases h; rfl
  | 4, h => cases h; rfl
  | 5, h => cases h; rfl
  | 6, h => cases h; rfl
  | 7, h => cases h; rfl
  | 8, h => cases h; rfl
  | 9, h => cases h; rfl
theorem PtAt.lies {w : World} {gr g i : Nat} (h : PtAt w gr g) (hi : i < 10) : LiesAt w ⟨gr, 0 + i * 1, none⟩ [.pointer (some ⟨g, i + 1, none⟩)] := fun j v hv => by
  cases j with
  | zero =>
    cases hv
    rw [Addr.add_mid]
    unfold World.cell?
    rw [h]
    have := ptrs_get (g := g) hi
    simpa using this
  | succ j => cases hv
theorem CfAt.lies {w : World} {g i : Nat} {c : Cf} {x : Int} (h : CfAt w g c) (hx : c.nums[i]? = some x) : LiesAt w ⟨g, i + 1, none⟩ [.int .i64 x] := fun j v hv => by
  cases j with
  | zero =>
    cases hv
    rw [Addr.add_mid]
    unfold World.cell?
    rw [h]
    have := nums_get hx
    simpa using this
  | succ j => cases hv
theorem numbers_c {g : Nat} {c : Cf} (w : World) (h : CfAt w g c) : Calls Tryz.prog 47 #[.pointer (some ⟨g, 0, none⟩)] w fun e w' => ∃ gr, e = .returned (.slice (some ⟨gr, 0, none⟩) 10 10) ∧ PtAt w' gr g ∧ Ext w w' ∧ w.heap.size ≤ gr := by
  refine J.enter Tryz.func47 rfl [⟨g, 23, c.cs⟩] [.one (.ptr 0 0)] 34 h.known ?_
  refine J.drw 30 [] [⟨g, 23, c.cs⟩] .nil ?_
  refine J.bsl 96 10 1 [.pointer none, .pointer none, .pointer none, .pointer none, .pointer none, .pointer none, .pointer none, .pointer none, .pointer none, .pointer none] [.ptr 0 1, .ptr 0 2, .ptr 0 3, .ptr 0 4, .ptr 0 5, .ptr 0 6, .ptr 0 7, .ptr 0 8, .ptr 0 9, .ptr 0 10] [⟨g, 23, c.cs⟩] (fun gr hgr hne => ?_)
  refine J.ret (.one (.slc 1 0 10 10)) [⟨g, 23, c.cs⟩, ⟨gr, 96, [.ptr 0 1, .ptr 0 2, .ptr 0 3, .ptr 0 4, .ptr 0 5, .ptr 0 6, .ptr 0 7, .ptr 0 8, .ptr 0 9, .ptr 0 10]⟩] (fun w1 hk hr => ?_)
  exact ⟨gr, rfl, hk.get 1 rfl, hr.ext' (mem2 (.inr ((hk.get 0 rfl).trans h.symm)) (.inl hgr)), hgr⟩
def okN (n : Int) : Bool := decide (1 ≤ n) && decide (n ≤ 1048576)
def Cf.sane (c : Cf) : Bool := c.nums.all okN
theorem sane_c {gr g : Nat} {c : Cf} (w : World) (h : CfAt w g c) (hp : PtAt w gr g) : Calls Tryz.prog 90 #[.slice (some ⟨gr, 0, none⟩) 10 10] w fun e w' => e = .returned (.bool c.sane) ∧ Ext w w' := by
  refine J.enter Tryz.func90 rfl [] [.one (.v (.slice (some ⟨gr, 0, none⟩) 10 10))] 22 (known_nil w) ?_
  have fin : ∀ {u w1 : World}, Ext w u → Rel [] u w1 → Ext w w1 := fun hx hr => hx.rel' hr (fun b hb => by cases hb)
  have hext : ∀ {u : World}, Ext w u → CfAt u g c ∧ PtAt u gr g := fun hx => ⟨hx.blk h, hx.blk hp⟩
  refine J.loop (fun i : Nat => [(5, .one (.v (.slice (some ⟨gr, 0, none⟩) 10 10))), (6, .one (.v (.int .i64 10))), (7, .one (.v (.int .i64 i)))]) (fun _ => []) (fun i u => i ≤ 10 ∧ (c.nums.take i).all okN = true ∧ Ext w u) (fun i => 10 - i) [] 0 (fun w3 hk3 hr3 => ⟨Nat.zero_le _, rfl, fin (.refl w) hr3⟩) ?_
  intro p i w1 hpp ⟨hi, hal, hx1⟩ hk1
  refine J.brd ((i : Int) < 10) (fun h1 => ?_) (fun h1 => ?_)
  · have hj : i < c.nums.length := by show i < 10; omega
    have hjz := List.getElem?_eq_getElem hj
    generalize c.nums[i] = x at hjz
    have hstep : c.nums.take (i + 1) = c.nums.take i ++ [x] := by rw [List.take_add_one, hjz]; rfl
    have hbad : okN x = false → c.sane = false := fun hb => by
      unfold Cf.sane
      rw [← Bool.not_eq_true, List.all_eq_true]
      exact fun hall => by have := hall x (List.mem_of_getElem? hjz); rw [hb] at this; cases this
    refine J.ix gr 0 10 10 1 i rfl (by omega) ?_
    refine J.ld 96 ⟨gr, 0 + i * 1, none⟩ (.one (.v (.pointer (some ⟨g, i + 1, none⟩)))) [] (fun w4 hk4 hr4 => (hext (fin hx1 hr4)).2.lies (by omega)) ?_
    refine J.ld 3 ⟨g, i + 1, none⟩ (.one (.v (.int .i64 x))) [] (fun w4 hk4 hr4 => (hext (fin hx1 hr4)).1.lies hjz) ?_
    by_cases c1 : x < 1
    · refine J.lit 15 (decide (x < 1)) true (decide_eq_true c1) ?_
      exact J.ret (.one (.lit false)) [] (fun w5 _ hr5 => ⟨by rw [hbad (by simp [okN]; omega)]; rfl, fin hx1 hr5⟩)
    refine J.lit 15 (decide (x < 1)) false (decide_eq_false c1) ?_
    refine J.ld 3 ⟨g, i + 1, none⟩ (.one (.v (.int .i64 x))) [] (fun w4 hk4 hr4 => (hext (fin hx1 hr4)).1.lies hjz) ?_
    refine J.brd (x > 1048576) (fun c2 => ?_) (fun c2 => ?_)
    · exact J.ret (.one (.lit false)) [] (fun w5 _ hr5 => ⟨by rw [hbad (by simp [okN]; omega)]; rfl, fin hx1 hr5⟩)
    · refine J.ari ((i + 1 : Nat) : Int) (.add (x := i) (y := 1) (by omega) (by omega) (by omega)) ?_
      exact J.at (fun a u h1 h2 hk hr => hpp (i + 1) a u h1 h2 hk ⟨by omega, by rw [hstep, List.all_append, hal]; simp [okN]; omega, fin hx1 hr⟩ (by omega))
  · have : i = 10 := by omega
    subst this
    exact J.ret (.one (.lit true)) [] (fun w5 _ hr5 => ⟨by show Ending.returned (.bool true) = .returned (.bool c.sane); rw [← hal]; rfl, fin hx1 hr5⟩)
/-- A number that follows, of settings that may be. -/
theorem of_c {f : Nat} {fn : Func} {caps : List Value} {c : Cf} {n : Int} (w : World) (hf : Tryz.prog.funcs[f]? = some fn) (hname : (fn.name == "runtime.NumGoroutine") = false) (hb : fn.body.isSome = true) (hc : c.sane = true → ∀ u, Ext w u → Calls Tryz.prog f caps.toArray u fun e u' => e = .returned (.int .i64 n) ∧ Ext u u') :
    Calls Tryz.prog 51 #[c.val, .func (.func f) #[] caps.toArray] w fun e w' => e = .returned (.int .i64 (if c.sane = true then n else 0)) ∧ Ext w w' := by
  refine J.enter Tryz.func51 rfl [] [.agg c.cs, .one (.v (.func (.func f) #[] caps.toArray))] 10 (known_nil w) ?_
  refine J.new 23 c.cs [] (fun g hg _ => ?_)
  have fin : ∀ {u w1 : World}, Ext w u → Rel [⟨g, 23, c.cs⟩] u w1 → Ext w w1 := fun hx hr => hx.rel' hr (mem1 (.inl hg))
  refine J.call Tryz.func47 [.one (.ptr 0 0)] [⟨g, 23, c.cs⟩] (fun w1 hk1 hr1 => ?_)
  have hx1 := fin (.refl w) hr1
  refine (numbers_c (c := c) w1 (hk1.get 0 rfl)).mono ?_
  rintro e w2 ⟨gr, rfl, hp2, hx, _⟩
  have hx2 := hx1.trans hx
  have hk2 := hx.known hk1
  refine ⟨.one (.v (.slice (some ⟨gr, 0, none⟩) 10 10)), _, rfl, rfl, hk2, ?_⟩
  have same : ∀ {u w1 : World}, Known [⟨g, 23, c.cs⟩] u → Known [⟨g, 23, c.cs⟩] w1 → Rel [⟨g, 23, c.cs⟩] u w1 → Ext u w1 := fun h hk hr => hr.ext' (mem1 (.inr ((hk.get 0 rfl).trans (h.get 0 rfl).symm)))
  refine J.call Tryz.func90 [.one (.v (.slice (some ⟨gr, 0, none⟩) 10 10))] [⟨g, 23, c.cs⟩] (fun w3 hk3 hr3 => ?_)
  have hx3 := fin hx2 hr3
  refine (sane_c (c := c) w3 (hk3.get 0 rfl) ((same hk2 hk3 hr3).blk hp2)).mono ?_
  rintro e w4 ⟨rfl, hx⟩
  have hx4 := hx3.trans hx
  have hk4 := hx.known hk3
  refine ⟨.one (.v (.bool c.sane)), _, rfl, rfl, hk4, ?_⟩
  cases hs : c.sane
  · refine J.brt (!false) rfl ?_
    exact J.ret (.one (.v (.int .i64 0))) [⟨g, 23, c.cs⟩] (fun w5 _ hr5 => ⟨rfl, fin hx4 hr5⟩)
  · refine J.brf (!true) rfl ?_
    refine J.call hf (caps.map fun v => .one (.v v)) [⟨g, 23, c.cs⟩] (fun w5 hk5 hr5 => ?_) (hname := hname) (hb := hb)
    have hx5 := fin hx4 hr5
    have e1 : ((caps.map fun v => SV.one (C.v v)).map (SV.den [⟨g, 23, c.cs⟩])).toArray = caps.toArray := by simp [Function.comp_def, SV.den, C.den]
    rw [e1]
    refine (hc hs w5 hx5).mono ?_
    rintro e w6 ⟨rfl, hx⟩
    refine ⟨.one (.v (.int .i64 n)), _, rfl, rfl, hx.known hk5, ?_⟩
    exact J.ret (.one (.v (.int .i64 n))) [⟨g, 23, c.cs⟩] (fun w7 _ hr7 => ⟨rfl, fin (hx5.trans hx) hr7⟩)
end Go.Proofs.YtlhmpmmblnbmbaaGreat.Cnf
set_option linter.unusedVariables false
set_option linter.unusedSimpArgs false
set_option maxRecDepth 100000
namespace Go.Proofs.YtlhmpmmblnbmbaaGreat.Cnf
open Go.Proofs.YtlhmpmmblnbmbaaGreat.Sx Go.Proofs.YtlhmpmmblnbmbaaGreat.Byt Go.Proofs.YtlhmpmmblnbmbaaGreat.Pck Go.Lib
theorem sane_all {c : Cf} (h : c.sane = true) : ∀ x ∈ c.nums, 1 ≤ x ∧ x ≤ 1048576 := fun x hx => by
  have := List.all_eq_true.1 h x hx
  unfold okN at this
  rw [Bool.and_eq_true] at this
  exact ⟨of_decide_eq_true this.1, of_decide_eq_true this.2⟩
structure Cf.Sane (c : Cf) : Prop where
  members : 1 ≤ c.members ∧ c.members ≤ 1048576
  unit : 1 ≤ c.unit ∧ c.unit ≤ 1048576
  block : 1 ≤ c.block ∧ c.block ≤ 1048576
  cap : 1 ≤ c.cap ∧ c.cap ≤ 1048576
  zones : 1 ≤ c.zones ∧ c.zones ≤ 1048576
  spare : 1 ≤ c.spare ∧ c.spare ≤ 1048576
  mta : 1 ≤ c.mta ∧ c.mta ≤ 1048576
  opn : 1 ≤ c.opn ∧ c.opn ≤ 1048576
  active : 1 ≤ c.active ∧ c.active ≤ 1048576
  limit : 1 ≤ c.limit ∧ c.limit ≤ 1048576
theorem Cf.sane_iff {c : Cf} (h : c.sane = true) : c.Sane := by
  have h := sane_all h
  refine ⟨?_, ?_, ?_, ?_, ?_, ?_, ?_, ?_, ?_, ?_⟩ <;> exact h _ (by simp [Cf.nums])
def Cf.all (c : Cf) : Int := if c.sane = true then c.mta + c.zones + c.spare else 0
theorem all1_c {g : Nat} {c : Cf} (w : World) (h : CfAt w g c) (hs : c.sane = true) : Calls Tryz.prog 52 #[.pointer (some ⟨g, 0, none⟩)] w fun e w' => e = .returned (.int .i64 (c.mta + c.zones + c.spare)) ∧ Ext w w' := by
  have hS := c.sane_iff hs
  have h1 := hS.mta; have h2 := hS.zones; have h3 := hS.spare
  refine J.enter Tryz.func52 rfl [⟨g, 23, c.cs⟩] [.one (.ptr 0 0)] 10 h.known ?_
  refine J.ari (c.mta + c.zones) (.add rfl (by omega) (by omega)) ?_
  refine J.ari (c.mta + c.zones + c.spare) (.add rfl (by omega) (by omega)) ?_
  exact J.ret (.one (.v (.int .i64 (c.mta + c.zones + c.spare)))) [⟨g, 23, c.cs⟩] (fun w1 hk hr => ⟨rfl, hr.ext' (mem1 (.inr ((hk.get 0 rfl).trans h.symm)))⟩)
theorem all_c {c : Cf} (w : World) : Calls Tryz.prog 23 #[c.val] w fun e w' => e = .returned (.int .i64 c.all) ∧ Ext w w' := by
  refine J.enter Tryz.func23 rfl [] [.agg c.cs] 6 (known_nil w) ?_
  refine J.new 23 c.cs [] (fun g hg _ => ?_)
  have fin : ∀ {u w1 : World}, Ext w u → Rel [⟨g, 23, c.cs⟩] u w1 → Ext w w1 := fun hx hr => hx.rel' hr (mem1 (.inl hg))
  refine J.call Tryz.func51 [.agg c.cs, .one (.v (.func (.func 52) #[] #[.pointer (some ⟨g, 0, none⟩)]))] [⟨g, 23, c.cs⟩] (fun w1 hk1 hr1 => ?_)
  have hx1 := fin (.refl w) hr1
  refine (of_c (f := 52) (caps := [.pointer (some ⟨g, 0, none⟩)]) (c := c) w1 Tryz.func52 rfl rfl (fun hs u hu => all1_c u (hu.blk (hk1.get 0 rfl)) hs)).mono ?_
  rintro e w2 ⟨rfl, hx⟩
  refine ⟨.one (.v (.int .i64 c.all)), _, rfl, rfl, hx.known hk1, ?_⟩
  exact J.ret (.one (.v (.int .i64 c.all))) [⟨g, 23, c.cs⟩] (fun w3 _ hr3 => ⟨rfl, fin (hx1.trans hx) hr3⟩)
def Cf.need (c : Cf) : Int := 320 + 48 * c.zones + 8 * c.members + (c.zones + 1) * c.unit * c.block
def Cf.room (c : Cf) : Int := if c.sane = true then (c.need + c.block - 1) / c.block + 2 else 0
theorem need_bound {c : Cf} (hs : c.sane = true) : 1 ≤ (c.zones + 1) * c.unit ∧ (c.zones + 1) * c.unit ≤ 1099512676352 ∧ 1 ≤ (c.zones + 1) * c.unit * c.block ∧ (c.zones + 1) * c.unit * c.block ≤ 1152922604118474752 := by
  have hS := c.sane_iff hs
  have h1 := hS.zones; have h2 := hS.unit; have h3 := hS.block
  have a1 : (c.zones + 1) * c.unit ≤ (c.zones + 1) * 1048576 := Int.mul_le_mul_of_nonneg_left h2.2 (by omega)
  have a2 : (c.zones + 1) * 1 ≤ (c.zones + 1) * c.unit := Int.mul_le_mul_of_nonneg_left h2.1 (by omega)
  have a3 : (c.zones + 1) * c.unit * c.block ≤ (c.zones + 1) * c.unit * 1048576 := Int.mul_le_mul_of_nonneg_left h3.2 (by omega)
  have a4 : (c.zones + 1) * c.unit * 1 ≤ (c.zones + 1) * c.unit * c.block := Int.mul_le_mul_of_nonneg_left h3.1 (by omega)
  omega
theorem room1_c {g : Nat} {c : Cf} (w : World) (h : CfAt w g c) (hs : c.sane = true) : Calls Tryz.prog 106 #[.pointer (some ⟨g, 0, none⟩)] w fun e w' => e = .returned (.int .i64 ((c.need + c.block - 1) / c.block + 2)) ∧ Ext w w' := by
  have hS := c.sane_iff hs
  have h1 := hS.zones; have h2 := hS.unit; have h3 := hS.block; have h4 := hS.members
  obtain ⟨b1, b2, b3, b4⟩ := need_bound hs
  have hn : c.need = 320 + 48 * c.zones + 8 * c.members + (c.zones + 1) * c.unit * c.block := rfl
  have hq : (c.need + c.block - 1) / c.block ≤ c.need + c.block - 1 := Int.ediv_le_self _ (by omega)
  have hq0 : 0 ≤ (c.need + c.block - 1) / c.block := Int.ediv_nonneg (by omega) (by omega)
  refine J.enter Tryz.func106 rfl [⟨g, 23, c.cs⟩] [.one (.ptr 0 0)] 30 h.known ?_
  refine J.ari (48 * c.zones) (.mul rfl (by omega) (by omega)) ?_
  refine J.ari (320 + 48 * c.zones) (.add rfl (by omega) (by omega)) ?_
  refine J.ari (8 * c.members) (.mul rfl (by omega) (by omega)) ?_
  refine J.ari (320 + 48 * c.zones + 8 * c.members) (.add rfl (by omega) (by omega)) ?_
  refine J.ari (c.zones + 1) (.add rfl (by omega) (by omega)) ?_
  refine J.ari ((c.zones + 1) * c.unit) (.mul rfl (by omega) (by omega)) ?_
  refine J.ari ((c.zones + 1) * c.unit * c.block) (.mul rfl (by omega) (by omega)) ?_
  refine J.ari c.need (.add rfl (by omega) (by omega)) ?_
  refine J.ari (c.need + c.block) (.add rfl (by omega) (by omega)) ?_
  refine J.ari (c.need + c.block - 1) (.sub rfl (by omega) (by omega)) ?_
  refine J.ari ((c.need + c.block - 1) / c.block) (.quo (by omega) (by omega) (by omega) rfl) ?_
  refine J.ari ((c.need + c.block - 1) / c.block + 2) (.add rfl (by omega) (by omega)) ?_
  exact J.ret (.one (.v (.int .i64 ((c.need + c.block - 1) / c.block + 2)))) [⟨g, 23, c.cs⟩] (fun w1 hk hr => ⟨rfl, hr.ext' (mem1 (.inr ((hk.get 0 rfl).trans h.symm)))⟩)
theorem room_c {c : Cf} (w : World) : Calls Tryz.prog 89 #[c.val] w fun e w' => e = .returned (.int .i64 c.room) ∧ Ext w w' := by
  refine J.enter Tryz.func89 rfl [] [.agg c.cs] 6 (known_nil w) ?_
  refine J.new 23 c.cs [] (fun g hg _ => ?_)
  have fin : ∀ {u w1 : World}, Ext w u → Rel [⟨g, 23, c.cs⟩] u w1 → Ext w w1 := fun hx hr => hx.rel' hr (mem1 (.inl hg))
  refine J.call Tryz.func51 [.agg c.cs, .one (.v (.func (.func 106) #[] #[.pointer (some ⟨g, 0, none⟩)]))] [⟨g, 23, c.cs⟩] (fun w1 hk1 hr1 => ?_)
  have hx1 := fin (.refl w) hr1
  refine (of_c (f := 106) (caps := [.pointer (some ⟨g, 0, none⟩)]) (c := c) w1 Tryz.func106 rfl rfl (fun hs u hu => room1_c u (hu.blk (hk1.get 0 rfl)) hs)).mono ?_
  rintro e w2 ⟨rfl, hx⟩
  refine ⟨.one (.v (.int .i64 c.room)), _, rfl, rfl, hx.known hk1, ?_⟩
  exact J.ret (.one (.v (.int .i64 c.room))) [⟨g, 23, c.cs⟩] (fun w3 _ hr3 => ⟨rfl, fin (hx1.trans hx) hr3⟩)
def bet (n low high : Int) : Bool := decide (low ≤ n) && decide (n ≤ high)
theorem check1_c (n low high : Int) (w : World) : Calls Tryz.prog 88 #[.int .i64 n, .int .i64 low, .int .i64 high] w fun e w' => e = .returned (.bool (bet n low high)) ∧ Ext w w' := by
  refine J.enter Tryz.func88 rfl [] [.one (.v (.int .i64 n)), .one (.v (.int .i64 low)), .one (.v (.int .i64 high))] 15 (known_nil w) ?_
  by_cases h1 : n ≥ low
  · refine J.lit 10 (decide (n ≥ low)) true (decide_eq_true h1) ?_
    refine J.ret (.one (.v (.bool (decide (n ≤ high))))) [] (fun w1 hk hr => ⟨?_, hr.ext' (fun b hb => by cases hb)⟩)
    show Ending.returned (.bool (decide (n ≤ high))) = _
    have h1' : low ≤ n := h1
    simp [bet, h1']
  · refine J.lit 10 (decide (n ≥ low)) false (decide_eq_false h1) ?_
    refine J.ret (.one (.lit false)) [] (fun w1 hk hr => ⟨?_, hr.ext' (fun b hb => by cases hb)⟩)
    show Ending.returned (.bool false) = _
    have h1' : ¬ low ≤ n := h1
    simp [bet, h1']
def Cf.c1 (c : Cf) : Bool := bet c.id 0 1099511627776 && (bet c.members 3 16 && bet c.unit 1 64)
def Cf.c2 (c : Cf) : Bool := bet c.block 1 4096 && (bet c.cap 1 4096 && decide (c.cap % c.unit = 0))
def Cf.c3 (c : Cf) : Bool := bet c.zones 1 64 && (bet c.spare 1 64 && (bet c.mta 3 64 && decide (c.all ≤ 64)))
def Cf.c4 (c : Cf) : Bool := bet c.active 1 c.zones && (bet c.opn 1 c.active && bet c.limit (c.active + c.spare + c.mta) 64)
def Cf.check (c : Cf) : Int := if c.c1 = true then if c.c2 = true then if c.c3 = true then if c.c4 = true then (if c.room > c.cap then 17 else 0) else 1 else 1 else 1 else 1
theorem bet_t {n low high : Int} (h : bet n low high = true) : low ≤ n ∧ n ≤ high := by
  unfold bet at h
  rw [Bool.and_eq_true] at h
  exact ⟨of_decide_eq_true h.1, of_decide_eq_true h.2⟩
end Go.Proofs.YtlhmpmmblnbmbaaGreat.Cnf
set_option linter.unusedVariables false
set_option linter.unusedSimpArgs false
set_option maxRecDepth 100000
namespace Go.Proofs.YtlhmpmmblnbmbaaGreat.Cnf
open Go.Proofs.YtlhmpmmblnbmbaaGreat.Sx Go.Proofs.YtlhmpmmblnbmbaaGreat.Byt Go.Proofs.YtlhmpmmblnbmbaaGreat.Pck Go.Lib
set_option maxHeartbeats 4000000 in
theorem check_c {c : Cf} (w : World) : Calls Tryz.prog 45 #[c.val] w fun e w' => e = .returned (.int .i64 c.check) ∧ Ext w w' := by
  refine J.enter Tryz.func45 rfl [] [.agg c.cs] 108 (known_nil w) ?_
  refine J.new 23 c.cs [] (fun g hg _ => ?_)
  have fin : ∀ {u w1 : World}, Ext w u → Rel [⟨g, 23, c.cs⟩] u w1 → Ext w w1 := fun hx hr => hx.rel' hr (mem1 (.inl hg))
  refine J.call Tryz.func88 [.one (.v (.int .i64 (c.id))), .one (.v (.int .i64 (0))), .one (.v (.int .i64 (1099511627776)))] [⟨g, 23, c.cs⟩] (fun u1 hk1 hr1 => ?_)
  have hx1 := fin (.refl w) hr1
  refine (check1_c (c.id) (0) (1099511627776) u1).mono ?_
  rintro e v1 ⟨rfl, hy1⟩
  have hz1 := hx1.trans hy1
  refine ⟨.one (.v (.bool (bet (c.id) (0) (1099511627776)))), _, rfl, rfl, hy1.known hk1, ?_⟩
  by_cases b1 : bet (c.id) (0) (1099511627776) = true
  rotate_left
  · replace b1 : bet (c.id) (0) (1099511627776) = false := by simpa using b1
    refine J.lit 10 (!bet (c.id) (0) (1099511627776)) true (by rw [b1]; rfl) ?_
    exact J.ret (.one (.v (.int .i64 1))) [⟨g, 23, c.cs⟩] (fun w9 _ hr9 => ⟨by rw [show c.check = 1 by simp [Cf.check, Cf.c1, Cf.c1, b1]]; rfl, fin hz1 hr9⟩)
  refine J.lit 10 (!bet (c.id) (0) (1099511627776)) false (by rw [b1]; rfl) ?_
  have t1 := bet_t b1
  refine J.call Tryz.func88 [.one (.v (.int .i64 (c.members))), .one (.v (.int .i64 (3))), .one (.v (.int .i64 (16)))] [⟨g, 23, c.cs⟩] (fun u2 hk2 hr2 => ?_)
  have hx2 := fin hz1 hr2
  refine (check1_c (c.members) (3) (16) u2).mono ?_
  rintro e v2 ⟨rfl, hy2⟩
  have hz2 := hx2.trans hy2
  refine ⟨.one (.v (.bool (bet (c.members) (3) (16)))), _, rfl, rfl, hy2.known hk2, ?_⟩
  by_cases b2 : bet (c.members) (3) (16) = true
  rotate_left
  · replace b2 : bet (c.members) (3) (16) = false := by simpa using b2
    refine J.lit 17 (!bet (c.members) (3) (16)) true (by rw [b2]; rfl) ?_
    exact J.ret (.one (.v (.int .i64 1))) [⟨g, 23, c.cs⟩] (fun w9 _ hr9 => ⟨by rw [show c.check = 1 by simp [Cf.check, b1, Cf.c1, b2]]; rfl, fin hz2 hr9⟩)
  refine J.lit 17 (!bet (c.members) (3) (16)) false (by rw [b2]; rfl) ?_
  have t2 := bet_t b2
  refine J.call Tryz.func88 [.one (.v (.int .i64 (c.unit))), .one (.v (.int .i64 (1))), .one (.v (.int .i64 (64)))] [⟨g, 23, c.cs⟩] (fun u3 hk3 hr3 => ?_)
  have hx3 := fin hz2 hr3
  refine (check1_c (c.unit) (1) (64) u3).mono ?_
  rintro e v3 ⟨rfl, hy3⟩
  have hz3 := hx3.trans hy3
  refine ⟨.one (.v (.bool (bet (c.unit) (1) (64)))), _, rfl, rfl, hy3.known hk3, ?_⟩
  by_cases b3 : bet (c.unit) (1) (64) = true
  rotate_left
  · replace b3 : bet (c.unit) (1) (64) = false := by simpa using b3
    refine J.brt (!bet (c.unit) (1) (64)) (by rw [b3]; rfl) ?_
    exact J.ret (.one (.v (.int .i64 1))) [⟨g, 23, c.cs⟩] (fun w9 _ hr9 => ⟨by rw [show c.check = 1 by simp [Cf.check, b1, b2, Cf.c1, b3]]; rfl, fin hz3 hr9⟩)
  refine J.brf (!bet (c.unit) (1) (64)) (by rw [b3]; rfl) ?_
  have t3 := bet_t b3
  have g1 : c.c1 = true := by simp [Cf.c1, b1, b2, b3]
  refine J.call Tryz.func88 [.one (.v (.int .i64 (c.block))), .one (.v (.int .i64 (1))), .one (.v (.int .i64 (4096)))] [⟨g, 23, c.cs⟩] (fun u4 hk4 hr4 => ?_)
  have hx4 := fin hz3 hr4
  refine (check1_c (c.block) (1) (4096) u4).mono ?_
  rintro e v4 ⟨rfl, hy4⟩
  have hz4 := hx4.trans hy4
  refine ⟨.one (.v (.bool (bet (c.block) (1) (4096)))), _, rfl, rfl, hy4.known hk4, ?_⟩
  by_cases b4 : bet (c.block) (1) (4096) = true
  rotate_left
  · replace b4 : bet (c.block) (1) (4096) = false := by simpa using b4
    refine J.lit 30 (!bet (c.block) (1) (4096)) true (by rw [b4]; rfl) ?_
    exact J.ret (.one (.v (.int .i64 1))) [⟨g, 23, c.cs⟩] (fun w9 _ hr9 => ⟨by rw [show c.check = 1 by simp [Cf.check, g1, Cf.c2, b4]]; rfl, fin hz4 hr9⟩)
  refine J.lit 30 (!bet (c.block) (1) (4096)) false (by rw [b4]; rfl) ?_
  have t4 := bet_t b4
  refine J.call Tryz.func88 [.one (.v (.int .i64 (c.cap))), .one (.v (.int .i64 (1))), .one (.v (.int .i64 (4096)))] [⟨g, 23, c.cs⟩] (fun u5 hk5 hr5 => ?_)
  have hx5 := fin hz4 hr5
  refine (check1_c (c.cap) (1) (4096) u5).mono ?_
  rintro e v5 ⟨rfl, hy5⟩
  have hz5 := hx5.trans hy5
  refine ⟨.one (.v (.bool (bet (c.cap) (1) (4096)))), _, rfl, rfl, hy5.known hk5, ?_⟩
  by_cases b5 : bet (c.cap) (1) (4096) = true
  rotate_left
  · replace b5 : bet (c.cap) (1) (4096) = false := by simpa using b5
    refine J.lit 37 (!bet (c.cap) (1) (4096)) true (by rw [b5]; rfl) ?_
    exact J.ret (.one (.v (.int .i64 1))) [⟨g, 23, c.cs⟩] (fun w9 _ hr9 => ⟨by rw [show c.check = 1 by simp [Cf.check, g1, b4, Cf.c2, b5]]; rfl, fin hz5 hr9⟩)
  refine J.lit 37 (!bet (c.cap) (1) (4096)) false (by rw [b5]; rfl) ?_
  have t5 := bet_t b5
  have hp1 := Int.emod_nonneg c.cap (b := c.unit) (by omega)
  refine J.ari (c.cap % c.unit) (.rem (by omega) (by omega) rfl) ?_
  by_cases hm : c.cap % c.unit = 0
  rotate_left
  · refine J.brt (c.cap % c.unit != 0) (by simp [hm]) ?_
    exact J.ret (.one (.v (.int .i64 1))) [⟨g, 23, c.cs⟩] (fun w9 _ hr9 => ⟨by rw [show c.check = 1 by simp [Cf.check, g1, Cf.c2, b4, b5, hm]]; rfl, fin hz5 hr9⟩)
  refine J.brf (c.cap % c.unit != 0) (by simp [hm]) ?_
  have g2 : c.c2 = true := by simp [Cf.c2, b4, b5, hm]
  refine J.call Tryz.func88 [.one (.v (.int .i64 (c.zones))), .one (.v (.int .i64 (1))), .one (.v (.int .i64 (64)))] [⟨g, 23, c.cs⟩] (fun u6 hk6 hr6 => ?_)
  have hx6 := fin hz5 hr6
  refine (check1_c (c.zones) (1) (64) u6).mono ?_
  rintro e v6 ⟨rfl, hy6⟩
  have hz6 := hx6.trans hy6
  refine ⟨.one (.v (.bool (bet (c.zones) (1) (64)))), _, rfl, rfl, hy6.known hk6, ?_⟩
  by_cases b6 : bet (c.zones) (1) (64) = true
  rotate_left
  · replace b6 : bet (c.zones) (1) (64) = false := by simpa using b6
    refine J.lit 51 (!bet (c.zones) (1) (64)) true (by rw [b6]; rfl) ?_
    exact J.ret (.one (.v (.int .i64 1))) [⟨g, 23, c.cs⟩] (fun w9 _ hr9 => ⟨by rw [show c.check = 1 by simp [Cf.check, g1, g2, Cf.c3, b6]]; rfl, fin hz6 hr9⟩)
  refine J.lit 51 (!bet (c.zones) (1) (64)) false (by rw [b6]; rfl) ?_
  have t6 := bet_t b6
  refine J.call Tryz.func88 [.one (.v (.int .i64 (c.spare))), .one (.v (.int .i64 (1))), .one (.v (.int .i64 (64)))] [⟨g, 23, c.cs⟩] (fun u7 hk7 hr7 => ?_)
  have hx7 := fin hz6 hr7
  refine (check1_c (c.spare) (1) (64) u7).mono ?_
  rintro e v7 ⟨rfl, hy7⟩
  have hz7 := hx7.trans hy7
  refine ⟨.one (.v (.bool (bet (c.spare) (1) (64)))), _, rfl, rfl, hy7.known hk7, ?_⟩
  by_cases b7 : bet (c.spare) (1) (64) = true
  rotate_left
  · replace b7 : bet (c.spare) (1) (64) = false := by simpa using b7
    refine J.lit 58 (!bet (c.spare) (1) (64)) true (by rw [b7]; rfl) ?_
    exact J.ret (.one (.v (.int .i64 1))) [⟨g, 23, c.cs⟩] (fun w9 _ hr9 => ⟨by rw [show c.check = 1 by simp [Cf.check, g1, g2, b6, Cf.c3, b7]]; rfl, fin hz7 hr9⟩)
  refine J.lit 58 (!bet (c.spare) (1) (64)) false (by rw [b7]; rfl) ?_
  have t7 := bet_t b7
  refine J.call Tryz.func88 [.one (.v (.int .i64 (c.mta))), .one (.v (.int .i64 (3))), .one (.v (.int .i64 (64)))] [⟨g, 23, c.cs⟩] (fun u8 hk8 hr8 => ?_)
  have hx8 := fin hz7 hr8
  refine (check1_c (c.mta) (3) (64) u8).mono ?_
  rintro e v8 ⟨rfl, hy8⟩
  have hz8 := hx8.trans hy8
  refine ⟨.one (.v (.bool (bet (c.mta) (3) (64)))), _, rfl, rfl, hy8.known hk8, ?_⟩
  by_cases b8 : bet (c.mta) (3) (64) = true
  rotate_left
  · replace b8 : bet (c.mta) (3) (64) = false := by simpa using b8
    refine J.lit 65 (!bet (c.mta) (3) (64)) true (by rw [b8]; rfl) ?_
    exact J.ret (.one (.v (.int .i64 1))) [⟨g, 23, c.cs⟩] (fun w9 _ hr9 => ⟨by rw [show c.check = 1 by simp [Cf.check, g1, g2, b6, b7, Cf.c3, b8]]; rfl, fin hz8 hr9⟩)
  refine J.lit 65 (!bet (c.mta) (3) (64)) false (by rw [b8]; rfl) ?_
  have t8 := bet_t b8
  refine J.call Tryz.func23 [.agg c.cs] [⟨g, 23, c.cs⟩] (fun u9 hk9 hr9 => ?_)
  have hx9 := fin hz8 hr9
  refine (all_c (c := c) u9).mono ?_
  rintro e v9 ⟨rfl, hy9⟩
  have hz9 := hx9.trans hy9
  refine ⟨.one (.v (.int .i64 c.all)), _, rfl, rfl, hy9.known hk9, ?_⟩
  by_cases hal : c.all ≤ 64
  rotate_left
  · refine J.brt (decide (c.all > 64)) (decide_eq_true (by omega)) ?_
    exact J.ret (.one (.v (.int .i64 1))) [⟨g, 23, c.cs⟩] (fun w9 _ hr9 => ⟨by rw [show c.check = 1 by simp [Cf.check, g1, g2, Cf.c3, b6, b7, b8, hal]]; rfl, fin hz9 hr9⟩)
  refine J.brf (decide (c.all > 64)) (decide_eq_false (by omega)) ?_
  have g3 : c.c3 = true := by simp [Cf.c3, b6, b7, b8, hal]
  refine J.call Tryz.func88 [.one (.v (.int .i64 (c.active))), .one (.v (.int .i64 (1))), .one (.v (.int .i64 (c.zones)))] [⟨g, 23, c.cs⟩] (fun u10 hk10 hr10 => ?_)
  have hx10 := fin hz9 hr10
  refine (check1_c (c.active) (1) (c.zones) u10).mono ?_
  rintro e v10 ⟨rfl, hy10⟩
  have hz10 := hx10.trans hy10
  refine ⟨.one (.v (.bool (bet (c.active) (1) (c.zones)))), _, rfl, rfl, hy10.known hk10, ?_⟩
  by_cases b10 : bet (c.active) (1) (c.zones) = true
  rotate_left
  · replace b10 : bet (c.active) (1) (c.zones) = false := by simpa using b10
    refine J.lit 78 (!bet (c.active) (1) (c.zones)) true (by rw [b10]; rfl) ?_
    exact J.ret (.one (.v (.int .i64 1))) [⟨g, 23, c.cs⟩] (fun w9 _ hr9 => ⟨by rw [show c.check = 1 by simp [Cf.check, g1, g2, g3, Cf.c4, b10]]; rfl, fin hz10 hr9⟩)
  refine J.lit 78 (!bet (c.active) (1) (c.zones)) false (by rw [b10]; rfl) ?_
  have t10 := bet_t b10
  refine J.call Tryz.func88 [.one (.v (.int .i64 (c.opn))), .one (.v (.int .i64 (1))), .one (.v (.int .i64 (c.active)))] [⟨g, 23, c.cs⟩] (fun u11 hk11 hr11 => ?_)
  have hx11 := fin hz10 hr11
  refine (check1_c (c.opn) (1) (c.active) u11).mono ?_
  rintro e v11 ⟨rfl, hy11⟩
  have hz11 := hx11.trans hy11
  refine ⟨.one (.v (.bool (bet (c.opn) (1) (c.active)))), _, rfl, rfl, hy11.known hk11, ?_⟩
  by_cases b11 : bet (c.opn) (1) (c.active) = true
  rotate_left
  · replace b11 : bet (c.opn) (1) (c.active) = false := by simpa using b11
    refine J.lit 87 (!bet (c.opn) (1) (c.active)) true (by rw [b11]; rfl) ?_
    exact J.ret (.one (.v (.int .i64 1))) [⟨g, 23, c.cs⟩] (fun w9 _ hr9 => ⟨by rw [show c.check = 1 by simp [Cf.check, g1, g2, g3, b10, Cf.c4, b11]]; rfl, fin hz11 hr9⟩)
  refine J.lit 87 (!bet (c.opn) (1) (c.active)) false (by rw [b11]; rfl) ?_
  have t11 := bet_t b11
  refine J.ari (c.active + c.spare) (.add rfl (by omega) (by omega)) ?_
  refine J.ari (c.active + c.spare + c.mta) (.add rfl (by omega) (by omega)) ?_
  refine J.call Tryz.func88 [.one (.v (.int .i64 (c.limit))), .one (.v (.int .i64 (c.active + c.spare + c.mta))), .one (.v (.int .i64 (64)))] [⟨g, 23, c.cs⟩] (fun u12 hk12 hr12 => ?_)
  have hx12 := fin hz11 hr12
  refine (check1_c (c.limit) (c.active + c.spare + c.mta) (64) u12).mono ?_
  rintro e v12 ⟨rfl, hy12⟩
  have hz12 := hx12.trans hy12
  refine ⟨.one (.v (.bool (bet (c.limit) (c.active + c.spare + c.mta) (64)))), _, rfl, rfl, hy12.known hk12, ?_⟩
  by_cases b12 : bet (c.limit) (c.active + c.spare + c.mta) (64) = true
  rotate_left
  · replace b12 : bet (c.limit) (c.active + c.spare + c.mta) (64) = false := by simpa using b12
    refine J.brt (!bet (c.limit) (c.active + c.spare + c.mta) (64)) (by rw [b12]; rfl) ?_
    exact J.ret (.one (.v (.int .i64 1))) [⟨g, 23, c.cs⟩] (fun w9 _ hr9 => ⟨by rw [show c.check = 1 by simp [Cf.check, g1, g2, g3, b10, b11, Cf.c4, b12]]; rfl, fin hz12 hr9⟩)
  refine J.brf (!bet (c.limit) (c.active + c.spare + c.mta) (64)) (by rw [b12]; rfl) ?_
  have t12 := bet_t b12
  have g4 : c.c4 = true := by simp [Cf.c4, b10, b11, b12]
  refine J.drw 6 [(1, .one (.v (.int .i64 c.room)))] [⟨g, 23, c.cs⟩] (.cons (Y.call Tryz.func89 [.agg c.cs] (fun u _ _ => room_c (c := c) u)) .nil) ?_
  refine J.brd (c.room > c.cap) (fun hr => ?_) (fun hr => ?_)
  · exact J.ret (.one (.v (.int .i64 17))) [⟨g, 23, c.cs⟩] (fun w9 _ hr9 => ⟨by rw [show c.check = 17 by simp [Cf.check, g1, g2, g3, g4]; omega]; rfl, fin hz12 hr9⟩)
  · exact J.ret (.one (.v (.int .i64 0))) [⟨g, 23, c.cs⟩] (fun w9 _ hr9 => ⟨by rw [show c.check = 0 by simp [Cf.check, g1, g2, g3, g4]; omega]; rfl, fin hz12 hr9⟩)
end Go.Proofs.YtlhmpmmblnbmbaaGreat.Cnf
set_option linter.unusedVariables false
set_option linter.unusedSimpArgs false
set_option maxRecDepth 100000
namespace Go.Proofs.YtlhmpmmblnbmbaaGreat.Pck
open Go.Proofs.YtlhmpmmblnbmbaaGreat.Sx Go.Proofs.YtlhmpmmblnbmbaaGreat.Byt Go.Lib
/-- Bytes, a place, the first error. -/
structure Pr where
  l : List Int
  at_ : Nat
  e : Int
def Pr.take (r : Pr) (n : Nat) : Pr := if r.e = 0 then (if n ≤ r.l.length - r.at_ then { r with at_ := r.at_ + n } else { r with e := 14 }) else r
def Pr.got (r : Pr) (n : Nat) : List Int := if r.e = 0 ∧ n ≤ r.l.length - r.at_ then (r.l.drop r.at_).take n else []
def Pr.int (r : Pr) (low high : Int) : Pr × Int := if (r.take 8).e ≠ 0 then (r.take 8, 0) else if num (r.got 8) < low ∨ num (r.got 8) > high then ({ r.take 8 with e := 13 }, 0) else (r.take 8, num (r.got 8))
def Pr.bytes (r : Pr) (most : Int) : Pr × List Int := ((r.int 0 most).1.take (r.int 0 most).2.toNat, (r.int 0 most).1.got (r.int 0 most).2.toNat)
def Pr.flag (r : Pr) : Pr × Bool := if (r.take 1).e ≠ 0 then (r.take 1, false) else (if (r.got 1).headD 0 > 1 then { r.take 1 with e := 13 } else r.take 1, (r.got 1).headD 0 == 1)
def Rd.pr (R : Rd) : Pr := ⟨R.p.l, R.at_, R.e⟩
theorem pr_take {R : Rd} (h : R.p.l.length = R.p.n) (n : Nat) : (R.take n).pr = R.pr.take n := by
  unfold Rd.take Pr.take Rd.pr
  simp only [h]
  split
  · split <;> rfl
  · rfl
theorem pr_got {R : Rd} (h : R.p.l.length = R.p.n) (n : Nat) : (R.got n).l = R.pr.got n := by
  unfold Rd.got Pr.got Rd.pr
  simp only [h]
  split <;> rfl
theorem pr_e (R : Rd) : R.pr.e = R.e := rfl
theorem pr_int {R : Rd} (h : R.p.l.length = R.p.n) (low high : Int) : (R.int low high).1.pr = (R.pr.int low high).1 ∧ (R.int low high).2 = (R.pr.int low high).2 := by
  unfold Rd.int Pr.int
  rw [← pr_take h, ← pr_got h]
  simp only [pr_e]
  split
  · exact ⟨rfl, rfl⟩
  · split <;> exact ⟨rfl, rfl⟩
theorem int_p (R : Rd) (low high : Int) : (R.int low high).1.p = R.p := by
  unfold Rd.int
  split
  · exact take_p R 8
  · split <;> exact take_p R 8
theorem pr_bytes {R : Rd} (h : R.p.l.length = R.p.n) (most : Int) : (R.bytes most).1.pr = (R.pr.bytes most).1 ∧ (R.bytes most).2 = (R.pr.bytes most).2 := by
  unfold Rd.bytes Pr.bytes
  obtain ⟨h1, h2⟩ := pr_int h 0 most
  have h3 : (R.int 0 most).1.p.l.length = (R.int 0 most).1.p.n := by rw [int_p]; exact h
  rw [← h1, ← h2]
  exact ⟨pr_take h3 _, pr_got h3 _⟩
theorem pr_flag {R : Rd} (h : R.p.l.length = R.p.n) : R.flag.1.pr = R.pr.flag.1 ∧ R.flag.2 = R.pr.flag.2 := by
  unfold Rd.flag Pr.flag
  rw [← pr_take h, ← pr_got h]
  simp only [pr_e]
  split
  · exact ⟨rfl, rfl⟩
  · refine ⟨?_, rfl⟩
    split <;> rfl
/-- A reader stands in memory. -/
def RAt (w : World) (g : Nat) (r : Pr) : Prop := ∃ R : Rd, RdAt w g R ∧ R.pr = r
theorem RAt.ext {w w' : World} {g : Nat} {r : Pr} (h : RAt w g r) (hx : Ext w w') : RAt w' g r := let ⟨R, h1, h2⟩ := h; ⟨R, h1.ext hx, h2⟩
theorem RAt.blk {w : World} {g : Nat} {r : Pr} (h : RAt w g r) : ∃ cs, w.heap[g]? = some (Obj.cells cs 148 (0, 0)) := let ⟨R, h1, _⟩ := h; ⟨_, h1.blk⟩
theorem RAt.chg {w w' : World} {g : Nat} {r : Pr} {S : Nat → Prop} (h : RAt w g r) (hx : Chg S w w') (hg : ¬ S g) (hS : ∀ k cs fz, S k → U8 w k cs fz → False) : RAt w' g r := let ⟨R, h1, h2⟩ := h; ⟨R, ⟨hx.blk h1.blk hg, h1.pat.chg hx hS, h1.cap, h1.le, h1.rng⟩, h2⟩
theorem RAt.le {w : World} {g : Nat} {r : Pr} (h : RAt w g r) : r.at_ ≤ r.l.length ∧ r.l.length ≤ 1000000000 ∧ IsB r.l := by
  obtain ⟨R, h1, rfl⟩ := h
  have := h1.le; have := h1.pat.len; have := h1.pat.le
  exact ⟨by show R.at_ ≤ R.p.l.length; omega, by show R.p.l.length ≤ _; omega, h1.rng⟩
theorem pnew_c (p : Part) (w : World) (hp : PAt w p) (hB : IsB p.l) : Calls Tryz.prog 73 #[p.val] w fun e w' => ∃ g, e = .returned (.pointer (some ⟨g, 0, none⟩)) ∧ RAt w' g ⟨p.l, 0, 0⟩ ∧ Ext w w' ∧ w.heap.size ≤ g :=
  (new_c p w hp hB).mono (by
    rintro e w' ⟨g, q, rfl, h, _, h2, h3, h4⟩
    exact ⟨g, rfl, ⟨_, h, by unfold Rd.pr; rw [h2]⟩, h3, h4⟩)
theorem pint_c {g : Nat} {r : Pr} (low high : Int) (w : World) (h : RAt w g r) : Calls Tryz.prog 78 #[.pointer (some ⟨g, 0, none⟩), .int .i64 low, .int .i64 high] w fun e w' => e = .returned (.int .i64 (r.int low high).2) ∧ RAt w' g (r.int low high).1 ∧ Chg (fun k => k = g) w w' := by
  obtain ⟨R, h1, rfl⟩ := h
  obtain ⟨a, b⟩ := pr_int h1.pat.len low high
  refine (int_r low high w h1).mono ?_
  rintro e w' ⟨rfl, h2, h3⟩
  exact ⟨by rw [b], ⟨_, h2, a⟩, h3⟩
theorem pbytes_c {g : Nat} {r : Pr} (most : Int) (w : World) (h : RAt w g r) (hm : most ≤ 1000000000) : Calls Tryz.prog 74 #[.pointer (some ⟨g, 0, none⟩), .int .i64 most] w fun e w' => ∃ v, e = .returned v ∧ RAt w' g (r.bytes most).1 ∧ w'.ownsRow w.heap.size 5 1 v (r.bytes most).2.length (enc (r.bytes most).2) ∧ Chg (fun k => k = g) w w' := by
  obtain ⟨R, h1, rfl⟩ := h
  obtain ⟨a, b⟩ := pr_bytes h1.pat.len most
  refine (bytes_r most w h1 hm).mono ?_
  rintro e w' ⟨v, rfl, h2, h3, h4⟩
  exact ⟨v, rfl, ⟨_, h2, a⟩, by rw [← b]; exact h3, h4⟩
theorem pflag_c {g : Nat} {r : Pr} (w : World) (h : RAt w g r) : Calls Tryz.prog 77 #[.pointer (some ⟨g, 0, none⟩)] w fun e w' => e = .returned (.bool r.flag.2) ∧ RAt w' g r.flag.1 ∧ Chg (fun k => k = g) w w' := by
  obtain ⟨R, h1, rfl⟩ := h
  obtain ⟨a, b⟩ := pr_flag h1.pat.len
  refine (flag_r w h1).mono ?_
  rintro e w' ⟨rfl, h2, h3⟩
  exact ⟨by rw [b], ⟨_, h2, a⟩, h3⟩
theorem pleft_c {g : Nat} {r : Pr} (w : World) (h : RAt w g r) : Calls Tryz.prog 79 #[.pointer (some ⟨g, 0, none⟩)] w fun e w' => e = .returned (.int .i64 ((r.l.length : Int) - r.at_)) ∧ Ext w w' := by
  obtain ⟨R, h1, rfl⟩ := h
  refine (left_r w h1).mono ?_
  rintro e w' ⟨rfl, h2⟩
  exact ⟨by show _ = Ending.returned (.int .i64 ((R.p.l.length : Int) - R.at_)); rw [h1.pat.len], h2⟩
theorem perr_c {g : Nat} {r : Pr} (w : World) (h : RAt w g r) : Calls Tryz.prog 75 #[.pointer (some ⟨g, 0, none⟩)] w fun e w' => e = .returned (.int .i64 r.e) ∧ Ext w w' := by
  obtain ⟨R, h1, rfl⟩ := h
  exact err_r w h1
end Go.Proofs.YtlhmpmmblnbmbaaGreat.Pck
set_option linter.unusedVariables false
set_option linter.unusedSimpArgs false
set_option maxRecDepth 100000
namespace Go.Proofs.YtlhmpmmblnbmbaaGreat.Cnf
open Go.Proofs.YtlhmpmmblnbmbaaGreat.Sx Go.Proofs.YtlhmpmmblnbmbaaGreat.Byt Go.Proofs.YtlhmpmmblnbmbaaGreat.Pck Go.Lib
def Cf.put (c : Cf) : List Int := i8 c.id ++ c.nums.flatMap i8
theorem flat8_len (l : List Int) : (l.flatMap i8).length = 8 * l.length := by
  induction l with
  | nil => rfl
  | cons x l ih => rw [List.flatMap_cons, List.length_append, i8_len, ih, List.length_cons]; omega
theorem put_len (c : Cf) : c.put.length = 88 := by
  unfold Cf.put
  rw [List.length_append, i8_len, flat8_len]; rfl
theorem put_c {c : Cf} (w : World) : Calls Tryz.prog 20 #[c.val] w fun e w' => ∃ v, e = .returned v ∧ Bts w w' c.put v := by
  refine J.enter Tryz.func20 rfl [] [.agg c.cs] 22 (known_nil w) ?_
  refine J.new 23 c.cs [] (fun g hg _ => ?_)
  have fin : ∀ {u w1 : World}, Ext w u → Rel [⟨g, 23, c.cs⟩] u w1 → Ext w w1 := fun hx hr => hx.rel' hr (mem1 (.inl hg))
  have same : ∀ {u w1 : World}, Known [⟨g, 23, c.cs⟩] u → Known [⟨g, 23, c.cs⟩] w1 → Rel [⟨g, 23, c.cs⟩] u w1 → Ext u w1 := fun h hk hr => hr.ext' (mem1 (.inr ((hk.get 0 rfl).trans (h.get 0 rfl).symm)))
  refine J.call Tryz.func26 [.one (.v nilP.val), .one (.v (.int .i64 c.id))] [⟨g, 23, c.cs⟩] (fun w1 hk1 hr1 => ?_)
  have hx1 := fin (.refl w) hr1
  refine (int_c nilP c.id w1 .none).mono ?_
  rintro e w2 ⟨v0, rfl, hb⟩
  have hb0 := hb.from hx1
  have hx2 := hb0.1
  have hk2 := hb.1.known hk1
  refine ⟨.one (.v v0), _, rfl, rfl, hk2, ?_⟩
  refine J.call Tryz.func47 [.one (.ptr 0 0)] [⟨g, 23, c.cs⟩] (fun w3 hk3 hr3 => ?_)
  have hx3 := fin hx2 hr3
  refine (numbers_c (c := c) w3 (hk3.get 0 rfl)).mono ?_
  rintro e w4 ⟨gr, rfl, hp4, hx, _⟩
  have hx4 := hx3.trans hx
  have hk4 := hx.known hk3
  refine ⟨.one (.v (.slice (some ⟨gr, 0, none⟩) 10 10)), _, rfl, rfl, hk4, ?_⟩
  have ho4 : w4.ownsRow w.heap.size 5 1 v0 8 (enc (i8 c.id)) := by
    have := owns_ext hb0.2 ((same hk2 hk3 hr3).trans hx)
    exact this
  refine J.loop (fun x : Nat × Value => [(1, .one (.ptr 0 0)), (3, .one (.v x.2)), (9, .one (.v (.slice (some ⟨gr, 0, none⟩) 10 10))), (10, .one (.v (.int .i64 10))), (11, .one (.v (.int .i64 x.1)))]) (fun _ => [⟨g, 23, c.cs⟩]) (fun x u => x.1 ≤ 10 ∧ Ext w4 u ∧ u.ownsRow w.heap.size 5 1 x.2 (8 + 8 * x.1) (enc (i8 c.id ++ (c.nums.take x.1).flatMap i8))) (fun x => 10 - x.1) [] (0, v0) (fun w5 hk5 hr5 => ⟨Nat.zero_le _, same hk4 hk5 hr5, by rw [show i8 c.id ++ (c.nums.take 0).flatMap i8 = i8 c.id by simp]; exact owns_ext ho4 (same hk4 hk5 hr5)⟩) ?_
  rintro p ⟨i, v⟩ w5 hpp ⟨hi, hx5, hv⟩ hk5
  refine J.brd ((i : Int) < 10) (fun h1 => ?_) (fun h1 => ?_)
  · have hj : i < c.nums.length := by show i < 10; omega
    have hjz := List.getElem?_eq_getElem hj
    generalize c.nums[i] = x at hjz
    have hstep : i8 c.id ++ (c.nums.take (i + 1)).flatMap i8 = (i8 c.id ++ (c.nums.take i).flatMap i8) ++ i8 x := by rw [List.take_add_one, hjz]; simp
    replace hi : i ≤ 10 := hi
    replace hv : w5.ownsRow w.heap.size 5 1 v (8 + 8 * i) (enc (i8 c.id ++ (c.nums.take i).flatMap i8)) := hv
    obtain ⟨A, cc, rfl, hbt, hnil, -⟩ := owns_BAt hv
    refine J.ix gr 0 10 10 1 i rfl (by omega) ?_
    refine J.ld 96 ⟨gr, 0 + i * 1, none⟩ (.one (.v (.pointer (some ⟨g, i + 1, none⟩)))) [⟨g, 23, c.cs⟩] (fun w6 hk6 hr6 => PtAt.lies (show PtAt w6 gr g from (hx5.trans (same hk5 hk6 hr6)).blk hp4) (by omega)) ?_
    refine J.ld 3 ⟨g, i + 1, none⟩ (.one (.v (.int .i64 x))) [⟨g, 23, c.cs⟩] (fun w6 hk6 hr6 => CfAt.lies (show CfAt w6 g c from hk6.get 0 rfl) hjz) ?_
    refine J.call Tryz.func26 [.one (.v (.slice A (8 + 8 * i) cc)), .one (.v (.int .i64 x))] [⟨g, 23, c.cs⟩] (fun w6 hk6 hr6 => ?_)
    have hx6 := hx5.trans (same hk5 hk6 hr6)
    refine (int_c ⟨A, 8 + 8 * i, cc, i8 c.id ++ (c.nums.take i).flatMap i8⟩ x w6 ⟨hbt.ext (same hk5 hk6 hr6), hnil, by show 8 + 8 * i ≤ _; omega⟩).mono ?_
    rintro e w7 ⟨v', rfl, hb7⟩
    have hb7' := hb7.from ((hx4.trans hx6))
    refine ⟨.one (.v v'), _, rfl, rfl, hb7.1.known hk6, ?_⟩
    refine J.ari ((i + 1 : Nat) : Int) (.add (x := i) (y := 1) (by omega) (by omega) (by omega)) ?_
    have ho7 : w7.ownsRow w.heap.size 5 1 v' (8 + 8 * (i + 1)) (enc (i8 c.id ++ (c.nums.take (i + 1)).flatMap i8)) := by
      have := hb7'.2
      rw [← hstep] at this
      rw [show (i8 c.id ++ (c.nums.take (i + 1)).flatMap i8).length = 8 + 8 * (i + 1) by
        rw [List.length_append, i8_len, flat8_len, List.length_take, show c.nums.length = 10 from rfl]; omega] at this
      exact this
    have hk7 := hb7.1.known hk6
    exact J.at (fun a u h1 h2 hk hr => hpp (i + 1, v') a u h1 h2 hk ⟨by show i + 1 ≤ 10; omega, (hx6.trans hb7.1).trans (same hk7 hk hr), owns_ext ho7 (same hk7 hk hr)⟩ (by show 10 - (i + 1) < 10 - i; omega))
  · replace hi : i ≤ 10 := hi
    have : i = 10 := by omega
    subst this
    refine J.ret (.one (.v v)) [⟨g, 23, c.cs⟩] (fun w6 hk6 hr6 => ⟨v, rfl, fin (hx4.trans hx5) hr6, ?_⟩)
    have := owns_ext hv (same hk5 hk6 hr6)
    rw [put_len]; exact this
/-- Numbers, one after another. -/
def rdn (r : Pr) : Nat → Pr × List Int
  | 0 => (r, [])
  | k + 1 => (((rdn r k).1.int (-4611686018427387904) 4611686018427387904).1, (rdn r k).2 ++ [((rdn r k).1.int (-4611686018427387904) 4611686018427387904).2])
theorem rdn_len (r : Pr) : ∀ k, (rdn r k).2.length = k
  | 0 => rfl
  | k + 1 => by rw [rdn, List.length_append, rdn_len r k]; rfl
/-- Settings out of eleven numbers. -/
def cfOf (l : List Int) : Cf := ⟨l.getD 0 0, l.getD 1 0, l.getD 2 0, l.getD 3 0, l.getD 4 0, l.getD 5 0, l.getD 6 0, l.getD 7 0, l.getD 8 0, l.getD 9 0, l.getD 10 0⟩
def Cf.zero : Cf := ⟨0, 0, 0, 0, 0, 0, 0, 0, 0, 0, 0⟩
def getE (r : Pr) : Int := if r.e = 0 then (if (r.l.length : Int) - r.at_ > 0 then 13 else 0) else r.e
/-- What Get answers. -/
def Cf.get (l : List Int) : Cf × Int := if getE (rdn ⟨l, 0, 0⟩ 11).1 = 0 then (cfOf (rdn ⟨l, 0, 0⟩ 11).2, 0) else (Cf.zero, getE (rdn ⟨l, 0, 0⟩ 11).1)
theorem rdn_e (r : Pr) : ∀ k, ((rdn r k).1.l = r.l)
  | 0 => rfl
  | k + 1 => by
    rw [rdn]
    show ((rdn r k).1.int _ _).1.l = _
    have h2 : ∀ (q : Pr) n, (q.take n).l = q.l := fun q n => by
      unfold Pr.take
      split
      · split <;> rfl
      · rfl
    unfold Pr.int
    split
    · rw [h2, rdn_e r k]
    · split
      · show ((rdn r k).1.take 8).l = _
        rw [h2, rdn_e r k]
      · rw [h2, rdn_e r k]
theorem vs11 {l : List Int} (h : l.length = 11) : (cfOf l).vs = l.map (.int .i64) := by
  match l, h with
  | [a0, a1, a2, a3, a4, a5, a6, a7, a8, a9, a10], _ => rfl
/-- The settings, as far as they are read. -/
def upTo (r : Pr) (k : Nat) : List Int := (rdn r k).2 ++ List.replicate (11 - k) 0
theorem upTo_len {r : Pr} {k : Nat} (h : k ≤ 11) : (upTo r k).length = 11 := by
  unfold upTo
  rw [List.length_append, rdn_len, List.length_replicate]; omega
theorem upTo_set {r : Pr} {k : Nat} (h : k < 11) : (upTo r k).set k ((rdn r k).1.int (-4611686018427387904) 4611686018427387904).2 = upTo r (k + 1) := by
  unfold upTo
  rw [List.set_append_right _ _ (by rw [rdn_len]; omega), rdn_len, Nat.sub_self, show 11 - k = (11 - (k + 1)) + 1 by omega, List.replicate_succ, List.set_cons_zero, rdn]
  simp
theorem upTo_11 (r : Pr) : upTo r 11 = (rdn r 11).2 := by simp [upTo]
def zCf : List C := [.v (.int .i64 0), .v (.int .i64 0), .v (.int .i64 0), .v (.int .i64 0), .v (.int .i64 0), .v (.int .i64 0), .v (.int .i64 0), .v (.int .i64 0), .v (.int .i64 0), .v (.int .i64 0), .v (.int .i64 0)]
theorem get_c (p : Part) (w : World) (hp : PAt w p) (hB : IsB p.l) : Calls Tryz.prog 76 #[p.val] w fun e w' => e = .returned (.tuple #[(Cf.get p.l).1.val, .int .i64 (Cf.get p.l).2]) ∧ Ext w w' := by
  refine J.enter Tryz.func76 rfl [] [.one (.v p.val)] 39 (known_nil w) ?_
  refine J.new 23 zCf [] (fun g2 hg2 _ => ?_)
  have fin : ∀ {u w1 : World} {cs : List C}, Ext w u → Rel [⟨g2, 23, cs⟩] u w1 → Ext w w1 := fun hx hr => hx.rel' hr (mem1 (.inl hg2))
  have same : ∀ {u w1 : World} {cs : List C}, Known [⟨g2, 23, cs⟩] u → Known [⟨g2, 23, cs⟩] w1 → Rel [⟨g2, 23, cs⟩] u w1 → Ext u w1 := fun h hk hr => hr.ext' (mem1 (.inr ((hk.get 0 rfl).trans (h.get 0 rfl).symm)))
  refine J.call Tryz.func73 [.one (.v p.val)] [⟨g2, 23, zCf⟩] (fun w1 hk1 hr1 => ?_)
  have hx1 := fin (.refl w) hr1
  refine (pnew_c p w1 (hp.ext hx1) hB).mono ?_
  rintro e w2 ⟨gr, rfl, hR2, hx, hgr⟩
  have hx2 := hx1.trans hx
  have hk2 := hx.known hk1
  have hgr : w.heap.size ≤ gr := Nat.le_trans hx1.1 hgr
  obtain ⟨r0, hr0⟩ : ∃ r0 : Pr, r0 = ⟨p.l, 0, 0⟩ := ⟨_, rfl⟩
  rw [← hr0] at hR2
  refine ⟨.one (.v (.pointer (some ⟨gr, 0, none⟩))), _, rfl, rfl, hk2, ?_⟩
  refine J.call Tryz.func78 [.one (.v (.pointer (some ⟨gr, 0, none⟩))), .one (.v (.int .i64 (-4611686018427387904))), .one (.v (.int .i64 4611686018427387904))] [⟨g2, 23, zCf⟩] (fun w3 hk3 hr3 => ?_)
  have hx3 := fin hx2 hr3
  have hR3 := hR2.ext (same hk2 hk3 hr3)
  refine (pint_c (-4611686018427387904) 4611686018427387904 w3 hR3).mono ?_
  rintro e w4 ⟨rfl, hR4, hc4⟩
  have hne : ∀ {u : World} {r : Pr} {cs : List C}, RAt u gr r → Known [⟨g2, 23, cs⟩] u → ∀ b ∈ [(⟨g2, 23, cs⟩ : Blk)], b.g ≠ gr := fun hR hk => mem1 (fun e => by
    obtain ⟨cs, hb⟩ := hR.blk
    exact ne_ty (hk.get 0 rfl) hb (by show 23 ≠ 148; decide) e)
  have big : ∀ {u v : World} {S : Nat → Prop}, Ext w u → Chg S u v → (∀ k, S k → w.heap.size ≤ k) → Ext w v := fun hx hc hS => (.mk2 (Nat.le_trans hx.1 hc.1) (fun k hk => (hc.2 k (Nat.lt_of_lt_of_le hk hx.1) (fun h => by have := hS k h; omega)).trans (hx.2 k hk)))
  have hk4 := hk3.chg hc4 (hne hR3 hk3)
  have hx4 := big hx3 hc4 (fun k e => by rw [e]; exact hgr)
  obtain ⟨x, hxx⟩ : ∃ x, x = (r0.int (-4611686018427387904) 4611686018427387904).2 := ⟨_, rfl⟩
  rw [← hxx]
  refine ⟨.one (.v (.int .i64 x)), _, rfl, rfl, hk4, ?_⟩
  refine J.new 23 zCf [⟨g2, 23, zCf⟩] (fun g5 hg5 hn5 => ?_)
  have hg5w : w.heap.size ≤ g5 := Nat.le_trans hx4.1 hg5
  have hr1e : (rdn r0 1).1 = (r0.int (-4611686018427387904) 4611686018427387904).1 := rfl
  have hu1 : upTo r0 1 = [x, 0, 0, 0, 0, 0, 0, 0, 0, 0, 0] := by rw [hxx]; rfl
  refine J.call Tryz.func47 [.one (.ptr 1 0)] [⟨g2, 23, zCf⟩, ⟨g5, 23, (cfOf [x, 0, 0, 0, 0, 0, 0, 0, 0, 0, 0]).cs⟩] (fun w5 hk5 hr5 => ?_)
  have fin2 : ∀ {u w1 : World} {cs c2 : List C}, Ext w u → Rel [⟨g2, 23, cs⟩, ⟨g5, 23, c2⟩] u w1 → Ext w w1 := fun hx hr => hx.rel' hr (mem2 (.inl hg2) (.inl hg5w))
  have hx5 := fin2 hx4 hr5
  have hR5 : RAt w5 gr (rdn r0 1).1 := hR4.chg hr5.chg (fun ⟨b, hb, e⟩ => by
    have h2 : gr < w4.heap.size := by obtain ⟨cs, hb⟩ := hR4.blk; exact (Array.getElem?_eq_some_iff.1 hb).1
    rcases List.mem_cons.1 hb with rfl | hb
    · exact hne hR4 hk4 _ (List.mem_cons_self ..) e
    · rw [List.mem_singleton.1 hb] at e; have : g5 = gr := e; omega) (fun k cs fz ⟨b, hb, e⟩ hc => by
    rcases List.mem_cons.1 hb with rfl | hb
    · have := hk4.get 0 rfl
      subst e
      exact ne_u8 this hc (by show u8ty 23 = false; kernel_rfl) rfl
    · have h2 := hc.lt
      rw [List.mem_singleton.1 hb] at e; have : g5 = k := e; omega)
  refine (numbers_c (c := cfOf [x, 0, 0, 0, 0, 0, 0, 0, 0, 0, 0]) w5 (hk5.get 1 rfl)).mono ?_
  rintro e w6 ⟨gp, rfl, hp6, hx, hgp⟩
  have hx6 := hx5.trans hx
  have hk6 := hx.known hk5
  have hR6 := hR5.ext hx
  refine ⟨.one (.v (.slice (some ⟨gp, 0, none⟩) 10 10)), _, rfl, rfl, hk6, ?_⟩
  refine J.fgt [(2, .one (.ptr 0 0)), (4, .one (.v (.pointer (some ⟨gr, 0, none⟩)))), (5, .one (.v (.pointer (some ⟨g5, 0, none⟩)))), (14, .one (.v (.slice (some ⟨gp, 0, none⟩) 10 10))), (15, .one (.v (.int .i64 10))), (16, .one (.v (.int .i64 0)))] [⟨g2, 23, zCf⟩] [0] [⟨g2, 23, zCf⟩, ⟨g5, 23, (cfOf [x, 0, 0, 0, 0, 0, 0, 0, 0, 0, 0]).cs⟩] (fun w7 hk7 hr7 => ?_)
  have hx67 : Ext w6 w7 := hr7.ext' (mem2 (.inr ((hk7.get 0 rfl).trans (hk6.get 0 rfl).symm)) (.inr ((hk7.get 1 rfl).trans (hk6.get 1 rfl).symm)))
  have hx7 := hx6.trans hx67
  have hgrp : gp ≠ gr ∧ gp ≠ g5 := by
    obtain ⟨cs, hb⟩ := hR6.blk
    exact ⟨fun e => ne_ty hp6 hb (by show 96 ≠ 148; decide) e, fun e => ne_ty hp6 (hk6.get 1 rfl) (by show 96 ≠ 23; decide) e⟩
  have hg25 : g2 ≠ g5 := hn5 _ (List.mem_cons_self ..)
  have hg5r : g5 ≠ gr := fun e => by
    obtain ⟨cs, hb⟩ := hR6.blk
    exact ne_ty (hk6.get 1 rfl) hb (by show 23 ≠ 148; decide) e
  have hr6' : ∀ {u v : World}, Known [⟨g2, 23, zCf⟩] u → Known [⟨g2, 23, zCf⟩] v → Rel [⟨g2, 23, zCf⟩] u v → Ext u v := fun h hk hr => same h hk hr
  refine J.loop (fun i : Nat => [(2, .one (.ptr 0 0)), (4, .one (.v (.pointer (some ⟨gr, 0, none⟩)))), (5, .one (.v (.pointer (some ⟨g5, 0, none⟩)))), (14, .one (.v (.slice (some ⟨gp, 0, none⟩) 10 10))), (15, .one (.v (.int .i64 10))), (16, .one (.v (.int .i64 i)))]) (fun _ => [⟨g2, 23, zCf⟩]) (fun i u => i ≤ 10 ∧ RAt u gr (rdn r0 (i + 1)).1 ∧ u.heap[g5]? = some (Obj.cells ((upTo r0 (i + 1)).map (.int .i64)).toArray 23 (0, 0)) ∧ PtAt u gp g5 ∧ Ext w u) (fun i => 10 - i) [] 0 (fun w8 hk8 hr8 => ?_) ?_
  · have hk77 : Known [⟨g2, 23, zCf⟩] w7 := known_one (hk7.get 0 rfl)
    have hx8 := hx67.trans (same hk77 hk8 hr8)
    exact ⟨Nat.zero_le _, hR6.ext hx8, by rw [hu1]; exact hx8.blk (hk6.get 1 rfl), hx8.blk hp6, hx6.trans hx8⟩
  intro q i w8 hq ⟨hi, hR8, hc8, hp8, hx8⟩ hk8
  refine J.brd ((i : Int) < 10) (fun h1 => ?_) (fun h1 => ?_)
  · refine J.ix gp 0 10 10 1 i rfl (by omega) ?_
    refine J.ld 96 ⟨gp, 0 + i * 1, none⟩ (.one (.v (.pointer (some ⟨g5, i + 1, none⟩)))) [⟨g2, 23, zCf⟩] (fun w9 hk9 hr9 => PtAt.lies (show PtAt w9 gp g5 from (same hk8 hk9 hr9).blk hp8) (by omega)) ?_
    refine J.call Tryz.func78 [.one (.v (.pointer (some ⟨gr, 0, none⟩))), .one (.v (.int .i64 (-4611686018427387904))), .one (.v (.int .i64 4611686018427387904))] [⟨g2, 23, zCf⟩] (fun w9 hk9 hr9 => ?_)
    have hx89 := same hk8 hk9 hr9
    have hR9 := hR8.ext hx89
    refine (pint_c (-4611686018427387904) 4611686018427387904 w9 hR9).mono ?_
    rintro e w10 ⟨rfl, hR10, hc10⟩
    have hk10 := hk9.chg hc10 (hne hR9 hk9)
    have hx10 := big (hx8.trans hx89) hc10 (fun k e => by rw [e]; exact hgr)
    have hb10 := hc10.blk (hx89.blk hc8) hg5r
    have hp10 : PtAt w10 gp g5 := hc10.blk (hx89.blk hp8) hgrp.1
    refine ⟨.one (.v (.int .i64 ((rdn r0 (i + 1)).1.int (-4611686018427387904) 4611686018427387904).2)), _, rfl, rfl, hk10, ?_⟩
    refine J.sto g5 (i + 1) (.one (.v (.int .i64 ((rdn r0 (i + 1)).1.int (-4611686018427387904) 4611686018427387904).2))) 23 (fun _ => (upTo r0 (i + 1)).map (.int .i64)) [⟨g2, 23, zCf⟩] (fun w11 hk11 hr11 => ⟨(same hk10 hk11 hr11).blk hb10, by rw [List.length_map, upTo_len (by omega)]; show i + 1 + 1 ≤ 11; omega⟩) (mem1 hg25) (fun w11 w12 hk11 hr11 hk12 ho hb12 => ?_)
    have hx11 := same hk10 hk11 hr11
    have hb12 : w12.heap[g5]? = some (Obj.cells ((upTo r0 (i + 1 + 1)).map (.int .i64)).toArray 23 (0, 0)) := by
      rw [← upTo_set (by omega), List.map_set]; exact hb12
    have hp12 : PtAt w12 gp g5 := (ho.2 gp hgrp.2).trans (hx11.blk hp10)
    have hR12 : RAt w12 gr (rdn r0 (i + 1 + 1)).1 := (hR10.ext hx11).chg ho.chg (fun e => hg5r e.symm) (fun k cs fz e hc => by
      rw [e] at hc
      exact ne_u8 (hx11.blk hb10) hc (by show u8ty 23 = false; kernel_rfl) rfl)
    have hx12 := big (hx10.trans hx11) ho.chg (fun k e => by rw [e]; exact hg5w)
    refine J.ari ((i + 1 : Nat) : Int) (.add (x := i) (y := 1) (by omega) (by omega) (by omega)) ?_
    exact J.at (fun a u h1 h2 hk hr => hq (i + 1) a u h1 h2 hk ⟨by omega, hR12.ext (same hk12 hk hr), (same hk12 hk hr).blk hb12, (same hk12 hk hr).blk hp12, hx12.trans (same hk12 hk hr)⟩ (by omega))
  · have hi10 : i = 10 := by omega
    subst hi10
    rw [upTo_11] at hc8
    obtain ⟨rr, hrr⟩ : ∃ rr, rr = (rdn r0 11).1 := ⟨_, rfl⟩
    rw [← hrr] at hR8
    have hrl : rr.l = p.l := by rw [hrr, rdn_e, hr0]
    have hget : Cf.get p.l = if getE rr = 0 then (cfOf (rdn r0 11).2, 0) else (Cf.zero, getE rr) := by unfold Cf.get; rw [← hr0, ← hrr]
    have hlen11 := rdn_len r0 11
    have hle := hR8.le
    refine J.call Tryz.func75 [.one (.v (.pointer (some ⟨gr, 0, none⟩)))] [⟨g2, 23, zCf⟩] (fun w9 hk9 hr9 => ?_)
    have hx89 := same hk8 hk9 hr9
    refine (perr_c w9 (hR8.ext hx89)).mono ?_
    rintro e w10 ⟨rfl, hxa⟩
    have hx810 := hx89.trans hxa
    have hk10 := hxa.known hk9
    refine ⟨.one (.v (.int .i64 rr.e)), _, rfl, rfl, hk10, ?_⟩
    have bad : ∀ {u w1 : World}, getE rr ≠ 0 → Ext w u → Rel [⟨g2, 23, zCf⟩] u w1 → Ending.returned (.tuple #[.agg #[.int .i64 0, .int .i64 0, .int .i64 0, .int .i64 0, .int .i64 0, .int .i64 0, .int .i64 0, .int .i64 0, .int .i64 0, .int .i64 0, .int .i64 0], .int .i64 (getE rr)]) = .returned (.tuple #[(Cf.get p.l).1.val, .int .i64 (Cf.get p.l).2]) ∧ Ext w w1 := fun h hx hr => by
      rw [hget, if_neg h]
      exact ⟨rfl, fin hx hr⟩
    by_cases h0 : rr.e = 0
    rotate_left
    · refine J.lit 29 (rr.e == 0) false (by simp [h0]) ?_
      refine J.brt (rr.e != 0) (by simp [h0]) ?_
      have hE : getE rr = rr.e := by unfold getE; rw [if_neg h0]
      refine J.ret (.tup [(true, zCf), (false, [.v (.int .i64 rr.e)])]) [⟨g2, 23, zCf⟩] (fun w11 _ hr11 => ?_)
      have := bad (by rw [hE]; exact h0) (hx8.trans hx810) hr11
      rw [hE] at this; exact this
    refine J.lit 29 (rr.e == 0) true (by simp [h0]) ?_
    refine J.call Tryz.func79 [.one (.v (.pointer (some ⟨gr, 0, none⟩)))] [⟨g2, 23, zCf⟩] (fun w11 hk11 hr11 => ?_)
    have hx11 := hx810.trans (same hk10 hk11 hr11)
    refine (pleft_c w11 (hR8.ext hx11)).mono ?_
    rintro e w12 ⟨rfl, hxb⟩
    have hx12 := hx11.trans hxb
    have hk12 := hxb.known hk11
    refine ⟨.one (.v (.int .i64 ((rr.l.length : Int) - rr.at_))), _, rfl, rfl, hk12, ?_⟩
    refine J.brd ((rr.l.length : Int) - rr.at_ > 0) (fun hl => ?_) (fun hl => ?_)
    · have hE : getE rr = 13 := by unfold getE; rw [if_pos h0, if_pos hl]
      refine J.brt ((13 : Int) != 0) rfl ?_
      refine J.ret (.tup [(true, zCf), (false, [.v (.int .i64 13)])]) [⟨g2, 23, zCf⟩] (fun w13 _ hr13 => ?_)
      have := bad (by rw [hE]; decide) (hx8.trans hx12) hr13
      rw [hE] at this; exact this
    · have hE : getE rr = 0 := by unfold getE; rw [if_pos h0, if_neg hl]
      refine J.brf (rr.e != 0) (by simp [h0]) ?_
      refine J.ld 23 ⟨g5, 0, none⟩ (.agg (cfOf (rdn r0 11).2).cs) [⟨g2, 23, zCf⟩] (fun w13 hk13 hr13 => fun j v hv => ?_) ?_
      · have hb := (hx12.trans (same hk12 hk13 hr13)).blk hc8
        rw [← vs11 hlen11] at hb
        rw [Addr.add_mid]
        unfold World.cell?
        rw [hb]
        have hv : (cfOf (rdn r0 11).2).vs[j]? = some v := hv
        simpa using hv
      · refine J.ret (.tup [(true, (cfOf (rdn r0 11).2).cs), (false, [.v (.int .i64 0)])]) [⟨g2, 23, (cfOf (rdn r0 11).2).cs⟩] (fun w13 _ hr13 => ?_)
        rw [hget, if_pos hE]
        exact ⟨rfl, fin (hx8.trans hx12) hr13⟩
end Go.Proofs.YtlhmpmmblnbmbaaGreat.Cnf
set_option linter.unusedVariables false
set_option linter.unusedSimpArgs false
set_option maxRecDepth 100000
namespace Go.Proofs.YtlhmpmmblnbmbaaGreat.Img
open Go.Proofs.YtlhmpmmblnbmbaaGreat.Sx Go.Proofs.YtlhmpmmblnbmbaaGreat.Byt Go.Proofs.YtlhmpmmblnbmbaaGreat.Dev Go.Proofs.YtlhmpmmblnbmbaaGreat.Pck Go.Proofs.YtlhmpmmblnbmbaaGreat.Cnf Go.Proofs.YtlhmpmmblnbmbaaGreat.Bus Go.Lib
def rightE (c : Cf) (ln : Option Nat) : Int := if c.check ≠ 0 then 1 else match ln with
  | none => 16
  | some k => if (k : Int) ≠ c.members then 1 else 0
theorem right_c {g : Nat} {O : Nat → Prop} {M : List Dc} {n : Int} {c : Cf} (w : World) (h : BusC w g O M n) : Calls Tryz.prog 18 #[.pointer (some ⟨g, 0, none⟩), c.val] w fun e w' => e = .returned (.int .i64 (rightE c (some M.length))) ∧ Ext w w' := by
  refine J.enter Tryz.func18 rfl [] [.one (.v (.pointer (some ⟨g, 0, none⟩))), .agg c.cs] 18 (known_nil w) ?_
  refine J.new 23 c.cs [] (fun g3 hg3 _ => ?_)
  have fin : ∀ {u w1 : World}, Ext w u → Rel [⟨g3, 23, c.cs⟩] u w1 → Ext w w1 := fun hx hr => hx.rel' hr (mem1 (.inl hg3))
  refine J.call Tryz.func45 [.agg c.cs] [⟨g3, 23, c.cs⟩] (fun w1 hk1 hr1 => ?_)
  have hx1 := fin (.refl w) hr1
  refine (check_c (c := c) w1).mono ?_
  rintro e w2 ⟨rfl, hx⟩
  have hx2 := hx1.trans hx
  refine ⟨.one (.v (.int .i64 c.check)), _, rfl, rfl, hx.known hk1, ?_⟩
  by_cases h0 : c.check = 0
  rotate_left
  · refine J.brt (c.check != 0) (by simp [h0]) ?_
    exact J.ret (.one (.v (.int .i64 1))) [⟨g3, 23, c.cs⟩] (fun w3 _ hr3 => ⟨by unfold rightE; rw [if_pos h0]; rfl, fin hx2 hr3⟩)
  refine J.brf (c.check != 0) (by simp [h0]) ?_
  refine J.drw 4 [(1, .one (.v (.int .i64 M.length)))] [⟨g3, 23, c.cs⟩] (.cons (Y.call Tryz.func46 [.one (.v (.pointer (some ⟨g, 0, none⟩)))] (fun u hk hr => c_members (h.ext (fin hx2 hr)))) .nil) ?_
  by_cases h1 : (M.length : Int) = c.members
  · refine J.brf ((M.length : Int) != c.members) (by simp [h1]) ?_
    exact J.ret (.one (.v (.int .i64 0))) [⟨g3, 23, c.cs⟩] (fun w3 _ hr3 => ⟨by unfold rightE; rw [if_neg (by simp [h0])]; simp [h1]; rfl, fin hx2 hr3⟩)
  · refine J.brt ((M.length : Int) != c.members) (by simp [h1]) ?_
    exact J.ret (.one (.v (.int .i64 1))) [⟨g3, 23, c.cs⟩] (fun w3 _ hr3 => ⟨by unfold rightE; rw [if_neg (by simp [h0])]; simp [h1]; rfl, fin hx2 hr3⟩)
theorem rightN_c {c : Cf} (w : World) : Calls Tryz.prog 18 #[.pointer none, c.val] w fun e w' => e = .returned (.int .i64 (rightE c none)) ∧ Ext w w' := by
  refine J.enter Tryz.func18 rfl [] [.one (.v (.pointer none)), .agg c.cs] 18 (known_nil w) ?_
  refine J.new 23 c.cs [] (fun g3 hg3 _ => ?_)
  have fin : ∀ {u w1 : World}, Ext w u → Rel [⟨g3, 23, c.cs⟩] u w1 → Ext w w1 := fun hx hr => hx.rel' hr (mem1 (.inl hg3))
  refine J.call Tryz.func45 [.agg c.cs] [⟨g3, 23, c.cs⟩] (fun w1 hk1 hr1 => ?_)
  have hx1 := fin (.refl w) hr1
  refine (check_c (c := c) w1).mono ?_
  rintro e w2 ⟨rfl, hx⟩
  have hx2 := hx1.trans hx
  refine ⟨.one (.v (.int .i64 c.check)), _, rfl, rfl, hx.known hk1, ?_⟩
  by_cases h0 : c.check = 0
  rotate_left
  · refine J.brt (c.check != 0) (by simp [h0]) ?_
    exact J.ret (.one (.v (.int .i64 1))) [⟨g3, 23, c.cs⟩] (fun w3 _ hr3 => ⟨by unfold rightE; rw [if_pos h0]; rfl, fin hx2 hr3⟩)
  refine J.brf (c.check != 0) (by simp [h0]) ?_
  exact J.ret (.one (.v (.int .i64 16))) [⟨g3, 23, c.cs⟩] (fun w3 _ hr3 => ⟨by unfold rightE; rw [if_neg (by simp [h0])]; rfl, fin hx2 hr3⟩)
/-- What is not of these types is none of the bus' blocks. -/
theorem notO {w : World} {g k t : Nat} {O : Nat → Prop} {M : List Dc} {n : Int} {cs : Array Value} {f : Nat × Nat} (h : BusC w g O M n) (hk : w.heap[k]? = some (Obj.cells cs t f)) (h1 : t ≠ 83) (h2 : t ≠ 97) (h3 : t ≠ 3) (h4 : t ≠ 133) (h5 : t ≠ 137) : ¬ O k := fun ho => by
  obtain ⟨cs2, t2, hc, ht⟩ := h.typ ho
  rw [hk] at hc; cases hc
  rcases ht with e | e | e | e | e
  · exact h1 e
  · exact h2 e
  · exact h3 e
  · exact h4 e
  · exact h5 e
theorem owns_bus {w w' : World} {g b n2 : Nat} {O : Nat → Prop} {M : List Dc} {n : Int} {v : Value} {xs : List Value} (h : BusC w g O M n) (hx : Chg O w w') (hv : w.ownsRow b 5 1 v n2 xs) : w'.ownsRow b 5 1 v n2 xs := ownsRow_chg hv hx (fun k hk ho => by
  obtain ⟨cs, hc, _⟩ := own_ty hv hk
  exact h.far k cs (0, 0) ho (.of hc))
/-- The bus' blocks, where a zone has bytes. -/
def Od (M : List Dc) (O : Nat → Prop) (k : Nat) : Prop := O k ∧ ∃ d ∈ M, ∃ z ∈ d.zs, z.l ≠ []
theorem text_c {g : Nat} {O : Nat → Prop} {M : List Dc} {n : Int} {w : World} (h : BusC w g O M n) (hn : n < 4611686018427387904) (hl : M.length ≤ 1000000) (i j : Nat) {d : Dc} (hi : M[i]? = some d) {z : Zc} (hr : d.right j = 0) (hz : d.zs[j]? = some z) : Calls Tryz.prog 25 #[.pointer (some ⟨g, 0, none⟩), .int .i64 i, .int .i64 j, lookC z] w fun e w' => ∃ p : Part, e = .returned (.tuple #[p.val, .int .i64 0]) ∧ PAt w' p ∧ p.l = z.l ∧ (∃ n', n ≤ n' ∧ n' ≤ n + 1 ∧ BusC w' g O M n') ∧ Chg (fun k => O k ∧ z.l ≠ []) w w' := by
  refine J.enter Tryz.func25 rfl [] [.one (.v (.pointer (some ⟨g, 0, none⟩))), .one (.v (.int .i64 i)), .one (.v (.int .i64 j)), .agg [.v (.int .i64 z.wp), .v (.int .i64 z.safe), .v (.bool z.done)]] 21 (known_nil w) ?_
  refine J.new 53 [.v (.int .i64 z.wp), .v (.int .i64 z.safe), .v (.bool z.done)] [] (fun g7 hg7 _ => ?_)
  have fin : ∀ {u w1 : World}, Ext w u → Rel [⟨g7, 53, [.v (.int .i64 z.wp), .v (.int .i64 z.safe), .v (.bool z.done)]⟩] u w1 → Ext w w1 := fun hx hr => hx.rel' hr (mem1 (.inl hg7))
  obtain ⟨hok, hB⟩ := h.zok hi (List.mem_of_getElem? hz)
  by_cases h0 : z.wp = 0
  · refine J.brt (z.wp == 0) (by simp [h0]) ?_
    refine J.ret (.tup [(false, [.v (.slice none 0 0)]), (false, [.v (.int .i64 0)])]) [⟨g7, 53, [.v (.int .i64 z.wp), .v (.int .i64 z.safe), .v (.bool z.done)]⟩] (fun w1 _ hr1 => ?_)
    have hx1 := fin (.refl w) hr1
    have hl0 : z.l = [] := by
      have h1 := hok.mult
      have h2 := hok.blk0
      have hmx : max z.block 1 = z.block := by omega
      have h3 := Int.emod_add_mul_ediv (z.l.length : Int) z.block
      unfold Zc.wp at h0
      rw [hmx] at h0
      rw [h1, h0] at h3
      exact List.length_eq_zero_iff.1 (by omega)
    exact ⟨nilP, rfl, .none, by rw [hl0]; rfl, ⟨n, Int.le_refl _, by omega, h.ext hx1⟩, .of_ext hx1⟩
  · refine J.brf (z.wp == 0) (by simp [h0]) ?_
    refine J.call Tryz.func54 [.one (.v (.pointer (some ⟨g, 0, none⟩))), .one (.v (.int .i64 i)), .one (.v (.int .i64 j)), .one (.v (.int .i64 0)), .one (.v (.int .i64 z.wp))] [⟨g7, 53, [.v (.int .i64 z.wp), .v (.int .i64 z.safe), .v (.bool z.done)]⟩] (fun w1 hk1 hr1 => ?_)
    have hx1 := fin (.refl w) hr1
    have hb1 := h.ext hx1
    refine (c_read hb1 hn hl i j hi hr hz).mono ?_
    rintro e w2 ⟨p, rfl, hp, hpl, hb2, hch⟩
    have hk2 := hk1.chg hch (mem1 (notO hb1 (hk1.get 0 rfl) (by show 53 ≠ _; decide) (by show 53 ≠ _; decide) (by show 53 ≠ _; decide) (by show 53 ≠ _; decide) (by show 53 ≠ _; decide)))
    refine ⟨.tup [(false, [.v p.val]), (false, [.v (.int .i64 0)])], _, rfl, rfl, hk2, ?_⟩
    refine J.ret (.tup [(false, [.v p.val]), (false, [.v (.int .i64 0)])]) [⟨g7, 53, [.v (.int .i64 z.wp), .v (.int .i64 z.safe), .v (.bool z.done)]⟩] (fun w3 hk3 hr3 => ?_)
    have hx3 : Ext w2 w3 := hr3.ext' (mem1 (.inr ((hk3.get 0 rfl).trans (hk2.get 0 rfl).symm)))
    have hln : z.l ≠ [] := fun e => h0 (by unfold Zc.wp; rw [e]; exact Int.zero_ediv _)
    exact ⟨p, rfl, hp.ext hx3, hpl, ⟨n + 1, by omega, Int.le_refl _, hb2.ext hx3⟩, ((Chg.of_ext hx1).trans (Chg.mono hch (fun k _ h => ⟨h, hln⟩))).trans (.of_ext hx3)⟩
/-- A zone's bytes. -/
def zb (z : Zc) : List Int := i8 z.wp ++ i8 z.safe ++ [b1 z.done] ++ (i8 z.l.length ++ z.l)
/-- A member's bytes. -/
def mb (d : Dc) : List Int := b1 d.dead :: (if d.dead = true then [] else d.zs.flatMap zb)
def hb (c : Cf) : List Int := i8 88 ++ c.put
def dumpL (c : Cf) (M : List Dc) : List Int := hb c ++ M.flatMap mb
/-- The dump up to zone j of member i. -/
def upZ (c : Cf) (M : List Dc) (i : Nat) (d : Dc) (j : Nat) : List Int := hb c ++ (M.take i).flatMap mb ++ (b1 d.dead :: (if d.dead = true then [] else (d.zs.take j).flatMap zb))
def upM (c : Cf) (M : List Dc) (i : Nat) : List Int := hb c ++ (M.take i).flatMap mb
theorem upZ_0 (c : Cf) (M : List Dc) (i : Nat) (d : Dc) : upZ c M i d 0 = upM c M i ++ [b1 d.dead] := by
  unfold upZ upM
  split <;> simp
theorem upZ_step {c : Cf} {M : List Dc} {i : Nat} {d : Dc} {j : Nat} {z : Zc} (hd : d.dead = false) (hz : d.zs[j]? = some z) : upZ c M i d (j + 1) = upZ c M i d j ++ zb z := by
  unfold upZ
  rw [if_neg (by simp [hd]), if_neg (by simp [hd]), List.take_add_one, hz]
  simp
theorem upZ_all {c : Cf} {M : List Dc} {i : Nat} {d : Dc} (hi : M[i]? = some d) : upZ c M i d d.zs.length = upM c M (i + 1) := by
  unfold upZ upM
  rw [List.take_length, List.take_add_one, hi]
  simp [mb]
theorem upZ_dead {c : Cf} {M : List Dc} {i : Nat} {d : Dc} (hd : d.dead = true) (j k : Nat) : upZ c M i d j = upZ c M i d k := by
  unfold upZ
  rw [if_pos hd, if_pos hd]
theorem upM_all (c : Cf) (M : List Dc) : upM c M M.length = dumpL c M := by
  unfold upM dumpL
  rw [List.take_length]
theorem flat_take_le (M : List Dc) (i : Nat) : ((M.take i).flatMap mb).length ≤ (M.flatMap mb).length := by
  have h := List.take_append_drop i M
  have : (M.flatMap mb).length = ((M.take i).flatMap mb).length + ((M.drop i).flatMap mb).length := by
    rw [← List.length_append, ← List.flatMap_append, h]
  omega
theorem upM_le (c : Cf) (M : List Dc) (i : Nat) : (upM c M i).length ≤ (dumpL c M).length := by
  unfold upM dumpL
  rw [List.length_append, List.length_append]
  have := flat_take_le M i
  omega
theorem zs_take_le (l : List Zc) (j : Nat) : ((l.take j).flatMap zb).length ≤ (l.flatMap zb).length := by
  have h := List.take_append_drop j l
  have : (l.flatMap zb).length = ((l.take j).flatMap zb).length + ((l.drop j).flatMap zb).length := by
    rw [← List.length_append, ← List.flatMap_append, h]
  omega
theorem upZ_le {c : Cf} {M : List Dc} {i : Nat} {d : Dc} (hi : M[i]? = some d) (j : Nat) : (upZ c M i d j).length ≤ (dumpL c M).length := by
  have h1 := upM_le c M (i + 1)
  rw [← upZ_all hi] at h1
  refine Nat.le_trans ?_ h1
  unfold upZ
  simp only [List.length_append, List.length_cons]
  split
  · omega
  · have := zs_take_le d.zs j
    rw [List.take_length]; omega
end Go.Proofs.YtlhmpmmblnbmbaaGreat.Img
set_option linter.unusedVariables false
set_option linter.unusedSimpArgs false
set_option maxRecDepth 100000
namespace Go.Proofs.YtlhmpmmblnbmbaaGreat.Img
open Go.Proofs.YtlhmpmmblnbmbaaGreat.Sx Go.Proofs.YtlhmpmmblnbmbaaGreat.Byt Go.Proofs.YtlhmpmmblnbmbaaGreat.Dev Go.Proofs.YtlhmpmmblnbmbaaGreat.Pck Go.Proofs.YtlhmpmmblnbmbaaGreat.Cnf Go.Proofs.YtlhmpmmblnbmbaaGreat.Bus Go.Lib
def ownP (b : Nat) (l : List Int) : Pred := fun v u => u.ownsRow b 5 1 v l.length (enc l)
theorem ownP.ext {b : Nat} {l : List Int} {v : Value} {u w : World} (h : ownP b l v u) (hx : Ext u w) : ownP b l v w := owns_ext h hx
theorem ownP.part {b : Nat} {l : List Int} {v : Value} {u : World} (h : ownP b l v u) (hl : l.length ≤ 1000000000) : ∃ p : Part, v = p.val ∧ p.n = l.length ∧ p.l = l ∧ PAt u p := by
  obtain ⟨A, c, rfl, h1, h2, _⟩ := owns_BAt h
  exact ⟨⟨A, l.length, c, l⟩, rfl, rfl, rfl, h1, h2, hl⟩
theorem ownP.of {w w' : World} {l : List Int} {v : Value} (h : Bts w w' l v) {b : Nat} (hb : b ≤ w.heap.size) : ownP b l v w' := owns_base h.2 hb
def zlk : List C := [.v (.int .i64 0), .v (.int .i64 0), .v (.bool false)]
def Zc.cs (z : Zc) : List C := [.v (.int .i64 z.wp), .v (.int .i64 z.safe), .v (.bool z.done)]
structure DS where
  i : Nat
  v : Value
  n : Int
theorem dump_c {g : Nat} {O : Nat → Prop} {M : List Dc} {n : Int} {c : Cf} (w : World) (h : BusC w g O M n) (hn : n ≤ 1000000000) (hck : c.check = 0) (hml : (M.length : Int) = c.members) (hzs : ∀ d ∈ M, (d.zs.length : Int) = c.all) (hsz : (dumpL c M).length ≤ 1000000000) (hml2 : M.length ≤ 16) (hzl : c.all ≤ 64) :
    Calls Tryz.prog 7 #[.pointer (some ⟨g, 0, none⟩), c.val] w fun e w' => ∃ v n', e = .returned (.tuple #[v, .int .i64 0]) ∧ ownP w.heap.size (dumpL c M) v w' ∧ BusC w' g O M n' ∧ n ≤ n' ∧ n' ≤ n + 1024 ∧ Chg (Od M O) w w' := by
  refine J.enter Tryz.func7 rfl [] [.one (.v (.pointer (some ⟨g, 0, none⟩))), .agg c.cs] 73 (known_nil w) ?_
  refine J.new 23 c.cs [] (fun g3 hg3 _ => ?_)
  have fin : ∀ {u w1 : World}, Ext w u → Rel [⟨g3, 23, c.cs⟩] u w1 → Ext w w1 := fun hx hr => hx.rel' hr (mem1 (.inl hg3))
  have same : ∀ {u w1 : World}, Known [⟨g3, 23, c.cs⟩] u → Known [⟨g3, 23, c.cs⟩] w1 → Rel [⟨g3, 23, c.cs⟩] u w1 → Ext u w1 := fun h hk hr => hr.ext' (mem1 (.inr ((hk.get 0 rfl).trans (h.get 0 rfl).symm)))
  have same2 : ∀ {u w1 : World} {g7 : Nat} {cs : List C}, Known [⟨g3, 23, c.cs⟩] u → u.heap.size ≤ g7 → Known [⟨g3, 23, c.cs⟩, ⟨g7, 53, cs⟩] w1 → Rel [⟨g3, 23, c.cs⟩, ⟨g7, 53, cs⟩] u w1 → Ext u w1 := fun h hg hk hr => hr.ext' (mem2 (.inr ((hk.get 0 rfl).trans (h.get 0 rfl).symm)) (.inl hg))
  have same3 : ∀ {u w1 : World} {g7 : Nat} {cs : List C}, Known [⟨g3, 23, c.cs⟩, ⟨g7, 53, cs⟩] u → Known [⟨g3, 23, c.cs⟩, ⟨g7, 53, cs⟩] w1 → Rel [⟨g3, 23, c.cs⟩, ⟨g7, 53, cs⟩] u w1 → Ext u w1 := fun h hk hr => hr.ext' (mem2 (.inr ((hk.get 0 rfl).trans (h.get 0 rfl).symm)) (.inr ((hk.get 1 rfl).trans (h.get 1 rfl).symm)))
  refine J.call Tryz.func18 [.one (.v (.pointer (some ⟨g, 0, none⟩))), .agg c.cs] [⟨g3, 23, c.cs⟩] (fun w1 hk1 hr1 => ?_)
  have hx1 := fin (.refl w) hr1
  refine (right_c (c := c) w1 (h.ext hx1)).mono ?_
  rintro e w2 ⟨rfl, hx⟩
  have hx2 := hx1.trans hx
  have hk2 := hx.known hk1
  have hre : rightE c (some M.length) = 0 := by unfold rightE; rw [if_neg (by simp [hck])]; simp [hml]
  rw [hre]
  refine ⟨.one (.v (.int .i64 0)), _, rfl, rfl, hk2, ?_⟩
  refine J.brf ((0 : Int) != 0) rfl ?_
  refine J.call Tryz.func20 [.agg c.cs] [⟨g3, 23, c.cs⟩] (fun w3 hk3 hr3 => ?_)
  have hx3 := hx2.trans (same hk2 hk3 hr3)
  refine (put_c (c := c) w3).mono ?_
  rintro e w4 ⟨v4, rfl, hb4⟩
  have hk4 := hb4.1.known hk3
  obtain ⟨p4, rfl, hp4n, hp4l, hp4⟩ := hb4.pat (by rw [put_len]; decide)
  have hx4 := hx3.trans hb4.1
  refine ⟨.one (.v p4.val), _, rfl, rfl, hk4, ?_⟩
  refine J.call Tryz.func19 [.one (.v nilP.val), .one (.v p4.val)] [⟨g3, 23, c.cs⟩] (fun w5 hk5 hr5 => ?_)
  have hx45 := same hk4 hk5 hr5
  refine (bytes_c nilP p4 w5 .none (hp4.ext hx45)).mono ?_
  rintro e w6 ⟨v6, rfl, hb6⟩
  have hk6 := hb6.1.known hk5
  have hx6 := (hx4.trans hx45).trans hb6.1
  have ho6 : ownP w.heap.size (upM c M 0) v6 w6 := by
    have h1 := ownP.of hb6 (b := w.heap.size) (hx4.trans hx45).1
    rw [hp4n, hp4l, put_len] at h1
    have e : upM c M 0 = nilP.l ++ i8 88 ++ c.put := by simp [upM, hb, nilP]
    rw [e]; exact h1
  refine ⟨.one (.v v6), _, rfl, rfl, hk6, ?_⟩
  refine J.loop (fun x : DS => [(0, .one (.v (.pointer (some ⟨g, 0, none⟩)))), (3, .one (.ptr 0 0)), (7, .one (.v x.v)), (24, .one (.v (.int .i64 c.members))), (25, .one (.v (.int .i64 x.i)))]) (fun _ => [⟨g3, 23, c.cs⟩]) (fun x u => x.i ≤ M.length ∧ ownP w.heap.size (upM c M x.i) x.v u ∧ BusC u g O M x.n ∧ n ≤ x.n ∧ x.n ≤ n + (x.i * 64 : Nat) ∧ Chg (Od M O) w u) (fun x => M.length - x.i) [] ⟨0, v6, n⟩ (fun w7 hk7 hr7 => ⟨Nat.zero_le _, ho6.ext (same hk6 hk7 hr7), h.ext (hx6.trans (same hk6 hk7 hr7)), Int.le_refl _, by simp, .of_ext (hx6.trans (same hk6 hk7 hr7))⟩) ?_
  rintro p ⟨i, v, m⟩ w7 hp ⟨hi, ho7, hb7, hn7, hm7, hc7⟩ hk7
  replace hi : i ≤ M.length := hi
  replace ho7 : ownP w.heap.size (upM c M i) v w7 := ho7
  replace hb7 : BusC w7 g O M m := hb7
  replace hn7 : n ≤ m := hn7
  replace hm7 : m ≤ n + (i * 64 : Nat) := hm7
  refine J.brd ((i : Int) < c.members) (fun h1 => ?_) (fun h1 => ?_)
  rotate_left
  · have hiM : i = M.length := by omega
    subst hiM
    refine J.ret (.tup [(false, [.v v]), (false, [.v (.int .i64 0)])]) [⟨g3, 23, c.cs⟩] (fun w8 hk8 hr8 => ?_)
    have hx8 := same hk7 hk8 hr8
    have ho8 := ho7.ext hx8
    rw [upM_all] at ho8
    exact ⟨v, m, rfl, ho8, hb7.ext hx8, hn7, by omega, hc7.trans (.of_ext hx8)⟩
  have hiM : i < M.length := by omega
  obtain ⟨d, hd⟩ : ∃ d, M[i]? = some d := ⟨_, List.getElem?_eq_getElem hiM⟩
  have hdz := hzs d (List.mem_of_getElem? hd)
  have hle := upM_le c M i
  obtain ⟨pv, rfl, hpn, hpl, hpa⟩ := ho7.part (by omega)
  refine J.call Tryz.func22 [.one (.v (.pointer (some ⟨g, 0, none⟩))), .one (.v (.int .i64 i))] [⟨g3, 23, c.cs⟩] (fun w8 hk8 hr8 => ?_)
  have hx8 := same hk7 hk8 hr8
  refine (c_dead (hb7.ext hx8) i hd).mono ?_
  rintro e w9 ⟨rfl, hx⟩
  have hx9 := hx8.trans hx
  have hk9 := hx.known hk8
  refine ⟨.one (.v (.bool d.dead)), _, rfl, rfl, hk9, ?_⟩
  refine J.call Tryz.func21 [.one (.v pv.val), .one (.v (.bool d.dead))] [⟨g3, 23, c.cs⟩] (fun w10 hk10 hr10 => ?_)
  have hx10 := hx9.trans (same hk9 hk10 hr10)
  refine (flag_c pv d.dead w10 (hpa.ext hx10)).mono ?_
  rintro e w11 ⟨v11, rfl, hb11⟩
  have hx11 := hx10.trans hb11.1
  have hk11 := hb11.1.known hk10
  have ho11 : ownP w.heap.size (upZ c M i d 0) v11 w11 := by
    have := ownP.of hb11 (b := w.heap.size) (Nat.le_trans hc7.1 hx10.1)
    rw [hpl, ← upZ_0] at this; exact this
  refine ⟨.one (.v v11), _, rfl, rfl, hk11, ?_⟩
  refine J.call Tryz.func23 [.agg c.cs] [⟨g3, 23, c.cs⟩] (fun w12 hk12 hr12 => ?_)
  have hx12 := hx11.trans (same hk11 hk12 hr12)
  refine (all_c (c := c) w12).mono ?_
  rintro e w13 ⟨rfl, hx⟩
  have hx13 := hx12.trans hx
  have hk13 := hx.known hk12
  refine ⟨.one (.v (.int .i64 c.all)), _, rfl, rfl, hk13, ?_⟩
  have ho13 := ho11.ext ((same hk11 hk12 hr12).trans hx)
  refine J.loop (fun x : DS => [(0, .one (.v (.pointer (some ⟨g, 0, none⟩)))), (3, .one (.ptr 0 0)), (7, .one (.v x.v)), (8, .one (.v (.int .i64 i))), (24, .one (.v (.int .i64 c.members))), (25, .one (.v (.int .i64 i))), (34, .one (.v (.int .i64 c.all))), (35, .one (.v (.int .i64 x.i)))]) (fun _ => [⟨g3, 23, c.cs⟩]) (fun x u => x.i ≤ d.zs.length ∧ ownP w.heap.size (upZ c M i d x.i) x.v u ∧ BusC u g O M x.n ∧ m ≤ x.n ∧ x.n ≤ m + (x.i : Nat) ∧ Chg (Od M O) w u) (fun x => d.zs.length - x.i) [] ⟨0, v11, m⟩ (fun w14 hk14 hr14 => ⟨Nat.zero_le _, ho13.ext (same hk13 hk14 hr14), hb7.ext (hx13.trans (same hk13 hk14 hr14)), Int.le_refl _, by simp, hc7.trans (.of_ext (hx13.trans (same hk13 hk14 hr14)))⟩) ?_
  rintro q ⟨j, v, r⟩ w14 hq ⟨hj, ho14, hb14, hr14, hs14, hc14⟩ hk14
  replace hj : j ≤ d.zs.length := hj
  replace ho14 : ownP w.heap.size (upZ c M i d j) v w14 := ho14
  replace hb14 : BusC w14 g O M r := hb14
  replace hr14 : m ≤ r := hr14
  replace hs14 : r ≤ m + (j : Nat) := hs14
  refine J.brd ((j : Int) < c.all) (fun h2 => ?_) (fun h2 => ?_)
  rotate_left
  · have hjz : j = d.zs.length := by omega
    subst hjz
    rw [upZ_all hd] at ho14
    refine J.ari ((i + 1 : Nat) : Int) (.add (x := i) (y := 1) (by omega) (by omega) (by omega)) ?_
    exact J.at (fun a u h1 h2 hk hr => hp ⟨i + 1, v, r⟩ a u h1 h2 hk ⟨by show i + 1 ≤ M.length; omega, ho14.ext (same hk14 hk hr), hb14.ext (same hk14 hk hr), by show n ≤ r; omega, by show r ≤ n + (((i + 1) * 64 : Nat) : Int); omega, hc14.trans (.of_ext (same hk14 hk hr))⟩ (by show M.length - (i + 1) < M.length - i; omega))
  have hjz : j < d.zs.length := by omega
  have hle14 := upZ_le (c := c) hd j
  refine J.call Tryz.func24 [.one (.v (.pointer (some ⟨g, 0, none⟩))), .one (.v (.int .i64 i)), .one (.v (.int .i64 j))] [⟨g3, 23, c.cs⟩] (fun w15 hk15 hr15 => ?_)
  have hx15 := same hk14 hk15 hr15
  refine (c_look (hb14.ext hx15) i j hd).mono ?_
  rintro e w16 ⟨hx, ⟨hrt, rfl⟩ | ⟨z, hrt, hz, rfl⟩⟩
  · have hx16 := hx15.trans hx
    have hk16 := hx.known hk15
    have hdead : d.dead = true := by
      unfold Dc.right at hrt
      by_cases hdd : d.dead = true
      · exact hdd
      · rw [if_neg hdd, if_neg (by omega)] at hrt
        exact absurd rfl hrt
    refine ⟨.tup [(true, zlk), (false, [.v (.bool false)])], _, rfl, rfl, hk16, ?_⟩
    refine J.new 53 zlk [⟨g3, 23, c.cs⟩] (fun g7 hg7 _ => ?_)
    refine J.brt (!false) rfl ?_
    refine J.ari ((j + 1 : Nat) : Int) (.add (x := j) (y := 1) (by omega) (by omega) (by omega)) ?_
    refine J.drop [(0, .one (.v (.pointer (some ⟨g, 0, none⟩)))), (3, .one (.ptr 0 0)), (7, .one (.v v)), (8, .one (.v (.int .i64 i))), (24, .one (.v (.int .i64 c.members))), (25, .one (.v (.int .i64 i))), (34, .one (.v (.int .i64 c.all))), (35, .one (.v (.int .i64 ((j + 1 : Nat) : Int))))] [⟨g3, 23, c.cs⟩] [⟨g7, 53, zlk⟩] (fun w17 hk17 hr17 => ?_)
    have hx17 := hx16.trans (same2 hk16 hg7 hk17 hr17)
    have hk17' : Known [⟨g3, 23, c.cs⟩] w17 := known_one (hk17.get 0 rfl)
    rw [upZ_dead hdead j (j + 1)] at ho14
    exact J.at (fun a u h1 h2 hk hr => hq ⟨j + 1, v, r⟩ a u h1 h2 hk ⟨by show j + 1 ≤ d.zs.length; omega, ho14.ext (hx17.trans (same hk17' hk hr)), hb14.ext (hx17.trans (same hk17' hk hr)), hr14, by show r ≤ m + ((j + 1 : Nat) : Int); omega, hc14.trans (.of_ext (hx17.trans (same hk17' hk hr)))⟩ (by show d.zs.length - (j + 1) < d.zs.length - j; omega))
  · have hx16 := hx15.trans hx
    have hk16 := hx.known hk15
    have hnd : d.dead = false := by
      unfold Dc.right at hrt
      cases hdd : d.dead
      · rfl
      · rw [if_pos hdd] at hrt; cases hrt
    refine ⟨.tup [(true, Zc.cs z), (false, [.v (.bool true)])], _, rfl, rfl, hk16, ?_⟩
    refine J.new 53 zlk [⟨g3, 23, c.cs⟩] (fun g7 hg7 _ => ?_)
    refine J.brf (!true) rfl ?_
    refine J.call Tryz.func25 [.one (.v (.pointer (some ⟨g, 0, none⟩))), .one (.v (.int .i64 i)), .one (.v (.int .i64 j)), .agg (Zc.cs z)] [⟨g3, 23, c.cs⟩, ⟨g7, 53, Zc.cs z⟩] (fun w17 hk17 hr17 => ?_)
    have hx17 := hx16.trans (same2 hk16 hg7 hk17 hr17)
    have hb17 := hb14.ext hx17
    refine (text_c hb17 (by omega) (by omega) i j hd hrt hz).mono ?_
    rintro e w18 ⟨pt, rfl, hpt, hptl, ⟨r2, hr2a, hr2b, hb18⟩, hch18⟩
    have hch0 : Chg O w17 w18 := Chg.mono hch18 (fun k _ h => h.1)
    have hk18 : Known [⟨g3, 23, c.cs⟩, ⟨g7, 53, Zc.cs z⟩] w18 := hk17.chg hch0 (mem2 (notO hb17 (hk17.get 0 rfl) (by show 23 ≠ _; decide) (by show 23 ≠ _; decide) (by show 23 ≠ _; decide) (by show 23 ≠ _; decide) (by show 23 ≠ _; decide)) (notO hb17 (hk17.get 1 rfl) (by show 53 ≠ _; decide) (by show 53 ≠ _; decide) (by show 53 ≠ _; decide) (by show 53 ≠ _; decide) (by show 53 ≠ _; decide)))
    have ho18 : ownP w.heap.size (upZ c M i d j) v w18 := owns_bus hb17 hch0 (ho14.ext hx17)
    have hc18 := (hc14.trans (.of_ext hx17)).trans (Chg.mono hch18 (fun k _ h => ⟨h.1, d, List.mem_of_getElem? hd, z, List.mem_of_getElem? hz, h.2⟩))
    refine ⟨.tup [(false, [.v pt.val]), (false, [.v (.int .i64 0)])], _, rfl, rfl, hk18, ?_⟩
    refine J.brf ((0 : Int) != 0) rfl ?_
    have hstep := upZ_step (c := c) (M := M) (i := i) hnd hz
    have hle1 := upZ_le (c := c) hd (j + 1)
    have hzbl : (zb z).length = 25 + z.l.length := by unfold zb; simp only [List.length_append, i8_len, List.length_cons, List.length_nil]; omega
    have hlen1 : (upZ c M i d (j + 1)).length = (upZ c M i d j).length + (25 + z.l.length) := by rw [hstep, List.length_append, hzbl]
    obtain ⟨pv, rfl, hpn, hpl, hpa⟩ := ho18.part (by omega)
    refine J.drwU (E := Ext) [] 11 [] [] [(3, ownP w18.heap.size (upZ c M i d j ++ i8 z.wp)), (6, ownP w18.heap.size (upZ c M i d j ++ i8 z.wp ++ i8 z.safe)), (9, ownP w18.heap.size (upZ c M i d j ++ i8 z.wp ++ i8 z.safe ++ [b1 z.done]))] [⟨g3, 23, c.cs⟩, ⟨g7, 53, Zc.cs z⟩] .exts (fun _ _ _ _ _ => .nil) (fun _ _ _ => .nil)
      (fun wb hkb hrb => .cons (UAt.call Tryz.func26 [.one (.v pv.val), .one (.v (.int .i64 z.wp))] (fun u hku hgu _ => (int_c pv z.wp u (hpa.ext ((same3 hk18 hkb hrb).trans hgu))).mono (by
          rintro e u2 ⟨v2, rfl, hb2⟩
          exact ⟨v2, rfl, hb2.1, by rw [← hpl]; exact ownP.of hb2 (Nat.le_trans hrb.1 hgu.1)⟩))) (fun v u1 u2 h hx => h.ext hx) trivial <|
        .cons (UAt.callO Tryz.func26 [.o 61, .t (.one (.v (.int .i64 z.safe)))] [(61, ownP w18.heap.size (upZ c M i d j ++ i8 z.wp))] (fun u ρ hku hgu _ hdep => by
          obtain ⟨p2, e2, h2n, h2l, h2a⟩ := ownP.part (hdep 61 _ (List.mem_singleton.2 rfl)) (by rw [List.length_append, i8_len]; omega)
          have hcall := int_c p2 z.safe u h2a
          show Calls _ _ #[ρ 61, .int .i64 z.safe] u _
          rw [e2]
          refine hcall.mono ?_
          rintro e u2 ⟨v2, rfl, hb2⟩
          exact ⟨v2, rfl, hb2.1, by rw [← h2l]; exact ownP.of hb2 (Nat.le_trans hrb.1 hgu.1)⟩)) (fun v u1 u2 h hx => h.ext hx) trivial <|
        .cons (UAt.callO Tryz.func21 [.o 64, .t (.one (.v (.bool z.done)))] [(64, ownP w18.heap.size (upZ c M i d j ++ i8 z.wp ++ i8 z.safe))] (fun u ρ hku hgu _ hdep => by
          obtain ⟨p2, e2, h2n, h2l, h2a⟩ := ownP.part (hdep 64 _ (List.mem_singleton.2 rfl)) (by rw [List.length_append, List.length_append, i8_len, i8_len]; omega)
          have hcall := flag_c p2 z.done u h2a
          show Calls _ _ #[ρ 64, .bool z.done] u _
          rw [e2]
          refine hcall.mono ?_
          rintro e u2 ⟨v2, rfl, hb2⟩
          exact ⟨v2, rfl, hb2.1, by rw [← h2l]; exact ownP.of hb2 (Nat.le_trans hrb.1 hgu.1)⟩)) (fun v u1 u2 h hx => h.ext hx) trivial .nil) ?_
    rintro wb w19 hkb hrb hx19 hk19 v3 - v6 - v9 hv9
    obtain ⟨p9, rfl, h9n, h9l, h9a⟩ := ownP.part hv9 (by simp only [List.length_append, i8_len, List.length_cons, List.length_nil]; omega)
    show SX _ _ _ _ _
    have hx189 := (same3 hk18 hkb hrb).trans hx19
    refine J.call Tryz.func19 [.one (.v p9.val), .one (.v pt.val)] [⟨g3, 23, c.cs⟩, ⟨g7, 53, Zc.cs z⟩] (fun w20 hk20 hr20 => ?_)
    have hx20 := same3 hk19 hk20 hr20
    refine (bytes_c p9 pt w20 (h9a.ext hx20) (hpt.ext (hx189.trans hx20))).mono ?_
    rintro e w21 ⟨v21, rfl, hb21⟩
    have hx21 := (hx189.trans hx20).trans hb21.1
    have hk21 := hb21.1.known hk20
    have ho21 : ownP w.heap.size (upZ c M i d (j + 1)) v21 w21 := by
      have h1 := ownP.of hb21 (b := w.heap.size) (Nat.le_trans hc18.1 (Nat.le_trans hx189.1 hx20.1))
      rw [h9l, hptl, ← hpt.len, hptl] at h1
      rw [hstep]
      have e : upZ c M i d j ++ zb z = upZ c M i d j ++ i8 z.wp ++ i8 z.safe ++ [b1 z.done] ++ i8 z.l.length ++ z.l := by simp [zb]
      rw [e]; exact h1
    refine ⟨.one (.v v21), _, rfl, rfl, hk21, ?_⟩
    refine J.ari ((j + 1 : Nat) : Int) (.add (x := j) (y := 1) (by omega) (by omega) (by omega)) ?_
    refine J.drop [(0, .one (.v (.pointer (some ⟨g, 0, none⟩)))), (3, .one (.ptr 0 0)), (7, .one (.v v21)), (8, .one (.v (.int .i64 i))), (24, .one (.v (.int .i64 c.members))), (25, .one (.v (.int .i64 i))), (34, .one (.v (.int .i64 c.all))), (35, .one (.v (.int .i64 ((j + 1 : Nat) : Int))))] [⟨g3, 23, c.cs⟩] [⟨g7, 53, Zc.cs z⟩] (fun w22 hk22 hr22 => ?_)
    have hx22 := hx21.trans (same3 hk21 hk22 hr22)
    have hk22' : Known [⟨g3, 23, c.cs⟩] w22 := known_one (hk22.get 0 rfl)
    have ho22 := ho21.ext (same3 hk21 hk22 hr22)
    exact J.at (fun a u h1 h2 hk hr => hq ⟨j + 1, v21, r2⟩ a u h1 h2 hk ⟨by show j + 1 ≤ d.zs.length; omega, ho22.ext (same hk22' hk hr), hb18.ext (hx22.trans (same hk22' hk hr)), by show m ≤ r2; omega, by show r2 ≤ m + ((j + 1 : Nat) : Int); omega, hc18.trans (.of_ext (hx22.trans (same hk22' hk hr)))⟩ (by show d.zs.length - (j + 1) < d.zs.length - j; omega))
end Go.Proofs.YtlhmpmmblnbmbaaGreat.Img
set_option linter.unusedVariables false
set_option linter.unusedSimpArgs false
namespace Go.Proofs.YtlhmpmmblnbmbaaGreat.Pck
open Go.Proofs.YtlhmpmmblnbmbaaGreat.Sx Go.Proofs.YtlhmpmmblnbmbaaGreat.Byt Go.Lib
def bytesOf : Nat → Int → List Int
  | 0, _ => []
  | k + 1, n => n % 256 :: bytesOf k (n / 256)
theorem by8_of : ∀ (k : Nat) (n : Int), by8 k n = bytesOf k n
  | 0, n => rfl
  | k + 1, n => by
    have e : by8 (k + 1) n = n % 256 :: by8 k (n / 256) := by
      unfold by8
      rw [List.range_succ_eq_map, List.map_cons, List.map_map]
      congr 1
      · simp
      · refine List.map_congr_left (fun j _ => ?_)
        show n / 2 ^ (8 * (j + 1)) % 256 = n / 256 / 2 ^ (8 * j) % 256
        rw [show 8 * (j + 1) = 8 + 8 * j by omega, Int.pow_add, show (2 : Int) ^ 8 = 256 from rfl, ← Int.ediv_ediv_of_nonneg (by decide)]
    rw [e, by8_of k]; rfl
theorem bytesOf_leN : ∀ (l : List Int), IsB l → bytesOf l.length ((leN l : Nat) : Int) = l
  | [], _ => rfl
  | b :: r, h => by
    have hb := h b (List.mem_cons_self ..)
    obtain ⟨m, rfl⟩ := Int.eq_ofNat_of_zero_le hb.1
    have hm : m < 256 := by have := hb.2; omega
    show ((leN (((m : Nat) : Int) :: r) : Nat) : Int) % 256 :: bytesOf r.length (((leN (((m : Nat) : Int) :: r) : Nat) : Int) / 256) = _
    have e : leN (((m : Nat) : Int) :: r) = m + 256 * leN r := by simp [leN]
    rw [e]
    congr 1
    · generalize leN r = N; omega
    · have e2 : (((m + 256 * leN r : Nat) : Int)) / 256 = ((leN r : Nat) : Int) := by generalize leN r = N; omega
      rw [e2]
      exact bytesOf_leN r (fun x hx => h x (List.mem_cons_of_mem _ hx))
theorem bytesOf_sub : ∀ (k : Nat) (n : Int), bytesOf k (n - 2 ^ (8 * k)) = bytesOf k n
  | 0, n => rfl
  | k + 1, n => by
    have e : (2 : Int) ^ (8 * (k + 1)) = 256 * 2 ^ (8 * k) := by rw [show 8 * (k + 1) = 8 + 8 * k by omega, Int.pow_add]; rfl
    show (n - 2 ^ (8 * (k + 1))) % 256 :: bytesOf k ((n - 2 ^ (8 * (k + 1))) / 256) = n % 256 :: bytesOf k (n / 256)
    rw [e]
    generalize hz : (2 : Int) ^ (8 * k) = z
    congr 1
    · omega
    · have e2 : (n - 256 * z) / 256 = n / 256 - z := by omega
      rw [e2, ← hz]
      exact bytesOf_sub k (n / 256)
theorem i8_num {l : List Int} (hl : l.length = 8) (h : IsB l) : i8 (num l) = l := by
  unfold i8
  rw [by8_of]
  have h1 := bytesOf_leN l h
  rw [hl] at h1
  have hlt := leN_lt l h
  rw [hl] at hlt
  have hlt : leN l < 18446744073709551616 := hlt
  unfold num
  rw [IntKind.wrap_i64]
  by_cases hc : leN l < 9223372036854775808
  · have e : ((leN l : Nat) : Int) + 9223372036854775808 = ((leN l : Nat) : Int) + 9223372036854775808 := rfl
    rw [show (((leN l : Nat) : Int) + 9223372036854775808) % 18446744073709551616 - 9223372036854775808 = ((leN l : Nat) : Int) by omega]
    exact h1
  · rw [show (((leN l : Nat) : Int) + 9223372036854775808) % 18446744073709551616 - 9223372036854775808 = ((leN l : Nat) : Int) - 2 ^ (8 * 8) by
      have : (2 : Int) ^ (8 * 8) = 18446744073709551616 := by decide
      omega]
    rw [bytesOf_sub]; exact h1
theorem i8_isB (n : Int) : IsB (i8 n) := fun b hb => by
  unfold i8 by8 at hb
  obtain ⟨j, _, rfl⟩ := List.mem_map.1 hb
  omega
/-- The errors that reading may bring. -/
def ErrR (e : Int) : Prop := e = 0 ∨ e = 13 ∨ e = 14
structure Pr.Fine (r : Pr) : Prop where
  le : r.at_ ≤ r.l.length
  rng : IsB r.l
  err : ErrR r.e
theorem take_l (r : Pr) (n : Nat) : (r.take n).l = r.l := by
  unfold Pr.take
  split
  · split <;> rfl
  · rfl
theorem ptake_ok {r : Pr} {n : Nat} (h : (r.take n).e = 0) : r.e = 0 ∧ n ≤ r.l.length - r.at_ ∧ (r.take n).at_ = r.at_ + n ∧ r.got n = (r.l.drop r.at_).take n := by
  unfold Pr.take at h ⊢
  unfold Pr.got
  by_cases h0 : r.e = 0
  · rw [if_pos h0] at h ⊢
    by_cases h1 : n ≤ r.l.length - r.at_
    · rw [if_pos h1]
      exact ⟨h0, h1, rfl, if_pos ⟨h0, h1⟩⟩
    · rw [if_neg h1] at h; cases h
  · rw [if_neg h0] at h; exact absurd h h0
theorem take_fine {r : Pr} (h : r.Fine) (n : Nat) : (r.take n).Fine := by
  refine ⟨?_, by rw [take_l]; exact h.rng, ?_⟩
  · unfold Pr.take
    split
    · split
      · show r.at_ + n ≤ r.l.length; have := h.le; omega
      · exact h.le
    · exact h.le
  · unfold Pr.take
    split
    · split
      · exact h.err
      · exact .inr (.inr rfl)
    · exact h.err
theorem take_two {l : List Int} {a n : Nat} : l.take (a + n) = l.take a ++ (l.drop a).take n := by
  rw [List.take_add]
theorem int_l (r : Pr) (low high : Int) : (r.int low high).1.l = r.l := by
  unfold Pr.int
  split
  · exact take_l r 8
  · split
    · exact take_l r 8
    · exact take_l r 8
theorem int_fine {r : Pr} (h : r.Fine) (low high : Int) : (r.int low high).1.Fine := by
  have h8 := take_fine h 8
  unfold Pr.int
  split
  · exact h8
  · split
    · exact ⟨h8.le, h8.rng, .inr (.inl rfl)⟩
    · exact h8
theorem int_ok {r : Pr} {low high : Int} (hf : r.Fine) (h : (r.int low high).1.e = 0) : r.e = 0 ∧ low ≤ (r.int low high).2 ∧ (r.int low high).2 ≤ high ∧ r.l.take (r.int low high).1.at_ = r.l.take r.at_ ++ i8 (r.int low high).2 := by
  unfold Pr.int at h ⊢
  split at h
  · rename_i h1; exact absurd h h1
  · rename_i h1
    rw [if_neg h1]
    split at h
    · cases h
    · rename_i h2
      rw [if_neg h2]
      obtain ⟨a1, a2, a3, a4⟩ := ptake_ok (r := r) (n := 8) (by simpa using h1)
      refine ⟨a1, by show low ≤ num _; omega, by show num _ ≤ high; omega, ?_⟩
      show r.l.take (r.take 8).at_ = _
      rw [a3, take_two]
      congr 1
      show _ = i8 (num (r.got 8))
      have hl : (r.got 8).length = 8 := by rw [a4, List.length_take, List.length_drop]; have := hf.le; omega
      have hB : IsB (r.got 8) := by rw [a4]; exact hf.rng.sub _ _
      rw [i8_num hl hB, a4]
theorem flag_l (r : Pr) : r.flag.1.l = r.l := by
  unfold Pr.flag
  split
  · exact take_l r 1
  · show (if _ then _ else _ : Pr).l = _
    split
    · exact take_l r 1
    · exact take_l r 1
theorem flag_fine {r : Pr} (h : r.Fine) : r.flag.1.Fine := by
  have h8 := take_fine h 1
  unfold Pr.flag
  split
  · exact h8
  · show (if _ then _ else _ : Pr).Fine
    split
    · exact ⟨h8.le, h8.rng, .inr (.inl rfl)⟩
    · exact h8
theorem flag_ok {r : Pr} (hf : r.Fine) (h : r.flag.1.e = 0) : r.e = 0 ∧ r.l.take r.flag.1.at_ = r.l.take r.at_ ++ [b1 r.flag.2] := by
  unfold Pr.flag at h ⊢
  split at h
  · rename_i h1; exact absurd h h1
  · rename_i h1
    rw [if_neg h1]
    obtain ⟨a1, a2, a3, a4⟩ := ptake_ok (r := r) (n := 1) (by simpa using h1)
    have hl : (r.got 1).length = 1 := by rw [a4, List.length_take, List.length_drop]; have := hf.le; omega
    have hB : IsB (r.got 1) := by rw [a4]; exact hf.rng.sub _ _
    obtain ⟨b, hb⟩ : ∃ b, r.got 1 = [b] := by
      match hm : r.got 1, hl with
      | [b], _ => exact ⟨b, rfl⟩
    have hbr := hB b (by rw [hb]; exact List.mem_cons_self ..)
    rw [hb] at h ⊢
    have e0 : ([b] : List Int).headD 0 = b := rfl
    simp only [e0] at h ⊢
    by_cases hb1 : b > 1
    · rw [if_pos hb1] at h; cases h
    · rw [if_neg hb1]
      refine ⟨a1, ?_⟩
      rw [a3, take_two, ← a4, hb]
      congr 2
      show b = b1 (b == 1)
      have : b = 0 ∨ b = 1 := by omega
      rcases this with rfl | rfl <;> rfl
theorem bytes_l (r : Pr) (most : Int) : (r.bytes most).1.l = r.l := by
  unfold Pr.bytes
  show ((r.int 0 most).1.take _).l = _
  rw [take_l, int_l]
theorem bytes_fine {r : Pr} (h : r.Fine) (most : Int) : (r.bytes most).1.Fine := take_fine (int_fine h 0 most) _
theorem bytes_ok {r : Pr} {most : Int} (hf : r.Fine) (h : (r.bytes most).1.e = 0) : r.e = 0 ∧ ((r.bytes most).2.length : Int) ≤ most ∧ IsB (r.bytes most).2 ∧ r.l.take (r.bytes most).1.at_ = r.l.take r.at_ ++ i8 ((r.bytes most).2.length : Nat) ++ (r.bytes most).2 := by
  unfold Pr.bytes at h ⊢
  obtain ⟨a1, a2, a3, a4⟩ := ptake_ok h
  obtain ⟨c1, c2, c3, c4⟩ := int_ok hf a1
  have hf1 := int_fine hf 0 most
  have hl : ((r.int 0 most).1.got (r.int 0 most).2.toNat).length = (r.int 0 most).2.toNat := by rw [a4, List.length_take, List.length_drop]; have := hf1.le; omega
  refine ⟨c1, by rw [hl]; omega, by rw [a4]; exact hf1.rng.sub _ _, ?_⟩
  show r.l.take ((r.int 0 most).1.take _).at_ = _
  rw [a3, take_two]
  have hl2 := int_l r 0 most
  rw [c4, hl]
  rw [show (((r.int 0 most).2.toNat : Nat) : Int) = (r.int 0 most).2 by omega]
  congr 1
  rw [a4, hl2]
theorem bytes_len {r : Pr} {most : Int} (hf : r.Fine) (h0 : 0 ≤ most) : ((r.bytes most).2.length : Int) ≤ most ∧ IsB (r.bytes most).2 := by
  have hf1 := int_fine hf 0 most
  have hlow : (r.int 0 most).2 ≤ most := by
    unfold Pr.int
    split
    · exact h0
    · split
      · exact h0
      · rename_i h2; show num _ ≤ most; omega
  have hlow2 : 0 ≤ (r.int 0 most).2 := by
    unfold Pr.int
    split
    · exact Int.le_refl _
    · split
      · exact Int.le_refl _
      · rename_i h2; show 0 ≤ num _; omega
  unfold Pr.bytes
  show (((r.int 0 most).1.got (r.int 0 most).2.toNat).length : Int) ≤ most ∧ IsB ((r.int 0 most).1.got (r.int 0 most).2.toNat)
  unfold Pr.got
  split
  · refine ⟨?_, hf1.rng.sub _ _⟩
    have : (((r.int 0 most).1.l.drop (r.int 0 most).1.at_).take (r.int 0 most).2.toNat).length ≤ (r.int 0 most).2.toNat := List.length_take_le ..
    omega
  · exact ⟨h0, fun b hb => by cases hb⟩
theorem int_rng {r : Pr} {high : Int} (h0 : 0 ≤ high) : 0 ≤ (r.int 0 high).2 ∧ (r.int 0 high).2 ≤ high := by
  unfold Pr.int
  split
  · exact ⟨Int.le_refl _, h0⟩
  · split
    · exact ⟨Int.le_refl _, h0⟩
    · rename_i h2; exact ⟨by show 0 ≤ num _; omega, by show num _ ≤ high; omega⟩
end Go.Proofs.YtlhmpmmblnbmbaaGreat.Pck
set_option linter.unusedVariables false
set_option linter.unusedSimpArgs false
set_option maxRecDepth 100000
namespace Go.Proofs.YtlhmpmmblnbmbaaGreat.Img
open Go.Proofs.YtlhmpmmblnbmbaaGreat.Sx Go.Proofs.YtlhmpmmblnbmbaaGreat.Byt Go.Proofs.YtlhmpmmblnbmbaaGreat.Dev Go.Proofs.YtlhmpmmblnbmbaaGreat.Pck Go.Proofs.YtlhmpmmblnbmbaaGreat.Cnf Go.Proofs.YtlhmpmmblnbmbaaGreat.Bus Go.Lib
/-- A zone as parsed. -/
structure Pz where
  wp : Int
  safe : Int
  done : Bool
  t : Part
def Pz.cs (z : Pz) : List C := [.v (.int .i64 z.wp), .v (.int .i64 z.safe), .v (.bool z.done), .v z.t.val]
def Pz.vs (z : Pz) : List Value := [.int .i64 z.wp, .int .i64 z.safe, .bool z.done, z.t.val]
def Pz.val (z : Pz) : Value := .agg #[.int .i64 z.wp, .int .i64 z.safe, .bool z.done, z.t.val]
structure Pz.Ok (c : Cf) (z : Pz) : Prop where
  wp0 : 0 ≤ z.wp
  wp1 : z.wp ≤ c.cap
  safe0 : 0 ≤ z.safe
  safe1 : z.safe ≤ z.wp
  len : (z.t.l.length : Int) = z.wp * c.block
  dn : z.done = true → z.safe = z.wp
  rng : IsB z.t.l
  cap : z.t.n ≤ z.t.c
theorem ownP.part2 {b : Nat} {l : List Int} {v : Value} {u : World} (h : ownP b l v u) (hl : l.length ≤ 1000000000) : ∃ p : Part, v = p.val ∧ p.n = l.length ∧ p.l = l ∧ PAt u p ∧ p.n ≤ p.c := by
  obtain ⟨A, c, rfl, h1, h2, _⟩ := owns_BAt h
  refine ⟨⟨A, l.length, c, l⟩, rfl, rfl, rfl, ⟨h1, h2, hl⟩, ?_⟩
  show l.length ≤ c
  rcases h.2 with ⟨h3, h4⟩ | ⟨g, cap, cur, h3, _, _, h4, _⟩
  · rw [h4]; exact Nat.zero_le _
  · injection h3 with _ _ e; rw [e]; exact h4
/-- A row of zones of one's own. -/
structure ZRow (w : World) (b : Nat) (v : Value) (zs : List Pz) : Prop where
  own : w.ownsRow b 124 4 v zs.length (zs.flatMap Pz.vs)
  txt : ∀ z ∈ zs, PAt w z.t
structure Pm where
  v : Value
  zs : List Pz
structure MRow (w : World) (b : Nat) (v : Value) (ms : List Pm) : Prop where
  own : w.ownsRow b 121 1 v ms.length (ms.map Pm.v)
  mem : ∀ m ∈ ms, ZRow w b m.v m.zs
  nil : ∀ m ∈ ms, m.zs = [] → m.v = .slice none 0 0
theorem ZRow.chg {w w' : World} {b : Nat} {v : Value} {zs : List Pz} {S : Nat → Prop} (h : ZRow w b v zs) (hx : Chg S w w') (hv : ∀ k cs, v.ownBlock = some k → S k → w.heap[k]? = some (Obj.cells cs 124 (0, 0)) → False) (hS : ∀ k cs fz, S k → U8 w k cs fz → False) : ZRow w' b v zs := ⟨ownsRow_chg h.own hx (fun k hk hs => by
  obtain ⟨cs, hc, _⟩ := own_ty h.own hk
  exact hv k cs hk hs hc), fun z hz => (h.txt z hz).chg hx hS⟩
theorem ZRow.ext {w w' : World} {b : Nat} {v : Value} {zs : List Pz} (h : ZRow w b v zs) (hx : Ext w w') : ZRow w' b v zs := ⟨ownsRow_ext h.own hx, fun z hz => (h.txt z hz).ext hx⟩
theorem MRow.ext {w w' : World} {b : Nat} {v : Value} {ms : List Pm} (h : MRow w b v ms) (hx : Ext w w') : MRow w' b v ms := ⟨ownsRow_ext h.own hx, fun m hm => (h.mem m hm).ext hx, h.nil⟩
/-- What was there at u is kept, but for the reader's block. -/
theorem MRow.keep {u w : World} {b : Nat} {v : Value} {ms : List Pm} {gr : Nat} {r : Pr} (h : MRow u b v ms) (hr : RAt u gr r) (hx : Chg (fun k => k = gr ∨ u.heap.size ≤ k) u w) : MRow w b v ms := by
  have hno : ∀ (k : Nat) (cs : Array Value) (t : Nat) (fz : Nat × Nat), t ≠ 148 → (k = gr ∨ u.heap.size ≤ k) → u.heap[k]? = some (Obj.cells cs t fz) → False := fun k cs t fz ht hs hc => by
    rcases hs with rfl | hs
    · obtain ⟨cs2, hc2⟩ := hr.blk
      exact ne_ty hc hc2 ht rfl
    · have := (Array.getElem?_eq_some_iff.1 hc).1; omega
  refine ⟨ownsRow_chg h.own hx (fun k hk hs => ?_), fun m hm => (h.mem m hm).chg hx (fun k cs _ hs hc => hno k cs _ _ (by show 124 ≠ 148; decide) hs hc) (fun k cs fz hs hc => by
    rcases hs with rfl | hs
    · obtain ⟨cs2, hc2⟩ := hr.blk
      exact ne_u8 hc2 hc (by show u8ty 148 = false; kernel_rfl) rfl
    · have := hc.lt; omega), h.nil⟩
  obtain ⟨cs, hc, _⟩ := own_ty h.own hk
  exact hno k cs _ _ (by show 121 ≠ 148; decide) hs hc
def zbp (z : Pz) : List Int := i8 z.wp ++ i8 z.safe ++ [b1 z.done] ++ (i8 (z.t.l.length : Nat) ++ z.t.l)
def mbp (m : Pm) : List Int := if m.zs = [] then [1] else 0 :: m.zs.flatMap zbp
/-- The text of a conf, read, is the conf put. -/
theorem rdn_fine {r : Pr} (h : r.Fine) : ∀ k, (rdn r k).1.Fine
  | 0 => h
  | k + 1 => int_fine (rdn_fine h k) _ _
theorem rdn_ok {r : Pr} (h : r.Fine) : ∀ k, (rdn r k).1.e = 0 → r.e = 0 ∧ r.l.take (rdn r k).1.at_ = r.l.take r.at_ ++ (rdn r k).2.flatMap i8
  | 0, h0 => ⟨h0, by simp [rdn]⟩
  | k + 1, h0 => by
    rw [rdn] at h0 ⊢
    obtain ⟨a1, _, _, a4⟩ := int_ok (rdn_fine h k) h0
    obtain ⟨b1, b2⟩ := rdn_ok h k a1
    refine ⟨b1, ?_⟩
    show r.l.take ((rdn r k).1.int _ _).1.at_ = _
    rw [rdn_e] at a4
    rw [a4, b2]
    simp
theorem cfOf_put {l : List Int} (h : l.length = 11) : (cfOf l).put = l.flatMap i8 := by
  match l, h with
  | [a0, a1, a2, a3, a4, a5, a6, a7, a8, a9, a10], _ => simp [cfOf, Cf.put, Cf.nums]
theorem get_put {l : List Int} (hB : IsB l) (h : (Cf.get l).2 = 0) : (Cf.get l).1.put = l := by
  have hf : (⟨l, 0, 0⟩ : Pr).Fine := ⟨Nat.zero_le _, hB, .inl rfl⟩
  have hff := rdn_fine hf 11
  have hl := rdn_e (⟨l, 0, 0⟩ : Pr) 11
  have hlen := rdn_len (⟨l, 0, 0⟩ : Pr) 11
  have hok := rdn_ok hf 11
  unfold Cf.get at h ⊢
  generalize rdn (⟨l, 0, 0⟩ : Pr) 11 = R at *
  split at h
  · rename_i hE
    rw [if_pos hE]
    unfold getE at hE
    split at hE
    · rename_i h0
      split at hE
      · cases hE
      · rename_i hle
        obtain ⟨_, h2⟩ := hok h0
        have h3 := hff.le
        rw [hl] at h3 hle
        replace h3 : R.1.at_ ≤ l.length := h3
        replace hle : ¬ (l.length : Int) - R.1.at_ > 0 := hle
        have h4 : R.1.at_ = l.length := by omega
        replace h2 : l.take R.1.at_ = l.take 0 ++ R.2.flatMap i8 := h2
        rw [h4, List.take_length, List.take_zero, List.nil_append] at h2
        show (cfOf R.2).put = l
        rw [cfOf_put hlen, ← h2]
    · rename_i h0; exact absurd hE h0
  · rename_i hE; exact absurd h hE
end Go.Proofs.YtlhmpmmblnbmbaaGreat.Img
set_option linter.unusedVariables false
set_option linter.unusedSimpArgs false
set_option maxRecDepth 100000
namespace Go.Proofs.YtlhmpmmblnbmbaaGreat.Img
open Go.Proofs.YtlhmpmmblnbmbaaGreat.Sx Go.Proofs.YtlhmpmmblnbmbaaGreat.Byt Go.Proofs.YtlhmpmmblnbmbaaGreat.Dev Go.Proofs.YtlhmpmmblnbmbaaGreat.Pck Go.Proofs.YtlhmpmmblnbmbaaGreat.Cnf Go.Proofs.YtlhmpmmblnbmbaaGreat.Bus Go.Lib
/-- Settings that may be: their bounds. -/
structure CfFits (c : Cf) : Prop where
  sane : c.sane = true
  members : 3 ≤ c.members ∧ c.members ≤ 16
  unit : 1 ≤ c.unit ∧ c.unit ≤ 64
  block : 1 ≤ c.block ∧ c.block ≤ 4096
  cap : 1 ≤ c.cap ∧ c.cap ≤ 4096
  zones : 1 ≤ c.zones ∧ c.zones ≤ 64
  spare : 1 ≤ c.spare ∧ c.spare ≤ 64
  mta : 3 ≤ c.mta ∧ c.mta ≤ 64
  all : c.all = c.mta + c.zones + c.spare
  all2 : c.all ≤ 64
  active : 1 ≤ c.active ∧ c.active ≤ c.zones
  opn : 1 ≤ c.opn ∧ c.opn ≤ c.active
  limit : c.active + c.spare + c.mta ≤ c.limit ∧ c.limit ≤ 64
  room : c.room ≤ c.cap
theorem cf_fits {c : Cf} (h : c.check = 0) : CfFits c := by
  unfold Cf.check at h
  split at h
  · rename_i h1
    split at h
    · rename_i h2
      split at h
      · rename_i h3
        split at h
        · rename_i h4
          split at h
          · cases h
          · rename_i h5
            unfold Cf.c1 at h1
            unfold Cf.c2 at h2
            unfold Cf.c3 at h3
            unfold Cf.c4 at h4
            simp only [Bool.and_eq_true] at h1 h2 h3 h4
            have a1 := bet_t h1.1
            have a2 := bet_t h1.2.1
            have a3 := bet_t h1.2.2
            have b1 := bet_t h2.1
            have b2 := bet_t h2.2.1
            have d1 := bet_t h3.1
            have d2 := bet_t h3.2.1
            have d3 := bet_t h3.2.2.1
            have d4 := of_decide_eq_true h3.2.2.2
            have e1 := bet_t h4.1
            have e2 := bet_t h4.2.1
            have e3 := bet_t h4.2.2
            have hs : c.sane = true := by
              unfold Cf.sane Cf.nums
              simp only [List.all_cons, List.all_nil, okN, Bool.and_true, Bool.and_eq_true, decide_eq_true_eq]
              omega
            exact ⟨hs, a2, a3, b1, b2, d1, d2, d3, by unfold Cf.all; rw [if_pos hs], d4, e1, e2, e3, by omega⟩
        · cases h
      · cases h
    · cases h
  · cases h
structure PS where
  i : Nat
  A : Option Addr
  k : Nat
  ms : List Pm
  r : Pr
structure OutI (w u : World) (gr : Nat) (c : Cf) (l : List Int) (x : PS) : Prop where
  le : (x.i : Int) ≤ c.members
  ext : Ext w u
  row : MRow u w.heap.size (.slice x.A x.i x.k) x.ms
  len : x.ms.length = x.i
  rd : RAt u gr x.r
  fine : x.r.Fine
  rl : x.r.l = l
  con : x.r.e = 0 → l.take x.r.at_ = hb c ++ x.ms.flatMap mbp ∧ ∀ m ∈ x.ms, ∀ z ∈ m.zs, z.Ok c
  mem : ∀ m ∈ x.ms, m.zs = [] ∨ (m.zs.length : Int) = c.all
theorem OutI.step {w u v : World} {gr : Nat} {c : Cf} {l : List Int} {x : PS} (h : OutI w u gr c l x) (hx : Ext u v) : OutI w v gr c l x := { h with ext := h.ext.trans hx, row := h.row.ext hx, rd := h.rd.ext hx }
structure QS where
  j : Nat
  A : Option Addr
  k : Nat
  zs : List Pz
  r : Pr
structure InI (u0 u : World) (gr : Nat) (c : Cf) (l : List Int) (ms : List Pm) (y : QS) : Prop where
  le : (y.j : Int) ≤ c.all
  chg : Chg (fun k => k = gr ∨ u0.heap.size ≤ k) u0 u
  row : ZRow u u0.heap.size (.slice y.A y.j y.k) y.zs
  len : y.zs.length = y.j
  rd : RAt u gr y.r
  fine : y.r.Fine
  rl : y.r.l = l
  con : y.r.e = 0 → l.take y.r.at_ = hb c ++ ms.flatMap mbp ++ (0 :: y.zs.flatMap zbp) ∧ (∀ m ∈ ms, ∀ z ∈ m.zs, z.Ok c) ∧ ∀ z ∈ y.zs, z.Ok c
theorem InI.step {u0 u v : World} {gr : Nat} {c : Cf} {l : List Int} {ms : List Pm} {y : QS} (h : InI u0 u gr c l ms y) (hx : Ext u v) : InI u0 v gr c l ms y := { h with chg := h.chg.trans (.of_ext hx), row := h.row.ext hx, rd := h.rd.ext hx }
def zZn : List C := [.v (.int .i64 0), .v (.int .i64 0), .v (.bool false), .v (.slice none 0 0)]
/-- The reader's calls, over what is known. -/
theorem rd_known {L : List Blk} {u v : World} {gr : Nat} {r : Pr} (hR : RAt u gr r) (h : Known L u) (ht : (L.all fun b => !Nat.beq b.ty 148) = true) (hx : Chg (fun k => k = gr) u v) : Known L v := by
  obtain ⟨cs, hc⟩ := hR.blk
  exact h.far hc ht hx
/-- One zone read. -/
structure ZRd (c : Cf) (r : Pr) (wp safe : Int) (done : Bool) (t : List Int) (r' : Pr) : Prop where
  fine : r'.Fine
  rl : r'.l = r.l
  con : r'.e = 0 → r.e = 0 ∧ 0 ≤ wp ∧ wp ≤ c.cap ∧ 0 ≤ safe ∧ safe ≤ wp ∧ IsB t ∧ r.l.take r'.at_ = r.l.take r.at_ ++ i8 wp ++ i8 safe ++ [b1 done] ++ (i8 (t.length : Nat) ++ t)
theorem ZRd.mk' {c : Cf} {r : Pr} (hf : r.Fine) : ZRd c r (r.int 0 c.cap).2 ((r.int 0 c.cap).1.int 0 (r.int 0 c.cap).2).2 ((r.int 0 c.cap).1.int 0 (r.int 0 c.cap).2).1.flag.2 (((r.int 0 c.cap).1.int 0 (r.int 0 c.cap).2).1.flag.1.bytes ((r.int 0 c.cap).2 * c.block)).2 (((r.int 0 c.cap).1.int 0 (r.int 0 c.cap).2).1.flag.1.bytes ((r.int 0 c.cap).2 * c.block)).1 := by
  have f1 := int_fine hf 0 c.cap
  have l1 := int_l r 0 c.cap
  have o1 := @int_ok r 0 c.cap hf
  generalize r.int 0 c.cap = a at *
  have f2 := int_fine f1 0 a.2
  have l2 := int_l a.1 0 a.2
  have o2 := @int_ok a.1 0 a.2 f1
  generalize a.1.int 0 a.2 = b at *
  have f3 := flag_fine f2
  have l3 := flag_l b.1
  have o3 := @flag_ok b.1 f2
  generalize b.1.flag = f at *
  have f4 := bytes_fine f3 (a.2 * c.block)
  have l4 := bytes_l f.1 (a.2 * c.block)
  have o4 := @bytes_ok f.1 (a.2 * c.block) f3
  generalize f.1.bytes (a.2 * c.block) = t at *
  refine ⟨f4, by rw [l4, l3, l2, l1], fun h => ?_⟩
  obtain ⟨e3, _, hB, p4⟩ := o4 h
  obtain ⟨e2, p3⟩ := o3 e3
  obtain ⟨e1, q1, q2, p2⟩ := o2 e2
  obtain ⟨e0, q3, q4, p1⟩ := o1 e1
  rw [l1] at l2 p2
  rw [l2] at l3 p3
  rw [l3] at p4
  exact ⟨e0, q3, q4, q1, q2, hB, by rw [p4, p3, p2, p1]; simp⟩
/-- A member more. -/
theorem MRow.add {u v : World} {b : Nat} {val val' : Value} {ms : List Pm} {m : Pm} (h : MRow u b val ms) (hc : Chg (fun k => val.ownBlock = some k) u v) (ho : v.ownsRow b 121 1 val' (ms.length + 1) (ms.map Pm.v ++ [m.v])) (hm : ZRow u b m.v m.zs) (hn : m.zs = [] → m.v = .slice none 0 0) : MRow v b val' (ms ++ [m]) := by
  have hz : ∀ {x : Pm}, ZRow u b x.v x.zs → ZRow v b x.v x.zs := fun hx => hx.chg hc (fun k cs _ hs hb => by
    obtain ⟨cs2, hb2, _⟩ := own_ty h.own hs
    exact ne_ty hb hb2 (by show 124 ≠ 121; decide) rfl) (fun k cs fz hs hb => by
    obtain ⟨cs2, hb2, _⟩ := own_ty h.own hs
    exact ne_u8 hb2 hb (by show u8ty 121 = false; kernel_rfl) rfl)
  refine ⟨?_, fun x hx => ?_, fun x hx => ?_⟩
  · rw [List.map_append, List.length_append]; exact ho
  · rcases List.mem_append.1 hx with hx | hx
    · exact hz (h.mem x hx)
    · rw [List.mem_singleton.1 hx]; exact hz hm
  · rcases List.mem_append.1 hx with hx | hx
    · exact h.nil x hx
    · rw [List.mem_singleton.1 hx]; exact hn
/-- A row of one type is written: what is of other types is not. -/
theorem own_known {L : List Blk} {u v : World} {b e size n : Nat} {val : Value} {xs : List Value} (h : u.ownsRow b e size val n xs) (hK : Known L u) (hx : Chg (fun k => val.ownBlock = some k) u v) (ht : ∀ x ∈ L, x.ty = e → val.ownBlock ≠ some x.g) : Known L v := hK.chg hx (fun x hxL hs => by
  obtain ⟨cs, hb, _⟩ := own_ty h hs
  obtain ⟨i, hi⟩ := List.mem_iff_getElem?.1 hxL
  have h1 := hK.1 i x hi
  rw [hb] at h1
  injection h1 with h1
  injection h1 with _ h3 _
  exact ht x hxL h3.symm hs)
theorem own_rat {u v : World} {b e size n gr : Nat} {val : Value} {xs : List Value} {r : Pr} (h : u.ownsRow b e size val n xs) (hR : RAt u gr r) (hx : Chg (fun k => val.ownBlock = some k) u v) (h1 : e ≠ 148) (h2 : u8ty e = false) : RAt v gr r := hR.chg hx (fun hs => by
  obtain ⟨cs, hb, _⟩ := own_ty h hs
  obtain ⟨cs2, hb2⟩ := hR.blk
  exact ne_ty hb hb2 h1 rfl) (fun k cs fz hs hb => by
  obtain ⟨cs2, hb2, _⟩ := own_ty h hs
  exact ne_u8 hb2 hb h2 rfl)
/-- How a zone's reading stands. -/
structure StI (u0 u : World) (gr : Nat) (v : Value) (zs : List Pz) (r : Pr) : Prop where
  chg : Chg (fun k => k = gr ∨ u0.heap.size ≤ k) u0 u
  row : ZRow u u0.heap.size v zs
  rd : RAt u gr r
theorem StI.ext {u0 u w : World} {gr : Nat} {v : Value} {zs : List Pz} {r : Pr} (h : StI u0 u gr v zs r) (hx : Ext u w) : StI u0 w gr v zs r := ⟨h.chg.trans (.of_ext hx), h.row.ext hx, h.rd.ext hx⟩
theorem StI.read {u0 u w : World} {gr : Nat} {v : Value} {zs : List Pz} {r r' : Pr} (h : StI u0 u gr v zs r) (hc : Chg (fun k => k = gr) u w) (hR : RAt w gr r') : StI u0 w gr v zs r' := ⟨h.chg.trans (hc.mono (fun k _ e => .inl e)), h.row.chg hc (fun k cs _ e hb => by
  obtain ⟨cs2, hb2⟩ := h.rd.blk
  rw [e] at hb
  exact ne_ty hb hb2 (by show 124 ≠ 148; decide) rfl) (fun k cs fz e hb => by
  obtain ⟨cs2, hb2⟩ := h.rd.blk
  rw [e] at hb
  exact ne_u8 hb2 hb (by show u8ty 148 = false; kernel_rfl) rfl), hR⟩
theorem StI.blk {u0 u w : World} {gr g : Nat} {v : Value} {zs : List Pz} {r : Pr} {cs : Array Value} (h : StI u0 u gr v zs r) (hg : u.heap[g]? = some (Obj.cells cs 124 (0, 0))) (h0 : u0.heap.size ≤ g) (hv : v.ownBlock ≠ some g) (hc : Chg (fun k => k = g) u w) : StI u0 w gr v zs r := ⟨h.chg.trans (hc.mono (fun k _ e => .inr (by rw [e]; exact h0))), h.row.chg hc (fun k cs2 hk e hb => hv (by rw [hk, e])) (fun k cs fz e hb => by
  rw [e] at hb
  exact ne_u8 hg hb (by show u8ty 124 = false; kernel_rfl) rfl), h.rd.chg hc (fun e => by
  obtain ⟨cs2, hb2⟩ := h.rd.blk
  rw [e] at hb2
  exact ne_ty hg hb2 (by show 124 ≠ 148; decide) rfl) (fun k cs fz e hb => by
  rw [e] at hb
  exact ne_u8 hg hb (by show u8ty 124 = false; kernel_rfl) rfl)⟩
/-- A zone more. -/
theorem ZRow.add {u v : World} {b : Nat} {val val' : Value} {zs : List Pz} {z : Pz} (h : ZRow u b val zs) (hc : Chg (fun k => val.ownBlock = some k) u v) (ho : v.ownsRow b 124 4 val' (zs.length + 1) (zs.flatMap Pz.vs ++ z.vs)) (hz : PAt u z.t) : ZRow v b val' (zs ++ [z]) := by
  have hk : ∀ {x : Part}, PAt u x → PAt v x := fun hx => hx.chg hc (fun k cs fz hs hb => by
    obtain ⟨cs2, hb2, _⟩ := own_ty h.own hs
    exact ne_u8 hb2 hb (by show u8ty 124 = false; kernel_rfl) rfl)
  refine ⟨?_, fun x hx => ?_⟩
  · rw [List.flatMap_append, List.length_append]; simpa using ho
  · rcases List.mem_append.1 hx with hx | hx
    · exact hk (h.txt x hx)
    · rw [List.mem_singleton.1 hx]; exact hk hz
theorem ZRow.base {w : World} {b b2 : Nat} {v : Value} {zs : List Pz} (h : ZRow w b v zs) (hb : b2 ≤ b) : ZRow w b2 v zs := ⟨owns_base h.own hb, h.txt⟩
end Go.Proofs.YtlhmpmmblnbmbaaGreat.Img
set_option linter.unusedVariables false
set_option linter.unusedSimpArgs false
set_option maxRecDepth 100000
namespace Go.Proofs.YtlhmpmmblnbmbaaGreat.Img
open Go.Proofs.YtlhmpmmblnbmbaaGreat.Sx Go.Proofs.YtlhmpmmblnbmbaaGreat.Byt Go.Proofs.YtlhmpmmblnbmbaaGreat.Dev Go.Proofs.YtlhmpmmblnbmbaaGreat.Pck Go.Proofs.YtlhmpmmblnbmbaaGreat.Cnf Go.Proofs.YtlhmpmmblnbmbaaGreat.Bus Go.Lib
/-- What parse answers. -/
def Parsed (w : World) (l : List Int) (e : Ending) (w' : World) : Prop := Ext w w' ∧ ((∃ er, (er = 13 ∨ er = 14) ∧ e = .returned (.tuple #[Cf.zero.val, .slice none 0 0, .int .i64 er]) ∧ (l = [] → er = 14)) ∨
  ∃ (c : Cf) (A : Option Addr) (k : Nat) (ms : List Pm), e = .returned (.tuple #[c.val, .slice A ms.length k, .int .i64 0]) ∧ MRow w' w.heap.size (.slice A ms.length k) ms ∧ c.check = 0 ∧ (ms.length : Int) = c.members ∧ (∀ m ∈ ms, (m.zs = [] ∨ (m.zs.length : Int) = c.all) ∧ ∀ z ∈ m.zs, z.Ok c) ∧ l = hb c ++ ms.flatMap mbp)
theorem errR {e : Int} (h : ErrR e) (h0 : e ≠ 0) : e = 13 ∨ e = 14 := h.resolve_left h0
set_option maxHeartbeats 4000000 in
theorem parse_c (p : Part) (w : World) (hp : PAt w p) (hB : IsB p.l) : Calls Tryz.prog 41 #[p.val] w (Parsed w p.l) := by
  refine J.enter Tryz.func41 rfl [] [.one (.v p.val)] 133 (known_nil w) ?_
  refine J.new 23 zCf [] (fun g2 hg2 _ => ?_)
  have fin : ∀ {u w1 : World} {cs : List C}, Ext w u → Rel [⟨g2, 23, cs⟩] u w1 → Ext w w1 := fun hx hr => hx.rel' hr (mem1 (.inl hg2))
  refine J.call Tryz.func73 [.one (.v p.val)] [⟨g2, 23, zCf⟩] (fun w1 hk1 hr1 => ?_)
  have hx1 := fin (.refl w) hr1
  refine (pnew_c p w1 (hp.ext hx1) hB).mono ?_
  rintro e w2 ⟨gr, rfl, hR2, hx, hgr⟩
  have hx2 := hx1.trans hx
  have hk2 := hx.known hk1
  have hgr : w.heap.size ≤ gr := Nat.le_trans hx1.1 hgr
  have big : ∀ {u v : World} {S : Nat → Prop}, Ext w u → Chg S u v → (∀ k, S k → w.heap.size ≤ k) → Ext w v := fun hx hc hS => (.mk2 (Nat.le_trans hx.1 hc.1) (fun k hk => (hc.2 k (Nat.lt_of_lt_of_le hk hx.1) (fun h => by have := hS k h; omega)).trans (hx.2 k hk)))
  have bigr : ∀ {u v : World}, Ext w u → Chg (fun k => k = gr) u v → Ext w v := fun hx hc => big hx hc (fun k e => by rw [e]; exact hgr)
  refine ⟨.one (.v (.pointer (some ⟨gr, 0, none⟩))), _, rfl, rfl, hk2, ?_⟩
  obtain ⟨r0, hr0⟩ : ∃ r0 : Pr, r0 = ⟨p.l, 0, 0⟩ := ⟨_, rfl⟩
  have hf0 : r0.Fine := by rw [hr0]; exact ⟨Nat.zero_le _, hB, .inl rfl⟩
  have hl0 : r0.l = p.l := by rw [hr0]
  have hat0 : r0.at_ = 0 := by rw [hr0]
  have hnil : p.l = [] → (r0.bytes 88).1.e = 14 := fun h => by rw [hr0, h]; rfl
  rw [← hr0] at hR2
  refine J.call Tryz.func74 [.one (.v (.pointer (some ⟨gr, 0, none⟩))), .one (.v (.int .i64 88))] [⟨g2, 23, zCf⟩] (fun w3 hk3 hr3 => ?_)
  have hx23 := hk2.same hk3 hr3
  refine (pbytes_c 88 w3 (hR2.ext hx23) (by decide)).mono ?_
  rintro e w4 ⟨v4, rfl, hR4, ho4, hc4⟩
  have hx4 := bigr (hx2.trans hx23) hc4
  have hk4 := rd_known (hR2.ext hx23) hk3 rfl hc4
  have hf1 := bytes_fine hf0 88
  have hl1 : (r0.bytes 88).1.l = p.l := by rw [bytes_l, hl0]
  have ok1 := @bytes_ok r0 88 hf0
  obtain ⟨hlen1, hB1⟩ := bytes_len (r := r0) (most := 88) hf0 (by decide)
  generalize r0.bytes 88 = x1 at *
  obtain ⟨pb, rfl, hpbn, hpbl, hpb⟩ := ownP.part (b := w3.heap.size) ho4 (by omega)
  refine ⟨.one (.v pb.val), _, rfl, rfl, hk4, ?_⟩
  refine J.call Tryz.func75 [.one (.v (.pointer (some ⟨gr, 0, none⟩)))] [⟨g2, 23, zCf⟩] (fun w5 hk5 hr5 => ?_)
  have hx45 := hk4.same hk5 hr5
  refine (perr_c w5 (hR4.ext hx45)).mono ?_
  rintro e w6 ⟨rfl, hx⟩
  have hx46 := hx45.trans hx
  have hk6 := hx.known hk5
  refine ⟨.one (.v (.int .i64 x1.1.e)), _, rfl, rfl, hk6, ?_⟩
  by_cases h1 : x1.1.e = 0
  rotate_left
  · refine J.brt (x1.1.e != 0) (by simp [h1]) ?_
    refine J.call Tryz.func75 [.one (.v (.pointer (some ⟨gr, 0, none⟩)))] [⟨g2, 23, zCf⟩] (fun w7 hk7 hr7 => ?_)
    have hx47 := hx46.trans (hk6.same hk7 hr7)
    refine (perr_c w7 (hR4.ext hx47)).mono ?_
    rintro e w8 ⟨rfl, hx⟩
    have hx48 := hx47.trans hx
    refine ⟨.one (.v (.int .i64 x1.1.e)), _, rfl, rfl, hx.known hk7, ?_⟩
    exact J.ret (.tup [(true, zCf), (false, [.v (.slice none 0 0)]), (false, [.v (.int .i64 x1.1.e)])]) [⟨g2, 23, zCf⟩] (fun w9 hk9 hr9 => ⟨fin (hx4.trans hx48) hr9, .inl ⟨x1.1.e, errR hf1.err h1, rfl, hnil⟩⟩)
  refine J.brf (x1.1.e != 0) (by simp [h1]) ?_
  have hne : p.l = [] → False := fun h => by have := hnil h; omega
  obtain ⟨-, -, -, hcon1⟩ := ok1 h1
  rw [hat0, hl0, List.take_zero, List.nil_append] at hcon1
  refine J.call Tryz.func76 [.one (.v pb.val)] [⟨g2, 23, zCf⟩] (fun w7 hk7 hr7 => ?_)
  have hx67 := hk6.same hk7 hr7
  refine (get_c pb w7 (hpb.ext (hx46.trans hx67)) (by rw [hpbl]; exact hB1)).mono ?_
  rintro e w8 ⟨rfl, hx⟩
  have hx8 := (hx4.trans (hx46.trans hx67)).trans hx
  have hR8 := (hR4.ext (hx46.trans hx67)).ext hx
  have hk8 := hx.known hk7
  have hgp := @get_put pb.l (by rw [hpbl]; exact hB1)
  rw [hpbl] at hgp ⊢
  generalize Cf.get x1.2 = y at *
  obtain ⟨c, ge⟩ := y
  replace hgp : ge = 0 → c.put = x1.2 := hgp
  refine ⟨.tup [(true, c.cs), (false, [.v (.int .i64 ge)])], _, rfl, rfl, hk8, ?_⟩
  refine J.new 23 zCf [⟨g2, 23, zCf⟩] (fun g7 hg7 hn7 => ?_)
  have hg7w : w.heap.size ≤ g7 := Nat.le_trans hx8.1 hg7
  have fin2 : ∀ {u w1 : World} {cs c2 : List C}, Ext w u → Rel [⟨g2, 23, cs⟩, ⟨g7, 23, c2⟩] u w1 → Ext w w1 := fun hx hr => hx.rel' hr (mem2 (.inl hg2) (.inl hg7w))
  have bad13 : ∀ {w0 w1 : World} {cs : List C}, Ext w w0 → Rel [⟨g2, 23, cs⟩, ⟨g7, 23, c.cs⟩] w0 w1 → Parsed w p.l (.returned (.tuple #[Cf.zero.val, .slice none 0 0, .int .i64 13])) w1 := fun hx hr => ⟨fin2 hx hr, .inl ⟨13, .inl rfl, rfl, fun h => (hne h).elim⟩⟩
  by_cases h2 : ge = 0
  rotate_left
  · refine J.lit 30 (ge != 0) true (by simp [h2]) ?_
    exact J.ret (.tup [(true, zCf), (false, [.v (.slice none 0 0)]), (false, [.v (.int .i64 13)])]) [⟨g2, 23, zCf⟩, ⟨g7, 23, c.cs⟩] (fun w9 hk9 hr9 => bad13 hx8 hr9)
  refine J.lit 30 (ge != 0) false (by simp [h2]) ?_
  refine J.call Tryz.func45 [.agg c.cs] [⟨g2, 23, zCf⟩, ⟨g7, 23, c.cs⟩] (fun w9 hk9 hr9 => ?_)
  have hx89 := hk8.same2 (M := [⟨g7, 23, c.cs⟩]) hk9 hr9 (mem1 hg7)
  refine (check_c (c := c) w9).mono ?_
  rintro e w10 ⟨rfl, hx⟩
  have hx810 := hx89.trans hx
  have hx10 := hx8.trans hx810
  have hR10 := hR8.ext hx810
  have hk10 := hx.known hk9
  refine ⟨.one (.v (.int .i64 c.check)), _, rfl, rfl, hk10, ?_⟩
  by_cases h3 : c.check = 0
  rotate_left
  · refine J.brt (c.check != 0) (by simp [h3]) ?_
    exact J.ret (.tup [(true, zCf), (false, [.v (.slice none 0 0)]), (false, [.v (.int .i64 13)])]) [⟨g2, 23, zCf⟩, ⟨g7, 23, c.cs⟩] (fun w11 hk11 hr11 => bad13 hx10 hr11)
  refine J.brf (c.check != 0) (by simp [h3]) ?_
  have hF := cf_fits h3
  have hFm := hF.members; have hFb := hF.block; have hFc := hF.cap; have hFa := hF.all2
  have hFa0 : 1 ≤ c.all := by have := hF.all; have := hF.mta; have := hF.zones; have := hF.spare; omega
  have hput := hgp h2
  have hcon0 : p.l.take x1.1.at_ = hb c := by
    rw [hcon1, ← hput, put_len]; rfl
  refine J.loop (fun x : PS => [(2, .one (.ptr 0 0)), (5, .one (.v (.pointer (some ⟨gr, 0, none⟩)))), (7, .one (.ptr 1 0)), (9, .one (.v (.slice x.A x.i x.k))), (37, .one (.v (.int .i64 c.members))), (38, .one (.v (.int .i64 x.i)))]) (fun _ => [⟨g2, 23, zCf⟩, ⟨g7, 23, c.cs⟩]) (fun x u => OutI w u gr c p.l x) (fun x => 16 - x.i) [] ⟨0, none, 0, [], x1.1⟩ (fun w11 hk11 hr11 => ?_) ?_
  · have hx := hk10.same hk11 hr11
    exact ⟨by show (0 : Int) ≤ c.members; omega, hx10.trans hx, ⟨⟨rfl, .inl ⟨rfl, rfl⟩⟩, fun m hm => (by cases hm), fun m hm => (by cases hm)⟩, rfl, hR10.ext hx, hf1, hl1, fun _ => ⟨by rw [hcon0]; simp, fun m hm => (by cases hm)⟩, fun m hm => (by cases hm)⟩
  rintro q ⟨i, A, k, ms, r⟩ w11 hq hI hk11
  have hile : (i : Int) ≤ c.members := hI.le
  have hmsl : ms.length = i := hI.len
  have hR11 : RAt w11 gr r := hI.rd
  have hf11 : r.Fine := hI.fine
  have hl11 : r.l = p.l := hI.rl
  refine J.brd ((i : Int) < c.members) (fun h4 => ?_) (fun h4 => ?_)
  rotate_left
  · -- the end
    have him : (i : Int) = c.members := by omega
    refine J.call Tryz.func75 [.one (.v (.pointer (some ⟨gr, 0, none⟩)))] [⟨g2, 23, zCf⟩, ⟨g7, 23, c.cs⟩] (fun w12 hk12 hr12 => ?_)
    have hx12 := hk11.same hk12 hr12
    refine (perr_c w12 (hR11.ext hx12)).mono ?_
    rintro e w13 ⟨rfl, hx⟩
    have hx13 := hx12.trans hx
    have hk13 := hx.known hk12
    refine ⟨.one (.v (.int .i64 r.e)), _, rfl, rfl, hk13, ?_⟩
    by_cases h5 : r.e = 0
    rotate_left
    · refine J.brt (r.e != 0) (by simp [h5]) ?_
      refine J.call Tryz.func75 [.one (.v (.pointer (some ⟨gr, 0, none⟩)))] [⟨g2, 23, zCf⟩, ⟨g7, 23, c.cs⟩] (fun w14 hk14 hr14 => ?_)
      have hx14 := hx13.trans (hk13.same hk14 hr14)
      refine (perr_c w14 (hR11.ext hx14)).mono ?_
      rintro e w15 ⟨rfl, hx⟩
      refine ⟨.one (.v (.int .i64 r.e)), _, rfl, rfl, hx.known hk14, ?_⟩
      exact J.ret (.tup [(true, zCf), (false, [.v (.slice none 0 0)]), (false, [.v (.int .i64 r.e)])]) [⟨g2, 23, zCf⟩, ⟨g7, 23, c.cs⟩] (fun w16 hk16 hr16 => ⟨fin2 (hI.ext.trans (hx14.trans hx)) hr16, .inl ⟨r.e, errR hf11.err h5, rfl, fun h => (hne h).elim⟩⟩)
    refine J.brf (r.e != 0) (by simp [h5]) ?_
    refine J.call Tryz.func79 [.one (.v (.pointer (some ⟨gr, 0, none⟩)))] [⟨g2, 23, zCf⟩, ⟨g7, 23, c.cs⟩] (fun w14 hk14 hr14 => ?_)
    have hx14 := hx13.trans (hk13.same hk14 hr14)
    refine (pleft_c w14 (hR11.ext hx14)).mono ?_
    rintro e w15 ⟨rfl, hx⟩
    have hx15 := hx14.trans hx
    have hk15 := hx.known hk14
    refine ⟨.one (.v (.int .i64 ((r.l.length : Int) - r.at_))), _, rfl, rfl, hk15, ?_⟩
    refine J.brd ((r.l.length : Int) - r.at_ > 0) (fun h6 => ?_) (fun h6 => ?_)
    · exact J.ret (.tup [(true, zCf), (false, [.v (.slice none 0 0)]), (false, [.v (.int .i64 13)])]) [⟨g2, 23, zCf⟩, ⟨g7, 23, c.cs⟩] (fun w16 hk16 hr16 => bad13 (hI.ext.trans hx15) hr16)
    · refine J.ret (.tup [(true, c.cs), (false, [.v (.slice A i k)]), (false, [.v (.int .i64 0)])]) [⟨g2, 23, c.cs⟩, ⟨g7, 23, c.cs⟩] (fun w16 hk16 hr16 => ⟨fin2 (hI.ext.trans hx15) hr16, .inr ⟨c, A, k, ms, by rw [hmsl]; rfl, ?_, h3, by rw [hmsl]; exact him, fun m hm => ⟨hI.mem m hm, (hI.con h5).2 m hm⟩, ?_⟩⟩)
      · rw [hmsl]
        have hc : Chg (fun k => k = g2) w15 w16 := hr16.chg' (mem2 (.inl rfl) (.inr (.inr ((hk16.get 1 rfl).trans (hk15.get 1 rfl).symm))))
        have hM := hI.row.ext hx15
        have h2t := hk15.get 0 rfl
        refine ⟨ownsRow_chg hM.own hc (fun k hk hs => ?_), fun m hm => (hM.mem m hm).chg hc (fun k cs _ hs hb => ?_) (fun k cs fz hs hb => ?_), hM.nil⟩
        · obtain ⟨cs, hb, _⟩ := own_ty hM.own hk
          rw [hs] at hb
          exact ne_ty h2t hb (by show 23 ≠ 121; decide) rfl
        · rw [hs] at hb
          exact ne_ty h2t hb (by show 23 ≠ 124; decide) rfl
        · rw [hs] at hb
          exact ne_u8 h2t hb (by show u8ty 23 = false; kernel_rfl) rfl
      · have h7 := (hI.con h5).1
        have h8 := hf11.le
        rw [hl11] at h6 h8
        have h9 : r.at_ = p.l.length := by omega
        rw [← h7]
        show p.l = p.l.take r.at_
        rw [h9, List.take_length]
  refine J.new 121 [.v (.slice none 0 0)] [⟨g2, 23, zCf⟩, ⟨g7, 23, c.cs⟩] (fun g10 hg10 hn10 => ?_)
  refine J.call Tryz.func77 [.one (.v (.pointer (some ⟨gr, 0, none⟩)))] [⟨g2, 23, zCf⟩, ⟨g7, 23, c.cs⟩, ⟨g10, 121, [.v (.slice none 0 0)]⟩] (fun w12 hk12 hr12 => ?_)
  have hx12 := hk11.same2 (M := [⟨g10, 121, [.v (.slice none 0 0)]⟩]) hk12 hr12 (mem1 hg10)
  refine (pflag_c w12 (hR11.ext hx12)).mono ?_
  rintro e w13 ⟨rfl, hR13, hc13⟩
  have hk13 := rd_known (hR11.ext hx12) hk12 rfl hc13
  have hch13 : Chg (fun k => k = gr ∨ w11.heap.size ≤ k) w11 w13 := (Chg.of_ext hx12).trans (hc13.mono (fun k _ e => .inl e))
  have hrow13 := hI.row.keep hR11 hch13
  have hx13 : Ext w w13 := bigr (hI.ext.trans hx12) hc13
  have hf13 := flag_fine hf11
  have hl13 : r.flag.1.l = p.l := by rw [flag_l, hl11]
  have ok13 := @flag_ok r hf11
  refine ⟨.one (.v (.bool r.flag.2)), _, rfl, rfl, hk13, ?_⟩
  generalize r.flag = f at *
  obtain ⟨r1, fb⟩ := f
  have hbw : w.heap.size ≤ w13.heap.size := hx13.1
  cases fb
  rotate_left
  · -- a dead one
    refine J.brt true rfl ?_
    refine J.bslO 121 1 1 [.slice none 0 0] [.v (.slice none 0 0)] [⟨g2, 23, zCf⟩, ⟨g7, 23, c.cs⟩, ⟨g10, 121, [.v (.slice none 0 0)]⟩] (fun wa wb hka hra hkb hxb hbb => ?_)
    have hxa := hk13.same hka hra
    refine J.app 85 85 (.one (.v (.slice A i k))) (.one (.v (.slice (some ⟨wa.heap.size, 0, none⟩) 1 1))) [⟨g2, 23, zCf⟩, ⟨g7, 23, c.cs⟩, ⟨g10, 121, [.v (.slice none 0 0)]⟩] (fun ty wc hkc hrc => ?_)
    have hxc := (hxa.trans hxb).trans (hkb.same hkc hrc)
    have hrc := hrow13.ext hxc
    have hown : wc.ownsRow w.heap.size 121 1 (.slice A i k) i (ms.map Pm.v) := by
      have := hrc.own
      rw [hmsl] at this; exact this
    obtain ⟨A9, k9, wd, hrun, hown9, hcd⟩ := app_one (P := Tryz.prog) (.agg #[.slice none 0 0]) 24 85 hown ((hkb.same hkc (by assumption)).blk hbb) rfl (fun u hu => by rw [List.mem_singleton.1 hu]; rfl) (hx13.trans hxc).1 (by simp only [maxLen]; omega) (by omega) ty
    have hlow : ∀ kk, (Value.slice A i k).ownBlock = some kk → kk < w11.heap.size ∧ w.heap.size ≤ kk := fun kk hkk => by
      obtain ⟨cs, hb, hb2⟩ := own_ty hI.row.own hkk
      exact ⟨(Array.getElem?_eq_some_iff.1 hb).1, hb2⟩
    have hkd : Known [⟨g2, 23, zCf⟩, ⟨g7, 23, c.cs⟩, ⟨g10, 121, [.v (.slice none 0 0)]⟩] wd := own_known hown hkc hcd (mem3 (fun e => absurd e (by show ¬ 23 = 121; decide)) (fun e => absurd e (by show ¬ 23 = 121; decide)) (fun _ e => by have := (hlow g10 e).1; omega))
    refine ⟨.slice A9 (i + 1) k9, wd, hrun, hkd, ?_⟩
    have hRd : RAt wd gr r1 := own_rat hown (hR13.ext hxc) hcd (by show 121 ≠ 148; decide) (by show u8ty 121 = false; kernel_rfl)
    have hxd : Ext w wd := big (hx13.trans hxc) hcd (fun kk hkk => (hlow kk hkk).2)
    have hMd : MRow wd w.heap.size (.slice A9 (i + 1) k9) (ms ++ [⟨(.slice none 0 0), []⟩]) := hrc.add hcd (by rw [hmsl]; exact hown9) ((show ZRow w13 w.heap.size (.slice none 0 0) [] from ⟨⟨rfl, .inl ⟨rfl, rfl⟩⟩, fun z hz => (by cases hz)⟩).ext hxc) (fun _ => rfl)
    refine J.ari ((i + 1 : Nat) : Int) (.add (x := i) (y := 1) (by omega) (by omega) (by omega)) ?_
    refine J.drop [(2, .one (.ptr 0 0)), (5, .one (.v (.pointer (some ⟨gr, 0, none⟩)))), (7, .one (.ptr 1 0)), (9, .one (.v (.slice A9 (i + 1) k9))), (37, .one (.v (.int .i64 c.members))), (38, .one (.v (.int .i64 ((i + 1 : Nat) : Int))))] [⟨g2, 23, zCf⟩, ⟨g7, 23, c.cs⟩] [⟨g10, 121, [.v (.slice none 0 0)]⟩] (fun we hke hre => ?_)
    have hxe := hkd.same hke hre
    have hke2 : Known [⟨g2, 23, zCf⟩, ⟨g7, 23, c.cs⟩] we := Known.fst (M := [⟨g10, 121, [.v (.slice none 0 0)]⟩]) hke
    have hO : OutI w we gr c p.l ⟨i + 1, A9, k9, ms ++ [⟨(.slice none 0 0), []⟩], r1⟩ := by
      refine ⟨by show ((i + 1 : Nat) : Int) ≤ c.members; omega, hxd.trans hxe, hMd.ext hxe, by rw [List.length_append, hmsl]; rfl, hRd.ext hxe, hf13, hl13, fun h0 => ?_, fun m hm => ?_⟩
      · obtain ⟨h5, h6⟩ := ok13 h0
        obtain ⟨h7, h8⟩ := hI.con h5
        refine ⟨?_, fun m hm => ?_⟩
        · rw [hl11] at h6
          show p.l.take r1.at_ = _
          rw [h6, h7, List.flatMap_append]
          simp [mbp, b1]
        · rcases List.mem_append.1 hm with hm | hm
          · exact h8 m hm
          · rw [List.mem_singleton.1 hm]; exact fun z hz => (by cases hz)
      · rcases List.mem_append.1 hm with hm | hm
        · exact hI.mem m hm
        · rw [List.mem_singleton.1 hm]; exact .inl rfl
    exact J.at (fun a u h1 h2 hk hr => hq ⟨i + 1, A9, k9, ms ++ [⟨(.slice none 0 0), []⟩], r1⟩ a u h1 h2 hk (hO.step (hke2.same hk hr)) (by show 16 - (i + 1) < 16 - i; omega))
  · refine J.brf false rfl ?_
    refine J.call Tryz.func23 [.agg c.cs] [⟨g2, 23, zCf⟩, ⟨g7, 23, c.cs⟩, ⟨g10, 121, [.v (.slice none 0 0)]⟩] (fun w14 hk14 hr14 => ?_)
    refine (all_c (c := c) w14).mono ?_
    rintro e w14' ⟨rfl, hx⟩
    have hx14 := (hk13.same hk14 hr14).trans hx
    have hk14' := hx.known hk14
    refine ⟨.one (.v (.int .i64 c.all)), _, rfl, rfl, hk14', ?_⟩
    refine J.loop (fun y : QS => [(2, .one (.ptr 0 0)), (5, .one (.v (.pointer (some ⟨gr, 0, none⟩)))), (7, .one (.ptr 1 0)), (9, .one (.v (.slice A i k))), (10, .one (.ptr 2 0)), (37, .one (.v (.int .i64 c.members))), (38, .one (.v (.int .i64 i))), (47, .one (.v (.int .i64 c.all))), (48, .one (.v (.int .i64 y.j)))]) (fun y => [⟨g2, 23, zCf⟩, ⟨g7, 23, c.cs⟩, ⟨g10, 121, [.v (.slice y.A y.j y.k)]⟩]) (fun y u => InI w11 u gr c p.l ms y) (fun y => 64 - y.j) [] ⟨0, none, 0, [], r1⟩ (fun w15 hk15 hr15 => ?_) ?_
    · have hx := hx14.trans (hk14'.same hk15 hr15)
      refine ⟨by show (0 : Int) ≤ c.all; omega, hch13.trans (.of_ext hx), ⟨⟨rfl, .inl ⟨rfl, rfl⟩⟩, fun z hz => (by cases hz)⟩, rfl, hR13.ext hx, hf13, hl13, fun h0 => ?_⟩
      obtain ⟨h5, h6⟩ := ok13 h0
      obtain ⟨h7, h8⟩ := hI.con h5
      refine ⟨?_, h8, fun z hz => (by cases hz)⟩
      rw [hl11] at h6
      show p.l.take r1.at_ = _
      rw [h6, h7]
      simp [b1]
    rintro q2 ⟨j, A2, k2, zs, r2⟩ w15 hq2 hJ hk15
    have hjle : (j : Int) ≤ c.all := hJ.le
    have hzl0 : zs.length = j := hJ.len
    have hR15 : RAt w15 gr r2 := hJ.rd
    have hf15 : r2.Fine := hJ.fine
    have hl15 : r2.l = p.l := hJ.rl
    have hx15 : Ext w w15 := big hI.ext hJ.chg (fun kk hkk => by
      have := hI.ext.1
      rcases hkk with e | e <;> omega)
    refine J.brd ((j : Int) < c.all) (fun h5 => ?_) (fun h5 => ?_)
    rotate_left
    · have hzl : (zs.length : Int) = c.all := by omega
      have hzne : zs ≠ [] := fun e => by rw [e] at hzl; simp at hzl; omega
      have hrow15 := hI.row.keep hR11 hJ.chg
      have hZ15 : ZRow w15 w.heap.size (.slice A2 j k2) zs := hJ.row.base hI.ext.1
      refine J.bslO 121 1 1 [.slice none 0 0] [.v (.slice A2 j k2)] [⟨g2, 23, zCf⟩, ⟨g7, 23, c.cs⟩, ⟨g10, 121, [.v (.slice A2 j k2)]⟩] (fun wa wb hka hra hkb hxb hbb => ?_)
      have hxa := hk15.same hka hra
      refine J.app 85 85 (.one (.v (.slice A i k))) (.one (.v (.slice (some ⟨wa.heap.size, 0, none⟩) 1 1))) [⟨g2, 23, zCf⟩, ⟨g7, 23, c.cs⟩, ⟨g10, 121, [.v (.slice A2 j k2)]⟩] (fun ty wc hkc hrc => ?_)
      have hxc := (hxa.trans hxb).trans (hkb.same hkc hrc)
      have hrc := hrow15.ext hxc
      have hown : wc.ownsRow w.heap.size 121 1 (.slice A i k) i (ms.map Pm.v) := by
        have := hrc.own
        rw [hmsl] at this; exact this
      obtain ⟨A9, k9, wd, hrun, hown9, hcd⟩ := app_one (P := Tryz.prog) (.agg #[.slice none 0 0]) 24 85 hown ((hkb.same hkc (by assumption)).blk hbb) rfl (fun u hu => by rw [List.mem_singleton.1 hu]; rfl) (hx15.trans hxc).1 (by simp only [maxLen]; omega) (by omega) ty
      have hlow : ∀ kk, (Value.slice A i k).ownBlock = some kk → kk < w11.heap.size ∧ w.heap.size ≤ kk := fun kk hkk => by
        obtain ⟨cs, hb, hb2⟩ := own_ty hI.row.own hkk
        exact ⟨(Array.getElem?_eq_some_iff.1 hb).1, hb2⟩
      have hkd : Known [⟨g2, 23, zCf⟩, ⟨g7, 23, c.cs⟩, ⟨g10, 121, [.v (.slice A2 j k2)]⟩] wd := own_known hown hkc hcd (mem3 (fun e => absurd e (by show ¬ 23 = 121; decide)) (fun e => absurd e (by show ¬ 23 = 121; decide)) (fun _ e => by have := (hlow g10 e).1; omega))
      refine ⟨.slice A9 (i + 1) k9, wd, hrun, hkd, ?_⟩
      have hRd : RAt wd gr r2 := own_rat hown (hR15.ext hxc) hcd (by show 121 ≠ 148; decide) (by show u8ty 121 = false; kernel_rfl)
      have hxd : Ext w wd := big (hx15.trans hxc) hcd (fun kk hkk => (hlow kk hkk).2)
      have hMd : MRow wd w.heap.size (.slice A9 (i + 1) k9) (ms ++ [⟨(.slice A2 j k2), zs⟩]) := hrc.add hcd (by rw [hmsl]; exact hown9) (hZ15.ext hxc) (fun e => absurd e hzne)
      refine J.ari ((i + 1 : Nat) : Int) (.add (x := i) (y := 1) (by omega) (by omega) (by omega)) ?_
      refine J.drop [(2, .one (.ptr 0 0)), (5, .one (.v (.pointer (some ⟨gr, 0, none⟩)))), (7, .one (.ptr 1 0)), (9, .one (.v (.slice A9 (i + 1) k9))), (37, .one (.v (.int .i64 c.members))), (38, .one (.v (.int .i64 ((i + 1 : Nat) : Int))))] [⟨g2, 23, zCf⟩, ⟨g7, 23, c.cs⟩] [⟨g10, 121, [.v (.slice A2 j k2)]⟩] (fun we hke hre => ?_)
      have hxe := hkd.same hke hre
      have hke2 : Known [⟨g2, 23, zCf⟩, ⟨g7, 23, c.cs⟩] we := Known.fst (M := [⟨g10, 121, [.v (.slice A2 j k2)]⟩]) hke
      have hO : OutI w we gr c p.l ⟨i + 1, A9, k9, ms ++ [⟨(.slice A2 j k2), zs⟩], r2⟩ := by
        refine ⟨by show ((i + 1 : Nat) : Int) ≤ c.members; omega, hxd.trans hxe, hMd.ext hxe, by rw [List.length_append, hmsl]; rfl, hRd.ext hxe, hf15, hl15, fun h0 => ?_, fun m hm => ?_⟩
        · obtain ⟨h5, h6, h7⟩ := hJ.con h0
          refine ⟨?_, fun m hm => ?_⟩
          · show p.l.take r2.at_ = _
            rw [h5, List.flatMap_append]
            simp [mbp, hzne]
          · rcases List.mem_append.1 hm with hm | hm
            · exact h6 m hm
            · rw [List.mem_singleton.1 hm]; exact h7
        · rcases List.mem_append.1 hm with hm | hm
          · exact hI.mem m hm
          · rw [List.mem_singleton.1 hm]; exact .inr hzl
      exact J.at (fun a u h1 h2 hk hr => hq ⟨i + 1, A9, k9, ms ++ [⟨(.slice A2 j k2), zs⟩], r2⟩ a u h1 h2 hk (hO.step (hke2.same hk hr)) (by show 16 - (i + 1) < 16 - i; omega))
    have hS15 : StI w11 w15 gr (.slice A2 j k2) zs r2 := ⟨hJ.chg, hJ.row, hJ.rd⟩
    refine J.call Tryz.func78 [.one (.v (.pointer (some ⟨gr, 0, none⟩))), .one (.v (.int .i64 0)), .one (.v (.int .i64 c.cap))] [⟨g2, 23, zCf⟩, ⟨g7, 23, c.cs⟩, ⟨g10, 121, [.v (.slice A2 j k2)]⟩] (fun w16 hk16 hr16 => ?_)
    have hx16 := hk15.same hk16 hr16
    refine (pint_c 0 c.cap w16 (hR15.ext hx16)).mono ?_
    rintro e w17 ⟨rfl, hR17, hc17⟩
    have hk17 := rd_known (hR15.ext hx16) hk16 rfl hc17
    have hS17 := (hS15.ext hx16).read hc17 hR17
    have hZR := ZRd.mk' (c := c) (r := r2) hf15
    have hwr := int_rng (r := r2) (high := c.cap) (by omega)
    have hf17 := int_fine hf15 0 c.cap
    generalize r2.int 0 c.cap = a at *
    obtain ⟨ra, wp⟩ := a
    replace hwr : 0 ≤ wp ∧ wp ≤ c.cap := hwr
    refine ⟨.one (.v (.int .i64 wp)), _, rfl, rfl, hk17, ?_⟩
    refine J.new 124 zZn [⟨g2, 23, zCf⟩, ⟨g7, 23, c.cs⟩, ⟨g10, 121, [.v (.slice A2 j k2)]⟩] (fun g11 hg11 hn11 => ?_)
    have hg11b : w11.heap.size ≤ g11 := Nat.le_trans hS17.chg.1 hg11
    have hvne : (Value.slice A2 j k2).ownBlock ≠ some g11 := fun e => by
      obtain ⟨cs, hb, _⟩ := own_ty hS17.row.own e
      have := (Array.getElem?_eq_some_iff.1 hb).1; omega
    have stp : ∀ {u v : World} {cs cs2 : List C} {r : Pr}, Known [⟨g2, 23, zCf⟩, ⟨g7, 23, c.cs⟩, ⟨g10, 121, [.v (.slice A2 j k2)]⟩, ⟨g11, 124, cs⟩] u → StI w11 u gr (.slice A2 j k2) zs r → Known [⟨g2, 23, zCf⟩, ⟨g7, 23, c.cs⟩, ⟨g10, 121, [.v (.slice A2 j k2)]⟩, ⟨g11, 124, cs2⟩] v → Rel [⟨g2, 23, zCf⟩, ⟨g7, 23, c.cs⟩, ⟨g10, 121, [.v (.slice A2 j k2)]⟩, ⟨g11, 124, cs2⟩] u v → StI w11 v gr (.slice A2 j k2) zs r := fun {u v cs cs2 r} hku hS hkv hr => hS.blk (hku.get 3 rfl) hg11b hvne (hr.chg' (mem4 (.inr (.inr ((hkv.get 0 rfl).trans (hku.get 0 rfl).symm))) (.inr (.inr ((hkv.get 1 rfl).trans (hku.get 1 rfl).symm))) (.inr (.inr ((hkv.get 2 rfl).trans (hku.get 2 rfl).symm))) (.inl rfl)))
    refine J.call Tryz.func78 [.one (.v (.pointer (some ⟨gr, 0, none⟩))), .one (.v (.int .i64 0)), .one (.v (.int .i64 wp))] [⟨g2, 23, zCf⟩, ⟨g7, 23, c.cs⟩, ⟨g10, 121, [.v (.slice A2 j k2)]⟩, ⟨g11, 124, [.v (.int .i64 wp), .v (.int .i64 0), .v (.bool false), .v (.slice none 0 0)]⟩] (fun w18 hk18 hr18 => ?_)
    have hS18 := hS17.ext (hk17.same2 (M := [⟨g11, 124, [.v (.int .i64 wp), .v (.int .i64 0), .v (.bool false), .v (.slice none 0 0)]⟩]) hk18 hr18 (mem1 hg11))
    refine (pint_c 0 wp w18 hS18.rd).mono ?_
    rintro e w19 ⟨rfl, hR19, hc19⟩
    have hk19 := rd_known hS18.rd hk18 rfl hc19
    have hS19 := hS18.read hc19 hR19
    have hf19 := int_fine hf17 0 wp
    generalize ra.int 0 wp = b at *
    obtain ⟨rb, safe⟩ := b
    refine ⟨.one (.v (.int .i64 safe)), _, rfl, rfl, hk19, ?_⟩
    refine J.call Tryz.func77 [.one (.v (.pointer (some ⟨gr, 0, none⟩)))] [⟨g2, 23, zCf⟩, ⟨g7, 23, c.cs⟩, ⟨g10, 121, [.v (.slice A2 j k2)]⟩, ⟨g11, 124, [.v (.int .i64 wp), .v (.int .i64 safe), .v (.bool false), .v (.slice none 0 0)]⟩] (fun w20 hk20 hr20 => ?_)
    have hS20 := stp hk19 hS19 hk20 hr20
    refine (pflag_c w20 hS20.rd).mono ?_
    rintro e w21 ⟨rfl, hR21, hc21⟩
    have hk21 := rd_known hS20.rd hk20 rfl hc21
    have hS21 := hS20.read hc21 hR21
    have hf21 := flag_fine hf19
    generalize rb.flag = f at *
    obtain ⟨rf, dn⟩ := f
    refine ⟨.one (.v (.bool dn)), _, rfl, rfl, hk21, ?_⟩
    have hwb0 : 0 ≤ wp * c.block := Int.mul_nonneg hwr.1 (by omega)
    have hwb1 : wp * c.block ≤ 4096 * 4096 := Int.le_trans (Int.mul_le_mul_of_nonneg_right (show wp ≤ 4096 by omega) (by omega)) (Int.mul_le_mul_of_nonneg_left hFb.2 (by decide))
    refine J.ari (wp * c.block) (.mul rfl (by omega) (by omega)) ?_
    refine J.call Tryz.func74 [.one (.v (.pointer (some ⟨gr, 0, none⟩))), .one (.v (.int .i64 (wp * c.block)))] [⟨g2, 23, zCf⟩, ⟨g7, 23, c.cs⟩, ⟨g10, 121, [.v (.slice A2 j k2)]⟩, ⟨g11, 124, [.v (.int .i64 wp), .v (.int .i64 safe), .v (.bool dn), .v (.slice none 0 0)]⟩] (fun w22 hk22 hr22 => ?_)
    have hS22 := stp hk21 hS21 hk22 hr22
    refine (pbytes_c (wp * c.block) w22 hS22.rd (by omega)).mono ?_
    rintro e w23 ⟨v23, rfl, hR23, ho23, hc23⟩
    have hk23 := rd_known hS22.rd hk22 rfl hc23
    have hS23 := hS22.read hc23 hR23
    obtain ⟨htl, htB⟩ := bytes_len hf21 hwb0
    generalize rf.bytes (wp * c.block) = tt at *
    obtain ⟨rt, tl⟩ := tt
    replace htl : (tl.length : Int) ≤ wp * c.block := htl
    obtain ⟨pt, rfl, hptn, hptl, hpt, hptc⟩ := ownP.part2 (b := w22.heap.size) ho23 (by show tl.length ≤ _; omega)
    replace hptn : pt.n = tl.length := hptn
    replace hptl : pt.l = tl := hptl
    refine ⟨.one (.v pt.val), _, rfl, rfl, hk23, ?_⟩
    obtain ⟨bad, hbad⟩ : ∃ bad : Bool, bad = (((pt.n : Int) != wp * c.block) || (dn && (safe != wp))) := ⟨_, rfl⟩
    have ptk : ∀ {u v : World} {cs cs2 : List C}, Known [⟨g2, 23, zCf⟩, ⟨g7, 23, c.cs⟩, ⟨g10, 121, [.v (.slice A2 j k2)]⟩, ⟨g11, 124, cs⟩] u → PAt u pt → Known [⟨g2, 23, zCf⟩, ⟨g7, 23, c.cs⟩, ⟨g10, 121, [.v (.slice A2 j k2)]⟩, ⟨g11, 124, cs2⟩] v → Rel [⟨g2, 23, zCf⟩, ⟨g7, 23, c.cs⟩, ⟨g10, 121, [.v (.slice A2 j k2)]⟩, ⟨g11, 124, cs2⟩] u v → PAt v pt := fun {u v cs cs2} hku hp hkv hr => hp.chg (show Chg (fun k => k = g11) u v from hr.chg' (mem4 (.inr (.inr ((hkv.get 0 rfl).trans (hku.get 0 rfl).symm))) (.inr (.inr ((hkv.get 1 rfl).trans (hku.get 1 rfl).symm))) (.inr (.inr ((hkv.get 2 rfl).trans (hku.get 2 rfl).symm))) (.inl rfl))) (fun k cs fz e hb => by
      rw [e] at hb
      exact ne_u8 (hku.get 3 rfl) hb (by show u8ty 124 = false; kernel_rfl) rfl)
    refine J.cut 1 (fun b : Bool => [(2, .one (.ptr 0 0)), (5, .one (.v (.pointer (some ⟨gr, 0, none⟩)))), (7, .one (.ptr 1 0)), (9, .one (.v (.slice A i k))), (10, .one (.ptr 2 0)), (37, .one (.v (.int .i64 c.members))), (38, .one (.v (.int .i64 i))), (47, .one (.v (.int .i64 c.all))), (48, .one (.v (.int .i64 j))), (11, .one (.ptr 3 0)), (12, .one (.lit b))]) (fun _ => [⟨g2, 23, zCf⟩, ⟨g7, 23, c.cs⟩, ⟨g10, 121, [.v (.slice A2 j k2)]⟩, ⟨g11, 124, [.v (.int .i64 wp), .v (.int .i64 safe), .v (.bool dn), .v pt.val]⟩]) (fun b u => b = bad ∧ StI w11 u gr (.slice A2 j k2) zs rt ∧ PAt u pt) [] (fun p1 hp1 => ?_) (fun b w24 ⟨hb24, hS24, hpt24⟩ hk24 => ?_)
    · refine J.ari (wp * c.block) (.mul rfl (by omega) (by omega)) ?_
      by_cases e1 : (pt.n : Int) = wp * c.block
      rotate_left
      · refine J.lit 86 ((pt.n : Int) != wp * c.block) true (by simp [e1]) ?_
        exact J.at (fun a u h1 h2 hk hr => hp1 true a u h1 h2 hk ⟨by rw [hbad]; simp [e1], stp hk23 hS23 hk hr, ptk hk23 hpt hk hr⟩)
      refine J.lit 86 ((pt.n : Int) != wp * c.block) false (by simp [e1]) ?_
      cases dn
      · refine J.lit 90 false false rfl ?_
        exact J.at (fun a u h1 h2 hk hr => hp1 false a u h1 h2 hk ⟨by rw [hbad]; simp [e1], stp hk23 hS23 hk hr, ptk hk23 hpt hk hr⟩)
      · refine J.lit 90 true true rfl ?_
        by_cases e2 : safe = wp
        · refine J.lit 12 (safe != wp) false (by simp [e2]) ?_
          exact J.at (fun a u h1 h2 hk hr => hp1 false a u h1 h2 hk ⟨by rw [hbad]; simp [e1, e2], stp hk23 hS23 hk hr, ptk hk23 hpt hk hr⟩)
        · refine J.lit 12 (safe != wp) true (by simp [e2]) ?_
          exact J.at (fun a u h1 h2 hk hr => hp1 true a u h1 h2 hk ⟨by rw [hbad]; simp [e1, e2], stp hk23 hS23 hk hr, ptk hk23 hpt hk hr⟩)
    refine J.cut 1 (fun b2 : Bool => [(2, .one (.ptr 0 0)), (5, .one (.v (.pointer (some ⟨gr, 0, none⟩)))), (7, .one (.ptr 1 0)), (9, .one (.v (.slice A i k))), (10, .one (.ptr 2 0)), (37, .one (.v (.int .i64 c.members))), (38, .one (.v (.int .i64 i))), (47, .one (.v (.int .i64 c.all))), (48, .one (.v (.int .i64 j))), (11, .one (.ptr 3 0)), (105, .one (.lit b2))]) (fun _ => [⟨g2, 23, zCf⟩, ⟨g7, 23, c.cs⟩, ⟨g10, 121, [.v (.slice A2 j k2)]⟩, ⟨g11, 124, [.v (.int .i64 wp), .v (.int .i64 safe), .v (.bool dn), .v pt.val]⟩]) (fun b2 u => b2 = (decide (rt.e = 0) && bad) ∧ StI w11 u gr (.slice A2 j k2) zs rt ∧ PAt u pt) [] (fun p1 hp1 => ?_) (fun b2 w25 ⟨hb25, hS25, hpt25⟩ hk25 => ?_)
    · refine J.call Tryz.func75 [.one (.v (.pointer (some ⟨gr, 0, none⟩)))] [⟨g2, 23, zCf⟩, ⟨g7, 23, c.cs⟩, ⟨g10, 121, [.v (.slice A2 j k2)]⟩, ⟨g11, 124, [.v (.int .i64 wp), .v (.int .i64 safe), .v (.bool dn), .v pt.val]⟩] (fun w25 hk25 hr25 => ?_)
      have hx25 := hk24.same hk25 hr25
      refine (perr_c w25 (hS24.ext hx25).rd).mono ?_
      rintro e w26 ⟨rfl, hx⟩
      have hx26 := hx25.trans hx
      have hk26 := hx.known hk25
      refine ⟨.one (.v (.int .i64 rt.e)), _, rfl, rfl, hk26, ?_⟩
      by_cases e3 : rt.e = 0
      · refine J.lit 103 (rt.e == 0) true (by simp [e3]) ?_
        exact J.at (fun a u h1 h2 hk hr => hp1 b a u h1 h2 hk ⟨by rw [hb24]; simp [e3], hS24.ext (hx26.trans (hk26.same hk hr)), hpt24.ext (hx26.trans (hk26.same hk hr))⟩)
      · refine J.lit 103 (rt.e == 0) false (by simp [e3]) ?_
        exact J.at (fun a u h1 h2 hk hr => hp1 false a u h1 h2 hk ⟨by simp [e3], hS24.ext (hx26.trans (hk26.same hk hr)), hpt24.ext (hx26.trans (hk26.same hk hr))⟩)
    have hxw25 : Ext w w25 := big hI.ext hS25.chg (fun kk hkk => by
      have := hI.ext.1
      rcases hkk with e | e <;> omega)
    have hg10w : w.heap.size ≤ g10 := Nat.le_trans hI.ext.1 hg10
    have hg11w : w.heap.size ≤ g11 := Nat.le_trans hI.ext.1 hg11b
    cases b2
    rotate_left
    · exact J.ret (.tup [(true, zCf), (false, [.v (.slice none 0 0)]), (false, [.v (.int .i64 13)])]) [⟨g2, 23, zCf⟩, ⟨g7, 23, c.cs⟩, ⟨g10, 121, [.v (.slice A2 j k2)]⟩, ⟨g11, 124, [.v (.int .i64 wp), .v (.int .i64 safe), .v (.bool dn), .v pt.val]⟩] (fun w26 hk26 hr26 => ⟨hxw25.rel' hr26 (mem4 (.inl hg2) (.inl hg7w) (.inl hg10w) (.inl hg11w)), .inl ⟨13, .inl rfl, rfl, fun h => (hne h).elim⟩⟩)
    refine J.bslO 124 1 4 [.int .i64 0, .int .i64 0, .bool false, .slice none 0 0] [.v (.int .i64 wp), .v (.int .i64 safe), .v (.bool dn), .v pt.val] [⟨g2, 23, zCf⟩, ⟨g7, 23, c.cs⟩, ⟨g10, 121, [.v (.slice A2 j k2)]⟩, ⟨g11, 124, [.v (.int .i64 wp), .v (.int .i64 safe), .v (.bool dn), .v pt.val]⟩] (fun wa wb hka hra hkb hxb hbb => ?_)
    have hxa := hk25.same hka hra
    refine J.app 119 119 (.one (.v (.slice A2 j k2))) (.one (.v (.slice (some ⟨wa.heap.size, 0, none⟩) 1 1))) [⟨g2, 23, zCf⟩, ⟨g7, 23, c.cs⟩, ⟨g10, 121, [.v (.slice A2 j k2)]⟩, ⟨g11, 124, [.v (.int .i64 wp), .v (.int .i64 safe), .v (.bool dn), .v pt.val]⟩] (fun ty wc hkc hrc => ?_)
    have hxc := (hxa.trans hxb).trans (hkb.same hkc hrc)
    have hSc := hS25.ext hxc
    have hown : wc.ownsRow w11.heap.size 124 4 (.slice A2 j k2) j (zs.flatMap Pz.vs) := by
      have := hSc.row.own
      rw [hzl0] at this; exact this
    obtain ⟨A9, k9, wd, hrun, hown9, hcd⟩ := app_one (P := Tryz.prog) (news := (⟨wp, safe, dn, pt⟩ : Pz).vs) (.agg #[.int .i64 0, .int .i64 0, .bool false, .slice none 0 0]) 48 119 hown ((hkb.same hkc (by assumption)).blk hbb) rfl (fun u hu => by
      simp only [Pz.vs, List.mem_cons, List.not_mem_nil, or_false] at hu
      rcases hu with rfl | rfl | rfl | rfl <;> rfl) hSc.chg.1 (by simp only [maxLen]; omega) (by omega) ty
    have hkd : Known [⟨g2, 23, zCf⟩, ⟨g7, 23, c.cs⟩, ⟨g10, 121, [.v (.slice A2 j k2)]⟩, ⟨g11, 124, [.v (.int .i64 wp), .v (.int .i64 safe), .v (.bool dn), .v pt.val]⟩] wd := own_known hown hkc hcd (mem4 (fun e => absurd e (by show ¬ 23 = 124; decide)) (fun e => absurd e (by show ¬ 23 = 124; decide)) (fun e => absurd e (by show ¬ 121 = 124; decide)) (fun _ => hvne))
    refine ⟨.slice A9 (j + 1) k9, wd, hrun, hkd, ?_⟩
    have hRd : RAt wd gr rt := own_rat hown hSc.rd hcd (by show 124 ≠ 148; decide) (by show u8ty 124 = false; kernel_rfl)
    have hchd : Chg (fun k => k = gr ∨ w11.heap.size ≤ k) w11 wd := hSc.chg.trans (hcd.mono (fun kk _ hkk => .inr (own_ty hown hkk).choose_spec.2))
    have hZd : ZRow wd w11.heap.size (.slice A9 (j + 1) k9) (zs ++ [⟨wp, safe, dn, pt⟩]) := hSc.row.add hcd (by rw [hzl0]; exact hown9) (hpt25.ext hxc)
    refine J.ari ((j + 1 : Nat) : Int) (.add (x := j) (y := 1) (by omega) (by omega) (by omega)) ?_
    refine J.drop [(2, .one (.ptr 0 0)), (5, .one (.v (.pointer (some ⟨gr, 0, none⟩)))), (7, .one (.ptr 1 0)), (9, .one (.v (.slice A i k))), (10, .one (.ptr 2 0)), (37, .one (.v (.int .i64 c.members))), (38, .one (.v (.int .i64 i))), (47, .one (.v (.int .i64 c.all))), (48, .one (.v (.int .i64 ((j + 1 : Nat) : Int))))] [⟨g2, 23, zCf⟩, ⟨g7, 23, c.cs⟩, ⟨g10, 121, [.v (.slice A9 (j + 1) k9)]⟩] [⟨g11, 124, [.v (.int .i64 wp), .v (.int .i64 safe), .v (.bool dn), .v pt.val]⟩] (fun we hke hre => ?_)
    have hke2 : Known [⟨g2, 23, zCf⟩, ⟨g7, 23, c.cs⟩, ⟨g10, 121, [.v (.slice A9 (j + 1) k9)]⟩] we := Known.fst (M := [⟨g11, 124, [.v (.int .i64 wp), .v (.int .i64 safe), .v (.bool dn), .v pt.val]⟩]) hke
    have hce : Chg (fun k => k = g10) wd we := hre.chg' (mem4 (.inr (.inr ((hke.get 0 rfl).trans (hkd.get 0 rfl).symm))) (.inr (.inr ((hke.get 1 rfl).trans (hkd.get 1 rfl).symm))) (.inl rfl) (.inr (.inr ((hke.get 3 rfl).trans (hkd.get 3 rfl).symm))))
    have hg10d := hkd.get 2 rfl
    have hO : InI w11 we gr c p.l ms ⟨j + 1, A9, k9, zs ++ [⟨wp, safe, dn, pt⟩], rt⟩ := by
      refine ⟨by show ((j + 1 : Nat) : Int) ≤ c.all; omega, hchd.trans (hce.mono (fun kk _ e => .inr (by rw [e]; exact hg10))), hZd.chg hce (fun kk cs _ e hb => by
        rw [e] at hb
        exact ne_ty hg10d hb (by show 121 ≠ 124; decide) rfl) (fun kk cs fz e hb => by
        rw [e] at hb
        exact ne_u8 hg10d hb (by show u8ty 121 = false; kernel_rfl) rfl), by rw [List.length_append, hzl0]; rfl, hRd.chg hce (fun e => by
        obtain ⟨cs, hb⟩ := hRd.blk
        rw [e] at hb
        exact ne_ty hg10d hb (by show 121 ≠ 148; decide) rfl) (fun kk cs fz e hb => by
        rw [e] at hb
        exact ne_u8 hg10d hb (by show u8ty 121 = false; kernel_rfl) rfl), hZR.fine, by rw [hZR.rl, hl15], fun h0 => ?_⟩
      obtain ⟨z1, z2, z3, z4, z5, z6, z7⟩ := hZR.con h0
      obtain ⟨y1, y2, y3⟩ := hJ.con z1
      have hbf : bad = false := by
        have h0' : rt.e = 0 := h0
        cases bad
        · rfl
        · simp [h0'] at hb25
      rw [hbf] at hbad
      have hb1 : (pt.n : Int) = wp * c.block := by
        by_cases e : (pt.n : Int) = wp * c.block
        · exact e
        · simp [e] at hbad
      have hb2 : dn = true → safe = wp := fun e => by
        by_cases e2 : safe = wp
        · exact e2
        · simp [e, e2] at hbad
      refine ⟨?_, y2, fun z hz => ?_⟩
      · rw [hl15] at z7
        show p.l.take rt.at_ = _
        rw [z7, y1, List.flatMap_append]
        simp [zbp, hptl]
      · rcases List.mem_append.1 hz with hz | hz
        · exact y3 z hz
        · rw [List.mem_singleton.1 hz]
          exact ⟨hwr.1, hwr.2, z4, z5, by show (pt.l.length : Int) = wp * c.block; rw [hptl, ← hptn]; exact hb1, hb2, by show IsB pt.l; rw [hptl]; exact htB, hptc⟩
    exact J.at (fun a u h1 h2 hk hr => hq2 ⟨j + 1, A9, k9, zs ++ [⟨wp, safe, dn, pt⟩], rt⟩ a u h1 h2 hk (hO.step (hke2.same hk hr)) (by show 64 - (j + 1) < 64 - j; omega))
end Go.Proofs.YtlhmpmmblnbmbaaGreat.Img
set_option linter.unusedVariables false
set_option linter.unusedSimpArgs false
namespace Go.Proofs.YtlhmpmmblnbmbaaGreat.Sx
open Go.RowKit
def mkAt (S : List (Nat × SV)) (o : Oper) : Option (Nat × SV × SV) := match o.op with
  | .makeSlice T x y => match opd S x, opd S y with
    | some a, some b => some (T, a, b)
    | _, _ => none
  | _ => none
def mkOf (n : Nat) (s : St) : Option (Nat × SV × SV) := (opAt n s).bind (mkAt s.S)
def cpAt (S : List (Nat × SV)) (o : Oper) : Option (Nat × Nat × SV × SV) := match o.op with
  | .call { callee := .builtin .copy, args, argTypes } => match args.toList, argTypes.toList with
    | [x, y], [t, u] => match opd S x, opd S y with
      | some a, some b => some (t, u, a, b)
      | _, _ => none
    | _, _ => none
  | _ => none
def cpOf (n : Nat) (s : St) : Option (Nat × Nat × SV × SV) := (opAt n s).bind (cpAt s.S)
section
variable {P : Program} {Q : Exit → Act → World → Prop} {tab : Tab} {n : Nat} {s : St} {w0 : World}
/-- A new row of zeros. -/
theorem J.mk [ht : Ok P tab] [hQ : RetOk Q] (T e : Nat) (z : Value) (size bytes len : Nat) (L : List Blk) (hb : (bytes : Int) * (len : Int) ≤ 281474976710656) (hl : (len : Int) ≤ 9223372036854775807)
    (hn : ∀ w1 w2, Known L w1 → Rel L w0 w1 → Known L w2 → Ext w1 w2 → w2.heap[w1.heap.size]? = some (Obj.cells (madeCells z.cells (len * size)) e (0, 0)) → SX P Q n (ansK (go tab n s) (.one (.v (.slice (some ⟨w1.heap.size, 0, none⟩) len len))) L) w2)
    (h : mkOf n (go tab n s) = some (T, .one (.v (.int .i64 (len : Int))), .one (.v (.int .i64 (len : Int)))) := by kernel_rfl) (hT : P.underlying T = some (.slice e) := by kernel_rfl) (hinf : (P.info? e).map (fun i => (i.zero, i.size, i.bytes)) = some (some z, size, bytes) := by kernel_rfl) (hL : (go tab n s).L = L := by kernel_rfl) : SX P Q n s w0 := by
  obtain ⟨o, ho, hh⟩ := Option.bind_eq_some_iff.1 h
  obtain ⟨inf, hi, hz⟩ := Option.map_eq_some_iff.1 hinf
  have hz1 : inf.zero = some z := congrArg Prod.fst hz
  have hz2 : inf.size = size := congrArg (fun x => x.2.1) hz
  have hz3 : inf.bytes = bytes := congrArg (fun x => x.2.2) hz
  refine J.eff L ho (fun a w hS hK hR => ?_) hL
  unfold mkAt at hh
  split at hh <;> try (cases hh; done)
  rename_i T' x y hop
  split at hh <;> try (cases hh; done)
  rename_i u v hx hy
  cases hh
  have ex : a.eval x = .int .i64 (len : Int) := opd_ok hS hx
  have ey : a.eval y = .int .i64 (len : Int) := opd_ok hS hy
  have hr := run_make (P := P) w T e inf z hT hi hz1 .i64 .i64 (len : Int) (len : Int) (by omega) (Int.le_refl _) (by rw [hz3]; exact hb) hl
  rw [Int.toNat_natCast, hz2] at hr
  have hx : Ext w (w.alloc (.cells (madeCells z.cells (len * size)) e)) := (.mk2 (by simp) (fun k hk => lies_old w _ k hk))
  refine ⟨.one (.v (.slice (some ⟨w.heap.size, 0, none⟩) len len)), _, ?_, hx.known hK, hn w _ hK hR (hx.known hK) hx (lies_new w _)⟩
  unfold execOp
  simp only [hop, ex, ey, Sem.run_bind, hr, Result.andThen_ok]
  rfl
theorem J.cpy [ht : Ok P tab] [hQ : RetOk Q] (t u : Nat) (x y : SV) (L : List Blk) (he : ∀ ty w, Known L w → Rel L w0 w → ∃ v w', (Builtin.copy_ #[t, u] ty #[x.den L, y.den L]).run P w = .ok v w' ∧ Known L w' ∧ SX P Q n (ansK (go tab n s) (.one (.v v)) L) w')
    (h : cpOf n (go tab n s) = some (t, u, x, y) := by kernel_rfl) (hL : (go tab n s).L = L := by kernel_rfl) : SX P Q n s w0 := by
  obtain ⟨o, ho, hh⟩ := Option.bind_eq_some_iff.1 h
  refine J.eff L ho (fun a w hS hK hR => ?_) hL
  obtain ⟨v, w', hr, hK', hn⟩ := he o.type w hK hR
  refine ⟨.one (.v v), w', ?_, hK', hn⟩
  unfold cpAt at hh
  split at hh <;> try (cases hh; done)
  rename_i as1 ts ho'
  split at hh <;> try (cases hh; done)
  rename_i x' y' t' u' h1 h2
  split at hh <;> try (cases hh; done)
  rename_i va vb hx hy
  cases hh
  have e1 : as1 = #[x', y'] := by rw [← h1]
  have e2 : ts = #[t, u] := by rw [← h2]
  subst e1; subst e2
  have ex := opd_ok hS hx
  have ey := opd_ok hS hy
  unfold execOp
  simp only [ho', resolve, invoke, builtin, Sem.run_bind, Sem.run_pure, Result.andThen_ok, List.map_toArray, List.map_cons, List.map_nil, ex, ey, hr]
  rfl
theorem sb_lhm {len cap l r m : Nat} (h0 : l ≤ r) (h1 : r ≤ m) (h : m ≤ cap) (w : World) : (Instr.sliceBounds true len cap (some (.int .i64 (l : Int))) (some (.int .i64 (r : Int))) (some (.int .i64 (m : Int)))).run P w = .ok (l, r, m) w := by
  simp [Instr.sliceBounds, run_sliceBound, h, h0, h1]
def mvkAt (o : Oper) : Option Nat := match o.op with
  | .move (.tmp k) => some k
  | .assign (.tmp k) => some k
  | _ => none
def exkAt (o : Oper) : Option (Nat × Nat) := match o.op with
  | .extract (.tmp k) i => some (k, i)
  | _ => none
/-- What only a fact tells is moved on. -/
theorem UAt.mvO {L : List Blk} {G : World → World → Prop} {ls : List (Nat × Loud)} {S : Oper → List (Nat × SV)} {D : Oper → List (Nat × Pred)} {ops : Array Oper} {i : Nat} {p : Pred} {wb : World} (k : Nat) (hl : lookL ls i = none)
    (ho : (ops[i]?).bind (fun o => mvkAt o) = some k := by kernel_rfl) (hd : (ops[i]?).bind (fun o => lookO (D o) k) = some p := by kernel_rfl) : UAt P n L G ls S D ops i p wb := .run fun o hop a w hS hK hG hU hdep => by
  rw [hop] at ho hd
  replace ho : mvkAt o = _ := ho
  replace hd : lookO (D o) k = _ := hd
  have hp := hdep k _ (lookO_mem hd)
  refine ⟨a.tmps.getD k undef, w, ?_, ?_, hp⟩
  · unfold mvkAt at ho
    split at ho <;> try (cases ho; done)
    · rename_i k' hopc; cases ho
      unfold execOp; simp only [hopc, Sem.run_pure]; rfl
    · rename_i k' hopc; cases ho
      unfold execOp; simp only [hopc, Sem.run_pure]; rfl
  · unfold loudE; rw [hl]; exact Ext.refl w
/-- A part of what only a fact tells. -/
theorem UAt.exO {L : List Blk} {G : World → World → Prop} {ls : List (Nat × Loud)} {S : Oper → List (Nat × SV)} {D : Oper → List (Nat × Pred)} {ops : Array Oper} {i : Nat} {q : Pred} {wb : World} (p : Pred) (k j : Nat) (hl : lookL ls i = none) (hq : ∀ v w, p v w → ∃ (l : Array Value) (u : Value), v = .tuple l ∧ l[j]? = some u ∧ q u w)
    (ho : (ops[i]?).bind (fun o => exkAt o) = some (k, j) := by kernel_rfl) (hd : (ops[i]?).bind (fun o => lookO (D o) k) = some p := by kernel_rfl) : UAt P n L G ls S D ops i q wb := .run fun o hop a w hS hK hG hU hdep => by
  rw [hop] at ho hd
  replace ho : exkAt o = _ := ho
  replace hd : lookO (D o) k = _ := hd
  obtain ⟨l, u, hv, hu, hqu⟩ := hq _ _ (hdep k _ (lookO_mem hd))
  refine ⟨u, w, ?_, ?_, hqu⟩
  · unfold exkAt at ho
    split at ho <;> try (cases ho; done)
    rename_i k' i' hopc
    cases ho
    have ev : a.eval (.tmp k) = .tuple l := hv
    unfold execOp
    simp only [hopc, ev]
    simp [Instr.extract, hu]
  · unfold loudE; rw [hl]; exact Ext.refl w
end
end Go.Proofs.YtlhmpmmblnbmbaaGreat.Sx
set_option linter.unusedVariables false
set_option linter.unusedSimpArgs false
set_option maxRecDepth 100000
namespace Go.Proofs.YtlhmpmmblnbmbaaGreat.Img
open Go.Proofs.YtlhmpmmblnbmbaaGreat.Sx Go.Proofs.YtlhmpmmblnbmbaaGreat.Byt Go.Proofs.YtlhmpmmblnbmbaaGreat.Dev Go.Proofs.YtlhmpmmblnbmbaaGreat.Pck Go.Proofs.YtlhmpmmblnbmbaaGreat.Cnf Go.Proofs.YtlhmpmmblnbmbaaGreat.Bus Go.Lib
/-- A part of a part, without room to spare. -/
theorem cutP_at {w : World} {p : Part} (h : PAt w p) {a n : Nat} (hn : a + n ≤ p.n) : PAt w (subP { p with c := a + n } a n) := by
  have hlen := h.len
  have hle := h.le
  refine ⟨⟨by show ((p.l.drop a).take n).length = n; rw [List.length_take, List.length_drop]; omega, ?_⟩, fun hA => ?_, by show n ≤ _; omega⟩
  · by_cases h0 : n = 0
    · exact .inl h0
    · rcases h.at_.2 with h9 | ⟨g, o, cs, fz, g1, g2, g3⟩
      · omega
      · refine .inr ⟨g, o + a * 1, cs, fz, ?_, g2, fun i x hx => ?_⟩
        · show (if a + n = a then p.A else p.A.map (·.add (a * 1))) = _
          rw [if_neg (by omega), g1, Option.map_some, Addr.add_mid]
        · replace hx : ((p.l.drop a).take n)[i]? = some x := hx
          have hi : i < n := by
            have := (List.getElem?_eq_some_iff.1 hx).1
            rw [List.length_take] at this; omega
          rw [List.getElem?_take_of_lt hi, List.getElem?_drop] at hx
          have := g3 (a + i) x hx
          rw [show o + a * 1 + i = o + (a + i) by omega]; exact this
  · show a + n - a = 0
    replace hA : (if a + n = a then p.A else p.A.map (·.add (a * 1))) = none := hA
    split at hA
    · omega
    · have hn0 : p.A = none := Option.map_eq_none_iff.1 hA
      rcases h.at_.2 with h9 | ⟨g, o, cs, fz, g1, g2, g3⟩
      · omega
      · rw [hn0] at g1; cases g1
theorem part_c (p : Part) (a b block : Int) (x y : Nat) (w : World) (hp : PAt w p) (hc : p.n ≤ p.c) (ha : a * block = (x : Int)) (hb : b * block = (y : Int)) (hxy : x ≤ y) (hy : y ≤ p.n) : Calls Tryz.prog 85 #[p.val, .int .i64 a, .int .i64 b, .int .i64 block] w fun e w' => ∃ v, e = .returned v ∧ Bts w w' ((p.l.drop x).take (y - x)) v := by
  have hle := hp.le
  have hlen := hp.len
  refine J.enter Tryz.func85 rfl [] [.one (.v p.val), .one (.v (.int .i64 a)), .one (.v (.int .i64 b)), .one (.v (.int .i64 block))] 29 (known_nil w) ?_
  have fin : ∀ {u w1 : World}, Ext w u → Rel [] u w1 → Ext w w1 := fun hx hr => hx.rel' hr (fun b hb => by cases hb)
  have fin0 : ∀ {u w1 : World}, Rel [] u w1 → Ext u w1 := fun hr => hr.ext' (fun b hb => by cases hb)
  refine J.ari (x : Int) (.mul ha (by omega) (by omega)) ?_
  refine J.ari (y : Int) (.mul hb (by omega) (by omega)) ?_
  refine J.ari (y : Int) (.mul hb (by omega) (by omega)) ?_
  obtain ⟨n, rfl⟩ : ∃ n, y = x + n := ⟨y - x, by omega⟩
  rw [Nat.add_sub_cancel_left]
  obtain ⟨q, hq⟩ : ∃ q : Part, q = subP { p with c := x + n } x n := ⟨_, rfl⟩
  have hqat : ∀ {u : World}, PAt u p → PAt u q := fun hu => by rw [hq]; exact cutP_at hu hy
  have hqn : q.n = n := by rw [hq]; rfl
  have hql : q.l = (p.l.drop x).take n := by rw [hq]; rfl
  have hqv : sliced p.A x (x + n) (x + n) 1 = q.val := by rw [hq]; exact subP_val { p with c := x + n } x n
  refine J.sl 27 p.A p.n p.c (some (.one (.v (.int .i64 (x : Int))))) (some (.one (.v (.int .i64 ((x + n : Nat) : Int))))) (some (.one (.v (.int .i64 ((x + n : Nat) : Int))))) x (x + n) (x + n) 1 (fun L w => sb_lhm (by omega) (Nat.le_refl _) (by omega) w) q.val hqv ?_
  have hqval : q.val = .slice q.A n q.c := by unfold Part.val; rw [hqn]
  rw [hqval]
  refine J.mk 27 5 (.int .u8 0) 1 1 n [] (by omega) (by omega) (fun w1 w2 _ hr1 _ hx2 hb2 => ?_)
  have hx1 := (fin (.refl w) hr1).trans hx2
  refine J.cpy 27 27 (.one (.v (.slice (some ⟨w1.heap.size, 0, none⟩) n n))) (.one (.v (.slice q.A n q.c))) [] (fun ty w3 _ hr3 => ?_)
  have hx3 := hx1.trans (fin0 hr3)
  have hb3 := (fin0 hr3).blk hb2
  have hq3 := hqat (hp.ext hx3)
  have hg1 : w.heap.size ≤ w1.heap.size := (fin (.refl w) hr1).1
  have hlq : q.l.length = n := hq3.len.trans hqn
  have done : ∀ {w4 w5 : World}, Ext w w4 → w4.heap[w1.heap.size]? = some (Obj.cells (enc q.l).toArray 5 (0, 0)) → Rel [] w4 w5 → ∃ v, Ending.returned (.slice (some ⟨w1.heap.size, 0, none⟩) n n) = .returned v ∧ Bts w w5 ((p.l.drop x).take n) v := fun {w4 w5} hx hb hr => by
    refine ⟨_, rfl, fin hx hr, ?_⟩
    rw [← hql, hlq]
    have hel : (enc q.l).length = n := by unfold enc; rw [List.length_map, hlq]
    refine ⟨by rw [hel]; omega, .inr ⟨w1.heap.size, n, _, rfl, hg1, (fin0 hr).blk hb, Nat.le_refl _, by simp only [maxLen]; omega, by simp [hel], ?_⟩⟩
    rw [Nat.mul_one, ← hel]
    simp
  by_cases h0 : n = 0
  · subst h0
    refine ⟨_, w3, run_copy_none w3 27 27 ty 5 _ _ 0 0 0 q.c Tryz.underlying27 (by kernel_rfl) rfl, known_nil _, ?_⟩
    refine J.ret (.one (.v (.slice (some ⟨w1.heap.size, 0, none⟩) 0 0))) [] (fun w5 _ hr5 => done hx3 ?_ hr5)
    have : q.l = [] := List.length_eq_zero_iff.1 hlq
    rw [this]
    have e0 : madeCells (Value.int .u8 0).cells (0 * 1) = #[] := Array.eq_empty_of_size_eq_zero (by rw [size_madeCells])
    rw [e0] at hb3; exact hb3
  · rcases hq3.at_.2 with h9 | ⟨gq, oq, cs, fz, g1, ⟨_, _, g2⟩, g3⟩
    · omega
    · have hel : (enc q.l).length = n := by unfold enc; rw [List.length_map, hlq]
      have hrun := run_copy_row (P := Tryz.prog) w3 27 27 ty 5 w1.heap.size 0 n n ⟨gq, oq, none⟩ n q.c _ 5 (enc q.l) Tryz.underlying27 (by kernel_rfl) hb3 (by rw [hel]; exact (Nat.min_self n).symm) (fun j v hv => by
        unfold enc at hv
        rw [List.getElem?_map] at hv
        obtain ⟨b, hb, rfl⟩ := Option.map_eq_some_iff.1 hv
        rw [Addr.add_mid]
        unfold World.cell?
        rw [g2]
        exact g3 j b hb) (by rw [hel, size_madeCells]; omega) (fun v hv => by
        obtain ⟨b, _, rfl⟩ := List.mem_map.1 hv; rfl)
      rw [g1]
      refine ⟨_, _, hrun, known_nil _, ?_⟩
      generalize hw4 : w3.setRow w1.heap.size _ = w4
      have hlt : w1.heap.size < w3.heap.size := (Array.getElem?_eq_some_iff.1 hb3).1
      have hrow : w4.heap[w1.heap.size]? = some (Obj.cells (enc q.l).toArray 5 (0, 0)) := by
        rw [← hw4, setRow_heap w3 w1.heap.size _ _ 5 (0, 0) hb3]
        have hms : (madeCells (Value.int .u8 0).cells (n * 1)).toList.length = n := by rw [Array.length_toList, size_madeCells]; omega
        rw [List.take_zero, List.nil_append, List.drop_eq_nil_of_le (by rw [hms, hel]; omega), List.append_nil]
      have hx4 : Ext w w4 := by
        have hf4 : face w4 = face w3 := by rw [← hw4]; rfl
        refine .mk2 ?_ (fun k hk => ?_) (hf4.trans hx3.still)
        · rw [← hw4, setRow_size]; exact hx3.1
        · rw [← hw4, setRow_other _ _ _ _ (by omega)]
          exact hx3.2 k hk
      exact J.ret (.one (.v (.slice (some ⟨w1.heap.size, 0, none⟩) n n))) [] (fun w5 _ hr5 => done hx4 hrow hr5)
end Go.Proofs.YtlhmpmmblnbmbaaGreat.Img
set_option linter.unusedVariables false
set_option linter.unusedSimpArgs false
set_option maxRecDepth 100000
namespace Go.Proofs.YtlhmpmmblnbmbaaGreat.Img
open Go.Proofs.YtlhmpmmblnbmbaaGreat.Sx Go.Proofs.YtlhmpmmblnbmbaaGreat.Byt Go.Proofs.YtlhmpmmblnbmbaaGreat.Dev Go.Proofs.YtlhmpmmblnbmbaaGreat.Pck Go.Proofs.YtlhmpmmblnbmbaaGreat.Cnf Go.Proofs.YtlhmpmmblnbmbaaGreat.Bus Go.Lib
/-- Members by what they hold, and how many commands were given. -/
abbrev Sg := List Dc × Int
def zonesR (act : Nat → Nat → Pz → Sg → Int × Sg) (m : Nat) : Nat → List Pz → Sg → Int × Sg
  | _, [], s => (0, s)
  | j, z :: r, s => if (act m j z s).1 ≠ 0 then act m j z s else zonesR act m (j + 1) r (act m j z s).2
def eachR (act : Nat → Nat → Pz → Sg → Int × Sg) : Nat → List Pm → Sg → Int × Sg
  | _, [], s => (0, s)
  | i, p :: r, s => if (zonesR act i 0 p.zs s).1 ≠ 0 then zonesR act i 0 p.zs s else eachR act (i + 1) r (zonesR act i 0 p.zs s).2
theorem MRow.lies {w : World} {b i : Nat} {A : Option Addr} {k : Nat} {ms : List Pm} {m : Pm} {n : Nat} (h : MRow w b (.slice A n k) ms) (hi : ms[i]? = some m) : ∃ g, A = some ⟨g, 0, none⟩ ∧ n = ms.length ∧ LiesAt w ⟨g, 0 + i * 1, none⟩ [m.v] := by
  have hl := (List.getElem?_eq_some_iff.1 hi).1
  rcases h.own.2 with ⟨_, h0⟩ | ⟨g, cap, cur, hv, _, hc, hle, _, hsz, htake⟩
  · omega
  · injection hv with e1 e2 e3
    refine ⟨g, e1, e2, fun j v hv => ?_⟩
    cases j with
    | zero =>
      cases hv
      rw [Addr.add_mid]
      unfold World.cell?
      rw [hc]
      have : (ms.map Pm.v)[i]? = some m.v := by rw [List.getElem?_map, hi]; rfl
      rw [← htake, List.getElem?_take] at this
      split at this
      · simpa using this
      · cases this
    | succ j => cases hv
theorem flat4_get {zs : List Pz} {j : Nat} {z : Pz} (h : zs[j]? = some z) (i : Nat) (hi : i < 4) : (zs.flatMap Pz.vs)[j * 4 + i]? = z.vs[i]? := by
  induction zs generalizing j with
  | nil => cases h
  | cons y ys ih =>
    rw [List.flatMap_cons]
    have hy : y.vs.length = 4 := rfl
    cases j with
    | zero =>
      cases h
      rw [Nat.zero_mul, Nat.zero_add, List.getElem?_append_left (by rw [hy]; exact hi)]
    | succ j =>
      rw [List.getElem?_append_right (by rw [hy]; omega), hy, show (j + 1) * 4 + i - 4 = j * 4 + i by omega]
      exact ih h
theorem ZRow.lies {w : World} {b j : Nat} {v : Value} {zs : List Pz} {z : Pz} (h : ZRow w b v zs) (hj : zs[j]? = some z) : ∃ g k, v = .slice (some ⟨g, 0, none⟩) zs.length k ∧ LiesAt w ⟨g, 0 + j * 4, none⟩ z.vs := by
  have hl := (List.getElem?_eq_some_iff.1 hj).1
  rcases h.own.2 with ⟨_, h0⟩ | ⟨g, cap, cur, hv, _, hc, hle, _, hsz, htake⟩
  · omega
  · refine ⟨g, cap, hv, fun i u hu => ?_⟩
    have hi : i < 4 := (List.getElem?_eq_some_iff.1 hu).1
    rw [Addr.add_mid]
    unfold World.cell?
    rw [hc]
    have := flat4_get hj i hi
    rw [hu, ← htake, List.getElem?_take] at this
    split at this
    · simpa using this
    · cases this
structure ES where
  i : Nat
  s : Sg
theorem each_c {b A k ms} {f : Nat} {fn : Func} {caps : List Value} (act : Nat → Nat → Pz → Sg → Int × Sg) (St : World → Sg → Prop) (CC : Nat → Prop) (w : World) (s0 : Sg) (h0 : St w s0) (n0 : Int) (hn0 : s0.2 ≤ n0) (hn1 : n0 ≤ 1000000)
    (hf : Tryz.prog.funcs[f]? = some fn) (hname : (fn.name == "runtime.NumGoroutine") = false) (hb : fn.body.isSome = true) (hml : ms.length ≤ 16) (hzl : ∀ m ∈ ms, (m : Pm).zs.length ≤ 64)
    (hM : ∀ u s, St u s → MRow u b (.slice A ms.length k) ms) (hx : ∀ u v s, St u s → Ext u v → St v s) (hC : ∀ x, CC x → x < w.heap.size) (hcnt : ∀ m z p s, (act m z p s).2.2 ≤ s.2 + 2)
    (hact : ∀ u s (i j : Nat) (m : Pm) (z : Pz), St u s → s.2 ≤ 2000000 → ms[i]? = some m → m.zs[j]? = some z → Ext w u ∨ True → Calls Tryz.prog f (([.int .i64 i, .int .i64 j, z.val] ++ caps).toArray) u fun e u' => e = .returned (.int .i64 (act i j z s).1) ∧ St u' (act i j z s).2 ∧ Chg CC u u') :
    Calls Tryz.prog 87 #[.slice A ms.length k, .func (.func f) #[] caps.toArray] w fun e w' => e = .returned (.int .i64 (eachR act 0 ms s0).1) ∧ St w' (eachR act 0 ms s0).2 ∧ Chg CC w w' ∧ (eachR act 0 ms s0).2.2 ≤ n0 + 3000 := by
  refine J.enter Tryz.func87 rfl [] [.one (.v (.slice A ms.length k)), .one (.v (.func (.func f) #[] caps.toArray))] 35 (known_nil w) ?_
  have fin0 : ∀ {u w1 : World}, Rel [] u w1 → Ext u w1 := fun hr => hr.ext' (fun b hb => by cases hb)
  refine J.loop (fun x : ES => [(1, .one (.v (.func (.func f) #[] caps.toArray))), (10, .one (.v (.slice A ms.length k))), (11, .one (.v (.int .i64 ms.length))), (12, .one (.v (.int .i64 x.i)))]) (fun _ => []) (fun x u => x.i ≤ ms.length ∧ St u x.s ∧ Chg CC w u ∧ eachR act 0 ms s0 = eachR act x.i (ms.drop x.i) x.s ∧ x.s.2 ≤ n0 + (x.i * 128 : Nat)) (fun x => ms.length - x.i) [] ⟨0, s0⟩ (fun w1 hk1 hr1 => ⟨Nat.zero_le _, hx _ _ _ h0 (fin0 hr1), .of_ext (fin0 hr1), by simp, by simpa using hn0⟩) ?_
  rintro p ⟨i, s⟩ w1 hp ⟨hi, hs1, hc1, he1, hq1⟩ hk1
  replace hi : i ≤ ms.length := hi
  replace hs1 : St w1 s := hs1
  replace he1 : eachR act 0 ms s0 = eachR act i (ms.drop i) s := he1
  replace hq1 : s.2 ≤ n0 + (i * 128 : Nat) := hq1
  refine J.brd ((i : Int) < (ms.length : Int)) (fun h1 => ?_) (fun h1 => ?_)
  rotate_left
  · have hi2 : i = ms.length := by omega
    have hd : ms.drop i = [] := by rw [hi2]; exact List.drop_length
    rw [hd] at he1
    rw [he1]
    exact J.ret (.one (.v (.int .i64 0))) [] (fun w2 hk2 hr2 => ⟨rfl, hx _ _ _ hs1 (fin0 hr2), hc1.trans (.of_ext (fin0 hr2)), by show s.2 ≤ _; omega⟩)
  have him : i < ms.length := by omega
  obtain ⟨m, hm⟩ : ∃ m, ms[i]? = some m := ⟨_, List.getElem?_eq_getElem him⟩
  have hmm := List.mem_of_getElem? hm
  obtain ⟨gm, hA, -, -⟩ := (hM _ _ hs1).lies hm
  have hzv : ∃ Az kz, m.v = .slice Az m.zs.length kz := owns_slice ((hM _ _ hs1).mem m hmm).own
  obtain ⟨Az, kz, hmv⟩ := hzv
  have hzl1 := hzl m hmm
  have hA' := hA
  subst hA
  refine J.ix gm 0 ms.length k 1 i rfl him ?_
  refine J.ld 121 ⟨gm, 0 + i * 1, none⟩ (.agg [.v (.slice Az m.zs.length kz)]) [] (fun w2 hk2 hr2 => ?_) ?_
  · obtain ⟨g, hg1, -, hg2⟩ := (hM _ _ (hx _ _ _ hs1 (fin0 hr2))).lies hm
    cases hg1
    rw [hmv] at hg2; exact hg2
  refine J.new 121 [.v (.slice none 0 0)] [] (fun g6 hg6 _ => ?_)
  have hdrop : ms.drop i = m :: ms.drop (i + 1) := by
    have h2 := List.drop_eq_getElem_cons him
    rw [(List.getElem?_eq_some_iff.1 hm).2] at h2; exact h2
  rw [hdrop] at he1
  have hmem6 : ∀ {u w2 : World}, u.heap.size ≤ g6 → Rel [⟨g6, 121, [.v (.slice Az m.zs.length kz)]⟩] u w2 → Ext u w2 := fun hg hr => hr.ext' (mem1 (.inl hg))
  have hC6 : ¬ CC g6 := fun hc => by have := hC g6 hc; have := hc1.1; omega
  refine J.loop (fun x : ES => [(1, .one (.v (.func (.func f) #[] caps.toArray))), (5, .one (.v (.int .i64 i))), (6, .one (.ptr 0 0)), (10, .one (.v (.slice (some ⟨gm, 0, none⟩) ms.length k))), (11, .one (.v (.int .i64 ms.length))), (12, .one (.v (.int .i64 i))), (18, .one (.v (.slice Az m.zs.length kz))), (19, .one (.v (.int .i64 m.zs.length))), (20, .one (.v (.int .i64 x.i)))]) (fun _ => [⟨g6, 121, [.v (.slice Az m.zs.length kz)]⟩]) (fun x u => x.i ≤ m.zs.length ∧ St u x.s ∧ Chg CC w u ∧ zonesR act i 0 m.zs s = zonesR act i x.i (m.zs.drop x.i) x.s ∧ x.s.2 ≤ s.2 + (x.i * 2 : Nat)) (fun x => m.zs.length - x.i) [] ⟨0, s⟩ (fun w2 hk2 hr2 => ⟨Nat.zero_le _, hx _ _ _ hs1 (hmem6 hg6 hr2), hc1.trans (.of_ext (hmem6 hg6 hr2)), by simp, by simp⟩) ?_
  rintro q ⟨j, t⟩ w2 hq ⟨hj, hs2, hc2, he2, hq2⟩ hk2
  replace hj : j ≤ m.zs.length := hj
  replace hs2 : St w2 t := hs2
  replace he2 : zonesR act i 0 m.zs s = zonesR act i j (m.zs.drop j) t := he2
  replace hq2 : t.2 ≤ s.2 + (j * 2 : Nat) := hq2
  refine J.brd ((j : Int) < (m.zs.length : Int)) (fun h2 => ?_) (fun h2 => ?_)
  rotate_left
  · have hj2 : j = m.zs.length := by omega
    have hd : m.zs.drop j = [] := by rw [hj2]; exact List.drop_length
    rw [hd] at he2
    refine J.ari ((i + 1 : Nat) : Int) (.add (x := i) (y := 1) (by omega) (by omega) (by omega)) ?_
    refine J.drop [(1, .one (.v (.func (.func f) #[] caps.toArray))), (10, .one (.v (.slice (some ⟨gm, 0, none⟩) ms.length k))), (11, .one (.v (.int .i64 ms.length))), (12, .one (.v (.int .i64 ((i + 1 : Nat) : Int))))] [] [⟨g6, 121, [.v (.slice Az m.zs.length kz)]⟩] (fun w3 hk3 hr3 => ?_)
    have hx3 := hk2.same hk3 hr3
    have hz : zonesR act i 0 m.zs s = (0, t) := he2
    have he3 : eachR act 0 ms s0 = eachR act (i + 1) (ms.drop (i + 1)) t := by
      rw [he1]
      show (if (zonesR act i 0 m.zs s).1 ≠ 0 then _ else _) = _
      rw [hz]; rfl
    exact J.at (fun a u h1 h2 hk hr => hp ⟨i + 1, t⟩ a u h1 h2 hk ⟨by show i + 1 ≤ ms.length; omega, hx _ _ _ hs2 (hx3.trans (fin0 hr)), hc2.trans (.of_ext (hx3.trans (fin0 hr))), he3, by show t.2 ≤ n0 + (((i + 1) * 128 : Nat) : Int); omega⟩ (by show ms.length - (i + 1) < ms.length - i; omega))
  have hjz : j < m.zs.length := by omega
  obtain ⟨z, hz⟩ : ∃ z, m.zs[j]? = some z := ⟨_, List.getElem?_eq_getElem hjz⟩
  obtain ⟨gz, kz', hv', -⟩ := ((hM _ _ hs2).mem m hmm).lies hz
  rw [hmv] at hv'
  injection hv' with hAz _ hkz
  subst hAz
  refine J.ix gz 0 m.zs.length kz 4 j rfl hjz ?_
  refine J.ld 124 ⟨gz, 0 + j * 4, none⟩ (.agg z.cs) [⟨g6, 121, [.v (.slice (some ⟨gz, 0, none⟩) m.zs.length kz)]⟩] (fun w3 hk3 hr3 => ?_) ?_
  · obtain ⟨g, k3, hg1, hg2⟩ := ((hM _ _ (hx _ _ _ hs2 (hk2.same hk3 hr3))).mem m hmm).lies hz
    rw [hmv] at hg1
    injection hg1 with e1 _ _
    cases e1
    exact hg2
  refine J.new 124 zZn [⟨g6, 121, [.v (.slice (some ⟨gz, 0, none⟩) m.zs.length kz)]⟩] (fun g8 hg8 hn8 => ?_)
  have hC8 : ¬ CC g8 := fun hc => by have := hC g8 hc; have := hc2.1; omega
  have hdropz : m.zs.drop j = z :: m.zs.drop (j + 1) := by
    have h3 := List.drop_eq_getElem_cons hjz
    rw [(List.getElem?_eq_some_iff.1 hz).2] at h3; exact h3
  rw [hdropz] at he2
  refine J.call hf ([.one (.v (.int .i64 i)), .one (.v (.int .i64 j)), .agg z.cs] ++ caps.map fun v => .one (.v v)) [⟨g6, 121, [.v (.slice (some ⟨gz, 0, none⟩) m.zs.length kz)]⟩, ⟨g8, 124, z.cs⟩] (fun w3 hk3 hr3 => ?_) (hname := hname) (hb := hb)
  have hx23 : Ext w2 w3 := hk2.same2 (M := [⟨g8, 124, z.cs⟩]) hk3 hr3 (mem1 hg8)
  have e1 : ((([SV.one (.v (.int .i64 i)), SV.one (.v (.int .i64 j)), SV.agg z.cs] : List SV) ++ caps.map fun v => SV.one (C.v v)).map (SV.den [⟨g6, 121, [.v (.slice (some ⟨gz, 0, none⟩) m.zs.length kz)]⟩, ⟨g8, 124, z.cs⟩])).toArray = (([.int .i64 i, .int .i64 j, z.val] ++ caps).toArray : Array Value) := by
    rw [List.map_append, List.map_map]
    have : (caps.map (SV.den [⟨g6, 121, [.v (.slice (some ⟨gz, 0, none⟩) m.zs.length kz)]⟩, ⟨g8, 124, z.cs⟩] ∘ fun v => SV.one (C.v v))) = caps := by
      rw [show (SV.den [⟨g6, 121, [.v (.slice (some ⟨gz, 0, none⟩) m.zs.length kz)]⟩, ⟨g8, 124, z.cs⟩] ∘ fun v => SV.one (C.v v)) = id from rfl, List.map_id]
    rw [this]; rfl
  rw [e1]
  refine (hact w3 t i j m z (hx _ _ _ hs2 hx23) (by omega) hm hz (.inr trivial)).mono ?_
  rintro e w4 ⟨rfl, hs4, hc4⟩
  have hcn := hcnt i j z t
  have hk4 : Known [⟨g6, 121, [.v (.slice (some ⟨gz, 0, none⟩) m.zs.length kz)]⟩, ⟨g8, 124, z.cs⟩] w4 := hk3.chg hc4 (mem2 hC6 hC8)
  have hc24 := (hc2.trans (.of_ext hx23)).trans hc4
  refine ⟨.one (.v (.int .i64 (act i j z t).1)), _, rfl, rfl, hk4, ?_⟩
  by_cases hz0 : (act i j z t).1 = 0
  rotate_left
  · refine J.brt ((act i j z t).1 != 0) (by simp [hz0]) ?_
    refine J.ret (.one (.v (.int .i64 (act i j z t).1))) [⟨g6, 121, [.v (.slice (some ⟨gz, 0, none⟩) m.zs.length kz)]⟩, ⟨g8, 124, z.cs⟩] (fun w5 hk5 hr5 => ?_)
    have hx45 := hk4.same hk5 hr5
    have e2 : zonesR act i 0 m.zs s = act i j z t := by
      rw [he2]
      show (if (act i j z t).1 ≠ 0 then _ else _) = _
      rw [if_pos hz0]
    have e3 : eachR act 0 ms s0 = act i j z t := by
      rw [he1]
      show (if (zonesR act i 0 m.zs s).1 ≠ 0 then _ else _) = _
      rw [e2, if_pos hz0]
    rw [e3]
    exact ⟨rfl, hx _ _ _ hs4 hx45, hc24.trans (.of_ext hx45), by omega⟩
  · refine J.brf ((act i j z t).1 != 0) (by simp [hz0]) ?_
    refine J.ari ((j + 1 : Nat) : Int) (.add (x := j) (y := 1) (by omega) (by omega) (by omega)) ?_
    refine J.drop [(1, .one (.v (.func (.func f) #[] caps.toArray))), (5, .one (.v (.int .i64 i))), (6, .one (.ptr 0 0)), (10, .one (.v (.slice (some ⟨gm, 0, none⟩) ms.length k))), (11, .one (.v (.int .i64 ms.length))), (12, .one (.v (.int .i64 i))), (18, .one (.v (.slice (some ⟨gz, 0, none⟩) m.zs.length kz))), (19, .one (.v (.int .i64 m.zs.length))), (20, .one (.v (.int .i64 ((j + 1 : Nat) : Int))))] [⟨g6, 121, [.v (.slice (some ⟨gz, 0, none⟩) m.zs.length kz)]⟩] [⟨g8, 124, z.cs⟩] (fun w5 hk5 hr5 => ?_)
    have hx45 := hk4.same hk5 hr5
    have hk5' : Known [⟨g6, 121, [.v (.slice (some ⟨gz, 0, none⟩) m.zs.length kz)]⟩] w5 := known_one (hk5.get 0 rfl)
    have e2 : zonesR act i 0 m.zs s = zonesR act i (j + 1) (m.zs.drop (j + 1)) (act i j z t).2 := by
      rw [he2]
      show (if (act i j z t).1 ≠ 0 then _ else _) = _
      rw [if_neg (by simp [hz0])]
    exact J.at (fun a u h1 h2 hk hr => hq ⟨j + 1, (act i j z t).2⟩ a u h1 h2 hk ⟨by show j + 1 ≤ m.zs.length; omega, hx _ _ _ hs4 (hx45.trans (hk5'.same hk hr)), hc24.trans (.of_ext (hx45.trans (hk5'.same hk hr))), e2, by show (act i j z t).2.2 ≤ s.2 + (((j + 1) * 2 : Nat) : Int); omega⟩ (by show m.zs.length - (j + 1) < m.zs.length - j; omega))
end Go.Proofs.YtlhmpmmblnbmbaaGreat.Img
set_option linter.unusedVariables false
set_option linter.unusedSimpArgs false
set_option maxRecDepth 100000
namespace Go.Proofs.YtlhmpmmblnbmbaaGreat.Img
open Go.Proofs.YtlhmpmmblnbmbaaGreat.Sx Go.Proofs.YtlhmpmmblnbmbaaGreat.Byt Go.Proofs.YtlhmpmmblnbmbaaGreat.Dev Go.Proofs.YtlhmpmmblnbmbaaGreat.Pck Go.Proofs.YtlhmpmmblnbmbaaGreat.Cnf Go.Proofs.YtlhmpmmblnbmbaaGreat.Bus Go.Lib
def cA (m : Nat) (z : Int) (b : List Int) (s : Sg) : Int × Sg := match s.1[m]? with
  | some d => ((d.append z b).1, (s.1.set m (d.append z b).2, s.2 + 1))
  | none => (1, s)
def cFin (m : Nat) (z : Int) (s : Sg) : Int × Sg := match s.1[m]? with
  | some d => ((d.finish z).1, (s.1.set m (d.finish z).2, s.2 + 1))
  | none => (1, s)
def cFl (m : Nat) (s : Sg) : Int × Sg := match s.1[m]? with
  | some d => (d.flush.1, (s.1.set m d.flush.2, s.2 + 1))
  | none => (1, s)
def cK (m : Nat) (s : Sg) : Sg := match s.1[m]? with
  | some d => (s.1.set m { d with dead := true }, s.2)
  | none => s
def wr (m : Nat) (z : Int) (l : List Int) (s : Sg) : Int × Sg := if l = [] then (0, s) else cA m z l s
def actD (m z : Nat) (p : Pz) (s : Sg) : Int × Sg := if p.done = false then (0, s) else if (wr m z p.t.l s).1 ≠ 0 then wr m z p.t.l s else cFin m z (wr m z p.t.l s).2
def actS (block : Int) (m z : Nat) (p : Pz) (s : Sg) : Int × Sg := if p.done = true then (0, s) else wr m z ((p.t.l.drop 0).take ((p.safe * block).toNat - 0)) s
def actR (block : Int) (m z : Nat) (p : Pz) (s : Sg) : Int × Sg := if p.done = true then (0, s) else wr m z ((p.t.l.drop (p.safe * block).toNat).take ((p.wp * block).toNat - (p.safe * block).toNat)) s
theorem cA_cnt (m : Nat) (z : Int) (b : List Int) (s : Sg) : (cA m z b s).2.2 ≤ s.2 + 1 := by
  unfold cA
  split
  · exact Int.le_refl _
  · show s.2 ≤ s.2 + 1; omega
theorem cFin_cnt (m : Nat) (z : Int) (s : Sg) : (cFin m z s).2.2 ≤ s.2 + 1 := by
  unfold cFin
  split
  · exact Int.le_refl _
  · show s.2 ≤ s.2 + 1; omega
theorem wr_cnt (m : Nat) (z : Int) (b : List Int) (s : Sg) : (wr m z b s).2.2 ≤ s.2 + 1 := by
  unfold wr
  split
  · show s.2 ≤ s.2 + 1; omega
  · exact cA_cnt ..
theorem actD_cnt (m z : Nat) (p : Pz) (s : Sg) : (actD m z p s).2.2 ≤ s.2 + 2 := by
  have h1 := wr_cnt m z p.t.l s
  unfold actD
  split
  · show s.2 ≤ s.2 + 2; omega
  · split
    · omega
    · have := cFin_cnt m z (wr m z p.t.l s).2
      omega
theorem actS_cnt (block : Int) (m z : Nat) (p : Pz) (s : Sg) : (actS block m z p s).2.2 ≤ s.2 + 2 := by
  unfold actS
  split
  · show s.2 ≤ s.2 + 2; omega
  · have := wr_cnt m z ((p.t.l.drop 0).take ((p.safe * block).toNat - 0)) s
    omega
theorem actR_cnt (block : Int) (m z : Nat) (p : Pz) (s : Sg) : (actR block m z p s).2.2 ≤ s.2 + 2 := by
  unfold actR
  split
  · show s.2 ≤ s.2 + 2; omega
  · have := wr_cnt m z ((p.t.l.drop (p.safe * block).toNat).take ((p.wp * block).toNat - (p.safe * block).toNat)) s
    omega
def wrV (gb : Nat) : Value := .func (.func 82) #[] #[.pointer (some ⟨gb, 0, none⟩)]
/-- How members are laid: the bus, what is to be laid, the boxes. -/
structure LaySt (g : Nat) (O : Nat → Prop) (gb gw gc : Nat) (c : Cf) (b : Nat) (vl : Value) (ms : List Pm) (u : World) (s : Sg) : Prop where
  bus : BusC u g O s.1 s.2
  row : MRow u b vl ms
  len : s.1.length = ms.length
  bb : u.heap[gb]? = some (Obj.cells #[.pointer (some ⟨g, 0, none⟩)] 34 (0, 0))
  bw : u.heap[gw]? = some (Obj.cells #[wrV gb] 65 (0, 0))
  bc : CfAt u gc c
section
variable {g : Nat} {O : Nat → Prop} {gb gw gc : Nat} {c : Cf} {b : Nat} {vl : Value} {ms : List Pm} {u v : World} {s s' : Sg}
theorem LaySt.ext (h : LaySt g O gb gw gc c b vl ms u s) (hx : Ext u v) : LaySt g O gb gw gc c b vl ms v s := ⟨h.bus.ext hx, h.row.ext hx, h.len, hx.blk h.bb, hx.blk h.bw, hx.blk h.bc⟩
theorem LaySt.cmd (h : LaySt g O gb gw gc c b vl ms u s) (hb : BusC v g O s'.1 s'.2) (hl : s'.1.length = s.1.length) (hc : Chg O u v) : LaySt g O gb gw gc c b vl ms v s' := ⟨hb, ⟨ownsRow_chg h.row.own hc (fun k hk ho => by
    obtain ⟨cs, hb2, _⟩ := own_ty h.row.own hk
    exact notO h.bus hb2 (by show 121 ≠ _; decide) (by show 121 ≠ _; decide) (by show 121 ≠ _; decide) (by show 121 ≠ _; decide) (by show 121 ≠ _; decide) ho), fun m hm => (h.row.mem m hm).chg hc (fun k cs _ ho hb2 => notO h.bus hb2 (by show 124 ≠ _; decide) (by show 124 ≠ _; decide) (by show 124 ≠ _; decide) (by show 124 ≠ _; decide) (by show 124 ≠ _; decide) ho) (fun k cs fz ho hb2 => h.bus.far k cs fz ho hb2), h.row.nil⟩, hl.trans h.len, hc.blk h.bb (notO h.bus h.bb (by show 34 ≠ _; decide) (by show 34 ≠ _; decide) (by show 34 ≠ _; decide) (by show 34 ≠ _; decide) (by show 34 ≠ _; decide)), hc.blk h.bw (notO h.bus h.bw (by show 65 ≠ _; decide) (by show 65 ≠ _; decide) (by show 65 ≠ _; decide) (by show 65 ≠ _; decide) (by show 65 ≠ _; decide)), hc.blk h.bc (notO h.bus h.bc (by show 23 ≠ _; decide) (by show 23 ≠ _; decide) (by show 23 ≠ _; decide) (by show 23 ≠ _; decide) (by show 23 ≠ _; decide))⟩
/-- Blocks of other types than the bus' are kept by its commands. -/
theorem known_bus {L : List Blk} (h : BusC u g O s.1 s.2) (hK : Known L u) (hc : Chg O u v) (ht : (L.all fun x => !Nat.beq x.ty 83 && !Nat.beq x.ty 97 && !Nat.beq x.ty 3 && !Nat.beq x.ty 133 && !Nat.beq x.ty 137) = true) : Known L v := hK.chg hc (fun x hx ho => by
  obtain ⟨i, hi⟩ := List.mem_iff_getElem?.1 hx
  have h1 := hK.1 i x hi
  have h2 := List.all_eq_true.1 ht x hx
  simp only [Bool.and_eq_true] at h2
  obtain ⟨⟨⟨⟨a1, a2⟩, a3⟩, a4⟩, a5⟩ := h2
  have key : ∀ t, (!Nat.beq x.ty t) = true → x.ty ≠ t := fun t ht e => by rw [e, Nat.beq_refl] at ht; cases ht
  exact notO h h1 (key _ a1) (key _ a2) (key _ a3) (key _ a4) (key _ a5) ho)
theorem lay1_c (h : LaySt g O gb gw gc c b vl ms u s) (hn : s.2 ≤ 3000000) (hml : ms.length ≤ 16) (m : Nat) (z : Int) (hm : m < ms.length) (p : Part) (hp : PAt u p) (hB : IsB p.l) : Calls Tryz.prog 82 #[.int .i64 m, .int .i64 z, p.val, .pointer (some ⟨gb, 0, none⟩)] u fun e u' => e = .returned (.int .i64 (wr m z p.l s).1) ∧ LaySt g O gb gw gc c b vl ms u' (wr m z p.l s).2 ∧ Chg O u u' := by
  have hpl := hp.len
  have hk0 : Known [⟨gb, 34, [.v (.pointer (some ⟨g, 0, none⟩))]⟩] u := known_one h.bb
  refine J.enter Tryz.func82 rfl [⟨gb, 34, [.v (.pointer (some ⟨g, 0, none⟩))]⟩] [.one (.v (.int .i64 m)), .one (.v (.int .i64 z)), .one (.v p.val), .one (.ptr 0 0)] 16 hk0 ?_
  by_cases h0 : p.n = 0
  · have hnil : p.l = [] := List.length_eq_zero_iff.1 (hpl.trans h0)
    refine J.brt ((p.n : Int) == 0) (by simp [h0]) ?_
    refine J.ret (.one (.v (.int .i64 0))) [⟨gb, 34, [.v (.pointer (some ⟨g, 0, none⟩))]⟩] (fun w1 hk hr => ?_)
    have hx := hk0.same hk hr
    unfold wr
    rw [if_pos hnil]
    exact ⟨rfl, h.ext hx, .of_ext hx⟩
  · have hnil : p.l ≠ [] := fun e => h0 (by rw [← hpl, e]; rfl)
    refine J.brf ((p.n : Int) == 0) (by simp [h0]) ?_
    refine J.call Tryz.func29 [.one (.v (.pointer (some ⟨g, 0, none⟩))), .one (.v (.int .i64 m)), .one (.v (.int .i64 z)), .one (.v p.val)] [⟨gb, 34, [.v (.pointer (some ⟨g, 0, none⟩))]⟩] (fun w1 hk hr => ?_)
    have hx1 := hk0.same hk hr
    have h1 := h.ext hx1
    obtain ⟨d, hd⟩ : ∃ d, s.1[m]? = some d := ⟨_, List.getElem?_eq_getElem (by rw [h.len]; exact hm)⟩
    refine (c_append h1.bus (by omega) (by rw [h.len]; omega) m hd z p (hp.ext hx1) hB).mono ?_
    rintro e w2 ⟨rfl, hb2, hc2⟩
    have hk2 := known_bus h1.bus hk hc2 rfl
    refine ⟨.one (.v (.int .i64 (d.append z p.l).1)), _, rfl, rfl, hk2, ?_⟩
    refine J.ret (.one (.v (.int .i64 (d.append z p.l).1))) [⟨gb, 34, [.v (.pointer (some ⟨g, 0, none⟩))]⟩] (fun w3 hk3 hr3 => ?_)
    have hx3 := hk2.same hk3 hr3
    have e1 : wr m z p.l s = ((d.append z p.l).1, (s.1.set m (d.append z p.l).2, s.2 + 1)) := by unfold wr; rw [if_neg hnil]; unfold cA; rw [hd]
    rw [e1]
    exact ⟨rfl, (h1.cmd (s' := (s.1.set m (d.append z p.l).2, s.2 + 1)) hb2 (List.length_set ..) hc2).ext hx3, ((Chg.of_ext hx1).trans hc2).trans (.of_ext hx3)⟩
/-- A zone of what is to be laid. -/
theorem LaySt.zone (h : LaySt g O gb gw gc c b vl ms u s) {i j : Nat} {m : Pm} {z : Pz} (hi : ms[i]? = some m) (hj : m.zs[j]? = some z) : PAt u z.t := (h.row.mem m (List.mem_of_getElem? hi)).txt z (List.mem_of_getElem? hj)
theorem lay2_c (h : LaySt g O gb gw gc c b vl ms u s) (hn : s.2 ≤ 2000000) (hml : ms.length ≤ 16) {i j : Nat} {m : Pm} {z : Pz} (hi : ms[i]? = some m) (hj : m.zs[j]? = some z) (hz : z.Ok c) : Calls Tryz.prog 83 #[.int .i64 i, .int .i64 j, z.val, .pointer (some ⟨gw, 0, none⟩), .pointer (some ⟨gb, 0, none⟩)] u fun e u' => e = .returned (.int .i64 (actD i j z s).1) ∧ LaySt g O gb gw gc c b vl ms u' (actD i j z s).2 ∧ Chg O u u' := by
  have him : i < ms.length := (List.getElem?_eq_some_iff.1 hi).1
  have hne : gw ≠ gb := ne_ty h.bw h.bb (by decide)
  have hk0 : Known [⟨gw, 65, [.v (wrV gb)]⟩, ⟨gb, 34, [.v (.pointer (some ⟨g, 0, none⟩))]⟩] u := known_two h.bw h.bb hne
  refine J.enter Tryz.func83 rfl [⟨gw, 65, [.v (wrV gb)]⟩, ⟨gb, 34, [.v (.pointer (some ⟨g, 0, none⟩))]⟩] [.one (.v (.int .i64 i)), .one (.v (.int .i64 j)), .agg z.cs, .one (.ptr 0 0), .one (.ptr 1 0)] 27 hk0 ?_
  refine J.new 124 z.cs [⟨gw, 65, [.v (wrV gb)]⟩, ⟨gb, 34, [.v (.pointer (some ⟨g, 0, none⟩))]⟩] (fun g7 hg7 hn7 => ?_)
  by_cases hd : z.done = true
  rotate_left
  · replace hd : z.done = false := by simpa using hd
    refine J.brt (!z.done) (by rw [hd]; rfl) ?_
    refine J.ret (.one (.v (.int .i64 0))) [⟨gw, 65, [.v (wrV gb)]⟩, ⟨gb, 34, [.v (.pointer (some ⟨g, 0, none⟩))]⟩, ⟨g7, 124, z.cs⟩] (fun w1 hk1 hr1 => ?_)
    have hx := hk0.same2 (M := [⟨g7, 124, z.cs⟩]) hk1 hr1 (mem1 hg7)
    unfold actD
    rw [if_pos hd]
    exact ⟨rfl, h.ext hx, .of_ext hx⟩
  refine J.brf (!z.done) (by rw [hd]; rfl) ?_
  refine J.call Tryz.func82 [.one (.v (.int .i64 i)), .one (.v (.int .i64 j)), .one (.v z.t.val), .one (.v (.pointer (some ⟨gb, 0, none⟩)))] [⟨gw, 65, [.v (wrV gb)]⟩, ⟨gb, 34, [.v (.pointer (some ⟨g, 0, none⟩))]⟩, ⟨g7, 124, z.cs⟩] (fun w1 hk1 hr1 => ?_)
  have hx1 := hk0.same2 (M := [⟨g7, 124, z.cs⟩]) hk1 hr1 (mem1 hg7)
  have h1 := h.ext hx1
  refine (lay1_c h1 (by omega) hml i (j : Int) him z.t (h1.zone hi hj) hz.rng).mono ?_
  rintro e w2 ⟨rfl, h2, hc2⟩
  have hcn := wr_cnt i (j : Int) z.t.l s
  have hk2 := known_bus h1.bus hk1 hc2 rfl
  refine ⟨.one (.v (.int .i64 (wr i (j : Int) z.t.l s).1)), _, rfl, rfl, hk2, ?_⟩
  have hch : Chg O u w2 := (Chg.of_ext hx1).trans hc2
  by_cases h0 : (wr i (j : Int) z.t.l s).1 = 0
  rotate_left
  · refine J.brt ((wr i (j : Int) z.t.l s).1 != 0) (by simp [h0]) ?_
    refine J.ret (.one (.v (.int .i64 (wr i (j : Int) z.t.l s).1))) [⟨gw, 65, [.v (wrV gb)]⟩, ⟨gb, 34, [.v (.pointer (some ⟨g, 0, none⟩))]⟩, ⟨g7, 124, z.cs⟩] (fun w3 hk3 hr3 => ?_)
    have hx3 := hk2.same hk3 hr3
    unfold actD
    rw [if_neg (by simp [hd]), if_pos h0]
    exact ⟨rfl, h2.ext hx3, hch.trans (.of_ext hx3)⟩
  refine J.brf ((wr i (j : Int) z.t.l s).1 != 0) (by simp [h0]) ?_
  have hea : actD i j z s = cFin i (j : Int) (wr i (j : Int) z.t.l s).2 := by
    unfold actD
    rw [if_neg (by simp [hd]), if_neg (by simp [h0])]
  rw [hea]
  generalize (wr i (j : Int) z.t.l s).2 = s2 at *
  refine J.call Tryz.func33 [.one (.v (.pointer (some ⟨g, 0, none⟩))), .one (.v (.int .i64 i)), .one (.v (.int .i64 j))] [⟨gw, 65, [.v (wrV gb)]⟩, ⟨gb, 34, [.v (.pointer (some ⟨g, 0, none⟩))]⟩, ⟨g7, 124, z.cs⟩] (fun w3 hk3 hr3 => ?_)
  have hx3 := hk2.same hk3 hr3
  have h3 := h2.ext hx3
  obtain ⟨d, hdd⟩ : ∃ d, s2.1[i]? = some d := ⟨_, List.getElem?_eq_getElem (by rw [h3.len]; exact him)⟩
  refine (c_finish h3.bus (by omega) (by rw [h3.len]; omega) i hdd (j : Int)).mono ?_
  rintro e w4 ⟨rfl, hb4, hc4⟩
  have hk4 := known_bus h3.bus hk3 hc4 rfl
  refine ⟨.one (.v (.int .i64 (d.finish (j : Int)).1)), _, rfl, rfl, hk4, ?_⟩
  refine J.ret (.one (.v (.int .i64 (d.finish (j : Int)).1))) [⟨gw, 65, [.v (wrV gb)]⟩, ⟨gb, 34, [.v (.pointer (some ⟨g, 0, none⟩))]⟩, ⟨g7, 124, z.cs⟩] (fun w5 hk5 hr5 => ?_)
  have hx5 := hk4.same hk5 hr5
  have e1 : cFin i (j : Int) s2 = ((d.finish (j : Int)).1, (s2.1.set i (d.finish (j : Int)).2, s2.2 + 1)) := by unfold cFin; rw [hdd]
  rw [e1]
  exact ⟨rfl, (h3.cmd (s' := (s2.1.set i (d.finish (j : Int)).2, s2.2 + 1)) hb4 (List.length_set ..) hc4).ext hx5, (((hch.trans (.of_ext hx3)).trans hc4)).trans (.of_ext hx5)⟩
theorem lay3_c (h : LaySt g O gb gw gc c b vl ms u s) (hn : s.2 ≤ 2000000) (hml : ms.length ≤ 16) {i j : Nat} {m : Pm} {z : Pz} (hi : ms[i]? = some m) (hj : m.zs[j]? = some z) (hz : z.Ok c) (hcb : 1 ≤ c.block ∧ c.block ≤ 4096) : Calls Tryz.prog 84 #[.int .i64 i, .int .i64 j, z.val, .pointer (some ⟨gw, 0, none⟩), .pointer (some ⟨gc, 0, none⟩)] u fun e u' => e = .returned (.int .i64 (actS c.block i j z s).1) ∧ LaySt g O gb gw gc c b vl ms u' (actS c.block i j z s).2 ∧ Chg O u u' := by
  have him : i < ms.length := (List.getElem?_eq_some_iff.1 hi).1
  have hne : gw ≠ gc := ne_ty h.bw h.bc (by decide)
  have hk0 : Known [⟨gw, 65, [.v (wrV gb)]⟩, ⟨gc, 23, c.cs⟩] u := known_two h.bw h.bc hne
  have q1 := hz.safe0; have q2 := hz.safe1; have q3 := hz.wp0
  have hs0 : 0 ≤ z.safe * c.block := Int.mul_nonneg q1 (by omega)
  have hw0 : z.safe * c.block ≤ z.wp * c.block := Int.mul_le_mul_of_nonneg_right q2 (by omega)
  have hlen := hz.len
  have htn : z.t.l.length = z.t.n := (h.zone hi hj).len
  obtain ⟨xs, hxs⟩ : ∃ xs : Nat, z.safe * c.block = (xs : Int) := ⟨(z.safe * c.block).toNat, by omega⟩
  obtain ⟨xw, hxw⟩ : ∃ xw : Nat, z.wp * c.block = (xw : Int) := ⟨(z.wp * c.block).toNat, by omega⟩
  refine J.enter Tryz.func84 rfl [⟨gw, 65, [.v (wrV gb)]⟩, ⟨gc, 23, c.cs⟩] [.one (.v (.int .i64 i)), .one (.v (.int .i64 j)), .agg z.cs, .one (.ptr 0 0), .one (.ptr 1 0)] 24 hk0 ?_
  refine J.new 124 z.cs [⟨gw, 65, [.v (wrV gb)]⟩, ⟨gc, 23, c.cs⟩] (fun g7 hg7 hn7 => ?_)
  by_cases hd : z.done = true
  · refine J.brt z.done hd ?_
    refine J.ret (.one (.v (.int .i64 0))) [⟨gw, 65, [.v (wrV gb)]⟩, ⟨gc, 23, c.cs⟩, ⟨g7, 124, z.cs⟩] (fun w1 hk1 hr1 => ?_)
    have hx := hk0.same2 (M := [⟨g7, 124, z.cs⟩]) hk1 hr1 (mem1 hg7)
    unfold actS
    rw [if_pos hd]
    exact ⟨rfl, h.ext hx, .of_ext hx⟩
  refine J.brf z.done (by simpa using hd) ?_
  have hea : actS c.block i j z s = wr i (j : Int) ((z.t.l.drop 0).take (xs - 0)) s := by
    unfold actS
    rw [if_neg hd, hxs]; simp
  rw [hea]
  refine J.drwU (E := Ext) [] 11 [] [] [(10, fun v u2 => ∃ p : Part, v = p.val ∧ PAt u2 p ∧ p.l = (z.t.l.drop 0).take (xs - 0))] [⟨gw, 65, [.v (wrV gb)]⟩, ⟨gc, 23, c.cs⟩, ⟨g7, 124, z.cs⟩] .exts (fun _ _ _ _ _ => .nil) (fun _ _ _ => .nil)
    (fun wb hkb hrb => .cons (UAt.call Tryz.func85 [.one (.v z.t.val), .one (.v (.int .i64 0)), .one (.v (.int .i64 z.safe)), .one (.v (.int .i64 c.block))] (fun u2 hku hgu _ => by
      have hxu : Ext u u2 := (hk0.same2 (M := [⟨g7, 124, z.cs⟩]) hkb hrb (mem1 hg7)).trans hgu
      refine (part_c z.t 0 z.safe c.block 0 xs u2 ((h.zone hi hj).ext hxu) hz.cap (by simp) hxs (by omega) (by omega)).mono ?_
      rintro e u3 ⟨v3, rfl, hb3⟩
      obtain ⟨p3, e3, _, l3, a3⟩ := hb3.pat (by rw [List.length_take, List.length_drop]; have := (h.zone hi hj).le; omega)
      exact ⟨v3, rfl, hb3.1, p3, e3, a3, l3⟩)) (fun v u1 u2 ⟨p, e, a, l⟩ hx => ⟨p, e, a.ext hx, l⟩) trivial .nil) ?_
  rintro wb w1 hkb hrb hx1 hk1 v1 ⟨p1, rfl, hp1, hpl1⟩
  show SX _ _ _ _ _
  have hxw1 : Ext u w1 := (hk0.same2 (M := [⟨g7, 124, z.cs⟩]) hkb hrb (mem1 hg7)).trans hx1
  refine J.call Tryz.func82 [.one (.v (.int .i64 i)), .one (.v (.int .i64 j)), .one (.v p1.val), .one (.v (.pointer (some ⟨gb, 0, none⟩)))] [⟨gw, 65, [.v (wrV gb)]⟩, ⟨gc, 23, c.cs⟩, ⟨g7, 124, z.cs⟩] (fun w2 hk2 hr2 => ?_)
  have hx2 := hxw1.trans (hk1.same hk2 hr2)
  have h2 := h.ext hx2
  refine (lay1_c h2 (by omega) hml i (j : Int) him p1 (hp1.ext (hk1.same hk2 hr2)) (by rw [hpl1]; exact hz.rng.sub _ _)).mono ?_
  rw [hpl1]
  rintro e w3 ⟨rfl, h3, hc3⟩
  have hk3 := known_bus h2.bus hk2 hc3 rfl
  refine ⟨.one (.v (.int .i64 (wr i (j : Int) ((z.t.l.drop 0).take (xs - 0)) s).1)), _, rfl, rfl, hk3, ?_⟩
  refine J.ret (.one (.v (.int .i64 (wr i (j : Int) ((z.t.l.drop 0).take (xs - 0)) s).1))) [⟨gw, 65, [.v (wrV gb)]⟩, ⟨gc, 23, c.cs⟩, ⟨g7, 124, z.cs⟩] (fun w4 hk4 hr4 => ?_)
  have hx4 := hk3.same hk4 hr4
  exact ⟨rfl, h3.ext hx4, ((Chg.of_ext hx2).trans hc3).trans (.of_ext hx4)⟩
theorem lay4_c (h : LaySt g O gb gw gc c b vl ms u s) (hn : s.2 ≤ 2000000) (hml : ms.length ≤ 16) {i j : Nat} {m : Pm} {z : Pz} (hi : ms[i]? = some m) (hj : m.zs[j]? = some z) (hz : z.Ok c) (hcb : 1 ≤ c.block ∧ c.block ≤ 4096) : Calls Tryz.prog 86 #[.int .i64 i, .int .i64 j, z.val, .pointer (some ⟨gw, 0, none⟩), .pointer (some ⟨gc, 0, none⟩)] u fun e u' => e = .returned (.int .i64 (actR c.block i j z s).1) ∧ LaySt g O gb gw gc c b vl ms u' (actR c.block i j z s).2 ∧ Chg O u u' := by
  have him : i < ms.length := (List.getElem?_eq_some_iff.1 hi).1
  have hne : gw ≠ gc := ne_ty h.bw h.bc (by decide)
  have hk0 : Known [⟨gw, 65, [.v (wrV gb)]⟩, ⟨gc, 23, c.cs⟩] u := known_two h.bw h.bc hne
  have q1 := hz.safe0; have q2 := hz.safe1; have q3 := hz.wp0
  have hs0 : 0 ≤ z.safe * c.block := Int.mul_nonneg q1 (by omega)
  have hw0 : z.safe * c.block ≤ z.wp * c.block := Int.mul_le_mul_of_nonneg_right q2 (by omega)
  have hlen := hz.len
  have htn : z.t.l.length = z.t.n := (h.zone hi hj).len
  obtain ⟨xs, hxs⟩ : ∃ xs : Nat, z.safe * c.block = (xs : Int) := ⟨(z.safe * c.block).toNat, by omega⟩
  obtain ⟨xw, hxw⟩ : ∃ xw : Nat, z.wp * c.block = (xw : Int) := ⟨(z.wp * c.block).toNat, by omega⟩
  refine J.enter Tryz.func86 rfl [⟨gw, 65, [.v (wrV gb)]⟩, ⟨gc, 23, c.cs⟩] [.one (.v (.int .i64 i)), .one (.v (.int .i64 j)), .agg z.cs, .one (.ptr 0 0), .one (.ptr 1 0)] 27 hk0 ?_
  refine J.new 124 z.cs [⟨gw, 65, [.v (wrV gb)]⟩, ⟨gc, 23, c.cs⟩] (fun g7 hg7 hn7 => ?_)
  by_cases hd : z.done = true
  · refine J.brt z.done hd ?_
    refine J.ret (.one (.v (.int .i64 0))) [⟨gw, 65, [.v (wrV gb)]⟩, ⟨gc, 23, c.cs⟩, ⟨g7, 124, z.cs⟩] (fun w1 hk1 hr1 => ?_)
    have hx := hk0.same2 (M := [⟨g7, 124, z.cs⟩]) hk1 hr1 (mem1 hg7)
    unfold actR
    rw [if_pos hd]
    exact ⟨rfl, h.ext hx, .of_ext hx⟩
  refine J.brf z.done (by simpa using hd) ?_
  have hea : actR c.block i j z s = wr i (j : Int) ((z.t.l.drop xs).take (xw - xs)) s := by
    unfold actR
    rw [if_neg hd, hxs, hxw]; simp
  rw [hea]
  refine J.drwU (E := Ext) [] 14 [] [] [(13, fun v u2 => ∃ p : Part, v = p.val ∧ PAt u2 p ∧ p.l = (z.t.l.drop xs).take (xw - xs))] [⟨gw, 65, [.v (wrV gb)]⟩, ⟨gc, 23, c.cs⟩, ⟨g7, 124, z.cs⟩] .exts (fun _ _ _ _ _ => .nil) (fun _ _ _ => .nil)
    (fun wb hkb hrb => .cons (UAt.call Tryz.func85 [.one (.v z.t.val), .one (.v (.int .i64 z.safe)), .one (.v (.int .i64 z.wp)), .one (.v (.int .i64 c.block))] (fun u2 hku hgu _ => by
      have hxu : Ext u u2 := (hk0.same2 (M := [⟨g7, 124, z.cs⟩]) hkb hrb (mem1 hg7)).trans hgu
      refine (part_c z.t z.safe z.wp c.block xs xw u2 ((h.zone hi hj).ext hxu) hz.cap hxs hxw (by omega) (by omega)).mono ?_
      rintro e u3 ⟨v3, rfl, hb3⟩
      obtain ⟨p3, e3, _, l3, a3⟩ := hb3.pat (by rw [List.length_take, List.length_drop]; have := (h.zone hi hj).le; omega)
      exact ⟨v3, rfl, hb3.1, p3, e3, a3, l3⟩)) (fun v u1 u2 ⟨p, e, a, l⟩ hx => ⟨p, e, a.ext hx, l⟩) trivial .nil) ?_
  rintro wb w1 hkb hrb hx1 hk1 v1 ⟨p1, rfl, hp1, hpl1⟩
  show SX _ _ _ _ _
  have hxw1 : Ext u w1 := (hk0.same2 (M := [⟨g7, 124, z.cs⟩]) hkb hrb (mem1 hg7)).trans hx1
  refine J.call Tryz.func82 [.one (.v (.int .i64 i)), .one (.v (.int .i64 j)), .one (.v p1.val), .one (.v (.pointer (some ⟨gb, 0, none⟩)))] [⟨gw, 65, [.v (wrV gb)]⟩, ⟨gc, 23, c.cs⟩, ⟨g7, 124, z.cs⟩] (fun w2 hk2 hr2 => ?_)
  have hx2 := hxw1.trans (hk1.same hk2 hr2)
  have h2 := h.ext hx2
  refine (lay1_c h2 (by omega) hml i (j : Int) him p1 (hp1.ext (hk1.same hk2 hr2)) (by rw [hpl1]; exact hz.rng.sub _ _)).mono ?_
  rw [hpl1]
  rintro e w3 ⟨rfl, h3, hc3⟩
  have hk3 := known_bus h2.bus hk2 hc3 rfl
  refine ⟨.one (.v (.int .i64 (wr i (j : Int) ((z.t.l.drop xs).take (xw - xs)) s).1)), _, rfl, rfl, hk3, ?_⟩
  refine J.ret (.one (.v (.int .i64 (wr i (j : Int) ((z.t.l.drop xs).take (xw - xs)) s).1))) [⟨gw, 65, [.v (wrV gb)]⟩, ⟨gc, 23, c.cs⟩, ⟨g7, 124, z.cs⟩] (fun w4 hk4 hr4 => ?_)
  have hx4 := hk3.same hk4 hr4
  exact ⟨rfl, h3.ext hx4, ((Chg.of_ext hx2).trans hc3).trans (.of_ext hx4)⟩
end
end Go.Proofs.YtlhmpmmblnbmbaaGreat.Img
