/- The cache's map: a list of entries under one block, and what Go's operations on it give. -/
import Derived.Test.YtlhmpmmblnbmbaaPCachePlaysx0
import Derived.Test.YtlhmpmmblnbmbaaKe
import Derived.Maps.RangeWalk
import Derived.Maps.OwnSet
import Derived.Maps.OwnOps
import Derived.DeepKeys4
namespace Go.Proofs.Ytlhmpmmblnbmbaa.Cac
open Go Go.RowKit Go.Proofs.Ytlhmpmmblnbmbaa.PCachePlays Go.Proofs.YtlhmpmmblnbmbaaW.PrintWords Go.Proofs.YtlhmpmmblnbmbaaW.PrintLast Go.Proofs.YtlhmpmmblnbmbaaW.PrintMore
theorem c36 : Try.prog.cellsOf 36 = 3 := by kernel_rfl
theorem c3 : Try.prog.cellsOf 3 = 1 := by kernel_rfl
theorem kt36 : Try.prog.keyType 36 = true := by kernel_rfl
theorem kt36' : Try.prog.keyTypeAt 5 36 = true := by kernel_rfl
theorem laidOut : laidOutB Try.prog = true := by kernel_rfl
theorem law36 : Maps.Keyed Try.prog 36 := Maps.Keyed.of_law (deep_law_laid laidOut (m := 5) (by decide) (of_decide_eq_true (by kernel_rfl)) kt36' (by rw [Try.underlying36]))
def wf64 (i : Int) : Prop := (Lit.int .i64 i).wf = true
def kv (k : S36) : Value := .agg #[.int .i64 k.f0, .int .i64 k.f1, .int .i64 k.f2]
def kl (k : S36) : Lit := .string (keyBytes [.int .i64 k.f0, .int .i64 k.f1, .int .i64 k.f2])
def G36 (k : S36) : Prop := wf64 k.f0 ∧ wf64 k.f1 ∧ wf64 k.f2
theorem kl_is {k : S36} (h : G36 k) : keyOf Try.prog 36 (kv k) = some (kl k) := by
  obtain ⟨h0, h1, h2⟩ := h
  unfold wf64 at h0 h1 h2
  unfold keyOf
  simp only [Try.underlying36]
  rw [if_pos (by rw [kt36]; simp [kv, Value.formed, Try.underlying36, c36])]
  obtain ⟨m, hm⟩ : ∃ m, Try.prog.types.size + 1 = m + 1 + 1 := ⟨Try.prog.types.size - 1, by
    have : 0 < Try.prog.types.size := of_decide_eq_true (by kernel_rfl)
    omega⟩
  rw [hm]
  have h3 : ∀ i, (Lit.int .i64 i).wf = true → Try.prog.keyLits (m + 1) 3 [.int .i64 i] = some [.int .i64 i] := fun i hi => by
    unfold Program.keyLits
    simp only [Try.underlying3]
    simp [hi]
  unfold Program.keyLits
  simp only [Try.underlying36]
  rw [if_pos (by rw [c36]; exact ⟨rfl, by kernel_rfl⟩)]
  simp [kv, kl, Value.cells, c3, h3, h0, h1, h2]
theorem kv_inj {a b : S36} (h : kv a = kv b) : a = b := by
  cases a; cases b
  simp only [kv, Value.agg.injEq, Array.mk.injEq, List.cons.injEq, Value.int.injEq, and_true, true_and] at h
  obtain ⟨rfl, rfl, rfl⟩ := h; rfl
theorem kl_inj {a b : S36} (ha : G36 a) (hb : G36 b) (h : kl a = kl b) : a = b := kv_inj (law36.inj (kl_is ha) (h ▸ kl_is hb))
structure Ent where
  k : S36
  v : Value
  d : List Int
  u : Int
def ev (e : Ent) : Value := .agg #[e.v, .int .i64 e.u]
def same (a b : S36) : Bool := (a.f0 == b.f0) && (a.f1 == b.f1) && (a.f2 == b.f2)
theorem same_iff {a b : S36} : same a b = true ↔ a = b := by
  cases a; cases b
  simp [same, and_assoc]
theorem same_ne {a b : S36} : same a b = false ↔ a ≠ b := by
  rw [← Bool.not_eq_true, same_iff]
def entR (v : Value) : Option (DataW Value × List MemPlace) := some (.held v, [])
def encE (e : Ent) : Lit × DataW Value := (kl e.k, .held (ev e))
def D (m : List Ent) : DataW Value := .map ((m.map encE).foldr DataW.insert [])
/-- Entries with keys that are keys, no two the same. -/
def Keyd (m : List Ent) : Prop := (∀ e ∈ m, G36 e.k) ∧ m.Pairwise (fun a b => a.k ≠ b.k)
def MapIs (w : World) (b : Nat) (m : List Ent) : Prop := w.ownsMap Try.prog 36 entR b m.length (D m) ∧ Keyd m
def wo (k : S36) (m : List Ent) : List Ent := m.filter fun e => !same e.k k
def at_ (k : S36) (m : List Ent) : Option Ent := m.find? fun e => same e.k k
theorem wo_sub {k : S36} {m : List Ent} : (wo k m).Sublist m := List.filter_sublist
theorem keyd_sub {m l : List Ent} (h : Keyd m) (hs : l.Sublist m) : Keyd l := ⟨fun e he => h.1 e (hs.subset he), h.2.sublist hs⟩
theorem keyd_cons {e : Ent} {m : List Ent} (h : Keyd m) (hg : G36 e.k) : Keyd (e :: wo e.k m) := by
  have h2 := keyd_sub h (wo_sub (k := e.k))
  refine ⟨fun x hx => (List.mem_cons.1 hx).elim (fun h => h ▸ hg) (h2.1 x), List.pairwise_cons.2 ⟨fun x hx => ?_, h2.2⟩⟩
  have := (List.mem_filter.1 hx).2
  rw [Bool.not_eq_true', same_ne] at this
  exact fun h => this h.symm
theorem kd_keys {m : List Ent} (h : Keyd m) : Maps.Keys (Maps.KeysOf Try.prog 36) (m.map encE) := by
  intro p hp
  obtain ⟨e, he, rfl⟩ := List.mem_map.1 hp
  exact ⟨kv e.k, kl_is (h.1 e he)⟩
theorem kd_apart {m : List Ent} (h : Keyd m) : (m.map encE).Pairwise (fun p q => p.1 ≠ q.1) := by
  rw [List.pairwise_map]
  exact h.2.imp_of_mem (fun {a b} ha hb hab hq => hab (kl_inj (h.1 a ha) (h.1 b hb) hq))
theorem kd_filter {k : S36} (hk : G36 k) : ∀ {m : List Ent}, Keyd m → (m.map encE).filter (ChangeMaps.notKey (kl k)) = (wo k m).map encE
  | [], _ => rfl
  | e :: m, h => by
    have ih := kd_filter hk (keyd_sub h (List.sublist_cons_self e m))
    unfold wo at ih ⊢
    rw [List.map_cons, List.filter_cons, List.filter_cons, ih]
    have hks : (kl e.k).sameKey (kl k) = same e.k k := by
      by_cases hs : e.k = k
      · rw [hs, same_iff.2 rfl]; exact WideAt.sameKey_self (law36.key (kl_is hk))
      · rw [same_ne.2 hs]
        cases hq : (kl e.k).sameKey (kl k) with
        | false => rfl
        | true => exact absurd (kl_inj (h.1 e (by simp)) hk (WideAt.sameKey_eq hq)) hs
    show (if (!(kl e.k).sameKey (kl k)) = true then _ else _) = _
    rw [hks]
    split <;> rfl
theorem D_put {e : Ent} {m : List Ent} (h : Keyd m) (hg : G36 e.k) : (D m).put (kl e.k) (.held (ev e)) = D (e :: wo e.k m) := by
  show DataW.map (ChangeMaps.putKey (kl e.k) (.held (ev e)) _) = _
  rw [← Maps.sorted_put law36.one ⟨_, kl_is hg⟩ (kd_keys h) (kd_apart h) (E' := encE e :: (m.map encE).filter (ChangeMaps.notKey (kl e.k))) (List.Perm.refl _), kd_filter hg h]
  rfl
theorem D_del {k : S36} {m : List Ent} (h : Keyd m) (hk : G36 k) : (D m).del (kl k) = D (wo k m) := by
  show DataW.map (ChangeMaps.delKey (kl k) _) = _
  rw [← Maps.sorted_del law36.one (kd_keys h) (kd_apart h) (E' := (m.map encE).filter (ChangeMaps.notKey (kl k))) (List.Perm.refl _), kd_filter hk h]
  rfl
theorem D_size (m : List Ent) : Maps.size (D m) = m.length := by
  show (((m.map encE).foldr DataW.insert []) : List _).length = _
  rw [length_sorted, List.length_map]
theorem D_sorted {m : List Ent} (h : Keyd m) : ((m.map encE).foldr DataW.insert []).Pairwise (fun p q => p.1 ≠ q.1) :=
  ((WideShapes.sorted_perm (m.map encE)).symm.pairwise_iff (fun {a b} (h : a.1 ≠ b.1) => h.symm)).1 (kd_apart h)
theorem D_at {e : Ent} {m : List Ent} (h : Keyd m) (he : e ∈ m) (zd : DataW Value) : (D m).atKey (kl e.k) zd = .held (ev e) :=
  WideAt.atKey_mem zd (law36.key (kl_is (h.1 e he))) (D_sorted h) (mem_sorted.2 (List.mem_map.2 ⟨e, he, rfl⟩))
theorem D_none {k : S36} {m : List Ent} (h : Keyd m) (hk : G36 k) (hn : at_ k m = none) (zd : DataW Value) : (D m).atKey (kl k) zd = zd := by
  refine WideAt.atKey_none zd (fun p hp hq => ?_)
  obtain ⟨e, he, rfl⟩ := List.mem_map.1 (mem_sorted.1 hp)
  have := List.find?_eq_none.1 hn e he
  exact this (same_iff.2 (kl_inj (h.1 e he) hk hq))
theorem at_mem {k : S36} {m : List Ent} {e : Ent} (h : at_ k m = some e) : e ∈ m ∧ e.k = k := ⟨List.mem_of_find?_eq_some h, same_iff.1 (List.find?_some (p := fun e : Ent => same e.k k) h)⟩
theorem pair_eq : ∀ {m : List Ent}, m.Pairwise (fun a b => a.k ≠ b.k) → ∀ {a b : Ent}, a ∈ m → b ∈ m → a.k = b.k → a = b
  | [], _, _, _, h, _, _ => by cases h
  | x :: m, hp, a, b, ha, hb, e => by
    obtain ⟨h1, h2⟩ := List.pairwise_cons.1 hp
    rcases List.mem_cons.1 ha with ha | ha <;> rcases List.mem_cons.1 hb with hb | hb
    · rw [ha, hb]
    · exact absurd (ha ▸ e) (h1 b hb)
    · exact absurd (hb ▸ e).symm (h1 a ha)
    · exact pair_eq h2 ha hb e
theorem at_of {m : List Ent} {e : Ent} (h : Keyd m) (he : e ∈ m) : at_ e.k m = some e := by
  cases hq : at_ e.k m with
  | none => exact absurd (same_iff.2 rfl) (List.find?_eq_none.1 hq e he)
  | some e2 =>
    obtain ⟨h1, h2⟩ := at_mem hq
    rw [pair_eq h.2 h1 he h2]
theorem at_none {k : S36} {m : List Ent} : at_ k m = none ↔ ∀ e ∈ m, e.k ≠ k := by
  unfold at_
  rw [List.find?_eq_none]
  exact ⟨fun h e he hq => h e he (same_iff.2 hq), fun h e he hq => h e he (same_iff.1 hq)⟩
section
variable {w w1 : World} {b : Nat} {m : List Ent} {k : S36}
theorem MapIs.of_heap (h : MapIs w b m) (e : w1.heap[b]? = w.heap[b]?) : MapIs w1 b m := by
  obtain ⟨⟨es, clock, hb, r⟩, hk⟩ := h
  exact ⟨⟨es, clock, e.trans hb, r⟩, hk⟩
theorem MapIs.lt (h : MapIs w b m) : b < w.heap.size := h.1.lt
theorem MapIs.below (h : MapIs w b m) (hb : Below w.heap.size w w1) : MapIs w1 b m := h.of_heap (hb.block b h.lt)
theorem MapIs.is_map (h : MapIs w b m) : ∃ es clock, w.heap[b]? = some (.map es clock) := by
  obtain ⟨⟨es, clock, hb, _⟩, _⟩ := h
  exact ⟨es, clock, hb⟩
theorem MapIs.ne (h : MapIs w b m) {g : Nat} {cs : Array Value} {t : TypeId} {fr : Nat × Nat} (hg : w.heap[g]? = some (.cells cs t fr)) : b ≠ g := by
  obtain ⟨es, clock, hb⟩ := h.is_map
  rintro rfl
  rw [hg] at hb; cases hb
theorem MapIs.renum {n : Nat} (h : w.ownsMap Try.prog 36 entR b n (D m)) (hk : Keyd m) : MapIs w b m := by
  obtain ⟨es, clock, hb, F, hs, hD⟩ := h
  refine ⟨⟨es, clock, hb, F, ?_, hD⟩, hk⟩
  have := congrArg Maps.size hD
  rw [D_size] at this
  simp [Maps.size, length_sorted] at this
  omega
def z86 : Value := .agg #[.slice none 0 0, .int .i64 0]
theorem zero86 (w : World) : (zeroValue 86).run Try.prog w = .ok z86 w := by kernel_rfl
def lk (k : S36) (m : List Ent) : Value := match at_ k m with | some e => ev e | none => z86
theorem has_is (h : MapIs w b m) (hk : G36 k) : Maps.has (D m) (kl k) = (at_ k m).isSome := by
  cases hq : at_ k m with
  | none => exact Maps.has_false_of_atKey (D_none h.2 hk hq)
  | some e =>
    obtain ⟨h1, rfl⟩ := at_mem hq
    exact Maps.has_true_of_atKey (fun z => D_at h.2 h1 z)
theorem at_is (h : MapIs w b m) (hk : G36 k) : (D m).atKey (kl k) (.held z86) = .held (lk k m) := by
  unfold lk
  cases hq : at_ k m with
  | none => exact D_none h.2 hk hq _
  | some e =>
    obtain ⟨h1, rfl⟩ := at_mem hq
    exact D_at h.2 h1 _
theorem look_run (h : MapIs w b m) (hk : G36 k) : (Instr.lookup 81 (.map (some b)) (kv k) true).run Try.prog w = .ok (.tuple #[lk k m, .bool (at_ k m).isSome]) w := by
  obtain ⟨v, ps, hr, hv⟩ := h.1.look_ok law36 Try.underlying81 (zero86 w) (zd := .held z86) (zp := []) rfl (kl_is hk)
  rw [has_is h hk] at hr
  rw [at_is h hk] at hv
  simp only [entR, Option.some.injEq, Prod.mk.injEq, DataW.held.injEq] at hv
  rw [hr, hv.1]
theorem look1_run (h : MapIs w b m) (hk : G36 k) : (Instr.lookup 81 (.map (some b)) (kv k) false).run Try.prog w = .ok (lk k m) w := by
  obtain ⟨v, ps, hr, hv⟩ := h.1.lookup law36 Try.underlying81 (zero86 w) (zd := .held z86) (zp := []) rfl (kl_is hk)
  rw [at_is h hk] at hv
  simp only [entR, Option.some.injEq, Prod.mk.injEq, DataW.held.injEq] at hv
  rw [hr, hv.1]
theorem MapIs.len (h : MapIs w b m) (ty : TypeId) : (Builtin.len_ #[81] ty #[.map (some b)]).run Try.prog w = .ok (.int .i64 m.length) w := by
  rw [h.1.len Try.underlying81 ty, D_size]
theorem MapIs.made (w : World) : MapIs (w.alloc (.map #[] 0)) w.heap.size [] := ⟨World.ownsMap_made w Try.prog 36 entR, ⟨fun e h => (by cases h), List.Pairwise.nil⟩⟩
end
section
variable {o : Oper} {a : Act} {w : World} {x y z : Operand} {b : Nat} {m : List Ent} {k : S36}
theorem lkr {v : Value} {ok : Bool} (ho : o.op = .lookup 81 x y true) (hx : a.eval x = .map (some b)) (hy : a.eval y = kv k) (h : MapIs w b m) (hk : G36 k) (h1 : lk k m = v) (h2 : (at_ k m).isSome = ok) : (execOp a.eval o).run Try.prog w = .ok (.value (.tuple #[v, .bool ok])) w := by
  subst h1; subst h2
  have hr := look_run h hk
  unfold execOp
  simp only [ho, hx, hy, Sem.run_bind, hr, Result.andThen_ok, Sem.run_pure]
theorem lkr1 {v : Value} (ho : o.op = .lookup 81 x y false) (hx : a.eval x = .map (some b)) (hy : a.eval y = kv k) (h : MapIs w b m) (hk : G36 k) (h1 : lk k m = v) : (execOp a.eval o).run Try.prog w = .ok (.value v) w := by
  subst h1
  have hr := look1_run h hk
  unfold execOp
  simp only [ho, hx, hy, Sem.run_bind, hr, Result.andThen_ok, Sem.run_pure]
theorem lenM {n : Nat} (ho : o.op = .call { callee := .builtin .len, args := #[x], argTypes := #[81] }) (hx : a.eval x = .map (some b)) (h : MapIs w b m) (hn : m.length = n) : (execOp a.eval o).run Try.prog w = .ok (.value (.int .i64 n)) w := by
  subst hn
  have hr := h.len o.type
  unfold execOp
  simp only [ho, resolve, invoke, builtin, Sem.run_bind, Sem.run_pure, Result.andThen_ok, List.map_toArray, List.map_cons, List.map_nil, hx, hr]
theorem nilck {P : Program} {p : Addr} (ho : o.op = .nilCheck x) (hx : a.eval x = .pointer (some p)) : (execOp a.eval o).run P w = .ok (.value (.pointer (some p))) w := by
  unfold execOp
  simp only [ho, hx]
  simp [go_sem]
theorem fld {P : Program} {T i : Nat} {cs : Array Value} {v : Value} (ho : o.op = .field T x i) (hx : a.eval x = .agg cs) (hr : (Instr.field T (.agg cs) i).run P w = .ok v w) : (execOp a.eval o).run P w = .ok (.value v) w := by
  unfold execOp
  simp only [ho, hx, Sem.run_bind, hr, Result.andThen_ok, Sem.run_pure]
end
section
variable {ops : Array Oper} {rest : List Oper} {o : Oper} {a : Act} {Q : Exit → Act → World → Prop} {w : World} {x y z : Operand} {b : Nat} {m : List Ent}
theorem MapIs.of_raw {w : World} {b clock : Nat} (h : w.heap[b]? = some (.map #[] clock)) : MapIs w b [] :=
  ⟨⟨#[], clock, h, ⟨by simp, MapKept.stamped_empty clock, by simp⟩, Nat.le_refl _, rfl⟩, ⟨fun e h => (by cases h), List.Pairwise.nil⟩⟩
theorem run_ok_of_clear {w1 : World} (h : (Builtin.clear_ #[81] o.type #[.map (some b)]).run Try.prog w = .ok (.tuple #[]) w1) (hop : o.op = .call { callee := .builtin .clear, args := #[x], argTypes := #[81] }) (hm : a.eval x = .map (some b)) : (execOp a.eval o).run Try.prog w = .ok (.value (.tuple #[])) w1 := by
  unfold execOp
  simp only [hop, resolve, invoke, builtin, Sem.run_bind, Sem.run_pure, Result.andThen_ok, List.map_toArray, List.map_cons, List.map_nil, hm, h]
theorem put_map (hg : o.guard = none) (hop : o.op = .mapUpdate 81 x y z) (hm : a.eval x = .map (some b)) (h : MapIs w b m) (hl : m.length < maxLen) {e : Ent} (hy : a.eval y = kv e.k) (hk : G36 e.k) (hz : a.eval z = ev e)
    (hK : ∀ w1, MapIs w1 b (e :: wo e.k m) → w.grownBy w1 (some b) → wpList Try.prog ops Q rest (a.put o.dst undef) w1) : wpList Try.prog ops Q (o :: rest) a w := by
  refine wpList_mapUpdate_own w hg x y z 81 hop 36 86 law36 Try.underlying81 entR b m.length (D m) hm h.1 hl (kv e.k) (ev e) (kl e.k) hy hz (kl_is hk) (.held (ev e)) [] rfl (fun w1 h1 h2 => hK w1 ?_ h2)
  rw [D_put h.2 hk] at h1
  exact MapIs.renum h1 (keyd_cons h.2 hk)
theorem del_map (hg : o.guard = none) (hop : o.op = .call { callee := .builtin .delete, args := #[x, y], argTypes := #[81, 36] }) (hm : a.eval x = .map (some b)) (h : MapIs w b m) {k : S36} (hy : a.eval y = kv k) (hk : G36 k)
    (hK : ∀ w1, MapIs w1 b (wo k m) → w.grownBy w1 (some b) → wpList Try.prog ops Q rest (a.put o.dst (.tuple #[])) w1) : wpList Try.prog ops Q (o :: rest) a w := by
  refine wpList_delete_own w hg x y 81 36 hop 86 law36 Try.underlying81 entR b m.length (D m) hm h.1 (kv k) (kl k) hy (kl_is hk) (fun w1 h1 h2 => hK w1 ?_ h2.grown)
  rw [D_del h.2 hk] at h1
  exact MapIs.renum h1 (keyd_sub h.2 wo_sub)
theorem clear_map (hg : o.guard = none) (hop : o.op = .call { callee := .builtin .clear, args := #[x], argTypes := #[81] }) (hm : a.eval x = .map (some b)) (h : MapIs w b m)
    (hK : ∀ w1, MapIs w1 b [] → w.grownBy w1 (some b) → wpList Try.prog ops Q rest (a.put o.dst (.tuple #[])) w1) : wpList Try.prog ops Q (o :: rest) a w := by
  obtain ⟨es, clock, hb⟩ := h.is_map
  have hrun : (Builtin.clear_ #[81] o.type #[.map (some b)]).run Try.prog w = .ok (.tuple #[]) (ChangeMaps.setBlock w b (.map #[] clock)) := by
    simp [Builtin.clear_, run_underlying Try.underlying81, MapKept.run_getObj_map hb, MapKept.run_setObj_map _ hb, Result.andThen, ChangeMaps.setBlock]
  have hc := run_ok_of_clear hrun hop hm
  refine wpList_plain hg fun K' hK' => ?_
  unfold Oper.wp
  rw [hc]
  refine hK' _ _ (hK _ (MapIs.of_raw (ChangeMaps.heap_setBlock_same hb _)) ⟨rfl, rfl, rfl, by simp [ChangeMaps.setBlock], fun i _ hi => ChangeMaps.heap_setBlock_other hb _ (fun e => hi (by rw [e]))⟩)
end
end Go.Proofs.Ytlhmpmmblnbmbaa.Cac
