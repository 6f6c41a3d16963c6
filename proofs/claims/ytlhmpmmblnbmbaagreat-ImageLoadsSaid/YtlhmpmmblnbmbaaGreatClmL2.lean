/- Own work and lines of the print, as much as imageLoads_holds needs: part 2. -/
import Derived.Test.YtlhmpmmblnbmbaaGreatClmL1
import Derived.ChangeArms
import Derived.DataReads
import Derived.Carry
import Derived.ReadAgain
import Derived.Deep.MidRow
import Derived.Defers
import Derived.Below
import Derived.KernelRfl
import Derived.Tactics
import Derived.IntWalk
import Derived.Orders
import Derived.StillTail
import Derived.Test.YtlhmpmmblnbmbaaGreatProg
import Derived.Deep.DeepAppendWide
import Derived.Lib.AppendZeros
import Derived.Laws.Slices
import Derived.Lib.SliceRun
namespace Go.Proofs.YtlhmpmmblnbmbaaGreat.Open
open Go.RowKit Go.Proofs.YtlhmpmmblnbmbaaGreatW.PrintWords
/-- Whatever reads as a value of type t is the cells of some Lean value of the kind, and that one is good. -/
def Opens {α : Type} (P : Program) (t : TypeId) (d : Kd α) (g : α → Prop) : Prop :=
  P.cellsOf t = d.sz ∧ ∀ {H : Type} (enc : TypeId × Value → H) (w : World) (base : Nat) (spare : Nat → Bool) (held : Bool) (fuel : Nat) (cs : List Value) (x : DataW H × List MemPlace),
    DataW.trod enc P w base spare held fuel t cs = some x → ∃ a, d.K w a cs ∧ g a
section
variable {P : Program} {t : TypeId}
theorem opens_int {k : IntKind} (ht : P.underlying t = some (.int k)) (hc : P.cellsOf t = 1) : Opens P t (Kd.int k) (fun n => (Lit.int k n).wf = true) := by
  refine ⟨hc, fun enc w base spare held fuel cs x h => ?_⟩
  obtain ⟨n, rfl, _, hw⟩ := DataW.trod_int ht h
  exact ⟨n, rfl, hw⟩
theorem choose_list {β : Type} (Q : Nat → β → Prop) : ∀ n, (∀ i, i < n → ∃ b, Q i b) → ∃ l : List β, l.length = n ∧ ∀ i b, l[i]? = some b → Q i b
  | 0, _ => ⟨[], rfl, fun i b h => by simp at h⟩
  | n + 1, h => by
    obtain ⟨l, hl, hq⟩ := choose_list Q n (fun i hi => h i (by omega))
    obtain ⟨b, hb⟩ := h n (by omega)
    refine ⟨l ++ [b], by simp [hl], fun i c hc => ?_⟩
    by_cases hi : i < n
    · rw [List.getElem?_append_left (by omega)] at hc
      exact hq i c hc
    · rw [List.getElem?_append_right (by omega)] at hc
      have e : i = n := by
        have := (List.getElem?_eq_some_iff.1 hc).1
        simp at this; omega
      subst e
      simp [hl] at hc
      exact hc ▸ hb
theorem opens_slice {α : Type} {e : TypeId} {d : Kd α} {g : α → Prop} (ht : P.underlying t = some (.slice e)) (hc : P.cellsOf t = 1) (he : Opens P e d g) :
    Opens P t (Kd.slice e d) (fun xs => xs.length ≤ maxLen ∧ ∀ x ∈ xs, g x) := by
  refine ⟨hc, fun enc w base spare held fuel cs x h => ?_⟩
  rcases DataW.trod_slice ht h with ⟨rfl, _⟩ | ⟨a, len, cap, elems, rest, n, rfl, rfl, _, _, hlc, hcm, hel, hget, _, _⟩
  · exact ⟨[], ⟨none, 0, rfl, by simp, Kd.C_nil _ _⟩, by simp [maxLen], by simp⟩
  · have hq : ∀ i, i < len → ∃ b : α, g b ∧ ∃ c, c.length = d.sz ∧ d.K w b c ∧ ∀ j u, c[j]? = some u → w.cell? (a.add (i * d.sz + j)) = some u := by
      intro i hi
      have hi2 := hget i hi
      rw [List.getElem?_eq_getElem (by omega), Option.bind_eq_some_iff] at hi2
      obtain ⟨c, hcells, htr⟩ := hi2
      obtain ⟨b, hb, hg⟩ := he.2 enc w base spare held n c _ htr
      obtain ⟨_, hlen, hcl⟩ := World.cells?_some hcells
      refine ⟨b, hg, c, by rw [hlen, he.1], hb, fun j u hu => ?_⟩
      have hj := (List.getElem?_eq_some_iff.1 hu).1
      have := hcl j (by omega)
      rw [he.1] at this
      rw [← hu, ← this]
      rw [add_add]
    obtain ⟨l, hl, hlq⟩ := choose_list _ len hq
    refine ⟨l, ⟨some a, cap, by rw [hl], by omega, rfl, by unfold maxLen at hcm; omega, fun _ => ⟨a, rfl, fun j p hp => (hlq j p hp).2⟩⟩, by omega, fun x hx => ?_⟩
    obtain ⟨j, hj⟩ := List.getElem?_of_mem hx
    exact (hlq j x hj).1
/-- Fields in line, from a place on. -/
structure OpensFs {α : Type} (P : Program) (fs : List Field) (off : Nat) (d : Kd α) (g : α → Prop) : Prop where
  go : ∀ {H : Type} (enc : TypeId × Value → H) (w : World) (base : Nat) (spare : Nat → Bool) (held : Bool) (fuel : Nat) (cs : List Value) , cs.length = off + d.sz →
    (∀ f ∈ fs, ∃ y, DataW.trod enc P w base spare held fuel f.type ((cs.drop f.offset).take (P.cellsOf f.type)) = some y) → ∃ a, d.K w a (cs.drop off) ∧ g a
theorem fs_last {α : Type} {f : Field} {off : Nat} {d : Kd α} {g : α → Prop} (ho : f.offset = off) (he : Opens P f.type d g) : OpensFs P [f] off d g := by
  constructor; intro H enc w base spare held fuel cs hl h
  obtain ⟨y, hy⟩ := h f (by simp)
  obtain ⟨a, ha, hg⟩ := he.2 enc w base spare held fuel _ y hy
  rw [ho, he.1, List.take_of_length_le (by rw [List.length_drop]; omega)] at ha
  exact ⟨a, ha, hg⟩
theorem fs_cons {α β : Type} {f : Field} {fs : List Field} {off off' : Nat} {d : Kd α} {d' : Kd β} {g : α → Prop} {g' : β → Prop} (ho : f.offset = off) (hn : off' = off + d.sz) (he : Opens P f.type d g) (hr : OpensFs P fs off' d' g') :
    OpensFs P (f :: fs) off (Kd.pair d d') (fun x => g x.1 ∧ g' x.2) := by
  constructor; intro H enc w base spare held fuel cs hl h
  obtain ⟨y, hy⟩ := h f (by simp)
  obtain ⟨a, ha, hg⟩ := he.2 enc w base spare held fuel _ y hy
  have hl' : cs.length = off' + d'.sz := by rw [hl, hn]; show off + (d.sz + d'.sz) = _; omega
  obtain ⟨b, hb, hg'⟩ := hr.go enc w base spare held fuel cs hl' (fun f hf => h f (by simp [hf]))
  refine ⟨(a, b), ⟨_, _, ?_, ha, hb⟩, hg, hg'⟩
  rw [ho, he.1, hn, ← List.drop_drop, List.take_append_drop]
theorem opens_struct {α : Type} {fs : Array Field} {d : Kd α} {g : α → Prop} (ht : P.underlying t = some (.struct fs)) (hc : P.cellsOf t = d.sz) (h : OpensFs P fs.toList 0 d g) : Opens P t d g := by
  refine ⟨hc, fun enc w base spare held fuel cs x hx => ?_⟩
  obtain ⟨xs, n, rfl, _, hl, hn, hget⟩ := DataW.trod_struct ht hx
  have := h.go enc w base spare held n cs (by rw [hl, hc]; omega) (fun f hf => by
    obtain ⟨i, hi⟩ := List.getElem?_of_mem hf
    have h2 := hget i f (by simpa using hi)
    have hlt : i < xs.length := by
      have := (List.getElem?_eq_some_iff.1 hi).1
      simp at this; omega
    rw [List.getElem?_eq_getElem hlt] at h2
    exact ⟨_, h2⟩)
  simpa using this
/-- A structure that one makes of its fields. -/
theorem opens_iso {α β : Type} {d : Kd α} {g : α → Prop} {f : β → α} (mk : α → β) (hm : ∀ a, f (mk a) = a) (h : Opens P t d g) : Opens P t (Kd.iso d f) (fun b => g (f b)) := by
  refine ⟨h.1, fun enc w base spare held fuel cs x hx => ?_⟩
  obtain ⟨a, ha, hg⟩ := h.2 enc w base spare held fuel cs x hx
  refine ⟨mk a, ?_, by show g (f (mk a)); rw [hm]; exact hg⟩
  show d.K w (f (mk a)) cs
  rw [hm]; exact ha
end
/-- All that the arguments read as reads on so, behind a call that left old memory alone. -/
theorem args_stay {H : Type} {enc : TypeId × Value → H} {P : Program} (hl : laidOutB P = true) {W W' : World} : ∀ {ts : List TypeId} {vs : List Value} {ds : List (DataW H)} {ps : List MemPlace},
    (ts.all fun t => P.readableRec t && decide (t < P.types.size)) = true → DataW.TrodAll enc P W 0 (fun _ => true) true ts vs ds ps → Below W.heap.size W W' → DataW.TrodAll enc P W' 0 (fun b => decide (b < W.heap.size)) true ts vs ds ps
  | [], [], [], _, _, h, _ => h
  | t :: ts, v :: vs, d :: ds, _, hr, ⟨p, q, h1, h2, e⟩, hb => by
    simp only [List.all_cons, Bool.and_eq_true, decide_eq_true_eq] at hr
    have hlt := DataW.TrodAll.lt (show DataW.TrodAll enc P W 0 (fun _ => true) true (t :: ts) (v :: vs) (d :: ds) _ from ⟨p, q, h1, h2, rfl⟩)
    exact ⟨p, q, Below.trod hl hr.1.1 hr.1.2 h1 hb (fun x hx => hlt x (List.mem_append_left _ hx)), args_stay hl hr.2 h2 hb, e⟩
section
open Go.WideShapes
variable {H : Type} {enc : TypeId × Value → H} {P : Program} {w : World} {base b0 : Nat} {spare : Nat → Bool} {held : Bool} {r : Reach} {t : TypeId} {v : Value} {dd : DataW H} {ps : List MemPlace}
/-- An argument that is a slice. -/
theorem arg_slice {α : Type} {e : TypeId} {d : Kd α} {g : List α → Prop} (ht : P.underlying t = some (.slice e)) (ho : Opens P t (Kd.slice e d) g) (hval : Value.okWide P w r b0 t v) (h : DataW.Trod enc P w base spare held t v dd ps) :
    ∃ xs A c, v = .slice A xs.length c ∧ xs.length ≤ c ∧ d.C w A xs.length xs ∧ g xs := by
  obtain ⟨A, n, c, rfl⟩ := okWide_slice ht hval
  obtain ⟨fuel, hf⟩ := h
  obtain ⟨xs, ⟨A', c', he, hl, hc⟩, hg⟩ := ho.2 enc w base spare held fuel _ _ hf
  have he' : Value.slice A n c = .slice A' xs.length c' := by
    have := he
    simp only [Value.cells] at this
    simpa using this
  exact ⟨xs, A', c', he', hl, hc, hg⟩
/-- An argument that is a struct. -/
theorem arg_struct {α : Type} {fs : Array Field} {d : Kd α} {g : α → Prop} (ht : P.underlying t = some (.struct fs)) (ho : Opens P t d g) (hval : Value.okWide P w r b0 t v) (h : DataW.Trod enc P w base spare held t v dd ps) :
    ∃ (a : α) (cs : List Value), v = .agg cs.toArray ∧ d.K w a cs ∧ g a := by
  obtain ⟨cs, rfl, _⟩ := okWide_struct ht hval
  obtain ⟨fuel, hf⟩ := h
  obtain ⟨a, ha, hg⟩ := ho.2 enc w base spare held fuel _ _ hf
  exact ⟨a, cs.toList, by simp, ha, hg⟩
end
end Go.Proofs.YtlhmpmmblnbmbaaGreat.Open
namespace Go.Proofs.YtlhmpmmblnbmbaaGreat.imageLoads
open Go.RowKit
open Go.Proofs.YtlhmpmmblnbmbaaGreatW.PrintWords Go.Proofs.YtlhmpmmblnbmbaaGreatW.PrintLast Go.Proofs.YtlhmpmmblnbmbaaGreatW.PrintMore Go.Proofs.YtlhmpmmblnbmbaaGreat.Open
set_option linter.unusedVariables false
set_option maxRecDepth 100000
theorem o3 : Opens Tryz.prog 3 (Kd.int .i64) (fun x => (Lit.int .i64 x).wf = true) := opens_int Tryz.underlying3 (by kernel_rfl)
structure S23 where
  f0 : Int
  f1 : Int
  f2 : Int
  f3 : Int
  f4 : Int
  f5 : Int
  f6 : Int
  f7 : Int
  f8 : Int
  f9 : Int
  f10 : Int
def k23 : Kd S23 := Kd.iso (Kd.pair (Kd.int .i64) (Kd.pair (Kd.int .i64) (Kd.pair (Kd.int .i64) (Kd.pair (Kd.int .i64) (Kd.pair (Kd.int .i64) (Kd.pair (Kd.int .i64) (Kd.pair (Kd.int .i64) (Kd.pair (Kd.int .i64) (Kd.pair (Kd.int .i64) (Kd.pair (Kd.int .i64) (Kd.int .i64))))))))))) (fun x : S23 => (x.f0, x.f1, x.f2, x.f3, x.f4, x.f5, x.f6, x.f7, x.f8, x.f9, x.f10))
theorem k23_open {w : World} {x : S23} {cs : List Value} (h : k23.K w x cs) : cs = [.int .i64 x.f0, .int .i64 x.f1, .int .i64 x.f2, .int .i64 x.f3, .int .i64 x.f4, .int .i64 x.f5, .int .i64 x.f6, .int .i64 x.f7, .int .i64 x.f8, .int .i64 x.f9, .int .i64 x.f10] := by
  obtain ⟨_, _, rfl, rfl, ⟨_, _, rfl, rfl, ⟨_, _, rfl, rfl, ⟨_, _, rfl, rfl, ⟨_, _, rfl, rfl, ⟨_, _, rfl, rfl, ⟨_, _, rfl, rfl, ⟨_, _, rfl, rfl, ⟨_, _, rfl, rfl, ⟨_, _, rfl, rfl, rfl⟩⟩⟩⟩⟩⟩⟩⟩⟩⟩ := h
  exact rfl
def Q23 (x : S23) : Prop := (Lit.int .i64 x.f0).wf = true ∧ (Lit.int .i64 x.f1).wf = true ∧ (Lit.int .i64 x.f2).wf = true ∧ (Lit.int .i64 x.f3).wf = true ∧ (Lit.int .i64 x.f4).wf = true ∧ (Lit.int .i64 x.f5).wf = true ∧ (Lit.int .i64 x.f6).wf = true ∧ (Lit.int .i64 x.f7).wf = true ∧ (Lit.int .i64 x.f8).wf = true ∧ (Lit.int .i64 x.f9).wf = true ∧ (Lit.int .i64 x.f10).wf = true
theorem o23 : Opens Tryz.prog 23 k23 Q23 :=
  opens_iso (f := fun x : S23 => (x.f0, x.f1, x.f2, x.f3, x.f4, x.f5, x.f6, x.f7, x.f8, x.f9, x.f10)) (fun (a : (Int) × (Int) × (Int) × (Int) × (Int) × (Int) × (Int) × (Int) × (Int) × (Int) × (Int)) => (⟨a.1, a.2.1, a.2.2.1, a.2.2.2.1, a.2.2.2.2.1, a.2.2.2.2.2.1, a.2.2.2.2.2.2.1, a.2.2.2.2.2.2.2.1, a.2.2.2.2.2.2.2.2.1, a.2.2.2.2.2.2.2.2.2.1, a.2.2.2.2.2.2.2.2.2.2⟩ : S23)) (fun _ => rfl) (opens_struct Tryz.underlying23 (by kernel_rfl) (fs_cons rfl rfl o3 (fs_cons rfl rfl o3 (fs_cons rfl rfl o3 (fs_cons rfl rfl o3 (fs_cons rfl rfl o3 (fs_cons rfl rfl o3 (fs_cons rfl rfl o3 (fs_cons rfl rfl o3 (fs_cons rfl rfl o3 (fs_cons rfl rfl o3 (fs_last rfl o3))))))))))))
theorem o5 : Opens Tryz.prog 5 (Kd.int .u8) (fun x => (Lit.int .u8 x).wf = true) := opens_int Tryz.underlying5 (by kernel_rfl)
structure S64 where
  f0 : Int
  f1 : Int
  f2 : Int
  f3 : Int
  f4 : Int
def k64 : Kd S64 := Kd.iso (Kd.pair (Kd.int .i64) (Kd.pair (Kd.int .u8) (Kd.pair (Kd.int .u8) (Kd.pair (Kd.int .u8) (Kd.int .u8))))) (fun x : S64 => (x.f0, x.f1, x.f2, x.f3, x.f4))
theorem k64_open {w : World} {x : S64} {cs : List Value} (h : k64.K w x cs) : cs = [.int .i64 x.f0, .int .u8 x.f1, .int .u8 x.f2, .int .u8 x.f3, .int .u8 x.f4] := by
  obtain ⟨_, _, rfl, rfl, ⟨_, _, rfl, rfl, ⟨_, _, rfl, rfl, ⟨_, _, rfl, rfl, rfl⟩⟩⟩⟩ := h
  exact rfl
def Q64 (x : S64) : Prop := (Lit.int .i64 x.f0).wf = true ∧ (Lit.int .u8 x.f1).wf = true ∧ (Lit.int .u8 x.f2).wf = true ∧ (Lit.int .u8 x.f3).wf = true ∧ (Lit.int .u8 x.f4).wf = true
theorem o64 : Opens Tryz.prog 64 k64 Q64 :=
  opens_iso (f := fun x : S64 => (x.f0, x.f1, x.f2, x.f3, x.f4)) (fun (a : (Int) × (Int) × (Int) × (Int) × (Int)) => (⟨a.1, a.2.1, a.2.2.1, a.2.2.2.1, a.2.2.2.2⟩ : S64)) (fun _ => rfl) (opens_struct Tryz.underlying64 (by kernel_rfl) (fs_cons rfl rfl o3 (fs_cons rfl rfl o5 (fs_cons rfl rfl o5 (fs_cons rfl rfl o5 (fs_last rfl o5))))))
theorem o24 : Opens Tryz.prog 24 (Kd.slice 64 k64) (fun x => (x.length ≤ maxLen ∧ ∀ y0 ∈ x, Q64 y0)) := opens_slice Tryz.underlying24 (by kernel_rfl) o64
end Go.Proofs.YtlhmpmmblnbmbaaGreat.imageLoads
set_option linter.unusedVariables false
set_option linter.unusedSimpArgs false
namespace Go.Proofs.YtlhmpmmblnbmbaaGreat.Sx
open Go.RowKit
/-- One cell, told: a value, or what points into a known block (by its tag). -/
inductive C where
  | v (x : Value)
  | ptr (t o : Nat)
  | slc (t o n c : Nat)
  | lit (b : Bool)
/-- A known block: its number, its type, its cells. -/
structure Blk where
  g : Nat
  ty : Nat
  cs : List C
inductive SV where
  | one (c : C)
  | agg (cs : List C)
  | tup (l : List (Bool × List C))
def gOf (L : List Blk) (t : Nat) : Nat := match L[t]? with | some b => b.g | none => 0
def C.den (L : List Blk) : C → Value
  | .v x => x
  | .ptr t o => .pointer (some ⟨gOf L t, o, none⟩)
  | .slc t o n c => .slice (some ⟨gOf L t, o, none⟩) n c
  | .lit b => .bool b
def den1 (L : List Blk) : Bool × List C → Value
  | (true, cs) => .agg (cs.map (C.den L)).toArray
  | (false, c :: _) => c.den L
  | (false, []) => undef
def SV.den (L : List Blk) : SV → Value
  | .one c => c.den L
  | .agg cs => .agg (cs.map (C.den L)).toArray
  | .tup l => .tuple (l.map (den1 L)).toArray
def C.one1 : C → Bool
  | .v x => x.oneCell'
  | _ => true
def C.lt (n : Nat) : C → Bool
  | .ptr t _ => Nat.blt t n
  | .slc t _ _ _ => Nat.blt t n
  | _ => true
def SV.lt (n : Nat) : SV → Bool
  | .one c => c.lt n
  | .agg cs => cs.all (C.lt n)
  | .tup l => l.all fun x => x.2.all (C.lt n)
def SV.cells : SV → List C
  | .one c => [c]
  | .agg cs => cs
  | .tup _ => []
/-- What is known of types: size, a row or a struct, zero. -/
structure TI where
  ty : Nat
  size : Nat
  row : Bool
  z : List Value
structure FI where
  st : Nat
  f : Nat
  off : Nat
  ft : Nat
structure Tab where
  ti : List TI
  fi : List FI
  sl : List (Nat × Nat)
  pt : List Nat
  st : List Nat
  bl : List (Nat × List (Nat × Nat))
def getB : List (Nat × List (Nat × Nat)) → Nat → Option (List (Nat × Nat))
  | [], _ => none
  | i :: r, t => if Nat.beq i.1 t then some i.2 else getB r t
def getT : List TI → Nat → Option TI
  | [], _ => none
  | i :: r, t => if Nat.beq i.ty t then some i else getT r t
def getF : List FI → Nat → Nat → Option FI
  | [], _, _ => none
  | i :: r, t, f => if Nat.beq i.st t && Nat.beq i.f f then some i else getF r t f
def getS : List (Nat × Nat) → Nat → Option Nat
  | [], _ => none
  | i :: r, t => if Nat.beq i.1 t then some i.2 else getS r t
def TI.ok (P : Program) (i : TI) : Prop := (P.info? i.ty).map (·.size) = some i.size ∧ (∃ d, P.underlying i.ty = some d ∧ d.isRow = i.row) ∧ ∃ v : Value, (P.info? i.ty).map (·.zero) = some (some v) ∧ v.cells.toList = i.z ∧ (i.row = true → v = .agg v.cells) ∧ i.z.length = i.size
def FI.ok (P : Program) (i : FI) : Prop := ∃ fs fd, P.underlying i.st = some (.struct fs) ∧ fs[i.f]? = some fd ∧ fd.offset = i.off ∧ fd.type = i.ft
def allT (P : Program) : List TI → Prop | [] => True | i :: r => i.ok P ∧ allT P r
def allF (P : Program) : List FI → Prop | [] => True | i :: r => i.ok P ∧ allF P r
def allS (P : Program) : List (Nat × Nat) → Prop | [] => True | i :: r => P.underlying i.1 = some (.slice i.2) ∧ allS P r
def allP (P : Program) : List Nat → Prop | [] => True | i :: r => (∃ e, P.underlying i = some (.pointer e)) ∧ allP P r
def allStr (P : Program) : List Nat → Prop | [] => True | i :: r => P.underlying i = some .string ∧ allStr P r
def plOk (P : Program) : List Field → List (Nat × Nat) → Prop
  | [], [] => True
  | f :: r, p :: q => f.offset = p.1 ∧ (P.info? f.type).map (·.size) = some p.2 ∧ plOk P r q
  | _, _ => False
def allB (P : Program) : List (Nat × List (Nat × Nat)) → Prop | [] => True | i :: r => (∃ fs, P.underlying i.1 = some (.struct fs) ∧ plOk P fs.toList i.2) ∧ allB P r
structure Tab.ok (P : Program) (t : Tab) : Prop where
  ti : allT P t.ti
  fi : allF P t.fi
  sl : allS P t.sl
  pt : allP P t.pt
  st : allStr P t.st
  bl : allB P t.bl
/-- The program's table, found by the program; and what a body's end allows. -/
class Ok (P : Program) (tab : outParam Tab) : Prop where
  ok : tab.ok P
class RetOk (Q : Exit → Act → World → Prop) : Prop where
  ok : ∀ a w, Q .normal a w → Q .ret a w
/-- A body's end without deferred calls. -/
class EndOk (P : Program) (Q : Exit → Act → World → Prop) (fn : outParam Func) (R : outParam (Ending → World → Prop)) : Prop where
  ok : ∀ a w v, a.defers = [] → (results fn a.tmps).run P w = .ok v w → R (.returned v) w → Q .normal a w
/-- No way out but those that a body has without a panic. -/
def Quiet (Q : Exit → Act → World → Prop) : Exit → Act → World → Prop
  | .panic _, _, _ => False
  | .outgrown, _, _ => False
  | e, a, w => Q e a w
theorem Quiet.out {Q : Exit → Act → World → Prop} : ∀ e a w, Quiet Q e a w → Q e a w := fun e a w h => by
  cases e <;> first | exact h | exact False.elim h
class PanOk (Q : Exit → Act → World → Prop) : Prop where
  no : ∀ c a w, Q (.panic c) a w → False
instance quietPan (Q : Exit → Act → World → Prop) : PanOk (Quiet Q) := ⟨fun _ _ _ h => h⟩
instance endD (P : Program) (fn : Func) (R : Ending → World → Prop) : EndOk P (Quiet (bodyPostD P fn R)) fn R := ⟨fun a w v hd hr hR => by
  show Leaves P fn a.tmps R a.defers .returning w
  rw [hd]; exact ⟨v, hr, hR⟩⟩
instance endE (P : Program) (fn : Func) (R : Ending → World → Prop) : EndOk P (Quiet (bodyPost P fn R)) fn R := ⟨fun a w v hd hr hR => ⟨hd, v, hr, hR⟩⟩
instance bodyRetE (P : Program) (fn : Func) (R : Ending → World → Prop) : RetOk (Quiet (bodyPost P fn R)) := ⟨fun _ _ h => h⟩
instance bodyRet (P : Program) (fn : Func) (R : Ending → World → Prop) : RetOk (Quiet (bodyPostD P fn R)) := ⟨fun _ _ h => h⟩
theorem getT_ok {P : Program} : ∀ {l : List TI} {t : Nat} {i : TI}, allT P l → getT l t = some i → i.ok P ∧ i.ty = t
  | [], _, _, _, h => by cases h
  | j :: r, t, i, h, hg => by
    unfold getT at hg
    split at hg
    · rename_i hb; cases hg; exact ⟨h.1, Nat.eq_of_beq_eq_true hb⟩
    · exact getT_ok h.2 hg
theorem getF_ok {P : Program} : ∀ {l : List FI} {t f : Nat} {i : FI}, allF P l → getF l t f = some i → i.ok P ∧ i.st = t ∧ i.f = f
  | [], _, _, _, _, h => by cases h
  | j :: r, t, f, i, h, hg => by
    unfold getF at hg
    split at hg
    · rename_i hb; cases hg
      rw [Bool.and_eq_true] at hb
      exact ⟨h.1, Nat.eq_of_beq_eq_true hb.1, Nat.eq_of_beq_eq_true hb.2⟩
    · exact getF_ok h.2 hg
theorem getS_ok {P : Program} : ∀ {l : List (Nat × Nat)} {t e : Nat}, allS P l → getS l t = some e → P.underlying t = some (.slice e)
  | [], _, _, _, h => by cases h
  | j :: r, t, e, h, hg => by
    unfold getS at hg
    split at hg
    · rename_i hb; cases hg; rw [← Nat.eq_of_beq_eq_true hb]; exact h.1
    · exact getS_ok h.2 hg
theorem getB_ok {P : Program} : ∀ {l : List (Nat × List (Nat × Nat))} {t : Nat} {e : List (Nat × Nat)}, allB P l → getB l t = some e → ∃ fs, P.underlying t = some (.struct fs) ∧ plOk P fs.toList e
  | [], _, _, _, h => by cases h
  | j :: r, t, e, h, hg => by
    unfold getB at hg
    split at hg
    · rename_i hb; cases hg; rw [← Nat.eq_of_beq_eq_true hb]; exact h.1
    · exact getB_ok h.2 hg
def look : List (Nat × SV) → Nat → Option SV
  | [], _ => none
  | (k, v) :: r, t => if Nat.beq k t then some v else look r t
def opd (S : List (Nat × SV)) : Operand → Option SV
  | .tmp t => look S t
  | .const v => match v with | .agg cs => some (.agg (cs.toList.map .v)) | .bool b => some (.one (.lit b)) | v => some (.one (.v v))
  | .func f => some (.one (.v (.func (.func f) #[] #[])))
  | .global g => some (.one (.v (.pointer (some ⟨g, 0, none⟩))))
inductive K where
  | code (c : Code)
  | blk (id : Nat)
  | ops (all : Array Oper) (rest : List Oper)
  | mark (p : Act → World → Prop)
structure St where
  k : List K
  S : List (Nat × SV)
  L : List Blk
  D : List Deferred
/-- The slots are as told. -/
def Slots (n : Nat) (L : List Blk) (S : List (Nat × SV)) (a : Act) : Prop := a.tmps.size = n ∧ ∀ k sv, look S k = some sv → a.tmps[k]? = some (sv.den L)
def Known (L : List Blk) (w : World) : Prop := (∀ (i : Nat) (b : Blk), L[i]? = some b → w.heap[b.g]? = some (Obj.cells (b.cs.map (C.den L)).toArray b.ty (0, 0))) ∧ ∀ (i j : Nat) (b c : Blk), L[i]? = some b → L[j]? = some c → b.g = c.g → i = j
/-- What a world is besides its memory. -/
def face (w : World) := (w.os, w.tape, w.output)
theorem face_setCells (g : Nat) : ∀ (vs : List Value) (o : Nat) (w : World), face (w.setCells g o vs) = face w
  | [], _, _ => rfl
  | v :: r, o, w => face_setCells g r (o + 1) (w.setCell ⟨g, o, none⟩ v)
theorem face_alloc (w : World) (o : Obj) : face (w.alloc o) = face w := rfl
theorem face_drew (w : World) : face w.drew = face w := rfl
theorem below_face {B : Nat} {u v : World} (h : Below B u v) : face v = face u := by unfold face; rw [h.os, h.tape, h.output]
theorem grown_face {u v : World} {r : Option Nat} (h : u.grownBy v r) : face v = face u := by unfold face; rw [h.os, h.tape, h.output]
structure Rel (L : List Blk) (w0 w : World) : Prop where
  le : w0.heap.size ≤ w.heap.size
  blk : ∀ k, k < w0.heap.size → (∀ b ∈ L, b.g ≠ k) → w.heap[k]? = w0.heap[k]?
  still : face w = face w0
/-- All that was there is as it was. -/
structure Ext (u v : World) : Prop where
  le : u.heap.size ≤ v.heap.size
  old : ∀ k, k < u.heap.size → v.heap[k]? = u.heap[k]?
  still : face v = face u
/-- All but the blocks of S is as it was. -/
structure Chg (S : Nat → Prop) (w w' : World) : Prop where
  le : w.heap.size ≤ w'.heap.size
  old : ∀ k, k < w.heap.size → ¬ S k → w'.heap[k]? = w.heap[k]?
  still : face w' = face w
theorem Ext.drew (w : World) : Ext w w.drew := ⟨Nat.le_refl _, fun _ _ => rfl, rfl⟩
theorem Rel.mk2 {L : List Blk} {w0 w : World} (a : w0.heap.size ≤ w.heap.size) (b : ∀ k, k < w0.heap.size → (∀ b ∈ L, b.g ≠ k) → w.heap[k]? = w0.heap[k]?) (s : face w = face w0 := by first | assumption | rfl | grind [→ Ext.still, → Rel.still, → Chg.still, → below_face, → grown_face, = face_alloc, = face_drew, = face_setCells]) : Rel L w0 w := ⟨a, b, s⟩
theorem Ext.mk2 {u v : World} (a : u.heap.size ≤ v.heap.size) (b : ∀ k, k < u.heap.size → v.heap[k]? = u.heap[k]?) (s : face v = face u := by first | assumption | rfl | grind [→ Ext.still, → Rel.still, → Chg.still, → below_face, → grown_face, = face_alloc, = face_drew, = face_setCells]) : Ext u v := ⟨a, b, s⟩
theorem Chg.mk2 {S : Nat → Prop} {w w' : World} (a : w.heap.size ≤ w'.heap.size) (b : ∀ k, k < w.heap.size → ¬ S k → w'.heap[k]? = w.heap[k]?) (s : face w' = face w := by first | assumption | rfl | grind [→ Ext.still, → Rel.still, → Chg.still, → below_face, → grown_face, = face_alloc, = face_drew, = face_setCells]) : Chg S w w' := ⟨a, b, s⟩
theorem opd_ok {n : Nat} {L : List Blk} {S : List (Nat × SV)} {a : Act} (h : Slots n L S a) {x : Operand} {sv : SV} (hx : opd S x = some sv) : a.eval x = sv.den L := by
  cases x with
  | tmp t => have := h.2 t sv hx; simp [Act.eval, Array.getD_eq_getD_getElem?, this]
  | const v =>
    unfold opd at hx
    simp only [] at hx
    split at hx
    · cases hx
      rename_i cs
      show Value.agg cs = Value.agg ((cs.toList.map C.v).map (C.den L)).toArray
      rw [List.map_map, show (C.den L ∘ C.v) = id from rfl, List.map_id, Array.toArray_toList]
    · cases hx; rfl
    · cases hx; rfl
  | func f => cases hx; rfl
  | global g => cases hx; rfl
def SV.flat : SV → Bool
  | .tup _ => false
  | _ => true
def subc (cs : List C) (o n : Nat) : Option (List C) := let r := (cs.drop o).take n; if Nat.beq r.length n then some r else none
def loadS (tab : Tab) (L : List Blk) (T : Nat) : Option SV → Option SV
  | some (.one (.ptr t o)) => match getT tab.ti T, L[t]? with
    | some ti, some b => if ti.row then (subc b.cs o ti.size).map .agg else (b.cs[o]?).map .one
    | _, _ => none
  | _ => none
def fieldAddrS (tab : Tab) (T f : Nat) (x : Option SV) : Option SV :=
  match getF tab.fi T f with
  | none => none
  | some fi => match getT tab.ti fi.ft with
    | none => none
    | some ti => if Nat.beq ti.size 0 then none else match x with
      | some (.one (.ptr t o)) => some (.one (.ptr t (o + fi.off)))
      | some (.one (.v (.pointer (some ad)))) => some (.one (.v (.pointer (some (ad.add fi.off)))))
      | _ => none
def fieldS (tab : Tab) (T f : Nat) (x : Option SV) : Option SV :=
  match getF tab.fi T f with
  | none => none
  | some fi => match getT tab.ti fi.ft with
    | none => none
    | some ti => match x with
      | some (.agg cs) => if ti.row then (subc cs fi.off ti.size).map .agg else (cs[fi.off]?).map .one
      | _ => none
def cmpS (op : BinOp) : Option SV → Option SV → Option SV
  | some (.one (.v (.int k i))), some (.one (.v (.int k' j))) => if k = k' then (match op with
    | .lss => some (.one (.v (.bool (decide (i < j)))))
    | .leq => some (.one (.v (.bool (decide (i ≤ j)))))
    | .gtr => some (.one (.v (.bool (decide (i > j)))))
    | .geq => some (.one (.v (.bool (decide (i ≥ j)))))
    | .eql => some (.one (.v (.bool (i == j))))
    | .neq => some (.one (.v (.bool (i != j))))
    | _ => none) else none
  | _, _ => none
def nilS (op : BinOp) : Option SV → Option SV → Option SV
  | some (.one (.ptr _ _)), some (.one (.v (.pointer none))) => (match op with | .eql => some (.one (.lit false)) | .neq => some (.one (.lit true)) | _ => none)
  | some (.one (.v (.pointer (some _)))), some (.one (.v (.pointer none))) => (match op with | .eql => some (.one (.lit false)) | .neq => some (.one (.lit true)) | _ => none)
  | some (.one (.v (.pointer none))), some (.one (.v (.pointer none))) => (match op with | .eql => some (.one (.lit true)) | .neq => some (.one (.lit false)) | _ => none)
  | _, _ => none
def nilSl (op : BinOp) : Option SV → Option SV → Option SV
  | some (.one (.slc _ _ _ _)), some (.one (.v (.slice none _ _))) => (match op with | .eql => some (.one (.lit false)) | .neq => some (.one (.lit true)) | _ => none)
  | some (.one (.v (.slice (some _) _ _))), some (.one (.v (.slice none _ _))) => (match op with | .eql => some (.one (.lit false)) | .neq => some (.one (.lit true)) | _ => none)
  | some (.one (.v (.slice none _ _))), some (.one (.v (.slice none _ _))) => (match op with | .eql => some (.one (.lit true)) | .neq => some (.one (.lit false)) | _ => none)
  | _, _ => none
def lenS (tab : Tab) (T : Nat) : Option SV → Option SV
  | some (.one (.slc _ _ n _)) => if (getS tab.sl T).isSome then some (.one (.v (.int .i64 n))) else none
  | some (.one (.v (.slice _ n _))) => if (getS tab.sl T).isSome then some (.one (.v (.int .i64 n))) else none
  | some (.one (.v (.string s))) => if tab.st.contains T then some (.one (.v (.int .i64 s.size))) else none
  | _ => none
def putL {α : Type} (l : List α) : Nat → List α → List α
  | _, [] => l
  | o, v :: r => putL (l.set o v) (o + 1) r
/-- A struct's cells, its parts put. -/
def fillS (S : List (Nat × SV)) (pl : List (Nat × Nat)) : List C → List (Nat × Operand) → Option (List C)
  | cs, [] => some cs
  | cs, (i, x) :: r => match pl[i]?, opd S x with
    | some (off, size), some sv => if sv.flat && sv.cells.all C.one1 && Nat.beq sv.cells.length size && Nat.ble (off + size) cs.length then fillS S pl (putL cs off sv.cells) r else none
    | _, _ => none
def buildS (tab : Tab) (S : List (Nat × SV)) (T : Nat) (parts : List (Nat × Operand)) : Option SV :=
  match getT tab.ti T, getB tab.bl T with
  | some ti, some pl => (fillS S pl (ti.z.map .v) parts).map .agg
  | _, _ => none
def opds (S : List (Nat × SV)) : List Operand → Option (List SV)
  | [] => some []
  | x :: r => match opd S x, opds S r with
    | some v, some l => some (v :: l)
    | _, _ => none
def funS (fn : Fn) (S : List (Nat × SV)) (L : List Blk) (first captured : List Operand) : Option SV :=
  match opds S first, opds S captured with
  | some a, some b => some (.one (.v (.func fn (a.map (SV.den L)).toArray (b.map (SV.den L)).toArray)))
  | _, _ => none
def notS : Option SV → Option SV
  | some (.one (.lit b)) => some (.one (.lit (!b)))
  | some (.one (.v (.bool b))) => some (.one (.v (.bool (!b))))
  | _ => none
def extS (i : Nat) : Option SV → Option SV
  | some (.tup l) => match l[i]? with
    | some (true, cs) => some (.agg cs)
    | some (false, c :: _) => some (.one c)
    | _ => none
  | _ => none
def nilckS : Option SV → Option SV
  | some (.one (.ptr t o)) => some (.one (.ptr t o))
  | some (.one (.v (.pointer (some ad)))) => some (.one (.v (.pointer (some ad))))
  | _ => none
def capS (tab : Tab) (T : Nat) : Option SV → Option SV
  | some (.one (.v (.slice _ _ c))) => if (getS tab.sl T).isSome then some (.one (.v (.int .i64 c))) else none
  | _ => none
def mxS (b : Bool) : Option SV → Option SV → Option SV
  | some (.one (.v (.int k i))), some (.one (.v (.int _ j))) => match b with
    | true => some (.one (.v (.int k (max i j))))
    | false => some (.one (.v (.int k (min i j))))
  | _, _ => none
def pureOp (tab : Tab) (L : List Blk) (S : List (Nat × SV)) : Op → Option SV
  | .move x => opd S x
  | .assign x => opd S x
  | .nilCheck x => nilckS (opd S x)
  | .fieldAddr T x f => fieldAddrS tab T f (opd S x)
  | .field T x f => fieldS tab T f (opd S x)
  | .load T x => loadS tab L T (opd S x)
  | .unOp .not _ x => notS (opd S x)
  | .extract x i => extS i (opd S x)
  | .pick c x y => match opd S c with
    | some (.one (.lit true)) => opd S x
    | some (.one (.lit false)) => opd S y
    | _ => none
  | .build T parts => buildS tab S T parts.toList
  | .makeFunc fn first captured => funS fn S L first.toList captured.toList
  | .binOp op T x y _ => if tab.pt.contains T then nilS op (opd S x) (opd S y) else if (getS tab.sl T).isSome then nilSl op (opd S x) (opd S y) else cmpS op (opd S x) (opd S y)
  | .call { callee := .builtin .len, args, argTypes } => match args.toList, argTypes.toList with
    | [x], [T] => lenS tab T (opd S x)
    | _, _ => none
  | .call { callee := .builtin .cap, args, argTypes } => match args.toList, argTypes.toList with
    | [x], [T] => capS tab T (opd S x)
    | _, _ => none
  | .call { callee := .builtin .max, args, .. } => match args.toList with
    | [x, y] => mxS true (opd S x) (opd S y)
    | _ => none
  | .call { callee := .builtin .min, args, .. } => match args.toList with
    | [x, y] => mxS false (opd S x) (opd S y)
    | _ => none
  | _ => none
section
variable {P : Program} {tab : Tab} {n : Nat} {L : List Blk} {S : List (Nat × SV)} {a : Act} {w : World} {o : Oper}
theorem subc_eq {cs r : List C} {o n : Nat} (h : subc cs o n = some r) : r.length = n ∧ ∀ j, j < n → r[j]? = cs[o + j]? := by
  unfold subc at h
  simp only [] at h
  split at h
  · rename_i hb
    cases h
    have hl := Nat.eq_of_beq_eq_true hb
    refine ⟨hl, fun j hj => ?_⟩
    rw [List.getElem?_take_of_lt hj, List.getElem?_drop]
  · cases h
theorem known_cell (hK : Known L w) {t o : Nat} {b : Blk} (hb : L[t]? = some b) {c : C} (hc : b.cs[o]? = some c) : w.cell? ⟨gOf L t, o, none⟩ = some (c.den L) := by
  have h := hK.1 t b hb
  have hg : gOf L t = b.g := by unfold gOf; rw [hb]
  unfold World.cell?
  rw [hg, h]
  simp [hc]
theorem known_froz (hK : Known L w) {t o : Nat} {b : Blk} (hb : L[t]? = some b) : w.frozen? ⟨gOf L t, o, none⟩ = false := by
  have h := hK.1 t b hb
  have hg : gOf L t = b.g := by unfold gOf; rw [hb]
  unfold World.frozen?
  rw [hg, h]
  simp
theorem isAgg_no {T : Nat} {d : TypeDesc} (hu : P.underlying T = some d) (hd : d.isRow = false) (w : World) : (isAgg T).run P w = .ok false w := by
  unfold isAgg
  rw [Sem.run_bind, run_underlying hu w]
  cases d <;> simp_all [TypeDesc.isRow]
theorem isAgg_yes {T : Nat} {d : TypeDesc} (hu : P.underlying T = some d) (hd : d.isRow = true) (w : World) : (isAgg T).run P w = .ok true w := by
  unfold isAgg
  rw [Sem.run_bind, run_underlying hu w]
  cases d <;> simp_all [TypeDesc.isRow]
theorem sizeOf_is {T m : Nat} (h : (P.info? T).map (·.size) = some m) (w : World) : (sizeOf T).run P w = .ok m w := by
  obtain ⟨i, hi, hz⟩ := Option.map_eq_some_iff.1 h
  simp [sizeOf, typeInfo, hi, hz, Sem.run_bind]
theorem load_ok (ht : tab.ok P) (hS : Slots n L S a) (hK : Known L w) {T : Nat} {x : Operand} (ho : o.op = .load T x) {sv : SV} (h : loadS tab L T (opd S x) = some sv) : (execOp a.eval o).run P w = .ok (.value (sv.den L)) w := by
  unfold loadS at h
  split at h <;> try (cases h; done)
  rename_i t off hx
  have ex := opd_ok hS hx
  split at h <;> try (cases h; done)
  rename_i ti b hti hb
  obtain ⟨⟨hsz, ⟨d, hd, hdr⟩, _⟩, hty⟩ := getT_ok ht.ti hti
  rw [hty] at hsz hd
  have ex' : a.eval x = .pointer (some ⟨gOf L t, off, none⟩) := ex
  split at h
  · rename_i hrow
    cases hs : subc b.cs off ti.size with
    | none => rw [hs] at h; cases h
    | some r =>
      rw [hs] at h; cases h
      obtain ⟨hl, hr⟩ := subc_eq hs
      unfold execOp
      simp only [ho, ex', Instr.loadAt, Instr.sureAddr, Sem.run_bind, Sem.run_pure, Result.andThen_ok]
      rw [run_loadVar_mid (P := P) w (gOf L t) off T (r.map (C.den L)) d (fun j v hj => by
        rw [List.getElem?_map] at hj
        obtain ⟨c, hc, rfl⟩ := Option.map_eq_some_iff.1 hj
        have hjl : j < ti.size := hl ▸ (List.getElem?_eq_some_iff.1 hc).1
        exact known_cell hK hb ((hr j hjl).symm.trans hc)) hd (hdr.trans hrow) (by rw [hsz, List.length_map, hl])]
      rfl
  · rename_i hrow
    cases hc : b.cs[off]? with
    | none => rw [hc] at h; cases h
    | some c =>
      rw [hc] at h; cases h
      have hcell := known_cell hK hb hc
      have hagg := isAgg_no hd (hdr.trans (by simpa using hrow)) w
      unfold execOp
      simp only [ho, ex', Instr.loadAt, Instr.sureAddr, Sem.run_bind, Sem.run_pure, Result.andThen_ok]
      simp [loadVar, Sem.run_bind, hagg, hcell, SV.den]
theorem fieldAddr_ok (ht : tab.ok P) (hS : Slots n L S a) {T f : Nat} {x : Operand} (ho : o.op = .fieldAddr T x f) {sv : SV} (h : fieldAddrS tab T f (opd S x) = some sv) : (execOp a.eval o).run P w = .ok (.value (sv.den L)) w := by
  unfold fieldAddrS at h
  split at h <;> try (cases h; done)
  rename_i fi hfi
  split at h <;> try (cases h; done)
  rename_i ti hti
  split at h <;> try (cases h; done)
  rename_i hnz
  obtain ⟨⟨fs, fd, hu, hf, ho1, hf1⟩, hst, hff⟩ := getF_ok ht.fi hfi
  obtain ⟨⟨hsz, _⟩, hty⟩ := getT_ok ht.ti hti
  rw [hst] at hu; rw [hff] at hf; rw [hty] at hsz
  have hz : ¬ ti.size = 0 := fun e => hnz (by rw [e]; rfl)
  have key : ∀ ad : Addr, (Instr.fieldAt T (.pointer (some ad)) f).run P w = .ok (.pointer (some (ad.add fi.off))) w := fun ad => by
    have h1 : (sizeOf fd.type).run P w = .ok ti.size w := by rw [hf1]; exact sizeOf_is hsz w
    unfold Instr.fieldAt
    simp only [Sem.run_bind, run_underlying hu w, Result.andThen_ok, hf, Sem.run_pure, Instr.sureAddr, fieldPlace, h1, if_neg hz, ho1]
  split at h <;> try (cases h; done)
  · rename_i t o' hx
    cases h
    have ex : a.eval x = .pointer (some ⟨gOf L t, o', none⟩) := opd_ok hS hx
    unfold execOp
    simp only [ho, ex, Sem.run_bind, key, Result.andThen_ok, Sem.run_pure, Addr.add_mid]
    rfl
  · rename_i ad hx
    cases h
    have ex : a.eval x = .pointer (some ad) := opd_ok hS hx
    unfold execOp
    simp only [ho, ex, Sem.run_bind, key, Result.andThen_ok, Sem.run_pure]
    rfl
theorem den_drop {cs r : List C} {o m : Nat} (h : subc cs o m = some r) : ((cs.map (C.den L)).toArray.extract o (o + m)) = (r.map (C.den L)).toArray := by
  unfold subc at h
  simp only [] at h
  split at h
  · cases h
    rw [List.extract_toArray, List.extract_eq_take_drop]
    simp [List.map_take, List.map_drop]
  · cases h
theorem field_ok (ht : tab.ok P) (hS : Slots n L S a) {T f : Nat} {x : Operand} (ho : o.op = .field T x f) {sv : SV} (h : fieldS tab T f (opd S x) = some sv) : (execOp a.eval o).run P w = .ok (.value (sv.den L)) w := by
  unfold fieldS at h
  split at h <;> try (cases h; done)
  rename_i fi hfi
  split at h <;> try (cases h; done)
  rename_i ti hti
  obtain ⟨⟨fs, fd, hu, hf, ho1, hf1⟩, hst, hff⟩ := getF_ok ht.fi hfi
  obtain ⟨⟨hsz, ⟨d, hd, hdr⟩, _⟩, hty⟩ := getT_ok ht.ti hti
  rw [hst] at hu; rw [hff] at hf; rw [hty] at hsz hd
  split at h <;> try (cases h; done)
  rename_i cs hx
  have ex : a.eval x = .agg (cs.map (C.den L)).toArray := opd_ok hS hx
  have h1 := sizeOf_is hsz w
  have key : (Instr.field T (.agg (cs.map (C.den L)).toArray) f).run P w = .ok (sv.den L) w := by
    unfold Instr.field
    simp only [Sem.run_bind, run_underlying hu w, Result.andThen_ok, hf, asAgg, Sem.run_pure, part, hf1, ho1]
    split at h
    · rename_i hrow
      cases hs : subc cs fi.off ti.size with
      | none => rw [hs] at h; cases h
      | some r =>
        rw [hs] at h; cases h
        simp only [isAgg_yes hd (hdr.trans hrow) w, Result.andThen_ok, if_true, Sem.run_bind, h1, Sem.run_pure, den_drop hs]
        rfl
    · rename_i hrow
      cases hc : cs[fi.off]? with
      | none => rw [hc] at h; cases h
      | some c =>
        rw [hc] at h; cases h
        simp [isAgg_no hd (hdr.trans (by simpa using hrow)) w, hc, SV.den]
  unfold execOp
  simp only [ho, ex, Sem.run_bind, key, Result.andThen_ok, Sem.run_pure]
theorem cmp_ok (hS : Slots n L S a) {op : BinOp} {T T' : Nat} {x y : Operand} (ho : o.op = .binOp op T x y T') {sv : SV} (h : cmpS op (opd S x) (opd S y) = some sv) : (execOp a.eval o).run P w = .ok (.value (sv.den L)) w := by
  unfold cmpS at h
  split at h <;> try (cases h; done)
  rename_i k i k' j hx hy
  split at h <;> try (cases h; done)
  rename_i hk
  subst hk
  have ex : a.eval x = .int k i := opd_ok hS hx
  have ey : a.eval y = .int k j := opd_ok hS hy
  split at h <;> first | (cases h; done) | (cases h; unfold execOp; simp only [ho, ex, ey, SV.den, C.den]; simp [go_sem])
theorem nil_eql {T e : Nat} (he : P.underlying T = some (.pointer e)) (p : Option Addr) : (binOp .eql T (.pointer p) (.pointer none)).run P w = .ok (.bool p.isNone) w := by
  unfold binOp Op.equal Op.maxDepth Op.equalIn
  cases p <;> simp [Sem.run_bind, run_underlying he w]
theorem nil_neq {T e : Nat} (he : P.underlying T = some (.pointer e)) (p : Option Addr) : (binOp .neq T (.pointer p) (.pointer none)).run P w = .ok (.bool p.isSome) w := by
  unfold binOp Op.equal Op.maxDepth Op.equalIn
  cases p <;> simp [Sem.run_bind, run_underlying he w]
theorem eqGuard_ptr {T e : Nat} (he : P.underlying T = some (.pointer e)) (op : BinOp) (x y : Operand) (p q : Option Addr) : (eqGuard op T x y (.pointer p) (.pointer q)).run P w = .ok () w := by
  unfold eqGuard
  go_simp
theorem nil_run {op : BinOp} {T T' e : Nat} (he : P.underlying T = some (.pointer e)) {x y : Operand} (ho : o.op = .binOp op T x y T') {p : Option Addr} {b : Value} (hx : a.eval x = .pointer p) (hy : a.eval y = .pointer none) (hb : (op = .eql ∧ b = .bool p.isNone) ∨ (op = .neq ∧ b = .bool p.isSome)) : (execOp a.eval o).run P w = .ok (.value b) w := by
  unfold execOp
  simp only [ho, hx, hy]
  rcases hb with ⟨rfl, rfl⟩ | ⟨rfl, rfl⟩
  · simp only [Sem.run_bind, eqGuard_ptr he, nil_eql he, Result.andThen_ok, Sem.run_pure]
  · simp only [Sem.run_bind, eqGuard_ptr he, nil_neq he, Result.andThen_ok, Sem.run_pure]
theorem nilsl_run {op : BinOp} {T T' e : Nat} (he : P.underlying T = some (.slice e)) {x y : Operand} (ho : o.op = .binOp op T x y T') {p : Option Addr} {n1 c1 n2 c2 : Nat} {b : Value} (hx : a.eval x = .slice p n1 c1) (hy : a.eval y = .slice none n2 c2) (hb : (op = .eql ∧ b = .bool p.isNone) ∨ (op = .neq ∧ b = .bool p.isSome)) : (execOp a.eval o).run P w = .ok (.value b) w := by
  unfold execOp
  simp only [ho, hx, hy]
  rcases hb with ⟨rfl, rfl⟩ | ⟨rfl, rfl⟩
  · unfold binOp Op.equal Op.maxDepth Op.equalIn
    cases p <;> simp [Sem.run_bind, run_underlying he w, eqGuard]
  · unfold binOp Op.equal Op.maxDepth Op.equalIn
    cases p <;> simp [Sem.run_bind, run_underlying he w, eqGuard]
theorem nil_ok (hp : allP P tab.pt) (hS : Slots n L S a) {op : BinOp} {T T' : Nat} (hT : tab.pt.contains T = true) {x y : Operand} (ho : o.op = .binOp op T x y T') {sv : SV} (h : nilS op (opd S x) (opd S y) = some sv) : (execOp a.eval o).run P w = .ok (.value (sv.den L)) w := by
  have : ∀ l : List Nat, allP P l → l.contains T = true → ∃ e, P.underlying T = some (.pointer e) := by
    intro l
    induction l with
    | nil => intro _ h; cases h
    | cons i r ih =>
      intro hl hc
      rw [List.contains_cons, Bool.or_eq_true] at hc
      rcases hc with hc | hc
      · rw [beq_iff_eq.1 hc]; exact hl.1
      · exact ih hl.2 hc
  obtain ⟨e, he⟩ := this tab.pt hp hT
  unfold nilS at h
  split at h <;> try (cases h; done)
  all_goals
    rename_i hx hy
    have ey := opd_ok hS hy
    have ex := opd_ok hS hx
    simp only [SV.den, C.den] at ex ey
    split at h <;> first | (cases h; done) | (cases h; exact nil_run he ho ex ey (by first | exact .inl ⟨rfl, rfl⟩ | exact .inr ⟨rfl, rfl⟩))
theorem len_ok (ht : tab.ok P) (hS : Slots n L S a) {T : Nat} {x : Operand} {as1 : Array Operand} {ts : Array TypeId} (ho : o.op = .call { callee := .builtin .len, args := as1, argTypes := ts }) (h1 : as1.toList = [x]) (h2 : ts.toList = [T]) {sv : SV} (h : lenS tab T (opd S x) = some sv) : (execOp a.eval o).run P w = .ok (.value (sv.den L)) w := by
  have e1 : as1 = #[x] := by rw [← h1]
  have e2 : ts = #[T] := by rw [← h2]
  subst e1; subst e2
  have hsl : (getS tab.sl T).isSome = true → ∃ e, P.underlying T = some (.slice e) := fun hs => by
    obtain ⟨e, he⟩ := Option.isSome_iff_exists.1 hs
    exact ⟨e, getS_ok ht.sl he⟩
  have hstr : ∀ l : List Nat, allStr P l → l.contains T = true → P.underlying T = some .string := by
    intro l
    induction l with
    | nil => intro _ h; cases h
    | cons i r ih =>
      intro hl hc
      rw [List.contains_cons, Bool.or_eq_true] at hc
      rcases hc with hc | hc
      · rw [beq_iff_eq.1 hc]; exact hl.1
      · exact ih hl.2 hc
  have fin : ∀ v r : Value, a.eval x = v → (Builtin.len_ #[T] o.type #[v]).run P w = .ok r w → (execOp a.eval o).run P w = .ok (.value r) w := fun v r ex hr => by
    unfold execOp
    simp only [ho, resolve, invoke, builtin, Sem.run_bind, Sem.run_pure, Result.andThen_ok, List.map_toArray, List.map_cons, List.map_nil, ex, hr]
  unfold lenS at h
  split at h <;> try (cases h; done)
  all_goals
    rename_i hx
    have ex := opd_ok hS hx
    split at h <;> try (cases h; done)
    rename_i hs
    cases h
  · obtain ⟨e, he⟩ := hsl hs
    refine fin _ _ ex ?_
    unfold Builtin.len_
    simp only [SV.den, C.den, List.getElem?_toArray, List.getElem?_cons_zero, Sem.run_bind, run_underlying he w, Result.andThen_ok, Sem.run_pure, goInt]
  · obtain ⟨e, he⟩ := hsl hs
    refine fin _ _ ex ?_
    unfold Builtin.len_
    simp only [SV.den, C.den, List.getElem?_toArray, List.getElem?_cons_zero, Sem.run_bind, run_underlying he w, Result.andThen_ok, Sem.run_pure, goInt]
  · have he := hstr _ ht.st hs
    refine fin _ _ ex ?_
    unfold Builtin.len_
    simp only [SV.den, C.den, List.getElem?_toArray, List.getElem?_cons_zero, Sem.run_bind, run_underlying he w, Result.andThen_ok, Sem.run_pure, goInt]
theorem one_cells {v : Value} (h : v.oneCell' = true) : v.cells = #[v] := by cases v <;> first | rfl | cases h
theorem one1_den {L : List Blk} {c : C} (h : c.one1 = true) : (c.den L).oneCell' = true := by cases c <;> first | exact h | rfl
theorem flat_cells {sv : SV} (h1 : sv.flat = true) (h2 : sv.cells.all C.one1 = true) : (sv.den L).cells = (sv.cells.map (C.den L)).toArray := by
  cases sv with
  | one c => show (c.den L).cells = _; rw [one_cells (one1_den (List.all_eq_true.1 h2 c (by simp [SV.cells])))]; simp [SV.cells]
  | agg cs => rfl
  | tup l => cases h1
theorem foldl_putL : ∀ (vs : List Value) (l : List Value) (o k : Nat), (vs.zipIdx k).foldl (fun (cs : Array Value) (x : Value × Nat) => cs.setIfInBounds (o + x.2) x.1) l.toArray = (putL l (o + k) vs).toArray
  | [], l, o, k => rfl
  | v :: r, l, o, k => by
    rw [List.zipIdx_cons, List.foldl_cons]
    simp only [List.setIfInBounds_toArray]
    rw [foldl_putL r (l.set (o + k) v) o (k + 1)]
    rfl
theorem putL_map {α β : Type} (f : α → β) : ∀ (vs l : List α) (o : Nat), (putL l o vs).map f = putL (l.map f) o (vs.map f)
  | [], _, _ => rfl
  | v :: r, l, o => by
    show (putL (l.set o v) (o + 1) r).map f = _
    rw [putL_map f r]
    simp [putL, List.map_set]
theorem fill_ok (hS : Slots n L S a) {pl : List (Nat × Nat)} : ∀ {parts : List (Nat × Operand)} {cs r : List C}, fillS S pl cs parts = some r → Instr.fill (fun i : Nat => pl[i]?) (cs.map (C.den L)).toArray (parts.map fun p => (p.1, a.eval p.2)) = some (r.map (C.den L)).toArray
  | [], cs, r, h => by cases h; rfl
  | (i, x) :: p, cs, r, h => by
    unfold fillS at h
    split at h <;> try (cases h; done)
    rename_i off size sv hp hx
    split at h <;> try (cases h; done)
    rename_i hc
    rw [Bool.and_eq_true, Bool.and_eq_true, Bool.and_eq_true] at hc
    obtain ⟨⟨⟨h1, h2⟩, h3⟩, h4⟩ := hc
    have e := opd_ok hS hx
    have hcl := flat_cells (L := L) h1 h2
    have hlen := Nat.eq_of_beq_eq_true h3
    have hle := Nat.le_of_ble_eq_true h4
    rw [List.map_cons]
    unfold Instr.fill
    simp only [hp, e, hcl]
    rw [if_neg (by simp [hlen]; omega)]
    have hz : ((sv.cells.map (C.den L)).toArray.zipIdx).foldl (fun (cs : Array Value) (x : Value × Nat) => cs.setIfInBounds (off + x.2) x.1) (cs.map (C.den L)).toArray = ((putL cs off sv.cells).map (C.den L)).toArray := by
      rw [putL_map]
      have := foldl_putL (sv.cells.map (C.den L)) (cs.map (C.den L)) off 0
      rw [Nat.add_zero] at this
      rw [← this]
      simp
    have ih := fill_ok hS h
    rw [← hz] at ih
    exact ih
theorem places_ok : ∀ {fs : List Field} {pl : List (Nat × Nat)}, plOk P fs pl → ∀ w, ((fs.mapM fun f => do pure (f.offset, ← sizeOf f.type) : Sem (List (Nat × Nat)))).run P w = .ok pl w
  | [], [], _, w => by simp
  | [], _ :: _, h, _ => h.elim
  | _ :: _, [], h, _ => h.elim
  | f :: r, p :: q, h, w => by
    obtain ⟨h1, h2, h3⟩ := h
    have ih := places_ok h3 w
    simp only [List.mapM_cons, Sem.run_bind, sizeOf_is h2 w, Result.andThen_ok, Sem.run_pure, h1]
    rw [ih]
    simp
theorem build_ok (ht : tab.ok P) (hS : Slots n L S a) {T : Nat} {parts : Array (Nat × Operand)} (ho : o.op = .build T parts) {sv : SV} (h : buildS tab S T parts.toList = some sv) : (execOp a.eval o).run P w = .ok (.value (sv.den L)) w := by
  unfold buildS at h
  split at h <;> try (cases h; done)
  rename_i ti pl hti hpl
  obtain ⟨r, hr, rfl⟩ := Option.map_eq_some_iff.1 h
  obtain ⟨⟨_, _, v, hv1, hv2, _, _⟩, hty⟩ := getT_ok ht.ti hti
  rw [hty] at hv1
  obtain ⟨fs, hu, hpo⟩ := getB_ok ht.bl hpl
  obtain ⟨inf, hi, hz⟩ := Option.map_eq_some_iff.1 hv1
  have hzero : (zeroValue T).run P w = .ok v w := by simp [zeroValue, typeInfo, hi, hz, Sem.run_bind]
  have hplaces : ((fs.mapM fun f => do pure (f.offset, ← sizeOf f.type) : Sem (Array (Nat × Nat)))).run P w = .ok pl.toArray w := by
    have e : fs = fs.toList.toArray := rfl
    have h1 := places_ok hpo w
    rw [e, List.mapM_toArray]
    show ((_ >>= fun x => pure (List.toArray x) : Sem (Array (Nat × Nat)))).run P w = _
    rw [Sem.run_bind, h1]
    rfl
  have hf := fill_ok hS hr
  have e0 : ((ti.z.map C.v).map (C.den L)).toArray = v.cells := by
    rw [List.map_map, show (C.den L ∘ C.v) = id from rfl, List.map_id, ← hv2]
  rw [e0] at hf
  have e1 : (fun i : Nat => pl.toArray[i]?) = (fun i : Nat => pl[i]?) := by funext i; simp
  have hb : (Instr.build T (parts.map fun (i, x) => (i, a.eval x))).run P w = .ok (.agg (r.map (C.den L)).toArray) w := by
    unfold Instr.build
    simp only [Sem.run_bind, hzero, Result.andThen_ok, run_underlying hu w, hplaces, e1, Array.toList_map]
    rw [hf]
    simp
  unfold execOp
  simp only [ho, Sem.run_bind, hb, Result.andThen_ok, Sem.run_pure]
  rfl
theorem opds_ok {S : List (Nat × SV)} {L : List Blk} {a : Act} (hS : Slots n L S a) : ∀ {l : List Operand} {r : List SV}, opds S l = some r → l.map a.eval = r.map (SV.den L)
  | [], r, h => by cases h; rfl
  | x :: l, r, h => by
    unfold opds at h
    split at h <;> try (cases h; done)
    rename_i v l' hv hl
    cases h
    rw [List.map_cons, List.map_cons, opd_ok hS hv, opds_ok hS hl]
theorem pure_ok (ht : tab.ok P) (hS : Slots n L S a) (hK : Known L w) {sv : SV} (h : pureOp tab L S o.op = some sv) : (execOp a.eval o).run P w = .ok (.value (sv.den L)) w := by
  unfold pureOp at h
  split at h
  · rename_i x ho; have ex := opd_ok hS h; unfold execOp; simp only [ho, ex, Sem.run_pure]
  · rename_i x ho; have ex := opd_ok hS h; unfold execOp; simp only [ho, ex, Sem.run_pure]
  · rename_i x ho
    unfold nilckS at h
    split at h <;> try (cases h; done)
    · rename_i t o' hx
      cases h
      have ex : a.eval x = .pointer (some ⟨gOf L t, o', none⟩) := opd_ok hS hx
      unfold execOp; simp only [ho, ex, Sem.run_pure]; rfl
    · rename_i ad hx
      cases h
      have ex : a.eval x = .pointer (some ad) := opd_ok hS hx
      unfold execOp; simp only [ho, ex, Sem.run_pure]; rfl
  · rename_i T x f ho; exact fieldAddr_ok ht hS ho h
  · rename_i T x f ho; exact field_ok ht hS ho h
  · rename_i T x ho; exact load_ok ht hS hK ho h
  · rename_i T x ho
    unfold notS at h
    split at h <;> try (cases h; done)
    all_goals
      rename_i b hx
      cases h
      have ex : a.eval x = .bool b := opd_ok hS hx
      unfold execOp; simp only [ho, ex, Op.unary, Sem.run_bind, Sem.run_pure, Result.andThen_ok]; rfl
  · rename_i x i ho
    unfold extS at h
    split at h <;> try (cases h; done)
    rename_i l hx
    have ex : a.eval x = .tuple (l.map (den1 L)).toArray := opd_ok hS hx
    have fin : ∀ y, l[i]? = some y → (execOp a.eval o).run P w = .ok (.value (den1 L y)) w := fun y hy => by
      unfold execOp
      simp only [ho, ex]
      simp [Instr.extract, hy]
    split at h <;> try (cases h; done)
    · rename_i cs hl; cases h; exact fin _ hl
    · rename_i c r hl; cases h; exact fin _ hl
  · rename_i c x y ho
    split at h <;> try (cases h; done)
    · rename_i hc
      have ec : a.eval c = .bool true := opd_ok hS hc
      have ex := opd_ok hS h
      unfold execOp; simp only [ho, ec, ex, asBool, Sem.run_bind, Sem.run_pure, Result.andThen_ok]; rfl
    · rename_i hc
      have ec : a.eval c = .bool false := opd_ok hS hc
      have ex := opd_ok hS h
      unfold execOp; simp only [ho, ec, ex, asBool, Sem.run_bind, Sem.run_pure, Result.andThen_ok]; rfl
  · rename_i T parts ho; exact build_ok ht hS ho h
  · rename_i fn first captured ho
    unfold funS at h
    split at h <;> try (cases h; done)
    rename_i u v hu hv
    cases h
    have e1 : first.map a.eval = (u.map (SV.den L)).toArray := by
      have := opds_ok hS hu
      rw [← this, ← Array.toList_map]
    have e2 : captured.map a.eval = (v.map (SV.den L)).toArray := by
      have := opds_ok hS hv
      rw [← this, ← Array.toList_map]
    unfold execOp
    simp only [ho, e1, e2, Instr.makeFunc, Sem.run_bind, Sem.run_pure, Result.andThen_ok]
    rfl
  · rename_i op T x y T' ho
    split at h
    · rename_i hT; exact nil_ok ht.pt hS hT ho h
    · split at h
      · rename_i hT
        obtain ⟨e, he⟩ := Option.isSome_iff_exists.1 hT
        have he := getS_ok ht.sl he
        unfold nilSl at h
        split at h <;> try (cases h; done)
        all_goals
          rename_i hx hy
          have ey := opd_ok hS hy
          have ex := opd_ok hS hx
          simp only [SV.den, C.den] at ex ey
          split at h <;> first | (cases h; done) | (cases h; exact nilsl_run he ho ex ey (by first | exact .inl ⟨rfl, rfl⟩ | exact .inr ⟨rfl, rfl⟩))
      · exact cmp_ok hS ho h
  · rename_i as1 ts ho
    split at h <;> try (cases h; done)
    rename_i x T h1 h2
    exact len_ok ht hS ho h1 h2 h
  · rename_i as1 ts ho
    split at h <;> try (cases h; done)
    rename_i x T h1 h2
    have e1 : as1 = #[x] := by rw [← h1]
    have e2 : ts = #[T] := by rw [← h2]
    subst e1; subst e2
    unfold capS at h
    split at h <;> try (cases h; done)
    rename_i hx
    have ex := opd_ok hS hx
    split at h <;> try (cases h; done)
    rename_i hs
    cases h
    obtain ⟨e, he⟩ := Option.isSome_iff_exists.1 hs
    have he := getS_ok ht.sl he
    unfold execOp
    simp only [ho, resolve, invoke, builtin, Sem.run_bind, Sem.run_pure, Result.andThen_ok, List.map_toArray, List.map_cons, List.map_nil, ex, SV.den, C.den]
    simp [Builtin.cap_, Sem.run_bind, run_underlying he w, goInt]
  · rename_i as1 ts ho
    split at h <;> try (cases h; done)
    rename_i x y h1
    unfold mxS at h
    split at h <;> try (cases h; done)
    rename_i k i k' j hx hy
    cases h
    have e1 : as1 = #[x, y] := by rw [← h1]
    subst e1
    have ex : a.eval x = .int k i := opd_ok hS hx
    have ey : a.eval y = .int k' j := opd_ok hS hy
    have e : (if j > i then j else i) = max i j := by omega
    unfold execOp
    simp only [ho, resolve, invoke, builtin, Sem.run_bind, Sem.run_pure, Result.andThen_ok, List.map_toArray, List.map_cons, List.map_nil, ex, ey]
    simp [Builtin.max_, Builtin.max2, e, SV.den, C.den]
  · rename_i as1 ts ho
    split at h <;> try (cases h; done)
    rename_i x y h1
    unfold mxS at h
    split at h <;> try (cases h; done)
    rename_i k i k' j hx hy
    cases h
    have e1 : as1 = #[x, y] := by rw [← h1]
    subst e1
    have ex : a.eval x = .int k i := opd_ok hS hx
    have ey : a.eval y = .int k' j := opd_ok hS hy
    have e : (if j < i then j else i) = min i j := by omega
    unfold execOp
    simp only [ho, resolve, invoke, builtin, Sem.run_bind, Sem.run_pure, Result.andThen_ok, List.map_toArray, List.map_cons, List.map_nil, ex, ey]
    simp [Builtin.min_, Builtin.min2, e, SV.den, C.den]
  · cases h
end
def exitK (id : Nat) : List K → Option (List K)
  | [] => none
  | .blk i :: k => if Nat.beq i id then some k else exitK id k
  | _ :: k => exitK id k
def setS (n : Nat) (S : List (Nat × SV)) (d : Option Nat) (sv : SV) : Option (List (Nat × SV)) := match d with
  | none => some S
  | some d => if Nat.blt d n then some ((d, sv) :: S) else none
def storeS (tab : Tab) (L : List Blk) (T : Nat) : Option SV → Option SV → Option (List Blk)
  | some (.one (.ptr t o)), some sv => match getT tab.ti T, L[t]? with
    | some ti, some b => if Nat.beq sv.cells.length ti.size && Nat.ble (o + ti.size) b.cs.length && sv.cells.all C.one1 && sv.lt L.length && sv.flat then some (L.set t ⟨b.g, b.ty, b.cs.take o ++ sv.cells ++ b.cs.drop (o + ti.size)⟩) else none
    | _, _ => none
  | _, _ => none
/-- What a guard says: the slot that it looks at. -/
def gslot (all : Array Oper) (j : Nat) : Option Nat := (all[j]?).bind (·.dst)
def stepOp1 (tab : Tab) (n : Nat) (all : Array Oper) (o : Oper) (r : List Oper) (k : List K) (S : List (Nat × SV)) (L : List Blk) (D : List Deferred) : Option St :=
  match pureOp tab L S o.op with
  | some sv => (setS n S o.dst sv).map fun S' => ⟨.ops all r :: k, S', L, D⟩
  | none => match o.op, o.dst with
    | .store T x y, none => (storeS tab L T (opd S x) (opd S y)).map fun L' => ⟨.ops all r :: k, S, L', D⟩
    | _, _ => none
def stepOp (tab : Tab) (n : Nat) (all : Array Oper) (o : Oper) (r : List Oper) (k : List K) (S : List (Nat × SV)) (L : List Blk) (D : List Deferred) : Option St :=
  match o.guard with
  | some (j, want) => match (gslot all j).bind (look S) with
    | some (.one (.lit b)) => if b = want then stepOp1 tab n all o r k S L D else (setS n S o.dst (.one (.v undef))).map fun S' => ⟨.ops all r :: k, S', L, D⟩
    | some (.one (.v (.tuple _))) => (setS n S o.dst (.one (.v undef))).map fun S' => ⟨.ops all r :: k, S', L, D⟩
    | _ => none
  | none => stepOp1 tab n all o r k S L D
def step (tab : Tab) (n : Nat) (s : St) : Option St :=
  match s.k with
  | [] => none
  | .mark _ :: _ => none
  | .blk _ :: k => some ⟨k, s.S, s.L, s.D⟩
  | .ops _ [] :: k => some ⟨k, s.S, s.L, s.D⟩
  | .ops all (o :: r) :: k => stepOp tab n all o r k s.S s.L s.D
  | .code c :: k => match c with
    | .skip => some ⟨k, s.S, s.L, s.D⟩
    | .label _ => some ⟨k, s.S, s.L, s.D⟩
    | .seq x y => some ⟨.code x :: .code y :: k, s.S, s.L, s.D⟩
    | .block id c => some ⟨.code c :: .blk id :: k, s.S, s.L, s.D⟩
    | .region _ ops false => some ⟨.ops ops ops.toList :: k, s.S, s.L, s.D⟩
    | .exit id => (exitK id k).map fun k => ⟨k, s.S, s.L, s.D⟩
    | .ret => some ⟨[], s.S, s.L, s.D⟩
    | .cond c x y => match opd s.S c with
      | some (.one (.lit true)) => some ⟨.code x :: k, s.S, s.L, s.D⟩
      | some (.one (.lit false)) => some ⟨.code y :: k, s.S, s.L, s.D⟩
      | _ => none
    | _ => none
def run (tab : Tab) (n : Nat) : Nat → St → St
  | 0, s => s
  | f + 1, s => match step tab n s with
    | some s' => run tab n f s'
    | none => s
/-- What must hold as each way out of what is still to do is taken. -/
def post (P : Program) (Q : Exit → Act → World → Prop) : List K → Exit → Act → World → Prop
  | [] => Q
  | .code c :: k => Exit.then (c.wp P (post P Q k)) (post P Q k)
  | .blk id :: k => Exit.inBlock id (post P Q k)
  | .ops all r :: k => Exit.then (wpList P all (post P Q k) r) (post P Q k)
  | .mark p :: k => Exit.then p (post P Q k)
theorem post_pan {P : Program} {Q : Exit → Act → World → Prop} [hP : PanOk Q] : ∀ (k : List K) {c : List PanicEntry} {a : Act} {w : World}, post P Q k (.panic c) a w → False
  | [], _, _, _, h => hP.no _ _ _ h
  | .code _ :: k, _, _, _, h => post_pan k h
  | .blk _ :: k, _, _, _, h => post_pan k h
  | .ops _ _ :: k, _, _, _, h => post_pan k h
  | .mark _ :: k, _, _, _, h => post_pan k h
section
variable {P : Program} {Q : Exit → Act → World → Prop} {tab : Tab} {n : Nat}
theorem post_exit {id : Nat} : ∀ {k k' : List K}, exitK id k = some k' → ∀ {a : Act} {w : World}, post P Q k' .normal a w → post P Q k (.exit id) a w
  | [], _, h, _, _, _ => by cases h
  | .blk i :: k, k', h, a, w, hp => by
    unfold exitK at h
    show Exit.inBlock i (post P Q k) (.exit id) a w
    unfold Exit.inBlock
    split at h
    · rename_i hb; cases h
      have := Nat.eq_of_beq_eq_true hb
      simp [this]; exact hp
    · rename_i hb
      have : ¬ id = i := fun e => hb (by rw [e]; exact Nat.beq_refl i)
      simp only [this, if_false]
      exact post_exit h hp
  | .code c :: k, k', h, a, w, hp => post_exit (k := k) h hp
  | .ops x y :: k, k', h, a, w, hp => post_exit (k := k) h hp
  | .mark p :: k, k', h, a, w, hp => post_exit (k := k) h hp
theorem post_ret (hQ : ∀ a w, Q .normal a w → Q .ret a w) : ∀ (k : List K) {a : Act} {w : World}, Q .normal a w → post P Q k .ret a w
  | [], _, _, h => hQ _ _ h
  | .blk i :: k, a, w, h => post_ret hQ k h
  | .code c :: k, a, w, h => post_ret hQ k h
  | .ops x y :: k, a, w, h => post_ret hQ k h
  | .mark p :: k, a, w, h => post_ret hQ k h
/-- From here on all goes well, in whatever world bears what is known. -/
structure SX (P : Program) (Q : Exit → Act → World → Prop) (n : Nat) (s : St) (w0 : World) : Prop where
  of : ∀ a w, Slots n s.L s.S a → a.defers = s.D → Known s.L w → Rel s.L w0 w → post P Q s.k .normal a w
theorem slots_set {L : List Blk} {S S' : List (Nat × SV)} {d : Option Nat} {sv : SV} {a : Act} (h : Slots n L S a) (hs : setS n S d sv = some S') : Slots n L S' (a.put d (sv.den L)) := by
  unfold setS at hs
  split at hs
  · cases hs; exact h
  · rename_i d
    split at hs
    · rename_i hd; cases hs
      have hd' : d < n := by simpa [Nat.blt_eq] using hd
      refine ⟨by simp [Act.put, h.1], fun k v hk => ?_⟩
      unfold look at hk
      simp only [Act.put]
      split at hk
      · rename_i hb; cases hk
        have := Nat.eq_of_beq_eq_true hb
        subst this
        rw [Array.getElem?_setIfInBounds, if_pos rfl, if_pos (by rw [h.1]; exact hd')]
      · rename_i hb
        have : ¬ d = k := fun e => hb (by rw [e]; exact Nat.beq_refl k)
        rw [Array.getElem?_setIfInBounds, if_neg this]
        exact h.2 k v hk
    · cases hs
end
section
theorem gOf_set {L : List Blk} {t : Nat} {b : Blk} (hb : L[t]? = some b) (cs : List C) : gOf (L.set t ⟨b.g, b.ty, cs⟩) = gOf L := by
  funext i
  unfold gOf
  rw [List.getElem?_set]
  by_cases h : t = i
  · subst h
    rw [if_pos rfl, if_pos (List.getElem?_eq_some_iff.1 hb).1, hb]
  · rw [if_neg h]
theorem denC_eq {L L' : List Blk} (h : gOf L' = gOf L) : C.den L' = C.den L := by
  funext c; cases c <;> simp [C.den, h]
theorem den_eq {L L' : List Blk} (h : gOf L' = gOf L) : SV.den L' = SV.den L := by
  have h1 := denC_eq h
  have h2 : den1 L' = den1 L := by
    funext x
    rcases x with ⟨b, cs⟩
    cases b
    · cases cs <;> simp [den1, h1]
    · simp [den1, h1]
  funext x; cases x <;> simp [SV.den, h1, h2]
theorem putL_eq {α : Type} : ∀ (vs l : List α) (o : Nat), o + vs.length ≤ l.length → putL l o vs = l.take o ++ vs ++ l.drop (o + vs.length)
  | [], l, o, _ => by simp [putL]
  | v :: r, l, o, h => by
    simp only [List.length_cons] at h
    show putL (l.set o v) (o + 1) r = _
    rw [putL_eq r (l.set o v) (o + 1) (by rw [List.length_set]; omega)]
    have h1 : (l.set o v).take (o + 1) = l.take o ++ [v] := by
      rw [List.take_add_one, List.take_set_of_le (Nat.le_refl o), List.getElem?_set_self (by omega)]; rfl
    rw [h1, List.drop_set_of_lt (by omega)]
    simp only [List.append_assoc, List.length_cons, List.cons_append, List.nil_append]
    rw [show o + 1 + r.length = o + (r.length + 1) by omega]
theorem lies_new (w : World) (o : Obj) : (w.alloc o).heap[w.heap.size]? = some o := by
  show (w.heap.push o)[w.heap.size]? = some o
  simp
theorem lies_old (w : World) (o : Obj) (i : Nat) (h : i < w.heap.size) : (w.alloc o).heap[i]? = w.heap[i]? := by
  show (w.heap.push o)[i]? = w.heap[i]?
  rw [Array.getElem?_push, if_neg (Nat.ne_of_lt h)]
theorem heap_setCells (g ty : Nat) : ∀ (vs : List Value) (o : Nat) (w : World) (cells : List Value), w.heap[g]? = some (Obj.cells cells.toArray ty (0, 0)) → (w.setCells g o vs).heap[g]? = some (Obj.cells (putL cells o vs).toArray ty (0, 0))
  | [], _, _, _, h => h
  | v :: r, o, w, cells, h => by
    refine heap_setCells g ty r (o + 1) (w.setCell ⟨g, o, none⟩ v) (cells.set o v) ?_
    simp [World.setCell, Array.getElem?_modify, h]
theorem heap_setCells_far (g : Nat) : ∀ (vs : List Value) (o : Nat) (w : World), (w.setCells g o vs).heap.size = w.heap.size ∧ ∀ k, k ≠ g → (w.setCells g o vs).heap[k]? = w.heap[k]?
  | [], _, _ => ⟨rfl, fun _ _ => rfl⟩
  | v :: r, o, w => by
    have h := heap_setCells_far g r (o + 1) (w.setCell ⟨g, o, none⟩ v)
    refine ⟨h.1.trans (by simp [World.setCell]), fun k hk => (h.2 k hk).trans ?_⟩
    simp [World.setCell, Array.getElem?_modify, Ne.symm hk]
variable {P : Program} {Q : Exit → Act → World → Prop} {tab : Tab} {n : Nat}
theorem store_ok {L L' : List Blk} {S : List (Nat × SV)} {a : Act} {w w0 : World} {o : Oper} (ht : tab.ok P) (hS : Slots n L S a) (hK : Known L w) (hR : Rel L w0 w) {T : Nat} {x y : Operand} (ho : o.op = .store T x y) (h : storeS tab L T (opd S x) (opd S y) = some L') :
    ∃ w', (execOp a.eval o).run P w = .ok .skip w' ∧ Known L' w' ∧ Rel L' w0 w' ∧ Slots n L' S a := by
  unfold storeS at h
  split at h <;> try (cases h; done)
  rename_i t off sv hx hy
  split at h <;> try (cases h; done)
  rename_i ti b hti hb
  split at h <;> try (cases h; done)
  rename_i hc
  cases h
  simp only [Bool.and_eq_true] at hc
  obtain ⟨⟨⟨⟨hc1, hc2⟩, hc3⟩, hc4⟩, hc5⟩ := hc
  have hlen := Nat.eq_of_beq_eq_true hc1
  have hle := Nat.le_of_ble_eq_true hc2
  obtain ⟨⟨hsz, _⟩, hty⟩ := getT_ok ht.ti hti
  rw [hty] at hsz
  have ex : a.eval x = .pointer (some ⟨gOf L t, off, none⟩) := opd_ok hS hx
  have ey := opd_ok hS hy
  have hg : gOf L t = b.g := by unfold gOf; rw [hb]
  have hone : ∀ c ∈ sv.cells, (c.den L).oneCell' = true := fun c hc => one1_den (List.all_eq_true.1 hc3 c hc)
  have hcells : (sv.den L).cells = (sv.cells.map (C.den L)).toArray := by
    cases sv with
    | one c => show (c.den L).cells = _; rw [one_cells (hone c (by simp [SV.cells]))]; simp [SV.cells]
    | agg cs => rfl
    | tup l => cases hc5
  have hblk := hK.1 t b hb
  have hrun : (Instr.storeAt T (.pointer (some ⟨gOf L t, off, none⟩)) (sv.den L)).run P w = .ok () (w.setCells b.g off (sv.cells.map (C.den L))) := by
    have := run_storeAt_mid (P := P) w b.g off T (sv.cells.map (C.den L)).toArray (fun j hj => by
      have hj' : j < sv.cells.length := by simpa using hj
      constructor
      · rw [← hg, known_cell hK hb (c := b.cs[off + j]'(by omega)) (List.getElem?_eq_getElem _)]; rfl
      · rw [← hg]; exact known_froz hK hb) (by rw [hsz]; simp [hlen]) (all_oneCell_toArray (fun v hv => by
      obtain ⟨c, hc, rfl⟩ := List.mem_map.1 hv
      exact hone c hc))
    rw [hg]
    have e1 : (Instr.storeAt T (.pointer (some ⟨b.g, off, none⟩)) (sv.den L)) = (Instr.storeAt T (.pointer (some ⟨b.g, off, none⟩)) (.agg (sv.cells.map (C.den L)).toArray)) := by
      unfold Instr.storeAt storeVar
      simp only [hcells]
      rfl
    rw [e1, this]
  refine ⟨w.setCells b.g off (sv.cells.map (C.den L)), ?_, ?_, ?_, ?_⟩
  · unfold execOp
    simp only [ho, ex, ey, Sem.run_bind, hrun, Result.andThen_ok, Sem.run_pure]
  · have hgo := gOf_set hb (b.cs.take off ++ sv.cells ++ b.cs.drop (off + ti.size))
    rw [Known, denC_eq hgo]
    have hfar := heap_setCells_far b.g (sv.cells.map (C.den L)) off w
    constructor
    · intro i c hi
      rw [List.getElem?_set] at hi
      by_cases h : t = i
      · subst h
        rw [if_pos rfl, if_pos (List.getElem?_eq_some_iff.1 hb).1] at hi
        cases hi
        rw [heap_setCells b.g b.ty _ off w _ hblk, putL_eq _ _ _ (by simp; omega)]
        simp [hlen, List.map_take, List.map_drop]
      · rw [if_neg h] at hi
        rw [hfar.2 c.g (fun e => h (hK.2 t i b c hb hi e.symm))]
        exact hK.1 i c hi
    · intro i j c d hi hj e
      have key : ∀ (i : Nat) (c : Blk), (L.set t ⟨b.g, b.ty, b.cs.take off ++ sv.cells ++ b.cs.drop (off + ti.size)⟩)[i]? = some c → ∃ c', L[i]? = some c' ∧ c'.g = c.g := by
        intro i c hi
        rw [List.getElem?_set] at hi
        by_cases h : t = i
        · subst h
          rw [if_pos rfl, if_pos (List.getElem?_eq_some_iff.1 hb).1] at hi
          cases hi; exact ⟨b, hb, rfl⟩
        · rw [if_neg h] at hi; exact ⟨c, hi, rfl⟩
      obtain ⟨c', h1, h2⟩ := key i c hi
      obtain ⟨d', h3, h4⟩ := key j d hj
      exact hK.2 i j c' d' h1 h3 (by rw [h2, h4, e])
  · have hfar := heap_setCells_far b.g (sv.cells.map (C.den L)) off w
    refine .mk2 (by rw [hfar.1]; exact hR.1) (fun k hk hn => ?_) ((face_setCells b.g _ off w).trans hR.still)
    have hm : ∀ c ∈ L, c.g ≠ k := fun c hc => by
      obtain ⟨i, hi⟩ := List.mem_iff_getElem?.1 hc
      by_cases h : t = i
      · subst h
        rw [hb] at hi; cases hi
        exact hn ⟨b.g, b.ty, b.cs.take off ++ sv.cells ++ b.cs.drop (off + ti.size)⟩ (List.mem_iff_getElem?.2 ⟨t, by rw [List.getElem?_set, if_pos rfl, if_pos (List.getElem?_eq_some_iff.1 hb).1]⟩)
      · exact hn c (List.mem_iff_getElem?.2 ⟨i, by rw [List.getElem?_set, if_neg h, hi]⟩)
    rw [hfar.2 k (fun e => hm b (List.mem_iff_getElem?.2 ⟨t, hb⟩) e.symm)]
    exact hR.2 k hk hm
  · refine ⟨hS.1, fun k v hk => ?_⟩
    rw [den_eq (gOf_set hb _)]
    exact hS.2 k v hk
theorem step_ok (ht : tab.ok P) (hQ : ∀ a w, Q .normal a w → Q .ret a w) {s s' : St} (h : step tab n s = some s') {w0 : World} (hn : SX P Q n s' w0) : SX P Q n s w0 := by
  obtain ⟨k, S, L, D⟩ := s
  refine ⟨fun a w hS hD hK hR => ?_⟩
  simp only at hS hD hK hR
  unfold step at h
  simp only at h
  split at h
  · cases h
  · cases h
  · cases h; exact hn.of a w hS hD hK hR
  · cases h; exact hn.of a w hS hD hK hR
  · rename_i all o r k
    show wpList P all (post P Q k) (o :: r) a w
    have plain : stepOp1 tab n all o r k S L D = some s' → Region.wanted o (yielded all a.tmps) = true → wpList P all (post P Q k) (o :: r) a w := by
      intro h hwant
      refine wpList_step fun K hK' => ?_
      rw [if_pos hwant]
      unfold stepOp1 at h
      split at h
      · rename_i sv hp
        obtain ⟨S', hs', rfl⟩ := Option.map_eq_some_iff.1 h
        have hrun := pure_ok ht hS hK hp
        unfold Oper.wp
        rw [hrun]
        exact hK' _ _ (hn.of _ _ (slots_set hS hs') (by cases hd : o.dst <;> simp [Act.put, hd, hD]) hK hR)
      · split at h <;> try (cases h; done)
        rename_i T x y ho hdst
        obtain ⟨L', hl', rfl⟩ := Option.map_eq_some_iff.1 h
        obtain ⟨w', hrun, h1, h2, h3⟩ := store_ok ht hS hK hR ho hl'
        unfold Oper.wp
        rw [hrun]
        refine hK' _ _ ?_
        rw [hdst]
        exact hn.of a w' h3 hD h1 h2
    unfold stepOp at h
    split at h
    · rename_i j want hg
      split at h <;> try (cases h; done)
      · rename_i b hb
        obtain ⟨d, hd1, hd2⟩ := Option.bind_eq_some_iff.1 hb
        have hy : yielded all a.tmps j = some b := by
          have := hS.2 d _ hd2
          unfold gslot at hd1
          unfold yielded
          rw [hd1]
          simp [Array.getD_eq_getD_getElem?, this, SV.den, C.den]
        split at h
        · rename_i e
          exact plain h (by unfold Region.wanted; rw [hg]; simp [hy, e])
        · rename_i e
          obtain ⟨S', hs', rfl⟩ := Option.map_eq_some_iff.1 h
          refine wpList_step fun K hK' => ?_
          rw [if_neg (by unfold Region.wanted; rw [hg]; simp [hy, e])]
          exact hK' _ _ (hn.of _ _ (slots_set hS hs') (by cases hd : o.dst <;> simp [Act.put, hd, hD]) hK hR)
      · rename_i tv hb
        obtain ⟨d, hd1, hd2⟩ := Option.bind_eq_some_iff.1 hb
        have hy : yielded all a.tmps j = none := by
          have := hS.2 d _ hd2
          unfold gslot at hd1
          unfold yielded
          rw [hd1]
          simp [Array.getD_eq_getD_getElem?, this, SV.den, C.den]
        obtain ⟨S', hs', rfl⟩ := Option.map_eq_some_iff.1 h
        refine wpList_step fun K hK' => ?_
        rw [if_neg (by unfold Region.wanted; rw [hg]; simp [hy])]
        exact hK' _ _ (hn.of _ _ (slots_set hS hs') (by cases hd : o.dst <;> simp [Act.put, hd, hD]) hK hR)
    · rename_i hg
      exact plain h (by unfold Region.wanted; rw [hg])
  · rename_i c k
    show c.wp P (post P Q k) a w
    split at h
    · cases h; exact wp_skip (hn.of a w hS hD hK hR)
    · cases h; exact wp_label (hn.of a w hS hD hK hR)
    · rename_i x y
      cases h
      have h2 : x.wp P (post P Q (.code y :: k)) a w := hn.of a w hS hD hK hR
      exact wp_seq h2
    · rename_i id c
      cases h
      have h2 : c.wp P (post P Q (.blk id :: k)) a w := hn.of a w hS hD hK hR
      exact wp_block h2
    · rename_i id ops
      cases h
      have h2 : wpList P ops (post P Q k) ops.toList a w := hn.of a w hS hD hK hR
      exact wp_region_list h2
    · rename_i id
      obtain ⟨k', hk', rfl⟩ := Option.map_eq_some_iff.1 h
      exact wp_exit (post_exit hk' (hn.of a w hS hD hK hR))
    · cases h
      exact wp_ret (post_ret hQ k (hn.of a w hS hD hK hR))
    · rename_i c x y
      split at h <;> try (cases h; done)
      · rename_i hc
        cases h
        have h2 : x.wp P (post P Q k) a w := hn.of a w hS hD hK hR
        exact wp_cond_true (opd_ok hS hc) h2
      · rename_i hc
        cases h
        have h2 : y.wp P (post P Q k) a w := hn.of a w hS hD hK hR
        exact wp_cond_false (opd_ok hS hc) h2
    · cases h
theorem run_ok (ht : tab.ok P) (hQ : ∀ a w, Q .normal a w → Q .ret a w) {w0 : World} : ∀ (f : Nat) {s : St}, SX P Q n (run tab n f s) w0 → SX P Q n s w0
  | 0, _, h => h
  | f + 1, s, h => by
    unfold run at h
    split at h
    · rename_i s' hs; exact step_ok ht hQ hs (run_ok ht hQ f h)
    · exact h
end
abbrev go (tab : Tab) (n : Nat) (s : St) : St := run tab n 1000 s
def condOf (s : St) : Option Bool := match s.k with
  | .code (.cond c _ _) :: _ => match opd s.S c with
    | some (.one (.v (.bool b))) => some b
    | _ => none
  | _ => none
def brK (s : St) (t : Bool) : St := match s.k with
  | .code (.cond _ x y) :: k => ⟨.code (match t with | true => x | false => y) :: k, s.S, s.L, s.D⟩
  | _ => s
def guardOk (all : Array Oper) (S : List (Nat × SV)) (o : Oper) : Bool := match o.guard with
  | none => true
  | some (j, want) => match (gslot all j).bind (look S) with
    | some (.one (.lit b)) => b == want
    | _ => false
def opAt (n : Nat) (s : St) : Option Oper := match s.k with
  | .ops all (o :: _) :: _ => if guardOk all s.S o then (match o.dst with
      | none => some o
      | some d => if Nat.blt d n then some o else none) else none
  | _ => none
def putS (d : Option Nat) (sv : SV) (S : List (Nat × SV)) : List (Nat × SV) := match d with
  | some d => (d, sv) :: S
  | none => S
/-- A bool that is known to be this one: in a guard, or a condition of a pick. -/
def boolAt (S : List (Nat × SV)) (d : Nat) : Option Bool := match look S d with
  | some (.one (.v (.bool b))) => some b
  | _ => none
def litK (s : St) (d : Nat) (b : Bool) : St := ⟨s.k, (d, .one (.lit b)) :: s.S, s.L, s.D⟩
/-- The operation answered. -/
def ansK (s : St) (sv : SV) (L : List Blk) : St := match s.k with
  | .ops all (o :: r) :: k => ⟨.ops all r :: k, putS o.dst sv s.S, L, s.D⟩
  | _ => s
def callAt (S : List (Nat × SV)) (o : Oper) : Option (FuncId × List SV) := match o.op with
  | .call { callee := .value f, args, .. } => match opd S f, opds S args.toList with
    | some (.one (.v (.func (.func f) first cap))), some l => some (f, first.toList.map (fun v => .one (.v v)) ++ l ++ cap.toList.map (fun v => .one (.v v)))
    | _, _ => none
  | _ => none
def dfrK (L : List Blk) (s : St) : Option St := match s.k with
  | .ops all (o :: r) :: k => match o.guard, o.op, o.dst with
    | none, .defer { callee := .value f, args, .. }, none => match opd s.S f, opds s.S args.toList with
      | some (.one (.v (.func fn first cap))), some l => some ⟨.ops all r :: k, s.S, s.L, { target := .fn fn cap, args := first ++ (l.map (SV.den L)).toArray } :: s.D⟩
      | _, _ => none
    | _, _, _ => none
  | _ => none
def callOf (n : Nat) (s : St) : Option (FuncId × List SV) := (opAt n s).bind (callAt s.S)
def newOf (tab : Tab) (n : Nat) (s : St) : Option (Nat × List C) := match opAt n s with
  | some o => if (s.S.all fun x => x.2.lt s.L.length) && (s.L.all fun b => b.cs.all (C.lt s.L.length)) && o.dst.isSome then (match o.op with
    | .alloc T => (getT tab.ti T).map fun ti => (T, ti.z.map .v)
    | .box T x => match opd s.S x with
      | some sv => if sv.flat && sv.lt s.L.length && sv.cells.all C.one1 then some (T, sv.cells) else none
      | none => none
    | _ => none) else none
  | none => none
def newK (s : St) (g ty : Nat) (cs : List C) : St := ansK s (.one (.ptr s.L.length 0)) (s.L ++ [⟨g, ty, cs⟩])
def binAt (S : List (Nat × SV)) (o : Oper) : Option (BinOp × SV × SV) := match o.op with
  | .binOp op _ x y _ => match opd S x, opd S y with
    | some a, some b => some (op, a, b)
    | _, _ => none
  | _ => none
def binOf (n : Nat) (s : St) : Option (BinOp × SV × SV) := (opAt n s).bind (binAt s.S)
def ldAt (S : List (Nat × SV)) (o : Oper) : Option (Nat × Addr) := match o.op with
  | .load T x => match opd S x with
    | some (.one (.v (.pointer (some ad)))) => some (T, ad)
    | _ => none
  | _ => none
def ldOf (n : Nat) (s : St) : Option (Nat × Addr) := (opAt n s).bind (ldAt s.S)
def ixAt (tab : Tab) (S : List (Nat × SV)) (o : Oper) : Option (Nat × SV × SV) := match o.op with
  | .indexAddr T x y => match opd S x, opd S y, getS tab.sl T with
    | some a, some b, some e => (getT tab.ti e).map fun ti => (ti.size, a, b)
    | _, _, _ => none
  | _ => none
def ixOf (tab : Tab) (n : Nat) (s : St) : Option (Nat × SV × SV) := (opAt n s).bind (ixAt tab s.S)
def loopK (s : St) (p : Act → World → Prop) (S : List (Nat × SV)) (L : List Blk) (D : List Deferred) : St := match s.k with
  | .code (.loop c) :: k => ⟨.code c :: .mark p :: k, S, L, D⟩
  | _ => s
def isLoop (s : St) : Bool := match s.k with
  | .code (.loop _) :: _ => true
  | _ => false
def markOf (s : St) : Option (Act → World → Prop) := match s.k with
  | .mark p :: _ => some p
  | _ => none
def resOf (tab : Tab) (s : St) : ResultVar → Option SV
  | .tmp t => look s.S t
  | .cell a T => loadS tab s.L T (look s.S a)
def pairOf : SV → Option (Bool × List C)
  | .one c => some (false, [c])
  | .agg cs => some (true, cs)
  | .tup _ => none
def pairs (tab : Tab) (s : St) : List ResultVar → Option (List (Bool × List C))
  | [] => some []
  | r :: l => match (resOf tab s r).bind pairOf, pairs tab s l with
    | some a, some b => some (a :: b)
    | _, _ => none
def retOf (tab : Tab) (fn : Func) (s : St) : Option SV := match s.k with
  | [] => match fn.results.toList with
    | [r] => resOf tab s r
    | l => (pairs tab s l).map .tup
  | _ => none
abbrev fits (S T : List (Nat × SV)) : Prop := T.map (fun x => look S x.1) = T.map (fun x => some x.2)
def enumS : Nat → List SV → List (Nat × SV)
  | _, [] => []
  | i, v :: r => (i, v) :: enumS (i + 1) r
section
variable {P : Program} {Q : Exit → Act → World → Prop} {tab : Tab} {n : Nat} {s : St} {w0 : World}
theorem yield_lit {L : List Blk} {S : List (Nat × SV)} {a : Act} (hS : Slots n L S a) {all : Array Oper} {j : Nat} {b : Bool} (h : (gslot all j).bind (look S) = some (.one (.lit b))) : yielded all a.tmps j = some b := by
  obtain ⟨d, hd1, hd2⟩ := Option.bind_eq_some_iff.1 h
  have := hS.2 d _ hd2
  unfold gslot at hd1
  unfold yielded
  rw [hd1]
  simp [this, SV.den, C.den]
theorem opAt_k {o : Oper} (h : opAt n s = some o) : ∃ all r k, s.k = .ops all (o :: r) :: k ∧ (∀ a, Slots n s.L s.S a → Region.wanted o (yielded all a.tmps) = true) ∧ (∀ d, o.dst = some d → d < n) := by
  unfold opAt at h
  split at h <;> try (cases h; done)
  rename_i all o' r k hk
  split at h <;> try (cases h; done)
  rename_i hg
  have hw : ∀ a, Slots n s.L s.S a → Region.wanted o' (yielded all a.tmps) = true := fun a hS => by
    unfold guardOk at hg
    unfold Region.wanted
    split at hg
    · rename_i e; rw [e]
    · rename_i j want e
      rw [e]
      split at hg
      · rename_i b hb
        simp only [yield_lit hS hb, beq_iff_eq.1 hg, beq_self_eq_true]
      · cases hg
  split at h
  · rename_i hd; cases h; exact ⟨all, r, k, hk, hw, fun d hd2 => by rw [hd] at hd2; cases hd2⟩
  · rename_i d hd
    split at h
    · rename_i hb; cases h
      exact ⟨all, r, k, hk, hw, fun d' hd2 => by rw [hd] at hd2; cases hd2; simpa [Nat.blt_eq] using hb⟩
    · cases h
theorem put_slots {S : List (Nat × SV)} {L : List Blk} {a : Act} (h : Slots n L S a) {d : Option Nat} (hd : ∀ k, d = some k → k < n) (sv : SV) : Slots n L (putS d sv S) (a.put d (sv.den L)) := by
  cases d with
  | none => exact h
  | some d =>
    have : setS n S (some d) sv = some ((d, sv) :: S) := by
      unfold setS
      simp only []
      rw [if_pos (by simpa [Nat.blt_eq] using hd d rfl)]
    exact slots_set h this
/-- An operation that yields a value where it stands. -/
theorem J.val [ht : Ok P tab] [hQ : RetOk Q] {o : Oper} (sv : SV) (h : opAt n (go tab n s) = some o) (hr : ∀ a w, Slots n (go tab n s).L (go tab n s).S a → Known (go tab n s).L w → Rel (go tab n s).L w0 w → (execOp a.eval o).run P w = .ok (.value (sv.den (go tab n s).L)) w)
    (hn : SX P Q n (ansK (go tab n s) sv (go tab n s).L) w0) : SX P Q n s w0 := by
  refine run_ok ht.ok hQ.ok 1000 (s := s) ?_
  change SX P Q n (go tab n s) w0
  generalize go tab n s = s1 at *
  obtain ⟨all, r, k, hk, hg, hd⟩ := opAt_k h
  obtain ⟨k1, S, L, D⟩ := s1
  replace hk : k1 = _ := hk
  subst hk
  refine ⟨fun a w hS hD hK hR => ?_⟩
  refine wpList_step fun K hK' => ?_
  rw [if_pos (hg a hS)]
  unfold Oper.wp
  rw [hr a w hS hK hR]
  exact hK' _ _ (hn.of _ _ (put_slots hS hd sv) (by cases o.dst <;> exact hD) hK hR)
theorem J.brB [ht : Ok P tab] [hQ : RetOk Q] (b : Bool) (h1 : b = true → SX P Q n (brK (go tab n s) true) w0) (h2 : b = false → SX P Q n (brK (go tab n s) false) w0) (h : condOf (go tab n s) = some b := by kernel_rfl) : SX P Q n s w0 := by
  refine run_ok ht.ok hQ.ok 1000 (s := s) ?_
  change SX P Q n (go tab n s) w0
  generalize go tab n s = s1 at *
  obtain ⟨k1, S, L, D⟩ := s1
  unfold condOf at h
  split at h <;> try (cases h; done)
  rename_i c x y k hk
  replace hk : k1 = _ := hk
  subst hk
  split at h <;> try (cases h; done)
  rename_i b' hc
  cases h
  refine ⟨fun a w hS hD hK hR => ?_⟩
  exact wp_cond_split (opd_ok hS hc) (fun e => (h1 e).of a w hS hD hK hR) (fun e => (h2 e).of a w hS hD hK hR)
theorem J.brt [ht : Ok P tab] [hQ : RetOk Q] (b : Bool) (hb : b = true) (hn : SX P Q n (brK (go tab n s) true) w0) (h : condOf (go tab n s) = some b := by kernel_rfl) : SX P Q n s w0 := J.brB b (fun _ => hn) (fun e => by rw [hb] at e; cases e) h
theorem J.brf [ht : Ok P tab] [hQ : RetOk Q] (b : Bool) (hb : b = false) (hn : SX P Q n (brK (go tab n s) false) w0) (h : condOf (go tab n s) = some b := by kernel_rfl) : SX P Q n s w0 := J.brB b (fun e => by rw [hb] at e; cases e) (fun _ => hn) h
theorem J.brd [ht : Ok P tab] [hQ : RetOk Q] (p : Prop) [Decidable p] (h1 : p → SX P Q n (brK (go tab n s) true) w0) (h2 : ¬ p → SX P Q n (brK (go tab n s) false) w0) (h : condOf (go tab n s) = some (decide p) := by kernel_rfl) : SX P Q n s w0 := J.brB _ (fun e => h1 (of_decide_eq_true e)) (fun e => h2 (of_decide_eq_false e)) h
theorem J.lit [ht : Ok P tab] [hQ : RetOk Q] (d : Nat) (b : Bool) (c : Bool) (hb : b = c) (hn : SX P Q n (litK (go tab n s) d c) w0) (h : boolAt (go tab n s).S d = some b := by kernel_rfl) : SX P Q n s w0 := by
  refine run_ok ht.ok hQ.ok 1000 (s := s) ?_
  change SX P Q n (go tab n s) w0
  generalize go tab n s = s1 at *
  obtain ⟨k1, S, L, D⟩ := s1
  subst hb
  refine ⟨fun a w hS hD hK hR => ?_⟩
  refine hn.of a w ⟨hS.1, fun k v hk => ?_⟩ hD hK hR
  unfold boolAt at h
  split at h <;> try (cases h; done)
  rename_i b' hx
  cases h
  replace hk : look ((d, .one (.lit b)) :: S) k = some v := hk
  unfold look at hk
  split at hk
  · rename_i e
    cases hk
    rw [← Nat.eq_of_beq_eq_true e]
    have h9 := hS.2 d _ hx
    exact h9
  · exact hS.2 k v hk
theorem gOf_map {L L' : List Blk} (h : L'.map (·.g) = L.map (·.g)) : gOf L' = gOf L := by
  funext t
  have := congrArg (fun l => l[t]?) h
  simp only [List.getElem?_map] at this
  unfold gOf
  cases h1 : L'[t]? <;> cases h2 : L[t]? <;> rw [h1, h2] at this <;> simp_all
theorem call_run {S : List (Nat × SV)} {L : List Blk} {a : Act} (hS : Slots n L S a) {o : Oper} {f : FuncId} {fn : Func} {l : List SV} (h : callAt S o = some (f, l)) (hf : P.funcs[f]? = some fn) (hname : (fn.name == "runtime.NumGoroutine") = false) (hb : fn.body.isSome = true) (w : World) :
    (execOp a.eval o).run P w = .ok (.enter f (l.map (SV.den L)).toArray) w := by
  unfold callAt at h
  split at h <;> try (cases h; done)
  rename_i fo as1 ts hop
  split at h <;> try (cases h; done)
  rename_i f' first cap l' hfo hl
  cases h
  have e1 : a.eval fo = .func (.func f) first cap := opd_ok hS hfo
  have e2 : (as1.map a.eval).toList = l'.map (SV.den L) := by rw [Array.toList_map]; exact opds_ok hS hl
  have e3 : as1.map a.eval = (l'.map (SV.den L)).toArray := by rw [← e2]
  have hm : ∀ q : Array Value, (q.toList.map (fun v => SV.one (.v v))).map (SV.den L) = q.toList := fun q => by
    rw [List.map_map]; exact List.map_id _
  have hne : fn.name ≠ "runtime.NumGoroutine" := by simpa using hname
  obtain ⟨c, hcb⟩ := Option.isSome_iff_exists.1 hb
  rw [List.map_append, List.map_append, hm, hm]
  unfold execOp
  simp only [hop, resolve, e1, Deferred.ofValue, Sem.run_bind, Sem.run_pure, Result.andThen_ok, invoke, e3]
  simp [callFunc, hf, hne, hcb, Sem.run_bind]
theorem J.call [ht : Ok P tab] [hQ : RetOk Q] {f : FuncId} {fn : Func} (hf : P.funcs[f]? = some fn) (l : List SV) (L : List Blk)
    (hc : ∀ w, Known L w → Rel L w0 w → Calls P f (l.map (SV.den L)).toArray w fun e w' => ∃ sv L', e = .returned (sv.den L) ∧ L'.map (·.g) = L.map (·.g) ∧ Known L' w' ∧ SX P Q n (ansK (go tab n s) sv L') w')
    (h : callOf n (go tab n s) = some (f, l) := by kernel_rfl) (hL : (go tab n s).L = L := by kernel_rfl) (hname : (fn.name == "runtime.NumGoroutine") = false := by kernel_rfl) (hb : fn.body.isSome = true := by kernel_rfl) : SX P Q n s w0 := by
  subst hL
  refine run_ok ht.ok hQ.ok 1000 (s := s) ?_
  change SX P Q n (go tab n s) w0
  generalize go tab n s = s1 at *
  obtain ⟨o, ho, h⟩ := Option.bind_eq_some_iff.1 h
  obtain ⟨all, r, k, hk, hg, hd⟩ := opAt_k ho
  obtain ⟨k1, S, L, D⟩ := s1
  replace hk : k1 = _ := hk
  subst hk
  refine ⟨fun a w hS hD hK hR => ?_⟩
  have hcall := hc w hK hR
  have hrun := call_run hS h hf hname hb w
  refine wpList_step fun K hK' => ?_
  rw [if_pos (hg a hS)]
  unfold Oper.wp
  rw [hrun]
  show Calls P f _ w _
  refine hcall.mono ?_
  rintro e w' ⟨sv, L', rfl, hg', hk', hn⟩
  have hgo := gOf_map hg'
  refine hK' _ _ (hn.of _ _ ?_ (by cases o.dst <;> exact hD) hk' (.mk2 (Nat.le_refl _) (fun _ _ _ => rfl)))
  have := put_slots hS hd sv
  refine ⟨this.1, fun k v hkv => ?_⟩
  show _ = some (SV.den L' v)
  rw [den_eq hgo]; exact this.2 k v hkv
/-- What Go's +, -, *, /, % make of two numbers. -/
def Ari (op : BinOp) (k : IntKind) (x y z : Int) : Prop := (op = .add ∧ k.wrap (x + y) = z) ∨ (op = .sub ∧ k.wrap (x - y) = z) ∨ (op = .mul ∧ k.wrap (x * y) = z) ∨ (op = .quo ∧ y ≠ 0 ∧ k.wrap (x.tdiv y) = z) ∨ (op = .rem ∧ y ≠ 0 ∧ x.tmod y = z)
theorem bin_run {S : List (Nat × SV)} {L : List Blk} {a : Act} (hS : Slots n L S a) {o : Oper} {op : BinOp} {k : IntKind} {x y z : Int} (h : binAt S o = some (op, .one (.v (.int k x)), .one (.v (.int k y)))) (hz : Ari op k x y z) (w : World) : (execOp a.eval o).run P w = .ok (.value (.int k z)) w := by
  unfold binAt at h
  split at h <;> try (cases h; done)
  rename_i op' T x' y' T' ho
  split at h <;> try (cases h; done)
  rename_i u v hu hv
  cases h
  have ex : a.eval x' = .int k x := opd_ok hS hu
  have ey : a.eval y' = .int k y := opd_ok hS hv
  unfold execOp
  simp only [ho, ex, ey]
  rcases hz with ⟨rfl, rfl⟩ | ⟨rfl, rfl⟩ | ⟨rfl, rfl⟩ | ⟨rfl, h0, rfl⟩ | ⟨rfl, h0, rfl⟩
  · simp [eqGuard, binOp, Op.intArith, Sem.run_bind]
  · simp [eqGuard, binOp, Op.intArith, Sem.run_bind]
  · simp [eqGuard, binOp, Op.intArith, Sem.run_bind]
  · simp [eqGuard, binOp, Op.intDiv, Sem.run_bind, h0]
  · simp [eqGuard, binOp, Op.intDiv, Sem.run_bind, h0]
theorem i64w {z : Int} (h0 : -9223372036854775808 ≤ z) (h1 : z ≤ 9223372036854775807) : IntKind.i64.wrap z = z := IntWalk.i64_in _ ⟨h0, h1⟩
theorem Ari.add {x y z : Int} (h : x + y = z) (h0 : -9223372036854775808 ≤ z) (h1 : z ≤ 9223372036854775807) : Ari .add .i64 x y z := .inl ⟨rfl, by rw [h]; exact i64w h0 h1⟩
theorem Ari.sub {x y z : Int} (h : x - y = z) (h0 : -9223372036854775808 ≤ z) (h1 : z ≤ 9223372036854775807) : Ari .sub .i64 x y z := .inr (.inl ⟨rfl, by rw [h]; exact i64w h0 h1⟩)
theorem Ari.mul {x y z : Int} (h : x * y = z) (h0 : -9223372036854775808 ≤ z) (h1 : z ≤ 9223372036854775807) : Ari .mul .i64 x y z := .inr (.inr (.inl ⟨rfl, by rw [h]; exact i64w h0 h1⟩))
theorem Ari.quo {x y z : Int} (hx : 0 ≤ x) (hm : x ≤ 9223372036854775807) (hy : 0 < y) (h : x / y = z) : Ari .quo .i64 x y z := .inr (.inr (.inr (.inl ⟨rfl, by omega, by
  rw [Int.tdiv_eq_ediv_of_nonneg hx, h]
  have h1 : 0 ≤ x / y := Int.ediv_nonneg hx (Int.le_of_lt hy)
  have h2 : x / y ≤ x := Int.ediv_le_self y hx
  exact i64w (by omega) (by omega)⟩)))
theorem Ari.rem {x y z : Int} (hx : 0 ≤ x) (hy : 0 < y) (h : x % y = z) : Ari .rem .i64 x y z := .inr (.inr (.inr (.inr ⟨rfl, by omega, by rw [Int.tmod_eq_emod_of_nonneg hx, h]⟩)))
theorem J.ari [ht : Ok P tab] [hQ : RetOk Q] {op : BinOp} {k : IntKind} {x y : Int} (z : Int) (hz : Ari op k x y z) (hn : SX P Q n (ansK (go tab n s) (.one (.v (.int k z))) (go tab n s).L) w0) (h : binOf n (go tab n s) = some (op, .one (.v (.int k x)), .one (.v (.int k y))) := by kernel_rfl) : SX P Q n s w0 := by
  obtain ⟨o, ho, hb⟩ := Option.bind_eq_some_iff.1 h
  exact J.val _ ho (fun a w hS _ _ => bin_run hS hb hz w) hn
theorem J.back {p : Act → World → Prop} [ht : Ok P tab] [hQ : RetOk Q] (hp : ∀ a w, Slots n (go tab n s).L (go tab n s).S a → a.defers = (go tab n s).D → Known (go tab n s).L w → Rel (go tab n s).L w0 w → p a w) (h : markOf (go tab n s) = some p := by kernel_rfl) : SX P Q n s w0 := by
  refine run_ok ht.ok hQ.ok 1000 (s := s) ?_
  change SX P Q n (go tab n s) w0
  generalize go tab n s = s1 at *
  unfold markOf at h
  split at h <;> try (cases h; done)
  rename_i p' k hk
  cases h
  obtain ⟨k1, S, L, D⟩ := s1
  replace hk : k1 = _ := hk
  subst hk
  refine ⟨fun a w hS hD hK hR => ?_⟩
  exact hp a w hS hD hK hR
theorem slots_fit {L : List Blk} {S T : List (Nat × SV)} {a : Act} (hS : Slots n L S a) (h : fits S T) : Slots n L T a := by
  refine ⟨hS.1, ?_⟩
  have : ∀ T : List (Nat × SV), fits S T → ∀ k v, look T k = some v → look S k = some v := by
    intro T
    induction T with
    | nil => intro _ k v h; cases h
    | cons x r ih =>
      intro h k v hk
      unfold fits at h
      rw [List.map_cons, List.map_cons] at h
      injection h with h1 h2
      unfold look at hk
      split at hk
      · rename_i hb; cases hk; rw [← Nat.eq_of_beq_eq_true hb]; exact h1
      · exact ih h2 k v hk
  exact fun k v hk => hS.2 k v (this T h k v hk)
theorem wp_loopm {c : Code} (J : Nat → Act → World → Prop) {m : Nat} {a : Act} {w : World} (h0 : J m a w) (round : ∀ m a w, J m a w → c.wp P (Exit.then (fun a' w' => ∃ m', m' < m ∧ J m' a' w') Q) a w) : (Code.loop c).wp P Q a w := by
  intro b k cs
  have key : ∀ n a w, J n a w → ∃ e a' w', Q e a' w' ∧ Arrives P (lone (b.at a (.code c :: .inLoop c :: k)) cs w) b k cs e a' w' := by
    intro n
    induction n using Nat.strongRecOn with
    | _ n ih =>
      intro a w hI
      obtain ⟨e, a1, w1, hq, harr⟩ := round n a w hI b (.inLoop c :: k) cs
      cases e with
      | normal =>
        obtain ⟨m', hlt, hJ⟩ := hq
        obtain ⟨e2, a2, w2, hq2, harr2⟩ := ih m' hlt a1 w1 hJ
        exact ⟨e2, a2, w2, hq2, .of_steps (Steps.trans harr (.one step_inLoop)) harr2⟩
      | exit id => exact ⟨_, a1, w1, hq, .pass (x := .inLoop c) rfl (fun _ _ => .inl (by simp)) harr⟩
      | goto l => exact ⟨_, a1, w1, hq, .pass (x := .inLoop c) rfl (fun _ _ => .inl (by simp)) harr⟩
      | ret => exact ⟨_, a1, w1, hq, .pass (x := .inLoop c) rfl (fun _ _ => .inl (by simp)) harr⟩
      | panic ch => exact ⟨_, a1, w1, hq, .pass (x := .inLoop c) rfl (fun _ _ => .inl (by simp)) harr⟩
      | outgrown => exact ⟨_, a1, w1, hq, .pass (x := .inLoop c) rfl (fun _ _ => .inl (by simp)) harr⟩
  obtain ⟨e, a', w', hq, harr⟩ := key m a w h0
  exact ⟨e, a', w', hq, .of_steps (.one step_loop) harr⟩
theorem rel_refl (L : List Blk) (w : World) : Rel L w w := (.mk2 (Nat.le_refl _) (fun _ _ _ => rfl))
theorem J.loop {σ : Type} (T : σ → List (Nat × SV)) (H : σ → List Blk) (I : σ → World → Prop) (μ : σ → Nat) (D : List Deferred) (x0 : σ) [ht : Ok P tab] [hQ : RetOk Q] (hI : ∀ w, Known (H x0) w → Rel (H x0) w0 w → I x0 w)
    (round : ∀ (p : Act → World → Prop) (x : σ) (w1 : World), (∀ x' a w, Slots n (H x') (T x') a → a.defers = D → Known (H x') w → I x' w → μ x' < μ x → p a w) → I x w1 → Known (H x) w1 → SX P Q n (loopK (go tab n s) p (T x) (H x) D) w1)
    (h : isLoop (go tab n s) = true := by kernel_rfl) (hT : (T x0).map (fun x => look (go tab n s).S x.1) = (T x0).map (fun x => some x.2) := by kernel_rfl) (hH : (go tab n s).L = H x0 := by kernel_rfl) (hD : (go tab n s).D = D := by kernel_rfl) : SX P Q n s w0 := by
  refine run_ok ht.ok hQ.ok 1000 (s := s) ?_
  change SX P Q n (go tab n s) w0
  generalize go tab n s = s1 at *
  obtain ⟨k1, S, L, D1⟩ := s1
  unfold isLoop at h
  split at h <;> try (cases h; done)
  rename_i c k hk
  replace hk : k1 = _ := hk
  subst hk
  replace hH : L = _ := hH
  replace hD : D1 = _ := hD
  subst hD
  refine ⟨fun a w hS hDa hK hR => ?_⟩
  replace hS : Slots n L S a := hS
  replace hK : Known L w := hK
  replace hR : Rel L w0 w := hR
  have hS' := slots_fit hS hT
  rw [hH] at hS' hK hR
  refine wp_loopm (fun m a w => ∃ x, μ x = m ∧ Slots n (H x) (T x) a ∧ a.defers = D1 ∧ Known (H x) w ∧ I x w) ⟨x0, rfl, hS', hDa, hK, hI w hK hR⟩ ?_
  rintro m a w ⟨x, rfl, h1, h2, h3, h4⟩
  have hr := round (fun a' w' => ∃ m', m' < μ x ∧ ∃ x, μ x = m' ∧ Slots n (H x) (T x) a' ∧ a'.defers = D1 ∧ Known (H x) w' ∧ I x w') x w (fun x' a w g1 g2 g3 g4 g5 => ⟨_, g5, x', rfl, g1, g2, g3, g4⟩) h4 h3
  exact hr.of a w h1 h2 h3 (rel_refl _ _)
theorem letsOut_mono {Q Q' : Exit → Act → World → Prop} (hQ : ∀ e a w, Q e a w → Q' e a w) (h : LetsOut Q) : LetsOut Q' := let ⟨a, w, q⟩ := h; ⟨a, w, hQ _ _ _ q⟩
theorem upon_mono {o : Oper} {a : Act} {K K' : Act → World → Prop} {Q Q' : Exit → Act → World → Prop} (hK : ∀ a w, K a w → K' a w) (hQ : ∀ e a w, Q e a w → Q' e a w) {r : Result Next} (h : o.upon P a K Q r) : o.upon P a K' Q' r := by
  unfold Oper.upon at h ⊢
  split at h
  · exact hK _ _ h
  · exact hK _ _ h
  · exact hK _ _ h
  · refine Calls.mono h ?_
    intro e w' he
    cases e with
    | returned v => exact hK _ _ he
    | panicked c => exact hQ _ _ _ he
    | outgrown => exact letsOut_mono hQ he
  · exact Rows.mono h (fun v w' hv => hK _ _ hv)
  · exact hQ _ _ _ h
  · exact h.elim
theorem wpList_mono' {all : Array Oper} {Q Q' : Exit → Act → World → Prop} (hQ : ∀ e a w, Q e a w → Q' e a w) : ∀ (r : List Oper) (a : Act) (w : World), wpList P all Q r a w → wpList P all Q' r a w
  | [], a, w, h => hQ _ _ _ h
  | o :: r, a, w, h => by
    unfold wpList at h ⊢
    split at h
    · rename_i hw
      rw [if_pos hw]
      rcases h with h | ⟨h1, h2⟩
      · exact .inl (upon_mono (wpList_mono' hQ r) hQ h)
      · exact .inr ⟨h1, letsOut_mono hQ h2⟩
    · rename_i hw
      rw [if_neg hw]
      exact wpList_mono' hQ r _ w h
theorem post_app (k2 : List K) : ∀ (k1 : List K) (e : Exit) (a : Act) (w : World), post P Q (k1 ++ .mark (fun a w => post P Q k2 .normal a w) :: k2) e a w → post P Q (k1 ++ k2) e a w
  | [], e, a, w, h => by cases e <;> exact h
  | .code c :: k1, e, a, w, h => by
    have ih := post_app k2 k1
    cases e <;> first | exact ih _ a w h | exact wp_mono h (fun e a w hh => ih e a w hh)
  | .blk id :: k1, e, a, w, h => by
    have ih := post_app k2 k1
    cases e with
    | exit i =>
      show Exit.inBlock id (post P Q (k1 ++ k2)) (.exit i) a w
      replace h : Exit.inBlock id (post P Q (k1 ++ .mark (fun a w => post P Q k2 .normal a w) :: k2)) (.exit i) a w := h
      unfold Exit.inBlock at h ⊢
      simp only at h ⊢
      split
      · rename_i e; rw [if_pos e] at h; exact ih _ a w h
      · rename_i e; rw [if_neg e] at h; exact ih _ a w h
    | _ => exact ih _ a w h
  | .ops all r :: k1, e, a, w, h => by
    have ih := post_app k2 k1
    cases e <;> first | exact ih _ a w h | exact wpList_mono' ih r a w h
  | .mark p :: k1, e, a, w, h => by
    have ih := post_app k2 k1
    cases e <;> first | exact h | exact ih _ a w h
/-- The ways meet: behind the first m things that are to be done, all stands as one of the templates says. -/
def cutK (m : Nat) (s : St) (p : Act → World → Prop) : St := ⟨s.k.take m ++ .mark p :: s.k.drop m, s.S, s.L, s.D⟩
theorem J.cut {σ : Type} (m : Nat) (T : σ → List (Nat × SV)) (H : σ → List Blk) (I : σ → World → Prop) (D : List Deferred) [ht : Ok P tab] [hQ : RetOk Q]
    (h1 : ∀ p : Act → World → Prop, (∀ x a w, Slots n (H x) (T x) a → a.defers = D → Known (H x) w → I x w → p a w) → SX P Q n (cutK m (go tab n s) p) w0)
    (h2 : ∀ (x : σ) (w1 : World), I x w1 → Known (H x) w1 → SX P Q n ⟨(go tab n s).k.drop m, T x, H x, D⟩ w1) : SX P Q n s w0 := by
  refine run_ok ht.ok hQ.ok 1000 (s := s) ?_
  change SX P Q n (go tab n s) w0
  generalize go tab n s = s1 at *
  refine ⟨fun a w hS hD hK hR => ?_⟩
  have := (h1 (fun a w => post P Q (s1.k.drop m) .normal a w) (fun x a w g1 g2 g3 g4 => (h2 x w g4 g3).of a w g1 g2 g3 (rel_refl _ _))).of a w hS hD hK hR
  have := post_app (s1.k.drop m) (s1.k.take m) .normal a w this
  rw [List.take_append_drop] at this
  exact this
theorem J.at {T : List (Nat × SV)} {H : List Blk} {D : List Deferred} {p : Act → World → Prop} [ht : Ok P tab] [hQ : RetOk Q] (hp : ∀ a w, Slots n H T a → a.defers = D → Known H w → Rel H w0 w → p a w) (h : markOf (go tab n s) = some p := by kernel_rfl) (hT : T.map (fun x => look (go tab n s).S x.1) = T.map (fun x => some x.2) := by kernel_rfl) (hH : (go tab n s).L = H := by kernel_rfl) (hD : (go tab n s).D = D := by kernel_rfl) : SX P Q n s w0 :=
  J.back (hp := fun a w h1 h2 h3 h4 => hp a w (hH ▸ slots_fit h1 hT) (hD ▸ h2) (hH ▸ h3) (hH ▸ h4)) (h := h)
theorem all_lt {sv : SV} {L M : List Blk} (h : sv.lt L.length = true) : sv.den (L ++ M) = sv.den L := by
  have hc : ∀ c : C, c.lt L.length = true → c.den (L ++ M) = c.den L := by
    intro c hc
    have hg : ∀ t, Nat.blt t L.length = true → gOf (L ++ M) t = gOf L t := fun t ht => by
      have : t < L.length := by simpa [Nat.blt_eq] using ht
      unfold gOf; rw [List.getElem?_append_left this]
    cases c with
    | v x => rfl
    | ptr t o => simp only [C.den, hg t hc]
    | slc t o n c => simp only [C.den, hg t hc]
    | lit b => rfl
  cases sv with
  | one c => exact hc c h
  | agg cs =>
    have : cs.map (C.den (L ++ M)) = cs.map (C.den L) := List.map_congr_left (fun c hcm => hc c (List.all_eq_true.1 h c hcm))
    simp only [SV.den, this]
  | tup l =>
    have : l.map (den1 (L ++ M)) = l.map (den1 L) := List.map_congr_left (fun x hx => by
      have hx' := List.all_eq_true.1 h x hx
      rcases x with ⟨b, cs⟩
      have hcs : ∀ c ∈ cs, c.den (L ++ M) = c.den L := fun c hcm => hc c (List.all_eq_true.1 hx' c hcm)
      cases b
      · cases cs with
        | nil => rfl
        | cons c r => exact hcs c (by simp)
      · simp only [den1, List.map_congr_left hcs])
    simp only [SV.den, this]
theorem known_new {L : List Blk} {w : World} (hK : Known L w) (hl : ∀ b ∈ L, b.cs.all (C.lt L.length) = true) {g ty : Nat} {cs : List C} (hcs : cs.all (C.lt L.length) = true) (hg : ∀ b ∈ L, b.g ≠ g) (hb : w.heap[g]? = some (Obj.cells (cs.map (C.den L)).toArray ty (0, 0))) : Known (L ++ [⟨g, ty, cs⟩]) w := by
  have hd2 : ∀ (M : List Blk) (cs : List C), cs.all (C.lt L.length) = true → cs.map (C.den (L ++ M)) = cs.map (C.den L) := fun M cs h => List.map_congr_left (fun c hc => all_lt (sv := .one c) (List.all_eq_true.1 h c hc))
  have key : ∀ i b, (L ++ [⟨g, ty, cs⟩])[i]? = some b → (i < L.length ∧ L[i]? = some b) ∨ (i = L.length ∧ b = ⟨g, ty, cs⟩) := fun i b hi => by
    by_cases h : i < L.length
    · rw [List.getElem?_append_left h] at hi; exact .inl ⟨h, hi⟩
    · rw [List.getElem?_append_right (by omega)] at hi
      have : i - L.length = 0 := by
        have := (List.getElem?_eq_some_iff.1 hi).1; simp at this; omega
      rw [this] at hi; cases hi
      exact .inr ⟨by omega, rfl⟩
  constructor
  · intro i b hi
    rcases key i b hi with ⟨h, hi⟩ | ⟨h, rfl⟩
    · rw [hd2 _ _ (hl b (List.mem_iff_getElem?.2 ⟨i, hi⟩))]; exact hK.1 i b hi
    · rw [hd2 _ _ hcs]; exact hb
  · intro i j b c hi hj e
    rcases key i b hi with ⟨h, hi⟩ | ⟨h, rfl⟩ <;> rcases key j c hj with ⟨h', hj⟩ | ⟨h', rfl⟩
    · exact hK.2 i j b c hi hj e
    · exact absurd e (hg b (List.mem_iff_getElem?.2 ⟨i, hi⟩))
    · exact absurd e.symm (hg c (List.mem_iff_getElem?.2 ⟨j, hj⟩))
    · omega
theorem look_all {S : List (Nat × SV)} {f : SV → Bool} (h : S.all (fun x => f x.2) = true) : ∀ {k : Nat} {v : SV}, look S k = some v → f v = true := by
  induction S with
  | nil => intro k v h; cases h
  | cons x r ih =>
    intro k v hk
    rw [List.all_cons, Bool.and_eq_true] at h
    unfold look at hk
    split at hk
    · cases hk; exact h.1
    · exact ih h.2 hk
/-- A new block. -/
theorem J.new [ht : Ok P tab] [hQ : RetOk Q] (T : Nat) (cs : List C) (L : List Blk) (hn : ∀ g, w0.heap.size ≤ g → (∀ b ∈ L, b.g ≠ g) → SX P Q n (newK (go tab n s) g T cs) w0) (h : newOf tab n (go tab n s) = some (T, cs) := by kernel_rfl) (hL : (go tab n s).L = L := by kernel_rfl) : SX P Q n s w0 := by
  subst hL
  refine run_ok ht.ok hQ.ok 1000 (s := s) ?_
  change SX P Q n (go tab n s) w0
  generalize go tab n s = s1 at *
  unfold newOf at h
  split at h <;> try (cases h; done)
  rename_i o ho
  obtain ⟨all, r, k, hk, hg, hd⟩ := opAt_k ho
  obtain ⟨k1, S, L, D⟩ := s1
  replace hk : k1 = _ := hk
  subst hk
  split at h <;> try (cases h; done)
  rename_i hlt
  rw [Bool.and_eq_true, Bool.and_eq_true] at hlt
  obtain ⟨⟨hl1, hl2⟩, hl3⟩ := hlt
  obtain ⟨d, hdd⟩ := Option.isSome_iff_exists.1 hl3
  replace hl1 : S.all (fun x => x.2.lt L.length) = true := hl1
  replace hl2 : ∀ b ∈ L, b.cs.all (C.lt L.length) = true := fun b hb => List.all_eq_true.1 hl2 b hb
  refine ⟨fun a w hS hD hK hR => ?_⟩
  replace hS : Slots n L S a := hS
  replace hK : Known L w := hK
  replace hR : Rel L w0 w := hR
  have hgn : ∀ b ∈ L, b.g ≠ w.heap.size := fun b hb e => by
    obtain ⟨i, hi⟩ := List.mem_iff_getElem?.1 hb
    have := (Array.getElem?_eq_some_iff.1 (hK.1 i b hi)).1
    omega
  have fin : cs.all (C.lt L.length) = true → (execOp a.eval o).run P w = .ok (.value (.pointer (some ⟨w.heap.size, 0, none⟩))) (w.alloc (.cells (cs.map (C.den L)).toArray T (0, 0))) → post P Q (.ops all (o :: r) :: k) .normal a w := fun hcs hrun => by
    refine wpList_step fun K hK' => ?_
    rw [if_pos (hg a hS)]
    unfold Oper.wp
    rw [hrun]
    have hb : (w.alloc (.cells (cs.map (C.den L)).toArray T (0, 0))).heap[w.heap.size]? = some (Obj.cells (cs.map (C.den L)).toArray T (0, 0)) := by
      show (w.heap.push _)[w.heap.size]? = _
      simp
    have hold : ∀ k, k < w.heap.size → (w.alloc (.cells (cs.map (C.den L)).toArray T (0, 0))).heap[k]? = w.heap[k]? := fun k hk => by
      simp only [World.alloc]
      rw [Array.getElem?_push_lt hk, Array.getElem?_eq_getElem hk]
    have hK1 : Known L (w.alloc (.cells (cs.map (C.den L)).toArray T (0, 0))) := ⟨fun i b hi => by
      have h0 := hK.1 i b hi
      rw [hold b.g (Array.getElem?_eq_some_iff.1 h0).1]; exact h0, hK.2⟩
    have hsl : Slots n (L ++ [⟨w.heap.size, T, cs⟩]) S a := ⟨hS.1, fun k v hk => by
      rw [all_lt (look_all hl1 hk)]; exact hS.2 k v hk⟩
    have hp := put_slots hsl hd (.one (.ptr L.length 0))
    have hval : (SV.one (.ptr L.length 0)).den (L ++ [⟨w.heap.size, T, cs⟩]) = .pointer (some ⟨w.heap.size, 0, none⟩) := by
      simp [SV.den, C.den, gOf]
    rw [hval] at hp
    refine hK' _ _ ((hn w.heap.size hR.1 hgn).of _ _ hp (by cases o.dst <;> exact hD) (known_new hK1 hl2 hcs hgn hb) (.mk2 (?_) (fun k hk hne => ?_) hR.still))
    · simp only [World.alloc, Array.size_push]; have := hR.1; omega
    · rw [hold k (Nat.lt_of_lt_of_le hk hR.1)]
      exact hR.2 k hk (fun b hb => hne b (List.mem_append_left _ hb))
  split at h <;> try (cases h; done)
  · rename_i T' hop
    obtain ⟨ti, hti, hc⟩ := Option.map_eq_some_iff.1 h
    cases hc
    obtain ⟨⟨hsz, _, v, hv1, hv2, hv3, hv4⟩, hty⟩ := getT_ok ht.ok.ti hti
    rw [hty] at hv1
    refine fin (List.all_eq_true.2 (fun c hc => by obtain ⟨x, _, rfl⟩ := List.mem_map.1 hc; rfl)) ?_
    obtain ⟨inf, hi, hz⟩ := Option.map_eq_some_iff.1 hv1
    have e : ((ti.z.map C.v).map (C.den L)).toArray = v.cells := by
      rw [List.map_map, show (C.den L ∘ C.v) = id from rfl, List.map_id, ← hv2]
    rw [e]
    unfold execOp
    simp only [hop]
    simp [Instr.alloc, zeroValue, typeInfo, hi, hz, newVar, newRow, Sem.run_bind, go_sem]
  · rename_i T' x hop
    split at h <;> try (cases h; done)
    rename_i sv hx
    split at h <;> try (cases h; done)
    rename_i hcc
    cases h
    rw [Bool.and_eq_true, Bool.and_eq_true] at hcc
    obtain ⟨⟨h1, h2⟩, h3⟩ := hcc
    have ex := opd_ok hS hx
    have hcs : sv.cells.all (C.lt L.length) = true := by
      cases sv with
      | one c => simp only [SV.cells, List.all_cons, List.all_nil, Bool.and_true]; exact h2
      | agg cs => exact h2
      | tup l => cases h1
    have hcells : (sv.den L).cells = (sv.cells.map (C.den L)).toArray := by
      cases sv with
      | one c => show (c.den L).cells = _; rw [one_cells (one1_den (List.all_eq_true.1 h3 c (by simp [SV.cells])))]; simp [SV.cells]
      | agg cs => rfl
      | tup l => cases h1
    refine fin hcs ?_
    rw [← hcells]
    unfold execOp
    simp only [hop, ex]
    simp [Instr.box, newVar, newRow, go_sem]
theorem enum_slot {L : List Blk} {l : List SV} {args : Array Value} {m k : Nat} {v : SV} (hk : look (enumS 0 l) k = some v) (ha : args = (l.map (SV.den L)).toArray) : (args ++ Array.replicate m undef)[k]? = some (v.den L) := by
  have : ∀ (l : List SV) (i k : Nat) (v : SV), look (enumS i l) k = some v → i ≤ k ∧ l[k - i]? = some v := by
    intro l
    induction l with
    | nil => intro i k v h; cases h
    | cons x r ih =>
      intro i k v h
      unfold enumS look at h
      split at h
      · rename_i hb; cases h
        have := Nat.eq_of_beq_eq_true hb
        subst this; exact ⟨Nat.le_refl _, by simp⟩
      · rename_i hb
        have hne : ¬ i = k := fun e => hb (by rw [e]; exact Nat.beq_refl k)
        obtain ⟨h1, h2⟩ := ih (i + 1) k v h
        refine ⟨by omega, ?_⟩
        rw [show k - i = (k - (i + 1)) + 1 by omega, List.getElem?_cons_succ]; exact h2
  obtain ⟨_, h2⟩ := this l 0 k v hk
  subst ha
  have h3 : k < l.length := (List.getElem?_eq_some_iff.1 h2).1
  rw [Array.getElem?_append_left (by simpa using h3), List.getElem?_toArray, List.getElem?_map]
  rw [Nat.sub_zero] at h2
  rw [h2]; rfl
/-- The call begins. -/
theorem J.enter {f : FuncId} {fn : Func} {c : Code} {args : Array Value} {R : Ending → World → Prop} (hf : P.funcs[f]? = some fn) (hb : fn.body = some c) (L : List Blk) (l : List SV) (m : Nat) (hK : Known L w0)
    (h : SX P (Quiet (bodyPostD P fn R)) m ⟨[.code c], enumS 0 l, L, []⟩ w0) (ha : args = (l.map (SV.den L)).toArray := by rfl) (hm : fn.ntmps = m := by rfl) (hle : Nat.ble l.length m = true := by rfl) : Calls P f args w0 R := by
  refine calls_of_wp_defers hf hb (wp_mono ?_ Quiet.out)
  refine h.of _ _ ⟨?_, ?_⟩ rfl hK (rel_refl _ _)
  · subst ha; subst hm
    have := Nat.le_of_ble_eq_true hle
    simp; omega
  · intro k v hk
    exact enum_slot hk ha
/-- A deferred call begins. -/
theorem J.enterD {f : FuncId} {fn : Func} {c : Code} {args : Array Value} {u : FrameMode} {R : Ending → World → Prop} (hf : P.funcs[f]? = some fn) (hb : fn.body = some c) (L : List Blk) (l : List SV) (m : Nat) (hK : Known L w0)
    (h : SX P (Quiet (bodyPost P fn R)) m ⟨[.code c], enumS 0 l, L, []⟩ w0) (ha : args = (l.map (SV.den L)).toArray := by rfl) (hm : fn.ntmps = m := by rfl) (hle : Nat.ble l.length m = true := by rfl) : CallsD P f args u w0 fun e u' w' => u' = u ∧ R e w' := by
  refine callsD_of_wp hf hb (wp_mono ?_ Quiet.out)
  refine h.of _ _ ⟨?_, ?_⟩ rfl hK (rel_refl _ _)
  · subst ha; subst hm
    have := Nat.le_of_ble_eq_true hle
    simp; omega
  · intro k v hk
    exact enum_slot hk ha
theorem bodyD_ret {fn : Func} {R : Ending → World → Prop} : ∀ a w, Quiet (bodyPostD P fn R) .normal a w → Quiet (bodyPostD P fn R) .ret a w := fun _ _ h => h
def rvRun (tmps : Array Value) : ResultVar → Sem Value
  | .tmp t => pure (tmps.getD t undef)
  | .cell x T => do loadVar T (← asAddr (tmps.getD x undef))
theorem results_eq (fn : Func) (tmps : Array Value) : results fn tmps = (do
    let vs ← fn.results.mapM (rvRun tmps)
    pure (if h : vs.size = 1 then vs[0] else .tuple vs)) := by
  unfold results
  have : (fun r : ResultVar => (match r with | .tmp t => pure (tmps.getD t undef) | .cell a t => do loadVar t (← asAddr (tmps.getD a undef)) : Sem Value)) = rvRun tmps := by
    funext r; cases r <;> rfl
  exact congrArg (fun f => (do
    let vs ← fn.results.mapM f
    pure (if h : vs.size = 1 then vs[0] else .tuple vs) : Sem Value)) this
theorem res_ok {S : List (Nat × SV)} {L : List Blk} {a : Act} {w : World} {D : List Deferred} {k : List K} (ht : tab.ok P) (hS : Slots n L S a) (hK : Known L w) {r : ResultVar} {sv : SV} (h : resOf tab ⟨k, S, L, D⟩ r = some sv) :
    (rvRun a.tmps r).run P w = .ok (sv.den L) w := by
  unfold rvRun
  cases r with
  | tmp t =>
    have := hS.2 t sv h
    simp [Array.getD_eq_getD_getElem?, this]
  | cell x T =>
    have hl : loadS tab L T (look S x) = some sv := h
    have := load_ok (o := { dst := none, op := .load T (.tmp x), type := 0, pos := "", after := #[], guard := none }) (n := n) (a := a) ht hS hK rfl hl
    have hx : ∃ ad, a.tmps.getD x undef = .pointer (some ad) := by
      unfold loadS at hl
      split at hl <;> try (cases hl; done)
      rename_i t o hx
      have := hS.2 x _ hx
      exact ⟨⟨gOf L t, o, none⟩, by simp [Array.getD_eq_getD_getElem?, this, SV.den, C.den]⟩
    obtain ⟨ad, hx⟩ := hx
    have e : Act.eval a (.tmp x) = .pointer (some ad) := hx
    unfold execOp at this
    simp only [e, Instr.loadAt, Instr.sureAddr, Sem.run_bind, Sem.run_pure, Result.andThen_ok] at this
    simp only [hx, asAddr, Sem.run_bind, Sem.run_pure, Result.andThen_ok]
    cases hr : (loadVar T ad).run P w with
    | ok v w' => rw [hr] at this; simp [Result.andThen] at this; simp [this]
    | halt e w' => rw [hr] at this; simp [Result.andThen] at this
theorem pair_den {L : List Blk} {sv : SV} {p : Bool × List C} (h : pairOf sv = some p) : den1 L p = sv.den L := by
  cases sv with
  | one c => cases h; rfl
  | agg cs => cases h; rfl
  | tup l => cases h
theorem pairs_len {s : St} : ∀ {l : List ResultVar} {ps : List (Bool × List C)}, pairs tab s l = some ps → ps.length = l.length
  | [], ps, h => by cases h; rfl
  | r :: l, ps, h => by
    unfold pairs at h
    split at h <;> try (cases h; done)
    rename_i x y h1 h2
    cases h
    rw [List.length_cons, List.length_cons, pairs_len h2]
theorem pairs_ok {S : List (Nat × SV)} {L : List Blk} {a : Act} {w : World} {D : List Deferred} {k : List K} (ht : tab.ok P) (hS : Slots n L S a) (hK : Known L w) : ∀ {l : List ResultVar} {ps : List (Bool × List C)}, pairs tab ⟨k, S, L, D⟩ l = some ps →
    (l.mapM (rvRun a.tmps)).run P w = .ok (ps.map (den1 L)) w
  | [], ps, h => by cases h; simp
  | r :: l, ps, h => by
    unfold pairs at h
    split at h <;> try (cases h; done)
    rename_i x y h1 h2
    cases h
    obtain ⟨sv, h3, h4⟩ := Option.bind_eq_some_iff.1 h1
    have e1 := res_ok (D := D) (k := k) ht hS hK h3
    have e2 := pairs_ok (k := k) (D := D) ht hS hK h2
    simp only [List.mapM_cons, Sem.run_bind]
    rw [e1]
    simp only [Result.andThen_ok, e2, Sem.run_pure, List.map_cons, pair_den h4]
theorem run_fmap {α β : Type} (f : α → β) (x : Sem α) (w : World) : (f <$> x).run P w = (x.run P w).andThen fun a w => .ok (f a) w := by
  show ((x >>= fun a => pure (f a)) : Sem β).run P w = _
  rw [Sem.run_bind]
  simp only [Sem.run_pure]
theorem mapM_arr {fn : Func} {tmps : Array Value} {w : World} {vs : List Value} (h : (fn.results.toList.mapM (rvRun tmps)).run P w = .ok vs w) : (fn.results.mapM (rvRun tmps)).run P w = .ok vs.toArray w := by
  have e : fn.results = fn.results.toList.toArray := rfl
  rw [e, List.mapM_toArray, run_fmap, h]
  rfl
theorem J.ret [ht : Ok P tab] [hQ : RetOk Q] {fn : Func} {R : Ending → World → Prop} [hE : EndOk P Q fn R] (sv : SV) (L : List Blk) (hR : ∀ w, Known L w → Rel L w0 w → R (.returned (sv.den L)) w) (h : retOf tab fn (go tab n s) = some sv := by kernel_rfl) (hL : (go tab n s).L = L := by kernel_rfl) (hD : (go tab n s).D = [] := by kernel_rfl) : SX P Q n s w0 := by
  subst hL
  refine run_ok ht.ok hQ.ok 1000 (s := s) ?_
  change SX P _ n (go tab n s) w0
  generalize go tab n s = s1 at *
  obtain ⟨k, S, L, D⟩ := s1
  unfold retOf at h
  split at h <;> try (cases h; done)
  rename_i hk
  replace hk : k = [] := hk
  subst hk
  replace hD : D = [] := hD
  subst hD
  refine ⟨fun a w hS hDa hK hR' => ?_⟩
  replace hS : Slots n L S a := hS
  replace hK : Known L w := hK
  refine hE.ok a w (sv.den L) hDa ?_ (hR w hK hR')
  split at h
  · rename_i r hr
    have h1 := res_ok (D := []) (k := []) ht.ok hS hK h
    have h2 : (fn.results.toList.mapM (rvRun a.tmps)).run P w = .ok [sv.den L] w := by
      rw [hr]
      simp only [List.mapM_cons, List.mapM_nil, Sem.run_bind, h1, Result.andThen_ok, Sem.run_pure]
    rw [results_eq, Sem.run_bind, mapM_arr h2]
    simp
  · rename_i hl
    obtain ⟨ps, hps, rfl⟩ := Option.map_eq_some_iff.1 h
    have hm := pairs_ok (D := []) (k := []) ht.ok hS hK hps
    have h1 : ¬ ps.length = 1 := fun hc => by
      have hlen := (pairs_len hps).symm.trans hc
      obtain ⟨r, hr⟩ := List.length_eq_one_iff.1 hlen
      exact hl r hr
    rw [results_eq, Sem.run_bind, mapM_arr hm]
    simp [SV.den, h1]
/-- 'defer': what is to be called stands ready. -/
theorem J.defer [ht : Ok P tab] [hQ : RetOk Q] (hn : SX P Q n ((dfrK (go tab n s).L (go tab n s)).getD s) w0) (h : (dfrK (go tab n s).L (go tab n s)).isSome = true := by kernel_rfl) : SX P Q n s w0 := by
  refine run_ok ht.ok hQ.ok 1000 (s := s) ?_
  change SX P Q n (go tab n s) w0
  obtain ⟨s2, h2⟩ := Option.isSome_iff_exists.1 h
  rw [h2] at hn
  replace hn : SX P Q n s2 w0 := hn
  generalize go tab n s = s1 at *
  obtain ⟨k1, S, L, D⟩ := s1
  unfold dfrK at h2
  split at h2 <;> try (cases h2; done)
  rename_i all o r k hk
  replace hk : k1 = _ := hk
  subst hk
  split at h2 <;> try (cases h2; done)
  rename_i fo as1 ts hg hop hdst
  split at h2 <;> try (cases h2; done)
  rename_i fn first cap l hfo hl
  cases h2
  refine ⟨fun a w hS hD hK hR => ?_⟩
  have e1 : a.eval fo = .func fn first cap := opd_ok hS hfo
  have e2 : as1.map a.eval = (l.map (SV.den L)).toArray := by
    have := opds_ok hS hl
    rw [← Array.toList_map] at this
    rw [← this]
  have hrun : (execOp a.eval o).run P w = .ok (.defer { target := .fn fn cap, args := first ++ (l.map (SV.den L)).toArray }) w := by
    unfold execOp
    simp only [hop, resolve, e1, Deferred.ofValue, e2, Sem.run_bind, Sem.run_pure, Result.andThen_ok]
  refine wpList_plain hg fun K hK' => ?_
  unfold Oper.wp
  rw [hrun]
  refine hK' _ _ ?_
  rw [hdst]
  exact hn.of _ w hS (by show _ :: a.defers = _; rw [show a.defers = D from hD]) hK hR
theorem callsD_mono {f : FuncId} {args : Array Value} {u : FrameMode} {w : World} {R R' : Ending → FrameMode → World → Prop} (h : CallsD P f args u w R) (hr : ∀ e u w, R e u w → R' e u w) : CallsD P f args u w R' := fun c cs hc => let ⟨e, u', w', fr, h1, h2⟩ := h c cs hc; ⟨e, u', w', fr, hr _ _ _ h1, h2⟩
/-- The last deferred call is carried out. -/
theorem J.run [ht : Ok P tab] {fn : Func} {R : Ending → World → Prop} {f : FuncId} {g : Func} (hf : P.funcs[f]? = some g) (vs : List Value) (L : List Blk) (D : List Deferred)
    (hc : ∀ w, Known L w → Rel L w0 w → CallsD P f vs.toArray .returning w fun e u' w' => ∃ v L', e = .returned v ∧ u' = .returning ∧ L'.map (·.g) = L.map (·.g) ∧ Known L' w' ∧ SX P (Quiet (bodyPostD P fn R)) n ⟨[], (go tab n s).S, L', D⟩ w')
    (hD : (go tab n s).D = { target := .fn (.func f) #[], args := vs.toArray } :: D := by kernel_rfl) (hk : (go tab n s).k = [] := by kernel_rfl) (hL : (go tab n s).L = L := by kernel_rfl) (hname : (g.name == "runtime.NumGoroutine") = false := by kernel_rfl) (hb : g.body.isSome = true := by kernel_rfl) : SX P (Quiet (bodyPostD P fn R)) n s w0 := by
  subst hL
  refine run_ok ht.ok bodyD_ret 1000 (s := s) ?_
  change SX P _ n (go tab n s) w0
  generalize go tab n s = s1 at *
  obtain ⟨k1, S, L, D1⟩ := s1
  replace hk : k1 = [] := hk
  subst hk
  replace hD : D1 = _ := hD
  refine ⟨fun a w hS hDa hK hR => ?_⟩
  replace hDa : a.defers = D1 := hDa
  show Leaves P fn a.tmps R a.defers .returning w
  rw [hDa, hD]
  have hne : g.name ≠ "runtime.NumGoroutine" := by simpa using hname
  obtain ⟨c, hcb⟩ := Option.isSome_iff_exists.1 hb
  refine ⟨by simp, .func f, #[], f, vs.toArray, rfl, ?_, ?_⟩
  · simp [invoke, callFunc, hf, hne, hcb, Sem.run_bind]
  · refine callsD_mono (hc w hK hR) ?_
    rintro e u w' ⟨v, L', rfl, rfl, hg', hK', hn⟩
    have hgo := gOf_map hg'
    have := hn.of { a with defers := D } w' ⟨hS.1, fun k v hk => by rw [den_eq hgo]; exact hS.2 k v hk⟩ rfl hK' (rel_refl _ _)
    exact this
end
end Go.Proofs.YtlhmpmmblnbmbaaGreat.Sx
namespace Go.Proofs.YtlhmpmmblnbmbaaGreat.Flow
open Go.RowKit
/-- Which operation writes a slot. -/
def writer (ops : Array Oper) (k : Nat) : Option Nat := (List.range ops.size).find? fun i => ((ops[i]?).bind (·.dst)) == some k
/-- Each slot has one writer; what an operation waits for stands ahead of it. -/
def fine (ops : Array Oper) : Bool := (List.range ops.size).all fun i => match ops[i]? with
  | some o => (match o.dst with | some k => writer ops k == some i | none => true) && o.after.all (fun e => !Region.binds .any e || decide (e.on < i))
  | none => false
section
variable {P : Program} {ops : Array Oper} {Q : Exit → Act → World → Prop} {a0 : Act} {w0 : World} {E : World → World → Prop} {T : Nat → Value → World → Prop} {TAB : List (Option Nat × List Nat)}
/-- What operation i must do, wherever it comes up. -/
def StepOk (P : Program) (ops : Array Oper) (Q : Exit → Act → World → Prop) (E : World → World → Prop) (T : Nat → Value → World → Prop) (a0 : Act) (w0 : World) (i : Nat) (o : Oper) : Prop :=
  ∀ (a : Act) (w : World), E w0 w → a.tmps.size = a0.tmps.size →
    (∀ k : Nat, (∀ (m : Nat) (om : Oper), ops[m]? = some om → om.dst = some k → ∃ e ∈ om.after, Region.binds .any e = true ∧ e.on = i) → a.tmps.getD k undef = a0.tmps.getD k undef) →
    (∀ j oj, ops[j]? = some oj → (∃ e ∈ o.after, Region.binds .any e = true ∧ e.on = j) → ∃ v, T j v w ∧ ∀ k : Nat, oj.dst = some k → a.tmps.getD k undef = v) →
    ∀ K : Act → World → Prop, (∀ v w', E w w' → T i v w' → K (a.put o.dst v) w') →
      if Region.wanted o (yielded ops a.tmps) = true then o.wp P a w K Q else K (a.put o.dst undef) w
def slotOf (ops : Array Oper) (listed : Array Bool) (vs : Nat → Value) (a0 : Act) (k : Nat) : Option Value :=
  match writer ops k with
  | some i => if listed.getD i false = true then some (vs i) else a0.tmps[k]?
  | none => a0.tmps[k]?
structure Inv (ops : Array Oper) (E : World → World → Prop) (T : Nat → Value → World → Prop) (a0 : Act) (w0 : World) (listed : Array Bool) (a : Act) (w : World) : Prop where
  size : listed.size = ops.size
  shut : ∀ i o, ops[i]? = some o → listed.getD i false = true → ∀ e ∈ o.after, Region.binds .any e = true → listed.getD e.on false = true
  ext : E w0 w
  defers : a.defers = a0.defers
  tsize : a.tmps.size = a0.tmps.size
  vals : ∃ vs : Nat → Value, (∀ i, listed.getD i false = true → T i (vs i) w) ∧ ∀ k, k < a0.tmps.size → a.tmps[k]? = slotOf ops listed vs a0 k
theorem writer_some {k i : Nat} (h : writer ops k = some i) : ∃ o, ops[i]? = some o ∧ o.dst = some k := by
  have := List.find?_some h
  cases ho : ops[i]? with
  | none => simp [ho] at this
  | some o => exact ⟨o, rfl, by simpa [ho] using this⟩
theorem fine_dst (hf : fine ops = true) {i : Nat} {o : Oper} {k : Nat} (ho : ops[i]? = some o) (hd : o.dst = some k) : writer ops k = some i := by
  have hi : i < ops.size := (Array.getElem?_eq_some_iff.1 ho).1
  have := List.all_eq_true.1 hf i (List.mem_range.2 hi)
  simp only [ho, hd, Bool.and_eq_true] at this
  simpa using this.1
theorem fine_after (hf : fine ops = true) {i : Nat} {o : Oper} (ho : ops[i]? = some o) {e : Edge} (he : e ∈ o.after) (hb : Region.binds .any e = true) : e.on < i := by
  have hi : i < ops.size := (Array.getElem?_eq_some_iff.1 ho).1
  have := List.all_eq_true.1 hf i (List.mem_range.2 hi)
  simp only [ho, Bool.and_eq_true] at this
  have h2 := Array.all_eq_true_iff_forall_mem.1 this.2 e he
  simpa [hb] using h2
theorem getD_set (l : Array Bool) (i j : Nat) (hi : i < l.size) : (l.setIfInBounds i true).getD j false = (if j = i then true else l.getD j false) := by
  simp only [Array.getD_eq_getD_getElem?, Array.getElem?_setIfInBounds]
  by_cases h : i = j
  · subst h; simp [hi]
  · simp [h, Ne.symm h]
theorem inv_step (hf : fine ops = true) (trans : ∀ a b c, E a b → E b c → E a c) (stay : ∀ i v w w', T i v w → E w w' → T i v w') {listed : Array Bool} {a : Act} {w : World} (hI : Inv ops E T a0 w0 listed a w)
    {i : Nat} {o : Oper} (ho : ops[i]? = some o) (hun : listed.getD i true = false) (hall : ∀ e ∈ o.after, Region.binds .any e = true → listed.getD e.on false = true) {v : Value} {w' : World} (hE : E w w') (hT : T i v w') :
    Inv ops E T a0 w0 (listed.setIfInBounds i true) (a.put o.dst v) w' := by
  obtain ⟨hs, hsh, hx, hd, ht, vs, hv, hk⟩ := hI
  have hi : i < ops.size := (Array.getElem?_eq_some_iff.1 ho).1
  have hil : i < listed.size := by omega
  have hun' : listed.getD i false = false := by
    simp only [Array.getD_eq_getD_getElem?, Array.getElem?_eq_getElem hil, Option.getD_some] at hun ⊢; exact hun
  refine ⟨by simpa using hs, ?_, trans _ _ _ hx hE, ?_, ?_, fun j => if j = i then v else vs j, ?_, ?_⟩
  · intro j oj hj hl e he hb
    rw [getD_set _ _ _ hil] at hl ⊢
    by_cases hji : j = i
    · subst hji
      rw [ho] at hj; cases hj
      split
      · rfl
      · exact hall e he hb
    · rw [if_neg hji] at hl
      split
      · rfl
      · exact hsh j oj hj hl e he hb
  · cases o.dst <;> simp [Act.put, hd]
  · cases o.dst <;> simp [Act.put, ht]
  · intro j hj
    rw [getD_set _ _ _ hil] at hj
    by_cases hji : j = i
    · subst hji
      show T j (if j = j then v else vs j) w'
      rw [if_pos rfl]; exact hT
    · rw [if_neg hji] at hj
      show T j (if j = i then v else vs j) w'
      rw [if_neg hji]
      exact stay _ _ _ _ (hv j hj) hE
  · intro k hkk
    have old := hk k hkk
    cases hdst : o.dst with
    | none =>
      simp only [Act.put]
      rw [old]
      unfold slotOf
      cases hw : writer ops k with
      | none => rfl
      | some m =>
        have hmi : m ≠ i := by
          rintro rfl
          obtain ⟨o', ho', hd'⟩ := writer_some hw
          rw [ho] at ho'; cases ho'
          rw [hdst] at hd'; cases hd'
        simp only [getD_set _ _ _ hil, if_neg hmi]
    | some d =>
      have hwd := fine_dst hf ho hdst
      simp only [Act.put, Array.getElem?_setIfInBounds]
      by_cases hdk : d = k
      · subst hdk
        rw [if_pos rfl, if_pos (by omega)]
        unfold slotOf
        rw [hwd]
        simp only [getD_set _ _ _ hil, if_true]
      · rw [if_neg hdk, old]
        unfold slotOf
        cases hw : writer ops k with
        | none => rfl
        | some m =>
          have hmi : m ≠ i := by
            rintro rfl
            obtain ⟨o', ho', hd'⟩ := writer_some hw
            rw [ho] at ho'; cases ho'
            rw [hdst] at hd'; cases hd'
            exact hdk rfl
          simp only [getD_set _ _ _ hil, if_neg hmi]
/-- The frame behind the region. -/
def behind (ops : Array Oper) (vs : Nat → Value) : List Nat → Act → Act
  | [], a => a
  | i :: r, a => behind ops vs r (match ops[i]? with | some o => a.put o.dst (vs i) | none => a)
theorem behind_defers (vs : Nat → Value) : ∀ (l : List Nat) (a : Act), (behind ops vs l a).defers = a.defers
  | [], _ => rfl
  | i :: r, a => by
    unfold behind
    rw [behind_defers vs r]
    cases ops[i]? with
    | none => rfl
    | some o => cases h : o.dst <;> simp [Act.put, h]
theorem behind_size (vs : Nat → Value) : ∀ (l : List Nat) (a : Act), (behind ops vs l a).tmps.size = a.tmps.size
  | [], _ => rfl
  | i :: r, a => by
    unfold behind
    rw [behind_size vs r]
    cases ops[i]? with
    | none => rfl
    | some o => cases h : o.dst <;> simp [Act.put, h]
theorem behind_slot (hf : fine ops = true) (vs : Nat → Value) : ∀ (l : List Nat) (a : Act) (k : Nat), k < a.tmps.size →
    (behind ops vs l a).tmps[k]? = (match writer ops k with | some i => if i ∈ l then some (vs i) else a.tmps[k]? | none => a.tmps[k]?)
  | [], a, k, _ => by
    unfold behind
    cases writer ops k <;> simp
  | i :: r, a, k, hk => by
    unfold behind
    cases ho : ops[i]? with
    | none =>
      simp only []
      rw [behind_slot hf vs r a k hk]
      cases hw : writer ops k with
      | none => rfl
      | some m =>
        have hmi : m ≠ i := by
          rintro rfl
          obtain ⟨o', ho', _⟩ := writer_some hw
          rw [ho] at ho'; cases ho'
        simp [hmi]
    | some o =>
      simp only []
      have hsz : (a.put o.dst (vs i)).tmps.size = a.tmps.size := by cases o.dst <;> simp [Act.put]
      rw [behind_slot hf vs r _ k (by omega)]
      cases hw : writer ops k with
      | none =>
        cases hdst : o.dst with
        | none => rfl
        | some d =>
          have := fine_dst hf ho hdst
          have hdk : d ≠ k := by rintro rfl; rw [hw] at this; cases this
          simp [Act.put, hdk]
      | some m =>
        by_cases hmi : m = i
        · subst hmi
          obtain ⟨o', ho', hd'⟩ := writer_some hw
          rw [ho] at ho'; cases ho'
          simp only [List.mem_cons, true_or, if_true]
          split
          · rfl
          · simp [Act.put, hd', hk]
        · simp only [List.mem_cons, hmi, false_or]
          split
          · rfl
          · cases hdst : o.dst with
            | none => rfl
            | some d =>
              have := fine_dst hf ho hdst
              have hdk : d ≠ k := by rintro rfl; rw [hw] at this; cases this; exact hmi rfl
              simp [Act.put, hdk]
theorem inv_any (hf : fine ops = true) (room : ∀ (i : Nat) (o : Oper) (k : Nat), ops[i]? = some o → o.dst = some k → k < a0.tmps.size) (trans : ∀ a b c, E a b → E b c → E a c) (stay : ∀ i v w w', T i v w → E w w' → T i v w') (hstep : ∀ i o, ops[i]? = some o → StepOk P ops Q E T a0 w0 i o)
    (hend : ∀ vs w, E w0 w → (∀ i, i < ops.size → T i (vs i) w) → Q .normal (behind ops vs (List.range ops.size) a0) w) :
    ∀ (fuel : Nat) (listed : Array Bool) (a : Act) (w : World), ((List.range ops.size).filter fun i => !listed.getD i false).length ≤ fuel → Inv ops E T a0 w0 listed a w → wpAny P .any ops Q fuel listed a w := by
  have none_left : ∀ (listed : Array Bool) (a : Act) (w : World), Inv ops E T a0 w0 listed a w → Region.ready .any ops listed = [] → ∀ i, i < ops.size → listed.getD i false = true := by
    intro listed a w hI hr i
    induction i using Nat.strongRecOn with
    | ind i ih =>
      intro hi
      have hil : i < listed.size := by have := hI.size; omega
      cases hl : listed.getD i false with
      | true => rfl
      | false =>
        exfalso
        have hmem : i ∈ Region.ready .any ops listed := mem_ready.2 ⟨by
          simp only [Array.getD_eq_getD_getElem?, Array.getElem?_eq_getElem hil, Option.getD_some] at hl ⊢; exact hl, ops[i], Array.getElem?_eq_getElem hi, fun e he hb =>
            ih e.on (fine_after hf (Array.getElem?_eq_getElem hi) he hb) (by have := fine_after hf (Array.getElem?_eq_getElem hi) he hb; omega)⟩
        rw [hr] at hmem; cases hmem
  have at_end : ∀ (listed : Array Bool) (a : Act) (w : World), Inv ops E T a0 w0 listed a w → Region.ready .any ops listed = [] → Q .normal a w := by
    intro listed a w hI hr
    have hall := none_left listed a w hI hr
    obtain ⟨hs, hsh, hx, hd, ht, vs, hv, hk⟩ := hI
    have h := hend vs w hx (fun i hi => hv i (hall i hi))
    have e : behind ops vs (List.range ops.size) a0 = a := by
      have e1 : (behind ops vs (List.range ops.size) a0).tmps = a.tmps := by
        apply Array.ext_getElem?
        intro k
        by_cases hkk : k < a0.tmps.size
        · rw [behind_slot hf vs _ a0 k hkk, hk k hkk]
          unfold slotOf
          cases hw : writer ops k with
          | none => rfl
          | some m =>
            obtain ⟨o', ho', _⟩ := writer_some hw
            have hm : m < ops.size := (Array.getElem?_eq_some_iff.1 ho').1
            simp [hm, hall m hm]
        · rw [Array.getElem?_eq_none (by rw [behind_size]; omega), Array.getElem?_eq_none (by omega)]
      have e2 := behind_defers (ops := ops) vs (List.range ops.size) a0
      cases a with
      | mk t d =>
        cases hb : behind ops vs (List.range ops.size) a0 with
        | mk t' d' =>
          rw [hb] at e1 e2
          simp only at e1 e2 hd
          rw [e1, e2, ← hd]
    rw [e] at h; exact h
  intro fuel
  induction fuel with
  | zero =>
    intro listed a w hc hI
    have hr : Region.ready .any ops listed = [] := by
      rw [List.eq_nil_iff_forall_not_mem]
      intro i hi
      obtain ⟨hl, o, ho, _⟩ := mem_ready.1 hi
      have hi' : i < ops.size := (Array.getElem?_eq_some_iff.1 ho).1
      have hil : i < listed.size := by have := hI.size; omega
      have : i ∈ (List.range ops.size).filter fun i => !listed.getD i false := List.mem_filter.2 ⟨List.mem_range.2 hi', by
        simp only [Array.getD_eq_getD_getElem?, Array.getElem?_eq_getElem hil, Option.getD_some] at hl ⊢; simp [hl]⟩
      have h0 : ((List.range ops.size).filter fun i => !listed.getD i false) = [] := List.length_eq_zero_iff.1 (by omega)
      rw [h0] at this
      cases this
    exact ⟨hr, at_end listed a w hI hr⟩
  | succ fuel ih =>
    intro listed a w hc hI
    refine ⟨at_end listed a w hI, fun i hi => ?_⟩
    obtain ⟨hl, o, ho, hall⟩ := mem_ready.1 hi
    have hi' : i < ops.size := (Array.getElem?_eq_some_iff.1 ho).1
    have hil : i < listed.size := by have := hI.size; omega
    have hK : ∀ v w', E w w' → T i v w' → wpAny P .any ops Q fuel (listed.setIfInBounds i true) (a.put o.dst v) w' := fun v w' hE hT => by
      refine ih _ _ _ ?_ (inv_step hf trans stay hI ho hl hall hE hT)
      have hlt : ((List.range ops.size).filter fun j => !(listed.setIfInBounds i true).getD j false).length < ((List.range ops.size).filter fun j => !listed.getD j false).length := by
        have hsub : ((List.range ops.size).filter fun j => !(listed.setIfInBounds i true).getD j false) = (((List.range ops.size).filter fun j => !listed.getD j false).filter fun j => decide (j ≠ i)) := by
          rw [List.filter_filter]
          apply List.filter_congr
          intro j _
          rw [getD_set _ _ _ hil]
          by_cases hji : j = i <;> simp [hji]
        rw [hsub]
        have hm : i ∈ (List.range ops.size).filter fun j => !listed.getD j false := List.mem_filter.2 ⟨List.mem_range.2 hi', by
          simp only [Array.getD_eq_getD_getElem?, Array.getElem?_eq_getElem hil, Option.getD_some] at hl ⊢; simp [hl]⟩
        exact List.length_filter_lt_length_iff_exists.2 ⟨i, hm, by simp⟩
      omega
    have hdep : ∀ j oj, ops[j]? = some oj → (∃ e ∈ o.after, Region.binds .any e = true ∧ e.on = j) → ∃ v, T j v w ∧ ∀ k : Nat, oj.dst = some k → a.tmps.getD k undef = v := by
      rintro j oj hj ⟨e, he, hb, rfl⟩
      obtain ⟨hs, hsh, hx, hd, ht, vs, hv, hk⟩ := hI
      have hlj := hall e he hb
      refine ⟨vs e.on, hv _ hlj, fun k hdk => ?_⟩
      have hw := fine_dst hf hj hdk
      have hkk := room _ _ _ hj hdk
      rw [Array.getD_eq_getD_getElem?, hk k hkk]
      unfold slotOf
      rw [hw]; simp [hlj]
    have := hstep i o ho a w hI.ext hI.tsize (by
      intro k hw
      obtain ⟨hs, hsh, hx, hd, ht, vs, hv, hk⟩ := hI
      by_cases hkk : k < a0.tmps.size
      · rw [Array.getD_eq_getD_getElem?, Array.getD_eq_getD_getElem?, hk k hkk]
        unfold slotOf
        cases hwr : writer ops k with
        | none => rfl
        | some m =>
          obtain ⟨om, hom, hdm⟩ := writer_some hwr
          simp only []
          rw [if_neg]
          intro hlm
          obtain ⟨e, he, hb, hei⟩ := hw m om hom hdm
          have hli := hsh m om hom hlm e he hb
          rw [hei] at hli
          simp only [Array.getD_eq_getD_getElem?, Array.getElem?_eq_getElem hil, Option.getD_some] at hl hli
          rw [hl] at hli; cases hli
      · rw [Array.getD_eq_getD_getElem?, Array.getD_eq_getD_getElem?, Array.getElem?_eq_none (xs := a.tmps) (by omega), Array.getElem?_eq_none (xs := a0.tmps) (by omega)]) hdep _ hK
    unfold wpOp
    rw [ho]
    simp only []
    split
    · next hw => rw [if_pos hw] at this; exact .inl this
    · next hw => rw [if_neg hw] at this; exact this
theorem flag_ext {a b : Array Bool} (hs : a.size = b.size) (h : ∀ i, i < a.size → a.getD i false = b.getD i false) : a = b := by
  apply Array.ext hs
  intro i h1 h2
  have := h i h1
  simpa [Array.getD_eq_getD_getElem?, Array.getElem?_eq_getElem h1, Array.getElem?_eq_getElem h2] using this
def headFlags (n m : Nat) : Array Bool := (List.replicate n true ++ List.replicate (m - n) false).toArray
theorem headFlags_size {n m : Nat} (h : n ≤ m) : (headFlags n m).size = m := by simp [headFlags]; omega
theorem headFlags_get {n m i : Nat} : (headFlags n m).getD i false = decide (i < n) := by
  unfold headFlags
  simp only [Array.getD_eq_getD_getElem?, List.getElem?_toArray]
  by_cases h : i < n
  · rw [List.getElem?_append_left (by simpa using h)]; simp [h]
  · rw [List.getElem?_append_right (by simpa using h), List.getElem?_replicate]
    split <;> simp [h]
theorem inv_head {n : Nat} (hn : n < ops.size) (hf : fine ops = true) (hsi : Region.sinkB .any ops n = true) (hch : Region.chainB .any ops n = true) (hsq : Region.seqB .any ops (ops.size - n) n (headFlags n ops.size) = true)
    (room : ∀ (i : Nat) (o : Oper) (k : Nat), ops[i]? = some o → o.dst = some k → k < a0.tmps.size) (trans : ∀ a b c, E a b → E b c → E a c) (stay : ∀ i v w w', T i v w → E w w' → T i v w') (hstep : ∀ i o, i < n → ops[i]? = some o → StepOk P ops Q E T a0 w0 i o)
    (hend : ∀ vs w, E w0 w → (∀ i, i < n → T i (vs i) w) → wpList P ops Q (ops.toList.drop n) (behind ops vs (List.range n) a0) w) :
    ∀ (fuel : Nat) (listed : Array Bool) (a : Act) (w : World), ((List.range n).filter fun i => !listed.getD i false).length = fuel → (∀ t, n ≤ t → t < ops.size → listed.getD t true = false) → Inv ops E T a0 w0 listed a w → wpAny P .any ops Q (fuel + (ops.size - n)) listed a w := by
  intro fuel
  induction fuel with
  | zero =>
    intro listed a w hcnt htl hI
    have hall : ∀ i, i < n → listed.getD i false = true := by
      intro i hi
      cases hl : listed.getD i false with
      | true => rfl
      | false =>
        have : i ∈ (List.range n).filter fun i => !listed.getD i false := List.mem_filter.2 ⟨List.mem_range.2 hi, by simp [hl]⟩
        rw [List.length_eq_zero_iff.1 hcnt] at this; cases this
    have hle : listed = headFlags n ops.size := by
      refine flag_ext (by rw [hI.size, headFlags_size (by omega)]) fun i hi => ?_
      rw [headFlags_get]
      by_cases h : i < n
      · rw [hall i h]; simp [h]
      · have := getD_both (htl i (by omega) (by have := hI.size; omega))
        rw [this]; simp [h]
    obtain ⟨hs, hsh, hx, hd, ht, vs, hv, hk⟩ := hI
    have h := hend vs w hx (fun i hi => hv i (hall i hi))
    have e : behind ops vs (List.range n) a0 = a := by
      have e1 : (behind ops vs (List.range n) a0).tmps = a.tmps := by
        apply Array.ext_getElem?
        intro k
        by_cases hkk : k < a0.tmps.size
        · rw [behind_slot hf vs _ a0 k hkk, hk k hkk]
          unfold slotOf
          cases hw : writer ops k with
          | none => rfl
          | some m =>
            by_cases hm : m < n
            · simp [hm, hall m hm]
            · obtain ⟨o', ho', _⟩ := writer_some hw
              have hm' : m < ops.size := (Array.getElem?_eq_some_iff.1 ho').1
              have := getD_both (htl m (by omega) hm')
              simp [hm, this]
        · rw [Array.getElem?_eq_none (by rw [behind_size]; omega), Array.getElem?_eq_none (by omega)]
      have e2 := behind_defers (ops := ops) vs (List.range n) a0
      cases a with
      | mk t d =>
        cases hb : behind ops vs (List.range n) a0 with
        | mk t' d' =>
          rw [hb] at e1 e2
          simp only at e1 e2 hd
          rw [e1, e2, ← hd]
    rw [e] at h
    have hlen : (ops.toList.drop n).length = ops.size - n := by simp
    rw [Nat.zero_add, ← hlen]
    exact wpAny_of_seq _ n listed a w (fun j => by simp [List.getElem?_drop]) (by rw [hlen, hle]; exact hsq) h
  | succ fuel ih =>
    intro listed a w hcnt htl hI
    have hHI : HeadInv .any ops n listed := ⟨hI.size, hI.shut, htl⟩
    have hex : ∃ i, i < n ∧ listed.getD i true = false := by
      obtain ⟨i, hi⟩ : ∃ i, i ∈ (List.range n).filter fun i => !listed.getD i false := List.exists_mem_of_length_pos (by omega)
      obtain ⟨h1, h2⟩ := List.mem_filter.1 hi
      refine ⟨i, List.mem_range.1 h1, getD_in (by have := hI.size; have := List.mem_range.1 h1; omega) (by simpa using h2)⟩
    obtain ⟨i0, hi0, hu0⟩ := hex
    have hwait := tail_waits hsi hch hn hHI _ i0 rfl hi0 hu0
    rw [show fuel + 1 + (ops.size - n) = (fuel + (ops.size - n)) + 1 by omega]
    refine ⟨fun hr => ?_, fun i hi => ?_⟩
    · exfalso
      have all : ∀ i, i < n → listed.getD i false = true := by
        intro i
        induction i using Nat.strongRecOn with
        | ind i ih2 =>
          intro hi
          have hil : i < listed.size := by have := hI.size; omega
          cases hl : listed.getD i false with
          | true => rfl
          | false =>
            exfalso
            have hio : i < ops.size := by omega
            have hmem : i ∈ Region.ready .any ops listed := mem_ready.2 ⟨getD_in hil hl, ops[i], Array.getElem?_eq_getElem hio, fun e he hb =>
              ih2 e.on (fine_after hf (Array.getElem?_eq_getElem hio) he hb) (by have := fine_after hf (Array.getElem?_eq_getElem hio) he hb; omega)⟩
            rw [hr] at hmem; cases hmem
      have := all i0 hi0
      rw [getD_both hu0] at this
      cases this
    have hin : i < n := by
      by_cases h : i < n
      · exact h
      · exact absurd hi (hwait i (by omega))
    obtain ⟨hl, o, ho, hall⟩ := mem_ready.1 hi
    have hi' : i < ops.size := (Array.getElem?_eq_some_iff.1 ho).1
    have hil : i < listed.size := by have := hI.size; omega
    have hK : ∀ v w', E w w' → T i v w' → wpAny P .any ops Q (fuel + (ops.size - n)) (listed.setIfInBounds i true) (a.put o.dst v) w' := fun v w' hE hT => by
      refine ih _ _ _ ?_ ?_ (inv_step hf trans stay hI ho hl hall hE hT)
      · have hsub : ((List.range n).filter fun j => !(listed.setIfInBounds i true).getD j false) = (((List.range n).filter fun j => !listed.getD j false).filter fun j => decide (j ≠ i)) := by
          rw [List.filter_filter]
          apply List.filter_congr
          intro j _
          rw [getD_set _ _ _ hil]
          by_cases hji : j = i <;> simp [hji]
        rw [hsub]
        have hnd : ((List.range n).filter fun j => !listed.getD j false).Nodup := List.Pairwise.filter _ List.nodup_range
        have hm : i ∈ (List.range n).filter fun j => !listed.getD j false := List.mem_filter.2 ⟨List.mem_range.2 hin, by simp [getD_both hl]⟩
        have := List.Nodup.erase_eq_filter hnd i
        have hl2 := List.length_erase_of_mem hm
        rw [this] at hl2
        have hc2 : ∀ l : List Nat, (l.filter fun j => decide (j ≠ i)) = l.filter (· != i) := fun l => List.filter_congr fun j _ => by by_cases h : j = i <;> simp [h]
        rw [hc2, hl2]; omega
      · intro t h1 h2
        rw [getD_set_ne true (by omega)]
        exact htl t h1 h2
    have hdep : ∀ j oj, ops[j]? = some oj → (∃ e ∈ o.after, Region.binds .any e = true ∧ e.on = j) → ∃ v, T j v w ∧ ∀ k : Nat, oj.dst = some k → a.tmps.getD k undef = v := by
      rintro j oj hj ⟨e, he, hb, rfl⟩
      obtain ⟨hs, hsh, hx, hd, ht, vs, hv, hk⟩ := hI
      have hlj := hall e he hb
      refine ⟨vs e.on, hv _ hlj, fun k hdk => ?_⟩
      have hw := fine_dst hf hj hdk
      have hkk := room _ _ _ hj hdk
      rw [Array.getD_eq_getD_getElem?, hk k hkk]
      unfold slotOf
      rw [hw]; simp [hlj]
    have := hstep i o hin ho a w hI.ext hI.tsize (by
      intro k hw
      obtain ⟨hs, hsh, hx, hd, ht, vs, hv, hk⟩ := hI
      by_cases hkk : k < a0.tmps.size
      · rw [Array.getD_eq_getD_getElem?, Array.getD_eq_getD_getElem?, hk k hkk]
        unfold slotOf
        cases hwr : writer ops k with
        | none => rfl
        | some m =>
          obtain ⟨om, hom, hdm⟩ := writer_some hwr
          simp only []
          rw [if_neg]
          intro hlm
          obtain ⟨e, he, hb, hei⟩ := hw m om hom hdm
          have hli := hsh m om hom hlm e he hb
          rw [hei] at hli
          simp only [Array.getD_eq_getD_getElem?, Array.getElem?_eq_getElem hil, Option.getD_some] at hl hli
          rw [hl] at hli; cases hli
      · rw [Array.getD_eq_getD_getElem?, Array.getD_eq_getD_getElem?, Array.getElem?_eq_none (xs := a.tmps) (by omega), Array.getElem?_eq_none (xs := a0.tmps) (by omega)]) hdep _ hK
    unfold wpOp
    rw [ho]
    simp only []
    split
    · next hw => rw [if_pos hw] at this; exact .inl this
    · next hw => rw [if_neg hw] at this; exact this
/-- The region, whatever order it draws. -/
theorem flow {id : Nat} (hm : P.follows .mixedOrders = true) (hf : fine ops = true) (room : ((List.range ops.size).all fun i => match (ops[i]?).bind (·.dst) with | some k => decide (k < a0.tmps.size) | none => true) = true)
    (hE : E w0 w0.drew) (trans : ∀ a b c, E a b → E b c → E a c) (stay : ∀ i v w w', T i v w → E w w' → T i v w') (hstep : ∀ i o, ops[i]? = some o → StepOk P ops Q E T a0 w0 i o)
    (hend : ∀ vs w, E w0 w → (∀ i, i < ops.size → T i (vs i) w) → Q .normal (behind ops vs (List.range ops.size) a0) w) : (Code.region id ops true).wp P Q a0 w0 := by
  refine wp_region_any hm (inv_any hf ?_ trans stay hstep hend _ _ _ _ ?_ ⟨by simp, ?_, hE, rfl, rfl, fun _ => undef, ?_, ?_⟩)
  · intro i o k ho hd
    have := List.all_eq_true.1 room i (List.mem_range.2 (Array.getElem?_eq_some_iff.1 ho).1)
    simpa [ho, hd] using this
  · exact Nat.le_trans (List.length_filter_le _ _) (by simp)
  · intro i o ho hl
    simp [Array.getD_eq_getD_getElem?, Array.getElem?_replicate] at hl
    split at hl <;> simp at hl
  · intro i hl
    simp [Array.getD_eq_getD_getElem?, Array.getElem?_replicate] at hl
    split at hl <;> simp at hl
  · intro k hk
    unfold slotOf
    split
    · rw [if_neg]
      simp [Array.getD_eq_getD_getElem?, Array.getElem?_replicate]
      split <;> simp
    · rfl
/-- The region, its head in whatever order it draws, its tail in line. -/
theorem flow_head {id n : Nat} (hm : P.follows .mixedOrders = true) (hn : n < ops.size) (hf : fine ops = true) (hsi : Region.sinkB .any ops n = true) (hch : Region.chainB .any ops n = true) (hsq : Region.seqB .any ops (ops.size - n) n (headFlags n ops.size) = true)
    (room : ((List.range ops.size).all fun i => match (ops[i]?).bind (·.dst) with | some k => decide (k < a0.tmps.size) | none => true) = true)
    (hE : E w0 w0.drew) (trans : ∀ a b c, E a b → E b c → E a c) (stay : ∀ i v w w', T i v w → E w w' → T i v w') (hstep : ∀ i o, i < n → ops[i]? = some o → StepOk P ops Q E T a0 w0 i o)
    (hend : ∀ vs w, E w0 w → (∀ i, i < n → T i (vs i) w) → wpList P ops Q (ops.toList.drop n) (behind ops vs (List.range n) a0) w) : (Code.region id ops true).wp P Q a0 w0 := by
  have hcnt : ((List.range n).filter fun i => !(Array.replicate ops.size false).getD i false).length = n := by
    rw [List.filter_eq_self.2 (fun i _ => by rw [getD_replicate_false]; rfl)]; simp
  have hsz : ops.size = n + (ops.size - n) := by omega
  refine wp_region_any hm ?_
  have := inv_head (Q := Q) hn hf hsi hch hsq ?_ trans stay hstep hend n (Array.replicate ops.size false) a0 { w0 with drawn := w0.drawn + 1 } hcnt ?_ ⟨by simp, ?_, hE, rfl, rfl, fun _ => undef, ?_, ?_⟩
  · rw [← hsz] at this; exact this
  · intro i o k ho hd
    have := List.all_eq_true.1 room i (List.mem_range.2 (Array.getElem?_eq_some_iff.1 ho).1)
    simpa [ho, hd] using this
  · intro t _ h2
    exact getD_in (by simpa using h2) (getD_replicate_false _ _)
  · intro i o ho hl
    rw [getD_replicate_false] at hl; cases hl
  · intro i hl
    rw [getD_replicate_false] at hl; cases hl
  · intro k hk
    unfold slotOf
    split
    · rw [getD_replicate_false]; simp
    · rfl
theorem want {c : Prop} [Decidable c] {A B : Prop} (h : c) (hA : A) : if c then A else B := by rw [if_pos h]; exact hA
theorem spare {c : Prop} [Decidable c] {A B : Prop} (h : ¬ c) (hB : B) : if c then A else B := by rw [if_neg h]; exact hB
variable {o : Oper} {a : Act} {w : World} {K : Act → World → Prop}
end
end Go.Proofs.YtlhmpmmblnbmbaaGreat.Flow
set_option linter.unusedVariables false
set_option linter.unusedSimpArgs false
namespace Go.Proofs.YtlhmpmmblnbmbaaGreat.Sx
open Go.RowKit
theorem Ext.refl (w : World) : Ext w w := (.mk2 (Nat.le_refl _) (fun _ _ => rfl))
theorem Ext.trans {u v w : World} (h : Ext u v) (k : Ext v w) : Ext u w := (.mk2 (Nat.le_trans h.1 k.1) (fun i hi => (k.2 i (Nat.lt_of_lt_of_le hi h.1)).trans (h.2 i hi)))
theorem Ext.known {L : List Blk} {u v : World} (h : Ext u v) (hK : Known L u) : Known L v := ⟨fun i b hb => by
  have h0 := hK.1 i b hb
  rw [h.2 b.g (Array.getElem?_eq_some_iff.1 h0).1]; exact h0, hK.2⟩
theorem Ext.rel {L : List Blk} {w0 u v : World} (h : Ext u v) (hR : Rel L w0 u) : Rel L w0 v := (.mk2 (Nat.le_trans hR.1 h.1) (fun k hk hn => (h.2 k (Nat.lt_of_lt_of_le hk hR.1)).trans (hR.2 k hk hn)))
/-- What operation i finds in slot k. -/
def valD (S : List (Nat × SV)) (ops : Array Oper) (vals : List SV) (i : Nat) (o : Oper) (k : Nat) : Option SV :=
  match o.after.toList.find? (fun e => Region.binds .any e && (match ops[e.on]? with | some oj => oj.dst == some k | none => false)) with
  | some e => vals[e.on]?
  | none => if ops.toList.all (fun om => om.dst != some k || om.after.toList.any (fun e => Region.binds .any e && Nat.beq e.on i)) then look S k else none
def gop (ops : Array Oper) (o : Oper) : List Nat := match o.guard with
  | none => []
  | some (j, _) => (gslot ops j).toList
def tmpsOf (o : Oper) : List Nat := o.op.operands.toList.filterMap (fun x => match x with | .tmp k => some k | _ => none)
def envD (S : List (Nat × SV)) (ops : Array Oper) (vals : List SV) (i : Nat) (o : Oper) : List (Nat × SV) :=
  (gop ops o ++ tmpsOf o).filterMap fun k => (valD S ops vals i o k).map fun v => (k, v)
def valAt (tab : Tab) (L : List Blk) (S : List (Nat × SV)) (ops : Array Oper) (ans : List (Nat × SV)) (vals : List SV) (i : Nat) (o : Oper) : Option SV :=
  match (match o.guard with
    | none => some true
    | some (j, want) => match (gslot ops j).bind (look (envD S ops vals i o)) with
      | some (.one (.lit b)) => some (b == want)
      | _ => none) with
  | some true => match look ans i with
    | some v => some v
    | none => pureOp tab L (envD S ops vals i o) o.op
  | some false => some (.one (.v undef))
  | none => none
def evalD (tab : Tab) (L : List Blk) (S : List (Nat × SV)) (ops : Array Oper) (ans : List (Nat × SV)) : Nat → List Oper → List SV → Option (List SV)
  | _, [], vals => some vals
  | i, o :: r, vals => match valAt tab L S ops ans vals i o with
    | some v => evalD tab L S ops ans (i + 1) r (vals ++ [v])
    | none => none
def drawChk (n : Nat) (ops : Array Oper) (m : Nat) : Bool := Flow.fine ops && (ops.toList.all fun o => match o.dst with | some k => Nat.blt k n | none => true) &&
  (Nat.beq m ops.size || (Nat.blt m ops.size && Region.sinkB .any ops m && Region.chainB .any ops m && Region.seqB .any ops (ops.size - m) m (Flow.headFlags m ops.size)))
def drawOps (s : St) : Array Oper := match s.k with
  | .code (.region _ ops true) :: _ => ops
  | _ => #[]
def isDraw (s : St) : Bool := match s.k with
  | .code (.region _ _ true) :: _ => true
  | _ => false
def behS (ops : Array Oper) (vals : List SV) : List Nat → List (Nat × SV) → List (Nat × SV)
  | [], S => S
  | i :: r, S => behS ops vals r (match ops[i]?, vals[i]? with
    | some o, some v => putS o.dst v S
    | _, _ => S)
/-- Behind the first m operations. -/
def drawK (s : St) (m : Nat) (vals : List SV) : St := match s.k with
  | .code (.region _ ops true) :: k => ⟨.ops ops (ops.toList.drop m) :: k, behS ops vals (List.range m) s.S, s.L, s.D⟩
  | _ => s
/-- Wherever operation o comes up, it yields v. -/
def Yields (P : Program) (n : Nat) (L : List Blk) (S : List (Nat × SV)) (o : Oper) (v : SV) (w0 : World) : Prop :=
  ∀ (Q : Exit → Act → World → Prop) a w, Slots n L S a → Known L w → Rel L w0 w → ∀ K : Act → World → Prop, (∀ w', Ext w w' → K (a.put o.dst (v.den L)) w') → o.wp P a w K Q
/-- Operation i yields v, wherever it comes up; E: what it finds. -/
structure YAt (P : Program) (n : Nat) (L : List Blk) (E : Oper → List (Nat × SV)) (ops : Array Oper) (i : Nat) (v : SV) (w0 : World) : Prop where
  of : ∀ o, ops[i]? = some o → Yields P n L (E o) o v w0
inductive Told (P : Program) (n : Nat) (L : List Blk) (S : List (Nat × SV)) (ops : Array Oper) (vals : List SV) (w0 : World) : List (Nat × SV) → Prop
  | nil : Told P n L S ops vals w0 []
  | cons {i : Nat} {v : SV} {r : List (Nat × SV)} : YAt P n L (envD S ops (vals.take i) i) ops i v w0 → Told P n L S ops vals w0 r → Told P n L S ops vals w0 ((i, v) :: r)
section
variable {P : Program} {Q : Exit → Act → World → Prop} {tab : Tab} {n : Nat} {s : St} {w0 : World}
theorem told_get {L : List Blk} {S : List (Nat × SV)} {ops : Array Oper} {vals : List SV} {ans : List (Nat × SV)} (h : Told P n L S ops vals w0 ans) {i : Nat} {v : SV} (hl : look ans i = some v) : ∀ o, ops[i]? = some o → Yields P n L (envD S ops (vals.take i) i o) o v w0 := by
  induction h with
  | nil => cases hl
  | cons hy _ ih =>
    unfold look at hl
    split at hl
    · rename_i e; cases hl
      have := Nat.eq_of_beq_eq_true e
      subst this
      exact hy.of
    · exact ih hl
theorem evalD_len {L : List Blk} {S : List (Nat × SV)} {ops : Array Oper} {ans : List (Nat × SV)} : ∀ {r : List Oper} {i : Nat} {acc vals : List SV}, evalD tab L S ops ans i r acc = some vals → ∃ t, vals = acc ++ t ∧ t.length = r.length
  | [], i, acc, vals, h => by cases h; exact ⟨[], by simp, rfl⟩
  | o :: r, i, acc, vals, h => by
    unfold evalD at h
    split at h <;> try (cases h; done)
    obtain ⟨t, h1, h2⟩ := evalD_len h
    exact ⟨_ :: t, by rw [h1, List.append_assoc]; rfl, by simp [h2]⟩
theorem evalD_get {L : List Blk} {S : List (Nat × SV)} {ops : Array Oper} {ans : List (Nat × SV)} : ∀ {r : List Oper} {i : Nat} {acc vals : List SV}, acc.length = i → evalD tab L S ops ans i r acc = some vals → ∀ j o, r[j]? = some o → ∃ v, vals[i + j]? = some v ∧ valAt tab L S ops ans (vals.take (i + j)) (i + j) o = some v
  | [], _, _, _, _, _, j, o, h => by cases h
  | o :: r, i, acc, vals, hi, h, j, o', hj => by
    unfold evalD at h
    split at h <;> try (cases h; done)
    rename_i v hv
    have hlen : (acc ++ [v]).length = i + 1 := by simp [hi]
    cases j with
    | zero =>
      cases hj
      obtain ⟨t, ht, _⟩ := evalD_len h
      refine ⟨v, ?_, ?_⟩
      · rw [ht, Nat.add_zero, List.append_assoc, List.getElem?_append_right (by omega), hi, Nat.sub_self]; rfl
      · rw [Nat.add_zero, ht, List.append_assoc, List.take_append_of_le_length (by omega), List.take_of_length_le (by omega)]; exact hv
    | succ j =>
      have := evalD_get hlen h j o' hj
      rw [show i + 1 + j = i + (j + 1) by omega] at this
      exact this
theorem env_look {S : List (Nat × SV)} {ops : Array Oper} {vals : List SV} {i : Nat} {o : Oper} : ∀ {l : List Nat} {k : Nat} {sv : SV}, look (l.filterMap fun k => (valD S ops vals i o k).map fun v => (k, v)) k = some sv → valD S ops vals i o k = some sv
  | [], _, _, h => by cases h
  | x :: l, k, sv, h => by
    rw [List.filterMap_cons] at h
    cases hx : valD S ops vals i o x with
    | none => rw [hx] at h; exact env_look h
    | some v =>
      rw [hx] at h
      simp only [Option.map_some] at h
      unfold look at h
      split at h
      · rename_i e; cases h; rw [← Nat.eq_of_beq_eq_true e]; exact hx
      · exact env_look h
theorem behS_ok {L : List Blk} {ops : Array Oper} {vals : List SV} {vs : Nat → Value} (room : ∀ (i : Nat) (o : Oper) (k : Nat), ops[i]? = some o → o.dst = some k → k < n) : ∀ {l : List Nat} {S : List (Nat × SV)} {a : Act}, (∀ i ∈ l, ∃ v, vals[i]? = some v ∧ vs i = v.den L) → Slots n L S a → Slots n L (behS ops vals l S) (Flow.behind ops vs l a)
  | [], S, a, _, h => h
  | i :: r, S, a, hv, h => by
    unfold behS Flow.behind
    obtain ⟨v, h1, h2⟩ := hv i (by simp)
    refine behS_ok room (fun j hj => hv j (by simp [hj])) ?_
    cases ho : ops[i]? with
    | none => exact h
    | some o =>
      simp only [h1]
      rw [h2]
      exact put_slots h (fun k hk => room i o k ho hk) v
def drawVals (tab : Tab) (s : St) (m : Nat) (ans : List (Nat × SV)) : Option (List SV) := evalD tab s.L s.S (drawOps s) ans 0 ((drawOps s).toList.take m) []
theorem J.drw [ht : Ok P tab] [hQ : RetOk Q] (m : Nat) (ans : List (Nat × SV)) (L : List Blk)
    (hans : Told P n L (go tab n s).S (drawOps (go tab n s)) ((drawVals tab (go tab n s) m ans).getD []) w0 ans)
    (hn : SX P Q n (drawK (go tab n s) m ((drawVals tab (go tab n s) m ans).getD [])) w0)
    (hm : P.follows .mixedOrders = true := by kernel_rfl) (h1 : isDraw (go tab n s) = true := by kernel_rfl) (h2 : drawChk n (drawOps (go tab n s)) m = true := by kernel_rfl) (h3 : (drawVals tab (go tab n s) m ans).isSome = true := by kernel_rfl) (hL : (go tab n s).L = L := by kernel_rfl) : SX P Q n s w0 := by
  subst hL
  refine run_ok ht.ok hQ.ok 1000 (s := s) ?_
  change SX P Q n (go tab n s) w0
  generalize go tab n s = s1 at *
  obtain ⟨k1, S, L, D⟩ := s1
  unfold isDraw at h1
  split at h1 <;> try (cases h1; done)
  rename_i id ops k hk
  replace hk : k1 = _ := hk
  subst hk
  obtain ⟨vals, hvals⟩ := Option.isSome_iff_exists.1 h3
  rw [hvals] at hans hn
  replace hans : Told P n L S ops vals w0 ans := hans
  replace hn : SX P Q n ⟨.ops ops (ops.toList.drop m) :: k, behS ops vals (List.range m) S, L, D⟩ w0 := hn
  replace hvals : evalD tab L S ops ans 0 (ops.toList.take m) [] = some vals := hvals
  replace h2 : drawChk n ops m = true := h2
  unfold drawChk at h2
  rw [Bool.and_eq_true, Bool.and_eq_true] at h2
  obtain ⟨⟨hf, hroom⟩, hshape⟩ := h2
  have room : ∀ (i : Nat) (o : Oper) (k : Nat), ops[i]? = some o → o.dst = some k → k < n := fun i o k ho hk => by
    have := List.all_eq_true.1 hroom o (by rw [← Array.getElem?_toList] at ho; exact List.mem_of_getElem? ho)
    rw [hk] at this
    simpa [Nat.blt_eq] using this
  refine ⟨fun a w hS hD hK hR => ?_⟩
  replace hS : Slots n L S a := hS
  replace hD : a.defers = D := hD
  replace hK : Known L w := hK
  replace hR : Rel L w0 w := hR
  have hmle : m ≤ ops.size := by
    rw [Bool.or_eq_true] at hshape
    rcases hshape with h | h
    · exact Nat.le_of_eq (Nat.eq_of_beq_eq_true h)
    · rw [Bool.and_eq_true, Bool.and_eq_true, Bool.and_eq_true] at h
      have := h.1.1.1
      exact Nat.le_of_lt (by simpa [Nat.blt_eq] using this)
  have hget : ∀ i o, i < m → ops[i]? = some o → ∃ v, vals[i]? = some v ∧ valAt tab L S ops ans (vals.take i) i o = some v := fun i o hi ho => by
    have := evalD_get (i := 0) rfl hvals i o (by rw [List.getElem?_take_of_lt hi, Array.getElem?_toList]; exact ho)
    simpa using this
  have stepOk : ∀ i o, i < m → ops[i]? = some o → Flow.StepOk P ops (post P Q k) Ext (fun i v w => ∀ sv, vals[i]? = some sv → v = sv.den L) a w i o := by
    intro i o hi ho a' w' hE hsz hu hd K hK'
    obtain ⟨v, hv1, hv2⟩ := hget i o hi ho
    have hsl : Slots n L (envD S ops (vals.take i) i o) a' := by
      refine ⟨hsz.trans hS.1, fun q sv hq => ?_⟩
      have hval := env_look hq
      unfold valD at hval
      split at hval
      · rename_i e he
        have hmem := List.mem_of_find?_eq_some he
        have hp := List.find?_some he
        rw [Bool.and_eq_true] at hp
        obtain ⟨hp1, hp2⟩ := hp
        cases hoj : ops[e.on]? with
        | none => rw [hoj] at hp2; cases hp2
        | some oj =>
          rw [hoj] at hp2
          have hdst : oj.dst = some q := by simpa using hp2
          obtain ⟨u, hu1, hu2⟩ := hd e.on oj hoj ⟨e, Array.mem_toList_iff.1 hmem, hp1, rfl⟩
          have hsv : vals[e.on]? = some sv := by
            rw [List.getElem?_take] at hval
            split at hval
            · exact hval
            · cases hval
          have e2 := hu2 q hdst
          rw [hu1 sv hsv] at e2
          have hqn : q < a'.tmps.size := by rw [hsz, hS.1]; exact room _ _ _ hoj hdst
          rw [Array.getD_eq_getD_getElem?, Array.getElem?_eq_getElem hqn] at e2
          rw [Array.getElem?_eq_getElem hqn]
          exact congrArg some e2
      · split at hval
        · rename_i hall
          have e1 := hu q (fun j om hom hdm => by
            have := List.all_eq_true.1 hall om (by rw [← Array.getElem?_toList] at hom; exact List.mem_of_getElem? hom)
            rw [Bool.or_eq_true] at this
            rcases this with h | h
            · rw [hdm] at h; simp at h
            · obtain ⟨e, he1, he2⟩ := List.any_eq_true.1 h
              rw [Bool.and_eq_true] at he2
              exact ⟨e, Array.mem_toList_iff.1 he1, he2.1, Nat.eq_of_beq_eq_true he2.2⟩)
          have e0 := hS.2 q sv hval
          have hqs : q < a.tmps.size := (Array.getElem?_eq_some_iff.1 e0).1
          have hqn : q < a'.tmps.size := by rw [hsz]; exact hqs
          rw [Array.getD_eq_getD_getElem?, Array.getD_eq_getD_getElem?, e0, Array.getElem?_eq_getElem hqn] at e1
          rw [Array.getElem?_eq_getElem hqn]
          exact congrArg some e1
        · cases hval
    have hK2 := hE.known hK
    have hR2 := hE.rel hR
    have okv : ∀ sv, vals[i]? = some sv → v.den L = sv.den L := fun sv h => by rw [hv1] at h; cases h; rfl
    have wantD : ∀ (j : Nat) (want : Bool) (b : Bool), o.guard = some (j, want) → (gslot ops j).bind (look (envD S ops (vals.take i) i o)) = some (.one (.lit b)) → Region.wanted o (yielded ops a'.tmps) = (b == want) := fun j want b hg hb => by
      unfold Region.wanted
      rw [hg]
      simp only [yield_lit hsl hb]
      cases b <;> cases want <;> rfl
    have doit : look ans i = some v ∨ (pureOp tab L (envD S ops (vals.take i) i o) o.op = some v) → o.wp P a' w' K (post P Q k) := by
      rintro (h | h)
      · exact told_get hans h o ho _ a' w' hsl hK2 hR2 K (fun w2 hx => hK' _ _ hx okv)
      · unfold Oper.wp
        rw [pure_ok ht.ok hsl hK2 h]
        exact hK' _ _ (Ext.refl _) okv
    unfold valAt at hv2
    split at hv2
    · rename_i hgd
      have hwant : Region.wanted o (yielded ops a'.tmps) = true := by
        split at hgd
        · rename_i hg; unfold Region.wanted; rw [hg]
        · rename_i j want hg
          split at hgd <;> try (cases hgd; done)
          rename_i b hb
          rw [wantD j want b hg hb]
          injection hgd
      rw [if_pos hwant]
      split at hv2
      · rename_i v' hl; cases hv2; exact doit (.inl hl)
      · exact doit (.inr hv2)
    · rename_i hgd
      have hwant : ¬ Region.wanted o (yielded ops a'.tmps) = true := by
        split at hgd <;> try (cases hgd; done)
        rename_i j want hg
        split at hgd <;> try (cases hgd; done)
        rename_i b hb
        rw [wantD j want b hg hb]
        injection hgd with hgd
        rw [hgd]; simp
      rw [if_neg hwant]
      cases hv2
      exact hK' undef w' (Ext.refl _) okv
    · cases hv2
  have fin : ∀ vs w2, Ext w w2 → (∀ i, i < m → ∀ sv, vals[i]? = some sv → vs i = sv.den L) → post P Q (.ops ops (ops.toList.drop m) :: k) .normal (Flow.behind ops vs (List.range m) a) w2 := fun vs w2 hx hT => by
    refine hn.of _ w2 (behS_ok room (fun i hi => ?_) hS) ((Flow.behind_defers vs _ a).trans hD) (hx.known hK) (hx.rel hR)
    have hi' := List.mem_range.1 hi
    obtain ⟨v, hv, _⟩ := hget i _ hi' (Array.getElem?_eq_getElem (by omega))
    exact ⟨v, hv, hT i hi' v hv⟩
  have room' : ((List.range ops.size).all fun i => match (ops[i]?).bind (·.dst) with | some k => decide (k < a.tmps.size) | none => true) = true := List.all_eq_true.2 fun i hi => by
    cases ho : ops[i]? with
    | none => rfl
    | some o =>
      cases hd : o.dst with
      | none => simp [hd]
      | some q => simp [hd, hS.1]; exact room i o q ho hd
  show (Code.region id ops true).wp P (post P Q k) a w
  rw [Bool.or_eq_true] at hshape
  rcases hshape with h | h
  · have e := Nat.eq_of_beq_eq_true h
    refine Flow.flow hm hf room' (Ext.drew w) (fun _ _ _ h k => h.trans k) (fun _ _ _ _ h _ => h) (fun i o ho => stepOk i o (by have := (Array.getElem?_eq_some_iff.1 ho).1; omega) ho) (fun vs w2 hx hT => ?_)
    have := fin vs w2 hx (fun i hi => hT i (by omega))
    rw [e, ← Array.length_toList, List.drop_length] at this
    rw [← Array.length_toList]
    exact this
  · rw [Bool.and_eq_true, Bool.and_eq_true, Bool.and_eq_true] at h
    obtain ⟨⟨⟨g1, g2⟩, g3⟩, g4⟩ := h
    exact Flow.flow_head hm (by simpa [Nat.blt_eq] using g1) hf g2 g3 g4 room' (Ext.drew w) (fun _ _ _ h k => h.trans k) (fun _ _ _ _ h _ => h) stepOk (fun vs w2 hx hT => fin vs w2 hx hT)
abbrev Pred := Value → World → Prop
def lookO : List (Nat × Pred) → Nat → Option Pred
  | [], _ => none
  | (k, p) :: r, i => if Nat.beq k i then some p else lookO r i
def isO (opens : List (Nat × Pred)) (i : Nat) : Bool := match lookO opens i with | some _ => true | none => false
def valDO (S : List (Nat × SV)) (ops : Array Oper) (vals : List (Option SV)) (i : Nat) (o : Oper) (k : Nat) : Option SV :=
  match o.after.toList.find? (fun e => Region.binds .any e && (match ops[e.on]? with | some oj => oj.dst == some k | none => false)) with
  | some e => (vals[e.on]?).join
  | none => if ops.toList.all (fun om => om.dst != some k || om.after.toList.any (fun e => Region.binds .any e && Nat.beq e.on i)) then look S k else none
def envO (S : List (Nat × SV)) (ops : Array Oper) (vals : List (Option SV)) (i : Nat) (o : Oper) : List (Nat × SV) :=
  (gop ops o ++ tmpsOf o).filterMap fun k => (valDO S ops vals i o k).map fun v => (k, v)
def valAtO (tab : Tab) (L : List Blk) (S : List (Nat × SV)) (ops : Array Oper) (ans : List (Nat × SV)) (opens : List (Nat × Pred)) (vals : List (Option SV)) (i : Nat) (o : Oper) : Option (Option SV) :=
  match (match o.guard with
    | none => some true
    | some (j, want) => match (gslot ops j).bind (look (envO S ops vals i o)) with
      | some (.one (.lit b)) => some (b == want)
      | _ => none) with
  | some true => if isO opens i then some none else match look ans i with
    | some v => some (some v)
    | none => (pureOp tab L (envO S ops vals i o) o.op).map some
  | some false => some (some (.one (.v undef)))
  | none => none
def evalO (tab : Tab) (L : List Blk) (S : List (Nat × SV)) (ops : Array Oper) (ans : List (Nat × SV)) (opens : List (Nat × Pred)) : Nat → List Oper → List (Option SV) → Option (List (Option SV))
  | _, [], vals => some vals
  | i, o :: r, vals => match valAtO tab L S ops ans opens vals i o with
    | some v => evalO tab L S ops ans opens (i + 1) r (vals ++ [v])
    | none => none
def drawValsO (tab : Tab) (s : St) (m : Nat) (ans : List (Nat × SV)) (opens : List (Nat × Pred)) : Option (List (Option SV)) := evalO tab s.L s.S (drawOps s) ans opens 0 ((drawOps s).toList.take m) []
/-- The facts that operation o finds in the slots it waits for. -/
def depsO (ops : Array Oper) (opens : List (Nat × Pred)) (o : Oper) : List (Nat × Pred) := o.after.toList.filterMap fun e => if Region.binds .any e then (match (ops[e.on]?).bind (·.dst), lookO opens e.on with
  | some k, some p => some (k, p)
  | _, _ => none) else none
inductive ToldV (P : Program) (n : Nat) (L : List Blk) (S : List (Nat × SV)) (ops : Array Oper) (vals : List (Option SV)) (w0 : World) : List (Nat × SV) → Prop
  | nil : ToldV P n L S ops vals w0 []
  | cons {i : Nat} {v : SV} {r : List (Nat × SV)} : YAt P n L (envO S ops (vals.take i) i) ops i v w0 → ToldV P n L S ops vals w0 r → ToldV P n L S ops vals w0 ((i, v) :: r)
def OpenAll : List (Nat × Pred) → List (Nat × SV) → (List (Nat × SV) → Prop) → World → Prop
  | [], acc, G, _ => G acc
  | (i, p) :: r, acc, G, w => ∀ v, p v w → OpenAll r ((i, .one (.v v)) :: acc) G w
def fillV (xs : List (Nat × SV)) : Nat → List (Option SV) → List SV
  | _, [] => []
  | i, some v :: r => v :: fillV xs (i + 1) r
  | i, none :: r => (match look xs i with | some v => v | none => .one (.v undef)) :: fillV xs (i + 1) r
def openChk (vals : List (Option SV)) (opens : List (Nat × Pred)) : Bool := opens.all fun x => match vals[x.1]? with | some none => true | _ => false
theorem evalO_len {L : List Blk} {S : List (Nat × SV)} {ops : Array Oper} {ans : List (Nat × SV)} {opens : List (Nat × Pred)} : ∀ {r : List Oper} {i : Nat} {acc vals : List (Option SV)}, evalO tab L S ops ans opens i r acc = some vals → ∃ t, vals = acc ++ t ∧ t.length = r.length
  | [], i, acc, vals, h => by cases h; exact ⟨[], by simp, rfl⟩
  | o :: r, i, acc, vals, h => by
    unfold evalO at h
    split at h <;> try (cases h; done)
    obtain ⟨t, h1, h2⟩ := evalO_len h
    exact ⟨_ :: t, by rw [h1, List.append_assoc]; rfl, by simp [h2]⟩
theorem evalO_get {L : List Blk} {S : List (Nat × SV)} {ops : Array Oper} {ans : List (Nat × SV)} {opens : List (Nat × Pred)} : ∀ {r : List Oper} {i : Nat} {acc vals : List (Option SV)}, acc.length = i → evalO tab L S ops ans opens i r acc = some vals → ∀ j o, r[j]? = some o → ∃ v, vals[i + j]? = some v ∧ valAtO tab L S ops ans opens (vals.take (i + j)) (i + j) o = some v
  | [], _, _, _, _, _, j, o, h => by cases h
  | o :: r, i, acc, vals, hi, h, j, o', hj => by
    unfold evalO at h
    split at h <;> try (cases h; done)
    rename_i v hv
    have hlen : (acc ++ [v]).length = i + 1 := by simp [hi]
    cases j with
    | zero =>
      cases hj
      obtain ⟨t, ht, _⟩ := evalO_len h
      refine ⟨v, ?_, ?_⟩
      · rw [ht, Nat.add_zero, List.append_assoc, List.getElem?_append_right (by omega), hi, Nat.sub_self]; rfl
      · rw [Nat.add_zero, ht, List.append_assoc, List.take_append_of_le_length (by omega), List.take_of_length_le (by omega)]; exact hv
    | succ j =>
      have := evalO_get hlen h j o' hj
      rw [show i + 1 + j = i + (j + 1) by omega] at this
      exact this
theorem envO_look {S : List (Nat × SV)} {ops : Array Oper} {vals : List (Option SV)} {i : Nat} {o : Oper} : ∀ {l : List Nat} {k : Nat} {sv : SV}, look (l.filterMap fun k => (valDO S ops vals i o k).map fun v => (k, v)) k = some sv → valDO S ops vals i o k = some sv
  | [], _, _, h => by cases h
  | x :: l, k, sv, h => by
    rw [List.filterMap_cons] at h
    cases hx : valDO S ops vals i o x with
    | none => rw [hx] at h; exact envO_look h
    | some v =>
      rw [hx] at h
      simp only [Option.map_some] at h
      unfold look at h
      split at h
      · rename_i e; cases h; rw [← Nat.eq_of_beq_eq_true e]; exact hx
      · exact envO_look h
def xsOf (vs : Nat → Value) : List (Nat × Pred) → List (Nat × SV) → List (Nat × SV)
  | [], acc => acc
  | (i, _) :: r, acc => xsOf vs r ((i, .one (.v (vs i))) :: acc)
theorem openAll_use {vs : Nat → Value} {w : World} {G : List (Nat × SV) → Prop} : ∀ {l : List (Nat × Pred)} {acc : List (Nat × SV)}, (∀ i p, (i, p) ∈ l → p (vs i) w) → OpenAll l acc G w → G (xsOf vs l acc)
  | [], acc, _, h => h
  | (i, p) :: r, acc, hp, h => openAll_use (l := r) (fun j q hj => hp j q (by simp [hj])) (h (vs i) (hp i p (by simp)))
theorem xs_look {vs : Nat → Value} : ∀ {l : List (Nat × Pred)} {acc : List (Nat × SV)}, (∀ i v, look acc i = some v → v = .one (.v (vs i))) → (∀ i v, look (xsOf vs l acc) i = some v → v = .one (.v (vs i))) ∧ ∀ i, (isO l i = true ∨ (look acc i).isSome = true) → (look (xsOf vs l acc) i).isSome = true
  | [], acc, ha => ⟨ha, fun i h => (by
    rcases h with h | h
    · cases h
    · exact h)⟩
  | (j, p) :: r, acc, ha => by
    obtain ⟨h1, h2⟩ := xs_look (l := r) (acc := (j, .one (.v (vs j))) :: acc) (fun i v hl => by
      unfold look at hl
      split at hl
      · rename_i e; cases hl; rw [Nat.eq_of_beq_eq_true e]
      · exact ha i v hl)
    refine ⟨h1, fun i h => h2 i ?_⟩
    unfold isO lookO at h
    unfold look
    by_cases e : Nat.beq j i = true
    · right; rw [if_pos e]; rfl
    · rw [if_neg e] at h ⊢; exact h
theorem fillV_get {xs : List (Nat × SV)} : ∀ {l : List (Option SV)} {i j : Nat} {v : Option SV}, l[j]? = some v → (fillV xs i l)[j]? = some (match v with | some v => v | none => match look xs (i + j) with | some v => v | none => .one (.v undef))
  | [], _, _, _, h => by cases h
  | x :: r, i, 0, v, h => by
    cases h
    cases x <;> rfl
  | x :: r, i, j + 1, v, h => by
    have := fillV_get (xs := xs) (l := r) (i := i + 1) (j := j) (v := v) (by simpa using h)
    rw [show i + 1 + j = i + (j + 1) by omega] at this
    cases x <;> exact this
theorem lookO_mem : ∀ {l : List (Nat × Pred)} {i : Nat} {p : Pred}, lookO l i = some p → (i, p) ∈ l
  | [], _, _, h => by cases h
  | (j, q) :: r, i, p, h => by
    unfold lookO at h
    split at h
    · rename_i e; cases h; rw [Nat.eq_of_beq_eq_true e]; simp
    · exact List.mem_cons_of_mem _ (lookO_mem h)
theorem lookO_some : ∀ {l : List (Nat × Pred)} {i : Nat} {p : Pred}, (i, p) ∈ l → ∃ q, lookO l i = some q
  | (j, q) :: r, i, p, h => by
    unfold lookO
    by_cases e : Nat.beq j i = true
    · exact ⟨q, if_pos e⟩
    · rw [if_neg e]
      rcases List.mem_cons.1 h with h | h
      · cases h; exact absurd (Nat.beq_refl _) e
      · exact lookO_some h
def keysOk : List (Nat × Pred) → Bool
  | [] => true
  | (i, _) :: r => !(r.any fun x => Nat.beq x.1 i) && keysOk r
theorem keys_one : ∀ {l : List (Nat × Pred)} {i : Nat} {p q : Pred}, keysOk l = true → (i, p) ∈ l → lookO l i = some q → q = p
  | (j, r) :: l, i, p, q, hk, hm, hl => by
    unfold keysOk at hk
    rw [Bool.and_eq_true] at hk
    unfold lookO at hl
    split at hl
    · rename_i e
      cases hl
      rcases List.mem_cons.1 hm with h | h
      · cases h; rfl
      · exfalso
        have h1 : l.any (fun x => Nat.beq x.1 j) = true := List.any_eq_true.2 ⟨_, h, by rw [Nat.eq_of_beq_eq_true e]; exact Nat.beq_refl i⟩
        have := hk.1
        rw [h1] at this; cases this
    · rename_i e
      rcases List.mem_cons.1 hm with h | h
      · cases h; exact absurd (Nat.beq_refl _) e
      · exact keys_one hk.2 h hl
theorem Yields.run {L : List Blk} {S : List (Nat × SV)} {o : Oper} {v : SV} (h : ∀ a w, Slots n L S a → Known L w → Rel L w0 w → (execOp a.eval o).run P w = .ok (.value (v.den L)) w) : Yields P n L S o v w0 := fun Q a w hS hK hR K hk => by
  unfold Oper.wp
  rw [h a w hS hK hR]
  exact hk w (Ext.refl _)
theorem Yields.call0 {L : List Blk} {S : List (Nat × SV)} {o : Oper} {v : SV} {f : FuncId} {fn : Func} {l : List SV} (hf : P.funcs[f]? = some fn) (h : callAt S o = some (f, l)) (hname : (fn.name == "runtime.NumGoroutine") = false) (hb : fn.body.isSome = true)
    (hc : ∀ w, Known L w → Rel L w0 w → Calls P f (l.map (SV.den L)).toArray w fun e w' => e = .returned (v.den L) ∧ Ext w w') : Yields P n L S o v w0 := fun Q a w hS hK hR K hk => by
  have hrun := call_run hS h hf hname hb w
  unfold Oper.wp
  rw [hrun]
  show Calls P f _ w _
  refine (hc w hK hR).mono ?_
  rintro e w' ⟨rfl, hx⟩
  exact hk w' hx
variable {L : List Blk} {E : Oper → List (Nat × SV)} {ops : Array Oper} {i : Nat}
theorem Y.ari {op : BinOp} {k : IntKind} {x y z : Int} (hz : Ari op k x y z) (h : (ops[i]?).bind (fun o => binAt (E o) o) = some (op, .one (.v (.int k x)), .one (.v (.int k y))) := by kernel_rfl) : YAt P n L E ops i (.one (.v (.int k z))) w0 := ⟨fun o ho => by
  rw [ho] at h
  exact Yields.run fun a w hS _ _ => bin_run hS h hz w⟩
theorem Y.call {v : SV} {f : FuncId} {fn : Func} (hf : P.funcs[f]? = some fn) (l : List SV) (hc : ∀ w, Known L w → Rel L w0 w → Calls P f (l.map (SV.den L)).toArray w fun e w' => e = .returned (v.den L) ∧ Ext w w')
    (h : (ops[i]?).bind (fun o => callAt (E o) o) = some (f, l) := by kernel_rfl) (hname : (fn.name == "runtime.NumGoroutine") = false := by kernel_rfl) (hb : fn.body.isSome = true := by kernel_rfl) : YAt P n L E ops i v w0 := ⟨fun o ho => by
  rw [ho] at h
  exact Yields.call0 hf h hname hb hc⟩
/-- A value that is told to be a literal. -/
theorem Y.lit {c : Bool} [ht : Ok P tab] (b : Bool) (hb : b = c) (hp : (ops[i]?).bind (fun o => pureOp tab L (E o) o.op) = some (.one (.v (.bool b))) := by kernel_rfl) : YAt P n L E ops i (.one (.lit c)) w0 := ⟨fun o ho => by
  rw [ho] at hp
  subst hb
  exact Yields.run fun a w hS hK _ => by
    have := pure_ok ht.ok hS hK hp
    exact this⟩
end
end Go.Proofs.YtlhmpmmblnbmbaaGreat.Sx
set_option linter.unusedVariables false
set_option linter.unusedSimpArgs false
namespace Go.Proofs.YtlhmpmmblnbmbaaGreat.Sx
open Go.RowKit
def LiesAt (w : World) (ad : Addr) (c : List Value) : Prop := ∀ j u, c[j]? = some u → w.cell? (ad.add j) = some u
def ldChk (tab : Tab) (T : Nat) (sv : SV) : Bool := match getT tab.ti T with
  | some ti => match sv with
    | .agg cs => ti.row && Nat.beq cs.length ti.size
    | .one _ => !ti.row
    | .tup _ => false
  | none => false
def stOf (tab : Tab) (n : Nat) (s : St) : Option (Addr × SV) := match opAt n s with
  | some o => match o.op, o.dst with
    | .store T x y, none => match opd s.S x, opd s.S y, getT tab.ti T with
      | some (.one (.v (.pointer (some ad)))), some sv, some ti => if Nat.beq sv.cells.length ti.size && sv.cells.all C.one1 && sv.flat then some (ad, sv) else none
      | _, _, _ => none
    | _, _ => none
  | none => none
def popK (s : St) (L : List Blk) : St := match s.k with
  | .ops all (o :: r) :: k => ⟨.ops all r :: k, s.S, L, s.D⟩
  | _ => s
/-- One block was written, all else is as it was. -/
structure Only (g : Nat) (w w' : World) : Prop where
  size : w'.heap.size = w.heap.size
  old : ∀ k, k ≠ g → w'.heap[k]? = w.heap[k]?
  still : face w' = face w
theorem known_nil (w : World) : Known [] w := ⟨fun i b h => (by cases i <;> cases h), fun i j b c h => (by cases i <;> cases h)⟩
theorem known_one {g ty : Nat} {cs : List C} {w : World} (h : w.heap[g]? = some (Obj.cells (cs.map (C.den [⟨g, ty, cs⟩])).toArray ty (0, 0))) : Known [⟨g, ty, cs⟩] w := ⟨fun i b hb => (by
  cases i with
  | zero => cases hb; exact h
  | succ i => cases hb), fun i j b c hi hj _ => (by
  cases i with
  | zero => cases j with
    | zero => rfl
    | succ j => cases hj
  | succ i => cases hi)⟩
theorem Rel.news {L : List Blk} {w0 w : World} (h : Rel L w0 w) (hg : ∀ b ∈ L, w0.heap.size ≤ b.g) : Ext w0 w := ⟨h.1, fun k hk => h.2 k hk (fun b hb e => by have := hg b hb; omega), h.still⟩
section
variable {P : Program} {Q : Exit → Act → World → Prop} {tab : Tab} {n : Nat} {s : St} {w0 : World}
theorem Only.known {L : List Blk} {g : Nat} {w w' : World} (h : Only g w w') (hg : ∀ b ∈ L, b.g ≠ g) (hK : Known L w) : Known L w' := ⟨fun i b hb => by
  rw [h.2 b.g (hg b (List.mem_iff_getElem?.2 ⟨i, hb⟩))]; exact hK.1 i b hb, hK.2⟩
theorem loadVar_lies {w : World} {T : Nat} {ad : Addr} {c : List Value} {d : TypeDesc} (hc : LiesAt w ad c) (hu : P.underlying T = some d) (hd : d.isRow = true) (hi : (P.info? T).map (·.size) = some c.length) : (loadVar T ad).run P w = .ok (.agg c.toArray) w := by
  have hl : (loadCells ad c.length).run P w = .ok c.toArray w := run_loadCells_list (P := P) w ad c hc
  unfold loadVar
  simp only [Sem.run_bind, isAgg_yes hu hd w, Result.andThen_ok, if_true, sizeOf_is hi w, hl, Sem.run_pure]
theorem ld_run (ht : tab.ok P) {S : List (Nat × SV)} {L : List Blk} {a : Act} {w : World} (hS : Slots n L S a) {o : Oper} {T : Nat} {ad : Addr} (h : ldAt S o = some (T, ad)) {sv : SV} (hc : ldChk tab T sv = true) (hlies : LiesAt w ad (sv.cells.map (C.den L))) : (execOp a.eval o).run P w = .ok (.value (sv.den L)) w := by
  unfold ldAt at h
  split at h <;> try (cases h; done)
  rename_i T' x hop
  split at h <;> try (cases h; done)
  rename_i ad' hx
  cases h
  have ex : a.eval x = .pointer (some ad) := opd_ok hS hx
  have hrun : (loadVar T ad).run P w = .ok (sv.den L) w := by
    unfold ldChk at hc
    split at hc <;> try (cases hc; done)
    rename_i ti hti
    obtain ⟨⟨hsz, ⟨d, hd, hdr⟩, _⟩, hty⟩ := getT_ok ht.ti hti
    rw [hty] at hsz hd
    split at hc
    · rename_i cs
      rw [Bool.and_eq_true] at hc
      rw [loadVar_lies hlies hd (hdr.trans hc.1) (by rw [hsz]; simp [SV.cells, Nat.eq_of_beq_eq_true hc.2])]
      rfl
    · rename_i c
      have hcell : w.cell? ad = some (c.den L) := by
        have := hlies 0 _ rfl
        simpa [Addr.add] using this
      unfold loadVar
      simp [Sem.run_bind, isAgg_no hd (hdr.trans (by simpa using hc)) w, hcell, SV.den]
    · cases hc
  unfold execOp
  simp only [hop, ex, Instr.loadAt, Instr.sureAddr, Sem.run_bind, Sem.run_pure, Result.andThen_ok, hrun]
theorem J.ld [ht : Ok P tab] [hQ : RetOk Q] (T : Nat) (ad : Addr) (sv : SV) (L : List Blk) (hl : ∀ w, Known L w → Rel L w0 w → LiesAt w ad (sv.cells.map (C.den L))) (hn : SX P Q n (ansK (go tab n s) sv L) w0)
    (h : ldOf n (go tab n s) = some (T, ad) := by kernel_rfl) (hc : ldChk tab T sv = true := by kernel_rfl) (hL : (go tab n s).L = L := by kernel_rfl) : SX P Q n s w0 := by
  subst hL
  obtain ⟨o, ho, hh⟩ := Option.bind_eq_some_iff.1 h
  exact J.val sv ho (fun a w hS hK hR => ld_run ht.ok hS hh hc (hl w hK hR)) hn
theorem Y.ld {L : List Blk} {E : Oper → List (Nat × SV)} {ops : Array Oper} {i : Nat} [ht : Ok P tab] (T : Nat) (ad : Addr) {sv : SV} (hl : ∀ w, Known L w → Rel L w0 w → LiesAt w ad (sv.cells.map (C.den L))) (h : (ops[i]?).bind (fun o => ldAt (E o) o) = some (T, ad) := by kernel_rfl) (hc : ldChk tab T sv = true := by kernel_rfl) : YAt P n L E ops i sv w0 := ⟨fun o ho => by
  rw [ho] at h
  exact Yields.run fun a w hS hK hR => ld_run ht.ok hS h hc (hl w hK hR)⟩
theorem ix_run (ht : tab.ok P) {S : List (Nat × SV)} {L : List Blk} {a : Act} {w : World} (hS : Slots n L S a) {op : Oper} {g o m c size : Nat} {i : Int} {j : Nat} (hij : i = (j : Int)) (hj : j < m) (h : ixAt tab S op = some (size, .one (.v (.slice (some ⟨g, o, none⟩) m c)), .one (.v (.int .i64 i)))) : (execOp a.eval op).run P w = .ok (.value (.pointer (some ⟨g, o + j * size, none⟩))) w := by
  unfold ixAt at h
  split at h <;> try (cases h; done)
  rename_i T x y hop
  split at h <;> try (cases h; done)
  rename_i u v e hx hy he
  obtain ⟨ti, hti, hh⟩ := Option.map_eq_some_iff.1 h
  cases hh
  have hT := getS_ok ht.sl he
  obtain ⟨⟨hsz, _⟩, hty⟩ := getT_ok ht.ti hti
  rw [hty] at hsz
  have ex : a.eval x = .slice (some ⟨g, o, none⟩) m c := opd_ok hS hx
  have ey : a.eval y = .int .i64 i := opd_ok hS hy
  have h1 : (0 : Int) ≤ i ∧ i < m := by omega
  have hr : (Instr.indexAt T (.slice (some ⟨g, o, none⟩) m c) (.int .i64 i)).run P w = .ok (.pointer (some ⟨g, o + j * ti.size, none⟩)) w := by
    unfold Instr.indexAt
    simp only [Sem.run_bind, run_underlying hT w, Result.andThen_ok, Sem.run_pure, asIntOf]
    rw [if_pos h1]
    simp only [sizeOf_is hsz w, Sem.run_bind, Result.andThen_ok, Sem.run_pure, Addr.add_mid]
    rw [hij, Int.toNat_natCast]
  unfold execOp
  simp only [hop, ex, ey, Sem.run_bind, hr, Result.andThen_ok, Sem.run_pure]
theorem J.ix [ht : Ok P tab] [hQ : RetOk Q] (g o m c size : Nat) {i : Int} (j : Nat) (hij : i = (j : Int)) (hj : j < m) (hn : SX P Q n (ansK (go tab n s) (.one (.v (.pointer (some ⟨g, o + j * size, none⟩)))) (go tab n s).L) w0)
    (h : ixOf tab n (go tab n s) = some (size, .one (.v (.slice (some ⟨g, o, none⟩) m c)), .one (.v (.int .i64 i))) := by kernel_rfl) : SX P Q n s w0 := by
  obtain ⟨op, ho, hh⟩ := Option.bind_eq_some_iff.1 h
  exact J.val _ ho (fun a w hS hK hR => ix_run ht.ok hS hij hj hh) hn
theorem Y.ix {L : List Blk} {E : Oper → List (Nat × SV)} {ops : Array Oper} {q : Nat} [ht : Ok P tab] {g o size : Nat} (m c : Nat) {i : Int} {j : Nat} (hij : i = (j : Int)) (hj : j < m) (h : (ops[q]?).bind (fun op => ixAt tab (E op) op) = some (size, .one (.v (.slice (some ⟨g, o, none⟩) m c)), .one (.v (.int .i64 i))) := by kernel_rfl) : YAt P n L E ops q (.one (.v (.pointer (some ⟨g, o + j * size, none⟩)))) w0 := ⟨fun op ho => by
  rw [ho] at h
  exact Yields.run fun a w hS _ _ => ix_run ht.ok hS hij hj h⟩
/-- A store into a block that is told. -/
theorem J.sto [ht : Ok P tab] [hQ : RetOk Q] (g o : Nat) (sv : SV) (ty : Nat) (cs : World → List Value) (L : List Blk) (hb : ∀ w, Known L w → Rel L w0 w → w.heap[g]? = some (Obj.cells (cs w).toArray ty (0, 0)) ∧ o + sv.cells.length ≤ (cs w).length) (hg : ∀ b ∈ L, b.g ≠ g)
    (hn : ∀ w w', Known L w → Rel L w0 w → Known L w' → Only g w w' → w'.heap[g]? = some (Obj.cells (putL (cs w) o (sv.cells.map (C.den L))).toArray ty (0, 0)) → SX P Q n (popK (go tab n s) L) w')
    (h : stOf tab n (go tab n s) = some (⟨g, o, none⟩, sv) := by kernel_rfl) (hL : (go tab n s).L = L := by kernel_rfl) : SX P Q n s w0 := by
  subst hL
  refine run_ok ht.ok hQ.ok 1000 (s := s) ?_
  change SX P Q n (go tab n s) w0
  generalize go tab n s = s1 at *
  unfold stOf at h
  split at h <;> try (cases h; done)
  rename_i op hop
  split at h <;> try (cases h; done)
  rename_i T x y ho hdst
  split at h <;> try (cases h; done)
  rename_i ad sv' ti hx hy hti
  split at h <;> try (cases h; done)
  rename_i hc
  cases h
  rw [Bool.and_eq_true, Bool.and_eq_true] at hc
  obtain ⟨⟨hc1, hc2⟩, hc3⟩ := hc
  obtain ⟨all, r, k, hk, hgd, hd⟩ := opAt_k hop
  obtain ⟨k1, S, L, D⟩ := s1
  replace hk : k1 = _ := hk
  subst hk
  refine ⟨fun a w hS hD hK hR => ?_⟩
  have ex : a.eval x = .pointer (some ⟨g, o, none⟩) := opd_ok hS hx
  have ey := opd_ok hS hy
  obtain ⟨hblk, hle⟩ := hb w hK hR
  have hlen := Nat.eq_of_beq_eq_true hc1
  obtain ⟨⟨hsz, _⟩, hty⟩ := getT_ok ht.ok.ti hti
  rw [hty] at hsz
  have hcells := flat_cells (L := L) hc3 hc2
  have hrun : (Instr.storeAt T (.pointer (some ⟨g, o, none⟩)) (sv.den L)).run P w = .ok () (w.setCells g o (sv.cells.map (C.den L))) := by
    have := run_storeAt_mid (P := P) w g o T (sv.cells.map (C.den L)).toArray (fun j hj => by
      have hj' : j < sv.cells.length := by simpa using hj
      constructor
      · unfold World.cell?; rw [hblk]; simp; omega
      · unfold World.frozen?; rw [hblk]; simp) (by rw [hsz]; simp [hlen]) (all_oneCell_toArray (fun v hv => by
      obtain ⟨c, hc, rfl⟩ := List.mem_map.1 hv
      exact one1_den (List.all_eq_true.1 hc2 c hc)))
    have e1 : (Instr.storeAt T (.pointer (some ⟨g, o, none⟩)) (sv.den L)) = (Instr.storeAt T (.pointer (some ⟨g, o, none⟩)) (.agg (sv.cells.map (C.den L)).toArray)) := by
      unfold Instr.storeAt storeVar
      simp only [hcells]
      rfl
    rw [e1, this]
  have hfar := heap_setCells_far g (sv.cells.map (C.den L)) o w
  have honly : Only g w (w.setCells g o (sv.cells.map (C.den L))) := ⟨hfar.1, hfar.2, face_setCells ..⟩
  refine wpList_step fun K hK' => ?_
  rw [if_pos (hgd a hS)]
  have hex : (execOp a.eval op).run P w = .ok .skip (w.setCells g o (sv.cells.map (C.den L))) := by
    unfold execOp
    simp only [ho, ex, ey, Sem.run_bind, hrun, Result.andThen_ok, Sem.run_pure]
  unfold Oper.wp
  rw [hex]
  refine hK' _ _ ?_
  rw [hdst]
  exact (hn w _ hK hR (honly.known hg hK) honly (heap_setCells g ty _ o w _ hblk)).of a _ hS hD (honly.known hg hK) (rel_refl _ _)
/-- Any operation that yields a value, in whatever new world. -/
theorem J.eff [ht : Ok P tab] [hQ : RetOk Q] (L : List Blk) {o : Oper} (h : opAt n (go tab n s) = some o)
    (he : ∀ a w, Slots n L (go tab n s).S a → Known L w → Rel L w0 w → ∃ sv w', (execOp a.eval o).run P w = .ok (.value (sv.den L)) w' ∧ Known L w' ∧ SX P Q n (ansK (go tab n s) sv L) w') (hL : (go tab n s).L = L := by kernel_rfl) : SX P Q n s w0 := by
  subst hL
  refine run_ok ht.ok hQ.ok 1000 (s := s) ?_
  change SX P Q n (go tab n s) w0
  generalize go tab n s = s1 at *
  obtain ⟨all, r, k, hk, hgd, hd⟩ := opAt_k h
  obtain ⟨k1, S, L, D⟩ := s1
  replace hk : k1 = _ := hk
  subst hk
  refine ⟨fun a w hS hD hK hR => ?_⟩
  obtain ⟨sv, w', hrun, hK2, hn⟩ := he a w hS hK hR
  refine wpList_step fun K hK' => ?_
  rw [if_pos (hgd a hS)]
  unfold Oper.wp
  rw [hrun]
  exact hK' _ _ (hn.of _ _ (put_slots hS hd sv) (by cases o.dst <;> exact hD) hK2 (rel_refl _ _))
theorem Chg.refl {S : Nat → Prop} {w : World} : Chg S w w := (.mk2 (Nat.le_refl _) (fun _ _ _ => rfl))
theorem Chg.of_ext {S : Nat → Prop} {w w' : World} (h : Ext w w') : Chg S w w' := (.mk2 (h.1) (fun k hk _ => h.2 k hk))
theorem Chg.ext {w w' : World} (h : Chg (fun _ => False) w w') : Ext w w' := (.mk2 (h.1) (fun k hk => h.2 k hk id))
theorem Chg.trans {S : Nat → Prop} {u v w : World} (h : Chg S u v) (k : Chg S v w) : Chg S u w := (.mk2 (Nat.le_trans h.1 k.1) (fun i hi hn => (k.2 i (Nat.lt_of_lt_of_le hi h.1) hn).trans (h.2 i hi hn)))
theorem Chg.mono {S T : Nat → Prop} {u v : World} (h : Chg S u v) (hs : ∀ k, k < u.heap.size → S k → T k) : Chg T u v := (.mk2 (h.1) (fun i hi hn => h.2 i hi (fun hS => hn (hs i hi hS))))
theorem Chg.blk {S : Nat → Prop} {u v : World} {k : Nat} {o : Obj} (h : Chg S u v) (hk : u.heap[k]? = some o) (hn : ¬ S k) : v.heap[k]? = some o := (h.2 k (Array.getElem?_eq_some_iff.1 hk).1 hn).trans hk
theorem Ext.blk {u v : World} {k : Nat} {o : Obj} (h : Ext u v) (hk : u.heap[k]? = some o) : v.heap[k]? = some o := (h.2 k (Array.getElem?_eq_some_iff.1 hk).1).trans hk
theorem Only.chg {g : Nat} {w w' : World} (h : Only g w w') : Chg (fun k => k = g) w w' := ⟨Nat.le_of_eq h.1.symm, fun k _ hn => h.2 k hn, h.still⟩
theorem Rel.chg {L : List Blk} {w0 w : World} (h : Rel L w0 w) : Chg (fun k => ∃ b ∈ L, b.g = k) w0 w := (.mk2 (h.1) (fun k hk hn => h.2 k hk (fun b hb e => hn ⟨b, hb, e⟩)))
/-- One known block was written by a call. -/
theorem Known.chg1 {L : List Blk} {w w' : World} {t : Nat} {b : Blk} {cs : List C} {S : Nat → Prop} (hK : Known L w) (hb : L[t]? = some b) (hx : Chg S w w') (hS : ∀ c ∈ L, S c.g → c.g = b.g) (hn : w'.heap[b.g]? = some (Obj.cells (cs.map (C.den L)).toArray b.ty (0, 0))) : Known (L.set t ⟨b.g, b.ty, cs⟩) w' := by
  have hgo := gOf_set hb cs
  rw [Known, denC_eq hgo]
  constructor
  · intro i c hi
    rw [List.getElem?_set] at hi
    by_cases h : t = i
    · subst h
      rw [if_pos rfl, if_pos (List.getElem?_eq_some_iff.1 hb).1] at hi
      cases hi; exact hn
    · rw [if_neg h] at hi
      exact hx.blk (hK.1 i c hi) (fun hs => h (hK.2 t i b c hb hi (hS c (List.mem_iff_getElem?.2 ⟨i, hi⟩) hs).symm))
  · intro i j c d hi hj e
    have key : ∀ (i : Nat) (c : Blk), (L.set t ⟨b.g, b.ty, cs⟩)[i]? = some c → ∃ c', L[i]? = some c' ∧ c'.g = c.g := by
      intro i c hi
      rw [List.getElem?_set] at hi
      by_cases h : t = i
      · subst h
        rw [if_pos rfl, if_pos (List.getElem?_eq_some_iff.1 hb).1] at hi
        cases hi; exact ⟨b, hb, rfl⟩
      · rw [if_neg h] at hi; exact ⟨c, hi, rfl⟩
    obtain ⟨c', h1, h2⟩ := key i c hi
    obtain ⟨d', h3, h4⟩ := key j d hj
    exact hK.2 i j c' d' h1 h3 (by rw [h2, h4, e])
theorem Known.chg {L : List Blk} {w w' : World} {S : Nat → Prop} (hK : Known L w) (hx : Chg S w w') (hS : ∀ c ∈ L, ¬ S c.g) : Known L w' := ⟨fun i c hi => hx.blk (hK.1 i c hi) (hS c (List.mem_iff_getElem?.2 ⟨i, hi⟩)), hK.2⟩
theorem Known.get {L : List Blk} {w : World} (hK : Known L w) (t : Nat) {b : Blk} (hb : L[t]? = some b) : w.heap[b.g]? = some (Obj.cells (b.cs.map (C.den L)).toArray b.ty (0, 0)) := hK.1 t b hb
theorem ne_ty {w : World} {g k s t : Nat} {cs ds : Array Value} {f f2 : Nat × Nat} (h : w.heap[g]? = some (Obj.cells cs s f)) (h2 : w.heap[k]? = some (Obj.cells ds t f2)) (hn : s ≠ t) : g ≠ k := fun e => by
  subst e; rw [h] at h2; cases h2; exact hn rfl
theorem known_two {g1 t1 g2 t2 : Nat} {c1 c2 : List C} {w : World} (h1 : w.heap[g1]? = some (Obj.cells (c1.map (C.den [⟨g1, t1, c1⟩, ⟨g2, t2, c2⟩])).toArray t1 (0, 0))) (h2 : w.heap[g2]? = some (Obj.cells (c2.map (C.den [⟨g1, t1, c1⟩, ⟨g2, t2, c2⟩])).toArray t2 (0, 0))) (hn : g1 ≠ g2) : Known [⟨g1, t1, c1⟩, ⟨g2, t2, c2⟩] w := ⟨fun i b hb => by
  match i, hb with
  | 0, hb => cases hb; exact h1
  | 1, hb => cases hb; exact h2, fun i j b c hi hj e => by
  match i, j, hi, hj with
  | 0, 0, _, _ => rfl
  | 1, 1, _, _ => rfl
  | 0, 1, hi, hj => cases hi; cases hj; exact absurd e hn
  | 1, 0, hi, hj => cases hi; cases hj; exact absurd e.symm hn⟩
theorem Rel.ext' {L : List Blk} {w0 w : World} (h : Rel L w0 w) (hg : ∀ b ∈ L, w0.heap.size ≤ b.g ∨ w.heap[b.g]? = w0.heap[b.g]?) : Ext w0 w := (.mk2 (h.1) (fun k hk => by
  by_cases hx : ∃ b ∈ L, b.g = k
  · obtain ⟨b, hb, rfl⟩ := hx
    rcases hg b hb with h2 | h2
    · omega
    · exact h2
  · exact h.2 k hk (fun b hb e => hx ⟨b, hb, e⟩)))
/-- All but the blocks of S, where each known block is of S, or new, or as it was. -/
theorem Rel.chg' {L : List Blk} {w0 w : World} {S : Nat → Prop} (h : Rel L w0 w) (hg : ∀ b ∈ L, S b.g ∨ w0.heap.size ≤ b.g ∨ w.heap[b.g]? = w0.heap[b.g]?) : Chg S w0 w := (.mk2 (h.1) (fun k hk hn => by
  by_cases hx : ∃ b ∈ L, b.g = k
  · obtain ⟨b, hb, rfl⟩ := hx
    rcases hg b hb with h2 | h2 | h2
    · exact absurd h2 hn
    · omega
    · exact h2
  · exact h.2 k hk (fun b hb e => hx ⟨b, hb, e⟩)))
def ltAll (m : Nat) (T : List (Nat × SV)) (L : List Blk) : Bool := (T.all fun x => x.2.lt m) && L.all fun b => b.cs.all (C.lt m)
/-- What is no more spoken of is dropped: slots, and blocks that are new. -/
theorem J.drop [ht : Ok P tab] [hQ : RetOk Q] (T : List (Nat × SV)) (L M : List Blk) (hn : ∀ w1, Known (L ++ M) w1 → Rel (L ++ M) w0 w1 → SX P Q n ⟨(go tab n s).k, T, L, (go tab n s).D⟩ w1)
    (hL : (go tab n s).L = L ++ M := by kernel_rfl) (hT : T.map (fun x => look (go tab n s).S x.1) = T.map (fun x => some x.2) := by kernel_rfl) (hlt : ltAll L.length T L = true := by kernel_rfl) : SX P Q n s w0 := by
  refine run_ok ht.ok hQ.ok 1000 (s := s) ?_
  change SX P Q n (go tab n s) w0
  generalize go tab n s = s1 at *
  obtain ⟨k1, S, L1, D⟩ := s1
  replace hL : L1 = _ := hL
  subst hL
  unfold ltAll at hlt
  rw [Bool.and_eq_true] at hlt
  refine ⟨fun a w hS hD hK hR => ?_⟩
  replace hS : Slots n (L ++ M) S a := hS
  replace hK : Known (L ++ M) w := hK
  replace hR : Rel (L ++ M) w0 w := hR
  have hS2 := slots_fit hS hT
  refine (hn w hK hR).of a w ⟨hS2.1, fun k v hk => ?_⟩ hD ⟨fun i b hb => ?_, fun i j b c hi hj e => ?_⟩ (rel_refl _ _)
  · rw [← all_lt (M := M) (look_all hlt.1 hk)]; exact hS2.2 k v hk
  · replace hb : L[i]? = some b := hb
    have h0 := hK.1 i b (by rw [List.getElem?_append_left (List.getElem?_eq_some_iff.1 hb).1]; exact hb)
    have hbl := List.all_eq_true.1 hlt.2 b (List.mem_iff_getElem?.2 ⟨i, hb⟩)
    have e : b.cs.map (C.den (L ++ M)) = b.cs.map (C.den L) := List.map_congr_left (fun c hc => all_lt (sv := .one c) (List.all_eq_true.1 hbl c hc))
    rw [e] at h0; exact h0
  · replace hi : L[i]? = some b := hi
    replace hj : L[j]? = some c := hj
    exact hK.2 i j b c (by rw [List.getElem?_append_left (List.getElem?_eq_some_iff.1 hi).1]; exact hi) (by rw [List.getElem?_append_left (List.getElem?_eq_some_iff.1 hj).1]; exact hj) e
theorem mem1 {α : Type} {p : α → Prop} {a : α} (h : p a) : ∀ x ∈ [a], p x := fun x hx => by rw [List.mem_singleton.1 hx]; exact h
theorem mem2 {α : Type} {p : α → Prop} {a b : α} (h : p a) (h2 : p b) : ∀ x ∈ [a, b], p x := fun x hx => by
  rcases List.mem_cons.1 hx with rfl | hx
  · exact h
  · exact mem1 h2 x hx
theorem mem3 {α : Type} {p : α → Prop} {a b c : α} (h : p a) (h2 : p b) (h3 : p c) : ∀ x ∈ [a, b, c], p x := fun x hx => by
  rcases List.mem_cons.1 hx with rfl | hx
  · exact h
  · exact mem2 h2 h3 x hx
theorem mem4 {α : Type} {p : α → Prop} {a b c d : α} (h : p a) (h2 : p b) (h3 : p c) (h4 : p d) : ∀ x ∈ [a, b, c, d], p x := fun x hx => by
  rcases List.mem_cons.1 hx with rfl | hx
  · exact h
  · exact mem3 h2 h3 h4 x hx
/-- On from an elder world. -/
theorem Chg.rel {L : List Blk} {S : Nat → Prop} {w w0 w1 : World} (h : Chg S w w0) (hr : Rel L w0 w1) (hg : ∀ b ∈ L, S b.g ∨ w.heap.size ≤ b.g ∨ w1.heap[b.g]? = w.heap[b.g]?) : Chg S w w1 := (.mk2 (Nat.le_trans h.1 hr.1) (fun k hk hn => by
  by_cases hx : ∃ b ∈ L, b.g = k
  · obtain ⟨b, hb, rfl⟩ := hx
    rcases hg b hb with h2 | h2 | h2
    · exact absurd h2 hn
    · omega
    · exact h2
  · exact (hr.2 k (Nat.lt_of_lt_of_le hk h.1) (fun b hb e => hx ⟨b, hb, e⟩)).trans (h.2 k hk hn)))
theorem Ext.rel' {L : List Blk} {w w0 w1 : World} (h : Ext w w0) (hr : Rel L w0 w1) (hg : ∀ b ∈ L, w.heap.size ≤ b.g ∨ w1.heap[b.g]? = w.heap[b.g]?) : Ext w w1 := (Chg.rel (S := fun _ => False) (.of_ext h) hr (fun b hb => .inr (hg b hb))).ext
theorem putL_len {α : Type} : ∀ (vs l : List α) (o : Nat), (putL l o vs).length = l.length
  | [], _, _ => rfl
  | v :: r, l, o => by
    show (putL (l.set o v) (o + 1) r).length = _
    rw [putL_len r, List.length_set]
theorem putL_out {α : Type} : ∀ (vs l : List α) (o k : Nat), (k < o ∨ o + vs.length ≤ k) → (putL l o vs)[k]? = l[k]?
  | [], _, _, _, _ => rfl
  | v :: r, l, o, k, h => by
    rw [List.length_cons] at h
    show (putL (l.set o v) (o + 1) r)[k]? = _
    rw [putL_out r _ _ _ (by omega), List.getElem?_set_ne (by omega)]
theorem putL_in {α : Type} : ∀ (vs l : List α) (o i : Nat), o + vs.length ≤ l.length → i < vs.length → (putL l o vs)[o + i]? = vs[i]?
  | [], _, _, _, _, h => by cases h
  | v :: r, l, o, 0, h, _ => by
    rw [List.length_cons] at h
    show (putL (l.set o v) (o + 1) r)[o + 0]? = _
    rw [putL_out r _ _ _ (by omega), Nat.add_zero, List.getElem?_set_self (by omega)]; rfl
  | v :: r, l, o, i + 1, h, hi => by
    rw [List.length_cons] at h hi
    show (putL (l.set o v) (o + 1) r)[o + (i + 1)]? = _
    rw [show o + (i + 1) = (o + 1) + i by omega, putL_in r _ _ _ (by rw [List.length_set]; omega) (by omega)]
    simp
end
end Go.Proofs.YtlhmpmmblnbmbaaGreat.Sx
set_option maxRecDepth 100000
namespace Go.Proofs.YtlhmpmmblnbmbaaGreat.Sx
def tab : Tab := ⟨[⟨3, 1, false, [.int .i64 0]⟩, ⟨4, 1, false, [.bool false]⟩, ⟨5, 1, false, [.int .u8 0]⟩, ⟨9, 1, false, [.string ⟨#[]⟩]⟩, ⟨23, 11, true, [.int .i64 0, .int .i64 0, .int .i64 0, .int .i64 0, .int .i64 0, .int .i64 0, .int .i64 0, .int .i64 0, .int .i64 0, .int .i64 0, .int .i64 0]⟩, ⟨27, 1, false, [.slice none 0 0]⟩, ⟨28, 1, false, [.int .i64 0]⟩, ⟨34, 1, false, [.pointer none]⟩, ⟨45, 7, true, [.int .i64 0, .int .i64 0, .int .i64 0, .int .i64 0, .int .i64 0, .int .i64 0, .int .i64 0]⟩, ⟨53, 3, true, [.int .i64 0, .int .i64 0, .bool false]⟩, ⟨59, 1, false, [.slice none 0 0]⟩, ⟨61, 4, true, [.slice none 0 0, .int .i64 0, .bool false, .int .i64 0]⟩, ⟨64, 5, true, [.int .i64 0, .int .u8 0, .int .u8 0, .int .u8 0, .int .u8 0]⟩, ⟨65, 1, false, [.nilFunc]⟩, ⟨76, 1, false, [.slice none 0 0]⟩, ⟨78, 5, true, [.int .i64 0, .int .i64 0, .slice none 0 0, .int .i64 0, .bool false]⟩, ⟨79, 1, false, [.slice none 0 0]⟩, ⟨81, 1, false, [.slice none 0 0]⟩, ⟨83, 8, true, [.slice none 0 0, .nilFunc, .int .i64 0, .slice none 0 0, .slice none 0 0, .bool false, .int .i64 0, .int .i64 0]⟩, ⟨96, 1, false, [.pointer none]⟩, ⟨97, 1, false, [.pointer none]⟩, ⟨119, 1, false, [.slice none 0 0]⟩, ⟨121, 1, true, [.slice none 0 0]⟩, ⟨124, 4, true, [.int .i64 0, .int .i64 0, .bool false, .slice none 0 0]⟩, ⟨131, 1, false, [.slice none 0 0]⟩, ⟨133, 4, true, [.slice none 0 0, .int .i64 0, .bool false, .int .i64 0]⟩, ⟨137, 5, true, [.int .i64 0, .int .i64 0, .slice none 0 0, .int .i64 0, .bool false]⟩, ⟨148, 3, true, [.slice none 0 0, .int .i64 0, .int .i64 0]⟩], [⟨23, 0, 0, 3⟩, ⟨23, 1, 1, 3⟩, ⟨23, 2, 2, 3⟩, ⟨23, 3, 3, 3⟩, ⟨23, 4, 4, 3⟩, ⟨23, 5, 5, 3⟩, ⟨23, 6, 6, 3⟩, ⟨23, 7, 7, 3⟩, ⟨23, 8, 8, 3⟩, ⟨23, 9, 9, 3⟩, ⟨23, 10, 10, 3⟩, ⟨53, 0, 0, 3⟩, ⟨53, 1, 1, 3⟩, ⟨53, 2, 2, 4⟩, ⟨61, 0, 0, 59⟩, ⟨61, 1, 1, 3⟩, ⟨61, 2, 2, 4⟩, ⟨61, 3, 3, 3⟩, ⟨64, 0, 0, 3⟩, ⟨64, 1, 1, 5⟩, ⟨64, 2, 2, 5⟩, ⟨64, 3, 3, 5⟩, ⟨64, 4, 4, 5⟩, ⟨78, 0, 0, 3⟩, ⟨78, 1, 1, 3⟩, ⟨78, 2, 2, 76⟩, ⟨78, 3, 3, 3⟩, ⟨78, 4, 4, 4⟩, ⟨83, 0, 0, 79⟩, ⟨83, 2, 2, 3⟩, ⟨83, 3, 3, 81⟩, ⟨83, 4, 4, 81⟩, ⟨83, 5, 5, 4⟩, ⟨83, 6, 6, 3⟩, ⟨121, 0, 0, 119⟩, ⟨124, 0, 0, 53⟩, ⟨124, 1, 3, 27⟩, ⟨133, 0, 0, 131⟩, ⟨133, 1, 1, 3⟩, ⟨133, 2, 2, 4⟩, ⟨133, 3, 3, 3⟩, ⟨137, 0, 0, 3⟩, ⟨137, 1, 1, 3⟩, ⟨137, 2, 2, 27⟩, ⟨137, 3, 3, 3⟩, ⟨137, 4, 4, 4⟩, ⟨148, 0, 0, 27⟩, ⟨148, 1, 1, 3⟩, ⟨148, 2, 2, 28⟩], [(24, 64), (27, 5), (35, 61), (59, 78), (76, 9), (79, 97), (81, 3), (85, 121), (93, 96), (119, 124), (131, 137), (154, 27)], [34, 97, 115], [], [(23, [(0, 1), (1, 1), (2, 1), (3, 1), (4, 1), (5, 1), (6, 1), (7, 1), (8, 1), (9, 1), (10, 1)]), (53, [(0, 1), (1, 1), (2, 1)]), (61, [(0, 1), (1, 1), (2, 1), (3, 1)]), (78, [(0, 1), (1, 1), (2, 1), (3, 1), (4, 1)]), (83, [(0, 1), (1, 1), (2, 1), (3, 1), (4, 1), (5, 1), (6, 1), (7, 1)]), (124, [(0, 3), (3, 1)]), (133, [(0, 1), (1, 1), (2, 1), (3, 1)]), (137, [(0, 1), (1, 1), (2, 1), (3, 1), (4, 1)]), (148, [(0, 1), (1, 1), (2, 1)])]⟩
theorem tab_ok : tab.ok Tryz.prog := ⟨⟨⟨by kernel_rfl, ⟨_, Tryz.underlying3, rfl⟩, .int .i64 0, by kernel_rfl, rfl, (fun h => by cases h), rfl⟩, ⟨by kernel_rfl, ⟨_, Tryz.underlying4, rfl⟩, .bool false, by kernel_rfl, rfl, (fun h => by cases h), rfl⟩, ⟨by kernel_rfl, ⟨_, Tryz.underlying5, rfl⟩, .int .u8 0, by kernel_rfl, rfl, (fun h => by cases h), rfl⟩, ⟨by kernel_rfl, ⟨_, Tryz.underlying9, rfl⟩, .string ⟨#[]⟩, by kernel_rfl, rfl, (fun h => by cases h), rfl⟩, ⟨by kernel_rfl, ⟨_, Tryz.underlying23, rfl⟩, .agg #[.int .i64 0, .int .i64 0, .int .i64 0, .int .i64 0, .int .i64 0, .int .i64 0, .int .i64 0, .int .i64 0, .int .i64 0, .int .i64 0, .int .i64 0], by kernel_rfl, rfl, fun _ => rfl, rfl⟩, ⟨by kernel_rfl, ⟨_, Tryz.underlying27, rfl⟩, .slice none 0 0, by kernel_rfl, rfl, (fun h => by cases h), rfl⟩, ⟨by kernel_rfl, ⟨_, Tryz.underlying28, rfl⟩, .int .i64 0, by kernel_rfl, rfl, (fun h => by cases h), rfl⟩, ⟨by kernel_rfl, ⟨_, Tryz.underlying34, rfl⟩, .pointer none, by kernel_rfl, rfl, (fun h => by cases h), rfl⟩, ⟨by kernel_rfl, ⟨_, Tryz.underlying45, rfl⟩, .agg #[.int .i64 0, .int .i64 0, .int .i64 0, .int .i64 0, .int .i64 0, .int .i64 0, .int .i64 0], by kernel_rfl, rfl, fun _ => rfl, rfl⟩, ⟨by kernel_rfl, ⟨_, Tryz.underlying53, rfl⟩, .agg #[.int .i64 0, .int .i64 0, .bool false], by kernel_rfl, rfl, fun _ => rfl, rfl⟩, ⟨by kernel_rfl, ⟨_, Tryz.underlying59, rfl⟩, .slice none 0 0, by kernel_rfl, rfl, (fun h => by cases h), rfl⟩, ⟨by kernel_rfl, ⟨_, Tryz.underlying61, rfl⟩, .agg #[.slice none 0 0, .int .i64 0, .bool false, .int .i64 0], by kernel_rfl, rfl, fun _ => rfl, rfl⟩, ⟨by kernel_rfl, ⟨_, Tryz.underlying64, rfl⟩, .agg #[.int .i64 0, .int .u8 0, .int .u8 0, .int .u8 0, .int .u8 0], by kernel_rfl, rfl, fun _ => rfl, rfl⟩, ⟨by kernel_rfl, ⟨_, Tryz.underlying65, rfl⟩, .nilFunc, by kernel_rfl, rfl, (fun h => by cases h), rfl⟩, ⟨by kernel_rfl, ⟨_, Tryz.underlying76, rfl⟩, .slice none 0 0, by kernel_rfl, rfl, (fun h => by cases h), rfl⟩, ⟨by kernel_rfl, ⟨_, Tryz.underlying78, rfl⟩, .agg #[.int .i64 0, .int .i64 0, .slice none 0 0, .int .i64 0, .bool false], by kernel_rfl, rfl, fun _ => rfl, rfl⟩, ⟨by kernel_rfl, ⟨_, Tryz.underlying79, rfl⟩, .slice none 0 0, by kernel_rfl, rfl, (fun h => by cases h), rfl⟩, ⟨by kernel_rfl, ⟨_, Tryz.underlying81, rfl⟩, .slice none 0 0, by kernel_rfl, rfl, (fun h => by cases h), rfl⟩, ⟨by kernel_rfl, ⟨_, Tryz.underlying83, rfl⟩, .agg #[.slice none 0 0, .nilFunc, .int .i64 0, .slice none 0 0, .slice none 0 0, .bool false, .int .i64 0, .int .i64 0], by kernel_rfl, rfl, fun _ => rfl, rfl⟩, ⟨by kernel_rfl, ⟨_, Tryz.underlying96, rfl⟩, .pointer none, by kernel_rfl, rfl, (fun h => by cases h), rfl⟩, ⟨by kernel_rfl, ⟨_, Tryz.underlying97, rfl⟩, .pointer none, by kernel_rfl, rfl, (fun h => by cases h), rfl⟩, ⟨by kernel_rfl, ⟨_, Tryz.underlying119, rfl⟩, .slice none 0 0, by kernel_rfl, rfl, (fun h => by cases h), rfl⟩, ⟨by kernel_rfl, ⟨_, Tryz.underlying121, rfl⟩, .agg #[.slice none 0 0], by kernel_rfl, rfl, fun _ => rfl, rfl⟩, ⟨by kernel_rfl, ⟨_, Tryz.underlying124, rfl⟩, .agg #[.int .i64 0, .int .i64 0, .bool false, .slice none 0 0], by kernel_rfl, rfl, fun _ => rfl, rfl⟩, ⟨by kernel_rfl, ⟨_, Tryz.underlying131, rfl⟩, .slice none 0 0, by kernel_rfl, rfl, (fun h => by cases h), rfl⟩, ⟨by kernel_rfl, ⟨_, Tryz.underlying133, rfl⟩, .agg #[.slice none 0 0, .int .i64 0, .bool false, .int .i64 0], by kernel_rfl, rfl, fun _ => rfl, rfl⟩, ⟨by kernel_rfl, ⟨_, Tryz.underlying137, rfl⟩, .agg #[.int .i64 0, .int .i64 0, .slice none 0 0, .int .i64 0, .bool false], by kernel_rfl, rfl, fun _ => rfl, rfl⟩, ⟨by kernel_rfl, ⟨_, Tryz.underlying148, rfl⟩, .agg #[.slice none 0 0, .int .i64 0, .int .i64 0], by kernel_rfl, rfl, fun _ => rfl, rfl⟩, trivial⟩, ⟨⟨_, _, Tryz.underlying23, rfl, rfl, rfl⟩, ⟨_, _, Tryz.underlying23, rfl, rfl, rfl⟩, ⟨_, _, Tryz.underlying23, rfl, rfl, rfl⟩, ⟨_, _, Tryz.underlying23, rfl, rfl, rfl⟩, ⟨_, _, Tryz.underlying23, rfl, rfl, rfl⟩, ⟨_, _, Tryz.underlying23, rfl, rfl, rfl⟩, ⟨_, _, Tryz.underlying23, rfl, rfl, rfl⟩, ⟨_, _, Tryz.underlying23, rfl, rfl, rfl⟩, ⟨_, _, Tryz.underlying23, rfl, rfl, rfl⟩, ⟨_, _, Tryz.underlying23, rfl, rfl, rfl⟩, ⟨_, _, Tryz.underlying23, rfl, rfl, rfl⟩, ⟨_, _, Tryz.underlying53, rfl, rfl, rfl⟩, ⟨_, _, Tryz.underlying53, rfl, rfl, rfl⟩, ⟨_, _, Tryz.underlying53, rfl, rfl, rfl⟩, ⟨_, _, Tryz.underlying61, rfl, rfl, rfl⟩, ⟨_, _, Tryz.underlying61, rfl, rfl, rfl⟩, ⟨_, _, Tryz.underlying61, rfl, rfl, rfl⟩, ⟨_, _, Tryz.underlying61, rfl, rfl, rfl⟩, ⟨_, _, Tryz.underlying64, rfl, rfl, rfl⟩, ⟨_, _, Tryz.underlying64, rfl, rfl, rfl⟩, ⟨_, _, Tryz.underlying64, rfl, rfl, rfl⟩, ⟨_, _, Tryz.underlying64, rfl, rfl, rfl⟩, ⟨_, _, Tryz.underlying64, rfl, rfl, rfl⟩, ⟨_, _, Tryz.underlying78, rfl, rfl, rfl⟩, ⟨_, _, Tryz.underlying78, rfl, rfl, rfl⟩, ⟨_, _, Tryz.underlying78, rfl, rfl, rfl⟩, ⟨_, _, Tryz.underlying78, rfl, rfl, rfl⟩, ⟨_, _, Tryz.underlying78, rfl, rfl, rfl⟩, ⟨_, _, Tryz.underlying83, rfl, rfl, rfl⟩, ⟨_, _, Tryz.underlying83, rfl, rfl, rfl⟩, ⟨_, _, Tryz.underlying83, rfl, rfl, rfl⟩, ⟨_, _, Tryz.underlying83, rfl, rfl, rfl⟩, ⟨_, _, Tryz.underlying83, rfl, rfl, rfl⟩, ⟨_, _, Tryz.underlying83, rfl, rfl, rfl⟩, ⟨_, _, Tryz.underlying121, rfl, rfl, rfl⟩, ⟨_, _, Tryz.underlying124, rfl, rfl, rfl⟩, ⟨_, _, Tryz.underlying124, rfl, rfl, rfl⟩, ⟨_, _, Tryz.underlying133, rfl, rfl, rfl⟩, ⟨_, _, Tryz.underlying133, rfl, rfl, rfl⟩, ⟨_, _, Tryz.underlying133, rfl, rfl, rfl⟩, ⟨_, _, Tryz.underlying133, rfl, rfl, rfl⟩, ⟨_, _, Tryz.underlying137, rfl, rfl, rfl⟩, ⟨_, _, Tryz.underlying137, rfl, rfl, rfl⟩, ⟨_, _, Tryz.underlying137, rfl, rfl, rfl⟩, ⟨_, _, Tryz.underlying137, rfl, rfl, rfl⟩, ⟨_, _, Tryz.underlying137, rfl, rfl, rfl⟩, ⟨_, _, Tryz.underlying148, rfl, rfl, rfl⟩, ⟨_, _, Tryz.underlying148, rfl, rfl, rfl⟩, ⟨_, _, Tryz.underlying148, rfl, rfl, rfl⟩, trivial⟩, ⟨Tryz.underlying24, Tryz.underlying27, Tryz.underlying35, Tryz.underlying59, Tryz.underlying76, Tryz.underlying79, Tryz.underlying81, Tryz.underlying85, Tryz.underlying93, Tryz.underlying119, Tryz.underlying131, Tryz.underlying154, trivial⟩, ⟨⟨_, Tryz.underlying34⟩, ⟨_, Tryz.underlying97⟩, ⟨_, Tryz.underlying115⟩, trivial⟩, trivial, ⟨⟨_, Tryz.underlying23, ⟨rfl, by kernel_rfl, rfl, by kernel_rfl, rfl, by kernel_rfl, rfl, by kernel_rfl, rfl, by kernel_rfl, rfl, by kernel_rfl, rfl, by kernel_rfl, rfl, by kernel_rfl, rfl, by kernel_rfl, rfl, by kernel_rfl, rfl, by kernel_rfl, trivial⟩⟩, ⟨_, Tryz.underlying53, ⟨rfl, by kernel_rfl, rfl, by kernel_rfl, rfl, by kernel_rfl, trivial⟩⟩, ⟨_, Tryz.underlying61, ⟨rfl, by kernel_rfl, rfl, by kernel_rfl, rfl, by kernel_rfl, rfl, by kernel_rfl, trivial⟩⟩, ⟨_, Tryz.underlying78, ⟨rfl, by kernel_rfl, rfl, by kernel_rfl, rfl, by kernel_rfl, rfl, by kernel_rfl, rfl, by kernel_rfl, trivial⟩⟩, ⟨_, Tryz.underlying83, ⟨rfl, by kernel_rfl, rfl, by kernel_rfl, rfl, by kernel_rfl, rfl, by kernel_rfl, rfl, by kernel_rfl, rfl, by kernel_rfl, rfl, by kernel_rfl, rfl, by kernel_rfl, trivial⟩⟩, ⟨_, Tryz.underlying124, ⟨rfl, by kernel_rfl, rfl, by kernel_rfl, trivial⟩⟩, ⟨_, Tryz.underlying133, ⟨rfl, by kernel_rfl, rfl, by kernel_rfl, rfl, by kernel_rfl, rfl, by kernel_rfl, trivial⟩⟩, ⟨_, Tryz.underlying137, ⟨rfl, by kernel_rfl, rfl, by kernel_rfl, rfl, by kernel_rfl, rfl, by kernel_rfl, rfl, by kernel_rfl, trivial⟩⟩, ⟨_, Tryz.underlying148, ⟨rfl, by kernel_rfl, rfl, by kernel_rfl, rfl, by kernel_rfl, trivial⟩⟩, trivial⟩⟩
instance : Ok Tryz.prog tab := ⟨tab_ok⟩
end Go.Proofs.YtlhmpmmblnbmbaaGreat.Sx
set_option linter.unusedVariables false
set_option linter.unusedSimpArgs false
set_option maxRecDepth 100000
namespace Go.Proofs.YtlhmpmmblnbmbaaGreat.Zon
open Go.Proofs.YtlhmpmmblnbmbaaGreat.Sx
/-- A zone, as its cells tell it. -/
structure Zn where
  cap : Int
  block : Int
  A : Option Addr
  n : Nat
  c : Nat
  safe : Int
  done : Bool
  l : List Int
def Zn.cs (z : Zn) : List C := [.v (.int .i64 z.cap), .v (.int .i64 z.block), .v (.slice z.A z.n z.c), .v (.int .i64 z.safe), .v (.bool z.done)]
def Zn.val (z : Zn) : Value := .agg #[.int .i64 z.cap, .int .i64 z.block, .slice z.A z.n z.c, .int .i64 z.safe, .bool z.done]
def Zn.vs (z : Zn) : List Value := [.int .i64 z.cap, .int .i64 z.block, .slice z.A z.n z.c, .int .i64 z.safe, .bool z.done]
def Zn.wp (z : Zn) : Int := (z.n : Int) / max z.block 1
def Zn.active (z : Zn) : Bool := !z.done && (decide (z.wp > 0) && decide (z.wp < z.cap))
theorem Zn.wp0 (z : Zn) : 0 ≤ z.wp := Int.ediv_nonneg (by omega) (by omega)
theorem Zn.wple (z : Zn) : z.wp ≤ z.n := Int.ediv_le_self _ (by omega)
theorem wp_c (z : Zn) (hn : z.n ≤ 9223372036854775807) (w : World) : Calls Tryz.prog 107 #[z.val] w fun e w' => e = .returned (.int .i64 z.wp) ∧ Ext w w' := by
  refine J.enter Tryz.func107 rfl [] [.agg z.cs] 10 (known_nil w) ?_
  refine J.new 137 z.cs [] (fun g1 h1 _ => ?_)
  refine J.ari z.wp (.quo (x := z.n) (y := max z.block 1) (by omega) (by omega) (by omega) rfl) ?_
  exact J.ret (.one (.v (.int .i64 z.wp))) [⟨g1, 137, z.cs⟩] (fun w1 hk hr => ⟨rfl, hr.news (by simp; omega)⟩)
def lookV (z : Zn) : Value := .agg #[.int .i64 z.wp, .int .i64 z.safe, .bool z.done]
theorem look_c (z : Zn) (hn : z.n ≤ 9223372036854775807) (w : World) : Calls Tryz.prog 92 #[z.val] w fun e w' => e = .returned (lookV z) ∧ Ext w w' := by
  refine J.enter Tryz.func92 rfl [] [.agg z.cs] 10 (known_nil w) ?_
  refine J.new 137 z.cs [] (fun g1 h1 _ => ?_)
  refine J.new 53 [.v (.int .i64 0), .v (.int .i64 0), .v (.bool false)] [⟨g1, 137, z.cs⟩] (fun g2 h2 _ => ?_)
  refine J.drw 7 [(1, .one (.v (.int .i64 z.wp)))] [⟨g1, 137, z.cs⟩, ⟨g2, 53, [.v (.int .i64 0), .v (.int .i64 0), .v (.bool false)]⟩] (.cons (Y.call Tryz.func107 [.agg z.cs] (fun w1 _ _ => wp_c z hn w1)) .nil) ?_
  exact J.ret (.agg [.v (.int .i64 z.wp), .v (.int .i64 z.safe), .v (.bool z.done)]) [⟨g1, 137, z.cs⟩, ⟨g2, 53, [.v (.int .i64 z.wp), .v (.int .i64 z.safe), .v (.bool z.done)]⟩] (fun w1 hk hr => ⟨rfl, hr.news (by simp; omega)⟩)
theorem active_c (z : Zn) (hn : z.n ≤ 9223372036854775807) (w : World) : Calls Tryz.prog 98 #[z.val] w fun e w' => e = .returned (.bool z.active) ∧ Ext w w' := by
  refine J.enter Tryz.func98 rfl [] [.agg z.cs] 18 (known_nil w) ?_
  refine J.new 137 z.cs [] (fun g1 h1 _ => ?_)
  have fin : ∀ {w1 : World}, Rel [⟨g1, 137, z.cs⟩] w w1 → Ext w w1 := fun hr => hr.news (by simp; omega)
  cases hd : z.done
  · by_cases h0 : z.wp > 0
    · refine J.drw 16 [(3, .one (.lit true)), (5, .one (.v (.int .i64 z.wp))), (8, .one (.lit true)), (10, .one (.v (.int .i64 z.wp)))] [⟨g1, 137, z.cs⟩] (.cons (Y.lit (!z.done) (by rw [hd]; rfl)) <| .cons (Y.call Tryz.func107 [.agg z.cs] (fun w1 _ _ => wp_c z hn w1)) <| .cons (Y.lit (decide (z.wp > 0)) (decide_eq_true h0)) <| .cons (Y.call Tryz.func107 [.agg z.cs] (fun w1 _ _ => wp_c z hn w1)) .nil) ?_
      exact J.ret (.one (.v (.bool (decide (z.wp < z.cap))))) [⟨g1, 137, z.cs⟩] (fun w1 hk hr => ⟨by simp [SV.den, C.den, Zn.active, hd, h0], fin hr⟩)
    · refine J.drw 16 [(3, .one (.lit true)), (5, .one (.v (.int .i64 z.wp))), (8, .one (.lit false))] [⟨g1, 137, z.cs⟩] (.cons (Y.lit (!z.done) (by rw [hd]; rfl)) <| .cons (Y.call Tryz.func107 [.agg z.cs] (fun w1 _ _ => wp_c z hn w1)) <| .cons (Y.lit (decide (z.wp > 0)) (decide_eq_false h0)) .nil) ?_
      exact J.ret (.one (.lit false)) [⟨g1, 137, z.cs⟩] (fun w1 hk hr => ⟨by simp [SV.den, C.den, Zn.active, hd, h0], fin hr⟩)
  · refine J.drw 16 [(3, .one (.lit false))] [⟨g1, 137, z.cs⟩] (.cons (Y.lit (!z.done) (by rw [hd]; rfl)) .nil) ?_
    exact J.ret (.one (.lit false)) [⟨g1, 137, z.cs⟩] (fun w1 hk hr => ⟨by simp [SV.den, C.den, Zn.active, hd], fin hr⟩)
def zZone : List C := [.v (.int .i64 0), .v (.int .i64 0), .v (.slice none 0 0), .v (.int .i64 0), .v (.bool false)]
def Zn.flush (z : Zn) : Zn := { z with safe := z.wp }
def Zn.finish (z : Zn) : Zn := { z with safe := z.wp, done := true }
theorem flush_c (z : Zn) (hn : z.n ≤ 9223372036854775807) (w : World) : Calls Tryz.prog 100 #[z.val] w fun e w' => e = .returned z.flush.val ∧ Ext w w' := by
  refine J.enter Tryz.func100 rfl [] [.agg z.cs] 7 (known_nil w) ?_
  refine J.new 137 z.cs [] (fun g1 h1 _ => ?_)
  refine J.new 137 zZone [⟨g1, 137, z.cs⟩] (fun g2 h2 _ => ?_)
  have fin : ∀ {u w1 : World} {c1 c2 : List C}, Ext w u → Rel [⟨g1, 137, c1⟩, ⟨g2, 137, c2⟩] u w1 → Ext w w1 := fun hx hr => hx.rel' hr (mem2 (.inl h1) (.inl h2))
  refine J.call Tryz.func107 [.agg z.cs] [⟨g1, 137, z.cs⟩, ⟨g2, 137, zZone⟩] (fun w1 hk hr => ?_)
  refine (wp_c z hn w1).mono ?_
  rintro e w2 ⟨rfl, hx⟩
  refine ⟨.one (.v (.int .i64 z.wp)), _, rfl, rfl, hx.known hk, ?_⟩
  exact J.ret (.agg z.flush.cs) [⟨g1, 137, z.flush.cs⟩, ⟨g2, 137, z.flush.cs⟩] (fun w3 _ hr3 => ⟨rfl, fin ((fin (.refl w) hr).trans hx) hr3⟩)
theorem finish_c (z : Zn) (hn : z.n ≤ 9223372036854775807) (w : World) : Calls Tryz.prog 102 #[z.val] w fun e w' => e = .returned z.finish.val ∧ Ext w w' := by
  refine J.enter Tryz.func102 rfl [] [.agg z.cs] 7 (known_nil w) ?_
  refine J.new 137 z.cs [] (fun g1 h1 _ => ?_)
  refine J.new 137 zZone [⟨g1, 137, z.cs⟩] (fun g2 h2 _ => ?_)
  have fin : ∀ {u w1 : World} {c1 c2 : List C}, Ext w u → Rel [⟨g1, 137, c1⟩, ⟨g2, 137, c2⟩] u w1 → Ext w w1 := fun hx hr => hx.rel' hr (mem2 (.inl h1) (.inl h2))
  refine J.call Tryz.func100 [.agg z.cs] [⟨g1, 137, z.cs⟩, ⟨g2, 137, zZone⟩] (fun w1 hk hr => ?_)
  refine (flush_c z hn w1).mono ?_
  rintro e w2 ⟨rfl, hx⟩
  refine ⟨.agg z.flush.cs, _, rfl, rfl, hx.known hk, ?_⟩
  exact J.ret (.agg [.v (.int .i64 z.cap), .v (.int .i64 z.block), .v (.slice z.A z.n z.c), .v (.int .i64 z.wp), .lit true]) [⟨g1, 137, [.v (.int .i64 z.cap), .v (.int .i64 z.block), .v (.slice z.A z.n z.c), .v (.int .i64 z.wp), .lit true]⟩, ⟨g2, 137, [.v (.int .i64 z.cap), .v (.int .i64 z.block), .v (.slice z.A z.n z.c), .v (.int .i64 z.wp), .lit true]⟩] (fun w3 _ hr3 => ⟨rfl, fin ((fin (.refl w) hr).trans hx) hr3⟩)
def Zn.new (cap block : Int) : Zn := ⟨min (max cap 1) 4096, min (max block 1) 4096, none, 0, 0, 0, false, []⟩
theorem new_c (cap block : Int) (w : World) : Calls Tryz.prog 105 #[.int .i64 cap, .int .i64 block] w fun e w' => e = .returned (Zn.new cap block).val ∧ Ext w w' := by
  refine J.enter Tryz.func105 rfl [] [.one (.v (.int .i64 cap)), .one (.v (.int .i64 block))] 12 (known_nil w) ?_
  refine J.new 137 zZone [] (fun g1 h1 _ => ?_)
  exact J.ret (.agg (Zn.new cap block).cs) [⟨g1, 137, (Zn.new cap block).cs⟩] (fun w1 _ hr => ⟨rfl, (Ext.refl w).rel' hr (mem1 (.inl h1))⟩)
end Go.Proofs.YtlhmpmmblnbmbaaGreat.Zon
set_option linter.unusedVariables false
set_option linter.unusedSimpArgs false
namespace Go.Proofs.YtlhmpmmblnbmbaaGreat.Sx
open Go.RowKit
def appAt (S : List (Nat × SV)) (o : Oper) : Option (Nat × Nat × SV × SV) := match o.op with
  | .call { callee := .builtin .append, args, argTypes } => match args.toList, argTypes.toList with
    | [x, y], [t, u] => match opd S x, opd S y with
      | some a, some b => some (t, u, a, b)
      | _, _ => none
    | _, _ => none
  | _ => none
def appOf (n : Nat) (s : St) : Option (Nat × Nat × SV × SV) := (opAt n s).bind (appAt s.S)
def slAt (S : List (Nat × SV)) (o : Oper) : Option (Nat × SV × Option SV × Option SV × Option SV) := match o.op with
  | .slice T x lo hi mx => match opd S x with
    | some a => some (T, a, lo.bind (opd S), hi.bind (opd S), mx.bind (opd S))
    | none => none
  | _ => none
def slOf (n : Nat) (s : St) : Option (Nat × SV × Option SV × Option SV × Option SV) := (opAt n s).bind (slAt s.S)
section
variable {P : Program} {Q : Exit → Act → World → Prop} {tab : Tab} {n : Nat} {s : St} {w0 : World}
theorem app_run {S : List (Nat × SV)} {L : List Blk} {a : Act} {o : Oper} {t u : Nat} {x y : SV} (hS : Slots n L S a) (h : appAt S o = some (t, u, x, y)) {w w' : World} {v : Value} (hr : (Builtin.append_ #[t, u] o.type #[x.den L, y.den L]).run P w = .ok v w') : (execOp a.eval o).run P w = .ok (.value v) w' := by
  unfold appAt at h
  split at h <;> try (cases h; done)
  rename_i as1 ts ho
  split at h <;> try (cases h; done)
  rename_i x' y' t' u' h1 h2
  split at h <;> try (cases h; done)
  rename_i va vb hx hy
  cases h
  have e1 : as1 = #[x', y'] := by rw [← h1]
  have e2 : ts = #[t, u] := by rw [← h2]
  subst e1; subst e2
  have ex := opd_ok hS hx
  have ey := opd_ok hS hy
  unfold execOp
  simp only [ho, resolve, invoke, builtin, Sem.run_bind, Sem.run_pure, Result.andThen_ok, List.map_toArray, List.map_cons, List.map_nil, ex, ey, hr]
theorem J.app [ht : Ok P tab] [hQ : RetOk Q] (t u : Nat) (x y : SV) (L : List Blk) (he : ∀ ty w, Known L w → Rel L w0 w → ∃ v w', (Builtin.append_ #[t, u] ty #[x.den L, y.den L]).run P w = .ok v w' ∧ Known L w' ∧ SX P Q n (ansK (go tab n s) (.one (.v v)) L) w')
    (h : appOf n (go tab n s) = some (t, u, x, y) := by kernel_rfl) (hL : (go tab n s).L = L := by kernel_rfl) : SX P Q n s w0 := by
  obtain ⟨o, ho, hh⟩ := Option.bind_eq_some_iff.1 h
  refine J.eff L ho (fun a w hS hK hR => ?_) hL
  obtain ⟨v, w', hr, hK', hn⟩ := he o.type w hK hR
  exact ⟨.one (.v v), w', app_run hS hh hr, hK', hn⟩
/-- A part of a slice. -/
theorem J.sl [ht : Ok P tab] [hQ : RetOk Q] (T : Nat) (A : Option Addr) (len cap : Nat) (lo hi mx : Option SV) (l r m size : Nat)
    (hb : ∀ (L : List Blk) w, (Instr.sliceBounds true len cap (lo.map (SV.den L)) (hi.map (SV.den L)) (mx.map (SV.den L))).run P w = .ok (l, r, m) w)
    (v : Value) (hv : sliced A l r m size = v) (hn : SX P Q n (ansK (go tab n s) (.one (.v v)) (go tab n s).L) w0)
    (h : slOf n (go tab n s) = some (T, .one (.v (.slice A len cap)), lo, hi, mx) := by kernel_rfl) (hc : (match opAt n (go tab n s) with | some o => (match o.op with | .slice _ _ a b c => a.isSome == lo.isSome && b.isSome == hi.isSome && c.isSome == mx.isSome | _ => false) | none => false) = true := by kernel_rfl)
    (hT : P.underlying T = some (.slice (P.elem T)) := by kernel_rfl) (hs : (P.info? (P.elem T)).map (·.size) = some size := by kernel_rfl) : SX P Q n s w0 := by
  obtain ⟨o, ho, hh⟩ := Option.bind_eq_some_iff.1 h
  refine J.val _ ho (fun a w hS hK hR => ?_) hn
  rw [ho] at hc
  unfold slAt at hh
  split at hh <;> try (cases hh; done)
  rename_i T' x lo' hi' mx' hop
  split at hh <;> try (cases hh; done)
  rename_i va hx
  cases hh
  simp only [hop] at hc
  rw [Bool.and_eq_true, Bool.and_eq_true] at hc
  have ex : a.eval x = .slice A len cap := opd_ok hS hx
  have key : ∀ z : Option Operand, (z.isSome == (z.bind (opd (go tab n s).S)).isSome) = true → z.map a.eval = (z.bind (opd (go tab n s).S)).map (SV.den (go tab n s).L) := fun z hz => by
    cases z with
    | none => rfl
    | some y =>
      cases hy : opd (go tab n s).S y with
      | none => simp [hy] at hz
      | some u => simp [hy, opd_ok hS hy]
  have e1 := key lo' hc.1.1
  have e2 := key hi' hc.1.2
  have e3 := key mx' hc.2
  have hr : (Instr.sliceAt T (.slice A len cap) (lo'.map a.eval) (hi'.map a.eval) (mx'.map a.eval)).run P w = .ok v w := by
    rw [run_sliceAt_slice w T _ _ _ _ hT, run_slice_any w T A len cap hT, e1, e2, e3, hb]
    simp only [Result.andThen_ok, sizeOf_is hs w, hv]
  unfold execOp
  simp only [hop, ex, Sem.run_bind, hr, Result.andThen_ok, Sem.run_pure]
  rfl
theorem sb_h {len cap r : Nat} (h : r ≤ cap) (w : World) : (Instr.sliceBounds true len cap none (some (.int .i64 (r : Int))) none).run P w = .ok (0, r, cap) w := by
  simp [Instr.sliceBounds, run_sliceBound, h]
theorem sb_lh {len cap l r : Nat} (h0 : l ≤ r) (h : r ≤ cap) (w : World) : (Instr.sliceBounds true len cap (some (.int .i64 (l : Int))) (some (.int .i64 (r : Int))) none).run P w = .ok (l, r, cap) w := by
  simp [Instr.sliceBounds, run_sliceBound, h, h0]
def fillB (S : List (Nat × SV)) (size : Nat) : List C → List (Nat × Operand) → Option (List C)
  | cs, [] => some cs
  | cs, (i, x) :: r => match opd S x with
    | some sv => if sv.flat && sv.cells.all C.one1 && Nat.beq sv.cells.length size && Nat.ble (i * size + size) cs.length then fillB S size (putL cs (i * size) sv.cells) r else none
    | none => none
def bslOf (tab : Tab) (n : Nat) (s : St) (zs : List C) : Option (Nat × Nat × Nat × List C) := match opAt n s with
  | some o => if (s.S.all fun x => x.2.lt s.L.length) && (s.L.all fun b => b.cs.all (C.lt s.L.length)) && o.dst.isSome then (match o.op with
    | .buildSlice T len parts => match getS tab.sl T with
      | some e => match getT tab.ti e with
        | some ti => (fillB s.S ti.size zs parts.toList).bind fun cs => if cs.all (C.lt s.L.length) && Nat.ble (len * ti.size) 16777216 then some (e, len, ti.size, cs) else none
        | none => none
      | none => none
    | _ => none) else none
  | none => none
theorem fillB_ok {S : List (Nat × SV)} {L : List Blk} {a : Act} {size : Nat} (hS : Slots n L S a) : ∀ {parts : List (Nat × Operand)} {cs r : List C}, fillB S size cs parts = some r → Instr.fill (fun i => some (i * size, size)) (cs.map (C.den L)).toArray (parts.map fun p => (p.1, a.eval p.2)) = some (r.map (C.den L)).toArray
  | [], cs, r, h => by cases h; rfl
  | (i, x) :: p, cs, r, h => by
    unfold fillB at h
    split at h <;> try (cases h; done)
    rename_i sv hx
    split at h <;> try (cases h; done)
    rename_i hc
    rw [Bool.and_eq_true, Bool.and_eq_true, Bool.and_eq_true] at hc
    obtain ⟨⟨⟨h1, h2⟩, h3⟩, h4⟩ := hc
    have e := opd_ok hS hx
    have hcl := flat_cells (L := L) h1 h2
    have hlen := Nat.eq_of_beq_eq_true h3
    have hle := Nat.le_of_ble_eq_true h4
    rw [List.map_cons]
    unfold Instr.fill
    simp only [e, hcl]
    rw [if_neg (by simp [hlen]; omega)]
    have hz : ((sv.cells.map (C.den L)).toArray.zipIdx).foldl (fun (cs : Array Value) (x : Value × Nat) => cs.setIfInBounds (i * size + x.2) x.1) (cs.map (C.den L)).toArray = ((putL cs (i * size) sv.cells).map (C.den L)).toArray := by
      rw [putL_map]
      have := foldl_putL (sv.cells.map (C.den L)) (cs.map (C.den L)) (i * size) 0
      rw [Nat.add_zero] at this
      rw [← this]
      simp
    have ih := fillB_ok hS h
    rw [← hz] at ih
    exact ih
theorem bsl_run (ht : tab.ok P) {s : St} {e len size : Nat} {zs : List Value} {cs : List C} (h : bslOf tab n s (zs.map .v) = some (e, len, size, cs)) (hz : (match getT tab.ti e with | some ti => (Array.range (len * size)).map (fun i => ti.z.toArray[i % ti.z.toArray.size]!) | none => #[]) = zs.toArray) :
    ∃ o, opAt n s = some o ∧ ∀ a w, Slots n s.L s.S a → (execOp a.eval o).run P w = .ok (.value (.slice (some ⟨w.heap.size, 0, none⟩) len len)) (w.alloc (.cells (cs.map (C.den s.L)).toArray e (0, 0))) := by
  unfold bslOf at h
  split at h <;> try (cases h; done)
  rename_i o ho
  refine ⟨o, ho, ?_⟩
  split at h <;> try (cases h; done)
  split at h <;> try (cases h; done)
  rename_i T len' parts hop
  split at h <;> try (cases h; done)
  rename_i e' he
  split at h <;> try (cases h; done)
  rename_i ti hti
  obtain ⟨cs', hf, h⟩ := Option.bind_eq_some_iff.1 h
  split at h <;> try (cases h; done)
  rename_i hcl
  cases h
  rw [Bool.and_eq_true] at hcl
  obtain ⟨hcs, hsz16⟩ := hcl
  have hsz16 := Nat.le_of_ble_eq_true hsz16
  have hT := getS_ok ht.sl he
  obtain ⟨⟨hsz, _, v, hv1, hv2, _, _⟩, hty⟩ := getT_ok ht.ti hti
  rw [hty] at hsz hv1
  rw [hti] at hz
  simp only at hz
  intro a w hS
  obtain ⟨inf, hi, hzz⟩ := Option.map_eq_some_iff.1 hv1
  have hzero : (zeroValue e).run P w = .ok v w := by simp [zeroValue, typeInfo, hi, hzz, Sem.run_bind]
  have hv3 : v.cells = ti.z.toArray := by rw [← hv2]
  have hfill := fillB_ok hS hf
  have ezs : ((zs.map C.v).map (C.den s.L)).toArray = zs.toArray := by
    rw [List.map_map, show (C.den s.L ∘ C.v) = id from rfl, List.map_id]
  rw [ezs, ← hz] at hfill
  have hb : (Instr.buildSlice T len (parts.map fun (i, x) => (i, a.eval x))).run P w = .ok (.slice (some ⟨w.heap.size, 0, none⟩) len len) (w.alloc (.cells (cs.map (C.den s.L)).toArray e (0, 0))) := by
    unfold Instr.buildSlice
    simp only [Sem.run_bind, run_underlying hT w, Result.andThen_ok, sizeOf_is hsz w]
    rw [if_neg (by omega)]
    by_cases hl0 : len * ti.size = 0
    · rw [if_pos hl0]
      simp only [Sem.run_bind, Sem.run_pure, Result.andThen_ok, Array.toList_map]
      have e0 : (Array.range (len * ti.size)).map (fun i => (#[] : Array Value)[i % (#[] : Array Value).size]!) = (Array.range (len * ti.size)).map (fun i => ti.z.toArray[i % ti.z.toArray.size]!) := by
        rw [hl0]; simp
      rw [e0, hfill]
      simp [newRow, Sem.run_bind, go_sem]
    · rw [if_neg hl0]
      simp only [Sem.run_bind, hzero, Sem.run_pure, Result.andThen_ok, Array.toList_map, hv3]
      rw [hfill]
      simp [newRow, Sem.run_bind, go_sem]
  unfold execOp
  simp only [hop, Sem.run_bind, hb, Result.andThen_ok, Sem.run_pure]
/-- A literal row that is told by a fact alone. -/
theorem J.bslO [ht : Ok P tab] [hQ : RetOk Q] (e len size : Nat) (zs : List Value) (cs : List C) (L : List Blk) (hn : ∀ w1 w2, Known L w1 → Rel L w0 w1 → Known L w2 → Ext w1 w2 → w2.heap[w1.heap.size]? = some (Obj.cells (cs.map (C.den L)).toArray e (0, 0)) → SX P Q n (ansK (go tab n s) (.one (.v (.slice (some ⟨w1.heap.size, 0, none⟩) len len))) L) w2)
    (h : bslOf tab n (go tab n s) (zs.map .v) = some (e, len, size, cs) := by kernel_rfl) (hz : (match getT tab.ti e with | some ti => (Array.range (len * size)).map (fun i => ti.z.toArray[i % ti.z.toArray.size]!) | none => #[]) = zs.toArray := by kernel_rfl) (hL : (go tab n s).L = L := by kernel_rfl) : SX P Q n s w0 := by
  obtain ⟨o, ho, hr⟩ := bsl_run ht.ok h hz
  refine J.eff L ho (fun a w hS hK hR => ?_) hL
  have hr := hr a w (by rw [hL]; exact hS)
  rw [hL] at hr
  have hx : Ext w (w.alloc (.cells (cs.map (C.den L)).toArray e (0, 0))) := (.mk2 (by show w.heap.size ≤ (w.heap.push _).size; rw [Array.size_push]; omega) (fun k hk => by
    show (w.heap.push _)[k]? = _
    rw [Array.getElem?_push_lt hk, Array.getElem?_eq_getElem hk]))
  exact ⟨.one (.v (.slice (some ⟨w.heap.size, 0, none⟩) len len)), _, hr, hx.known hK, hn w _ hK hR (hx.known hK) hx (by show (w.heap.push _)[w.heap.size]? = _; simp)⟩
/-- A literal row: a new known block. zs: its zeros. -/
theorem J.bsl [ht : Ok P tab] [hQ : RetOk Q] (e len size : Nat) (zs : List Value) (cs : List C) (L : List Blk) (hn : ∀ g, w0.heap.size ≤ g → (∀ b ∈ L, b.g ≠ g) → SX P Q n (ansK (go tab n s) (.one (.slc L.length 0 len len)) (L ++ [⟨g, e, cs⟩])) w0)
    (h : bslOf tab n (go tab n s) (zs.map .v) = some (e, len, size, cs) := by kernel_rfl) (hz : (match getT tab.ti e with | some ti => (Array.range (len * size)).map (fun i => ti.z.toArray[i % ti.z.toArray.size]!) | none => #[]) = zs.toArray := by kernel_rfl) (hL : (go tab n s).L = L := by kernel_rfl) : SX P Q n s w0 := by
  subst hL
  refine run_ok ht.ok hQ.ok 1000 (s := s) ?_
  change SX P Q n (go tab n s) w0
  generalize go tab n s = s1 at *
  unfold bslOf at h
  split at h <;> try (cases h; done)
  rename_i o ho
  obtain ⟨all, r, k, hk, hg, hd⟩ := opAt_k ho
  obtain ⟨k1, S, L, D⟩ := s1
  replace hk : k1 = _ := hk
  subst hk
  split at h <;> try (cases h; done)
  rename_i hlt
  rw [Bool.and_eq_true, Bool.and_eq_true] at hlt
  obtain ⟨⟨hl1, hl2⟩, hl3⟩ := hlt
  replace hl1 : S.all (fun x => x.2.lt L.length) = true := hl1
  replace hl2 : ∀ b ∈ L, b.cs.all (C.lt L.length) = true := fun b hb => List.all_eq_true.1 hl2 b hb
  split at h <;> try (cases h; done)
  rename_i T len' parts hop
  split at h <;> try (cases h; done)
  rename_i e' he
  split at h <;> try (cases h; done)
  rename_i ti hti
  obtain ⟨cs', hf, h⟩ := Option.bind_eq_some_iff.1 h
  split at h <;> try (cases h; done)
  rename_i hcl
  cases h
  rw [Bool.and_eq_true] at hcl
  obtain ⟨hcs, hsz16⟩ := hcl
  have hsz16 := Nat.le_of_ble_eq_true hsz16
  have hT := getS_ok ht.ok.sl he
  obtain ⟨⟨hsz, _, v, hv1, hv2, _, _⟩, hty⟩ := getT_ok ht.ok.ti hti
  rw [hty] at hsz hv1
  rw [hti] at hz
  simp only at hz
  refine ⟨fun a w hS hD hK hR => ?_⟩
  replace hS : Slots n L S a := hS
  replace hK : Known L w := hK
  replace hR : Rel L w0 w := hR
  have hgn : ∀ b ∈ L, b.g ≠ w.heap.size := fun b hb e => by
    obtain ⟨i, hi⟩ := List.mem_iff_getElem?.1 hb
    have := (Array.getElem?_eq_some_iff.1 (hK.1 i b hi)).1
    omega
  obtain ⟨inf, hi, hzz⟩ := Option.map_eq_some_iff.1 hv1
  have hzero : (zeroValue e).run P w = .ok v w := by simp [zeroValue, typeInfo, hi, hzz, Sem.run_bind]
  have hv3 : v.cells = ti.z.toArray := by rw [← hv2]
  have hfill := fillB_ok hS hf
  have ezs : ((zs.map C.v).map (C.den L)).toArray = zs.toArray := by
    rw [List.map_map, show (C.den L ∘ C.v) = id from rfl, List.map_id]
  rw [ezs, ← hz] at hfill
  have hrun : (execOp a.eval o).run P w = .ok (.value (.slice (some ⟨w.heap.size, 0, none⟩) len len)) (w.alloc (.cells (cs.map (C.den L)).toArray e (0, 0))) := by
    have hb : (Instr.buildSlice T len (parts.map fun (i, x) => (i, a.eval x))).run P w = .ok (.slice (some ⟨w.heap.size, 0, none⟩) len len) (w.alloc (.cells (cs.map (C.den L)).toArray e (0, 0))) := by
      unfold Instr.buildSlice
      simp only [Sem.run_bind, run_underlying hT w, Result.andThen_ok, sizeOf_is hsz w]
      rw [if_neg (by omega)]
      by_cases hl0 : len * ti.size = 0
      · rw [if_pos hl0]
        simp only [Sem.run_bind, Sem.run_pure, Result.andThen_ok, Array.toList_map]
        have e0 : (Array.range (len * ti.size)).map (fun i => (#[] : Array Value)[i % (#[] : Array Value).size]!) = (Array.range (len * ti.size)).map (fun i => ti.z.toArray[i % ti.z.toArray.size]!) := by
          rw [hl0]; simp
        rw [e0, hfill]
        simp [newRow, Sem.run_bind, go_sem]
      · rw [if_neg hl0]
        simp only [Sem.run_bind, hzero, Sem.run_pure, Result.andThen_ok, Array.toList_map, hv3]
        rw [hfill]
        simp [newRow, Sem.run_bind, go_sem]
    unfold execOp
    simp only [hop, Sem.run_bind, hb, Result.andThen_ok, Sem.run_pure]
  refine wpList_step fun K hK' => ?_
  rw [if_pos (hg a hS)]
  unfold Oper.wp
  rw [hrun]
  have hb : (w.alloc (.cells (cs.map (C.den L)).toArray e (0, 0))).heap[w.heap.size]? = some (Obj.cells (cs.map (C.den L)).toArray e (0, 0)) := by
    show (w.heap.push _)[w.heap.size]? = _
    simp
  have hold : ∀ k, k < w.heap.size → (w.alloc (.cells (cs.map (C.den L)).toArray e (0, 0))).heap[k]? = w.heap[k]? := fun k hk => by
    show (w.heap.push _)[k]? = _
    rw [Array.getElem?_push_lt hk, Array.getElem?_eq_getElem hk]
  have hK1 : Known L (w.alloc (.cells (cs.map (C.den L)).toArray e (0, 0))) := ⟨fun i b hi => by
    have h0 := hK.1 i b hi
    rw [hold b.g (Array.getElem?_eq_some_iff.1 h0).1]; exact h0, hK.2⟩
  have hsl : Slots n (L ++ [⟨w.heap.size, e, cs⟩]) S a := ⟨hS.1, fun k v hk => by
    rw [all_lt (look_all hl1 hk)]; exact hS.2 k v hk⟩
  have hp := put_slots hsl hd (.one (.slc L.length 0 len len))
  have hval : (SV.one (.slc L.length 0 len len)).den (L ++ [⟨w.heap.size, e, cs⟩]) = .slice (some ⟨w.heap.size, 0, none⟩) len len := by
    simp [SV.den, C.den, gOf]
  rw [hval] at hp
  refine hK' _ _ ((hn w.heap.size hR.1 hgn).of _ _ hp (by cases o.dst <;> exact hD) (known_new hK1 hl2 hcs hgn hb) (.mk2 (?_) (fun k hk hne => ?_) hR.still))
  · show w0.heap.size ≤ (w.heap.push _).size
    rw [Array.size_push]; have := hR.1; omega
  · rw [hold k (Nat.lt_of_lt_of_le hk hR.1)]
    exact hR.2 k hk (fun b hb => hne b (List.mem_append_left _ hb))
end
end Go.Proofs.YtlhmpmmblnbmbaaGreat.Sx
set_option linter.unusedVariables false
set_option linter.unusedSimpArgs false
set_option maxRecDepth 100000
namespace Go.Proofs.YtlhmpmmblnbmbaaGreat.Byt
open Go.Proofs.YtlhmpmmblnbmbaaGreat.Sx Go.Lib
def enc (l : List Int) : List Value := l.map (fun x => .int .u8 x)
/-- A type that has a byte in it. -/
noncomputable def leafU (P : Program) (fits : TypeId → Bool) : Nat → TypeId → Bool
  | 0, _ => false
  | d + 1, e => fits e || match P.underlying e with
    | some (.struct fs) => fs.any fun f => leafU P fits d f.type
    | some (.array _ t) => leafU P fits d t
    | _ => false
noncomputable def u8ty (t : Nat) : Bool := leafU Tryz.prog (sameLayout Tryz.prog Tryz.prog.depth · 5) Tryz.prog.depth t
theorem u8_self : u8ty 5 = true := by kernel_rfl
/-- A block that may hold bytes, of whatever type. -/
def U8 (w : World) (k : Nat) (cs : Array Value) (fz : Nat × Nat) : Prop := ∃ t, u8ty t = true ∧ w.heap[k]? = some (Obj.cells cs t fz)
theorem U8.of {w : World} {k : Nat} {cs : Array Value} {fz : Nat × Nat} (h : w.heap[k]? = some (Obj.cells cs 5 fz)) : U8 w k cs fz := ⟨_, u8_self, h⟩
theorem U8.ext {w w' : World} {k : Nat} {cs : Array Value} {fz : Nat × Nat} (h : U8 w k cs fz) (hx : Ext w w') : U8 w' k cs fz := let ⟨t, h1, h2⟩ := h; ⟨t, h1, hx.blk h2⟩
theorem U8.chg {w w' : World} {k : Nat} {cs : Array Value} {fz : Nat × Nat} {S : Nat → Prop} (h : U8 w k cs fz) (hx : Chg S w w') (hn : ¬ S k) : U8 w' k cs fz := let ⟨t, h1, h2⟩ := h; ⟨t, h1, hx.blk h2 hn⟩
theorem U8.lt {w : World} {k : Nat} {cs : Array Value} {fz : Nat × Nat} (h : U8 w k cs fz) : k < w.heap.size := let ⟨_, _, h2⟩ := h; (Array.getElem?_eq_some_iff.1 h2).1
theorem ne_u8 {w : World} {g k s : Nat} {cs ds : Array Value} {f fz : Nat × Nat} (h : w.heap[g]? = some (Obj.cells ds s f)) (h2 : U8 w k cs fz) (hn : u8ty s = false) : g ≠ k := let ⟨t, h3, h4⟩ := h2; ne_ty h h4 (fun e => by rw [e, h3] at hn; cases hn)
/-- What a slice of bytes reads as. -/
def BAt (w : World) (A : Option Addr) (n : Nat) (l : List Int) : Prop := l.length = n ∧ (n = 0 ∨ ∃ g o cs fz, A = some ⟨g, o, none⟩ ∧ U8 w g cs fz ∧ ∀ (i : Nat) (x : Int), l[i]? = some x → cs[o + i]? = some (.int .u8 x))
theorem BAt.ext {w w' : World} {A : Option Addr} {n : Nat} {l : List Int} (h : BAt w A n l) (hx : Ext w w') : BAt w' A n l := ⟨h.1, h.2.imp id (fun ⟨g, o, cs, fz, h1, h2, h3⟩ => ⟨g, o, cs, fz, h1, h2.ext hx, h3⟩)⟩
theorem BAt.chg {w w' : World} {A : Option Addr} {n : Nat} {l : List Int} {S : Nat → Prop} (h : BAt w A n l) (hx : Chg S w w') (hS : ∀ k cs fz, S k → U8 w k cs fz → False) : BAt w' A n l := ⟨h.1, h.2.imp id (fun ⟨g, o, cs, fz, h1, h2, h3⟩ => ⟨g, o, cs, fz, h1, h2.chg hx (fun hs => hS g cs fz hs h2), h3⟩)⟩
/-- A new row of bytes without any, with room for n. -/
theorem grow_c (n : Nat) (hn : n ≤ 281474976710656) (w : World) : Calls Tryz.prog 111 #[.slice none 0 0, .int .i64 n] w fun e w' => Ext w w' ∧ ∃ v, e = .returned v ∧ w'.ownsRow w.heap.size 5 1 v 0 [] := by
  refine J.enter Tryz.func111 rfl [] [.one (.v (.slice none 0 0)), .one (.v (.int .i64 n))] 27 (known_nil w) ?_
  refine J.brf (decide ((n : Int) < 0)) (decide_eq_false (by omega)) ?_
  refine J.ari 0 (.sub (x := 0) (y := 0) rfl (by omega) (by omega)) ?_
  refine J.ari (n : Int) (.sub (x := n) (y := 0) (by omega) (by omega) (by omega)) ?_
  by_cases h0 : 0 < n
  · refine J.brt (decide ((n : Int) > 0)) (decide_eq_true (by omega)) ?_
    refine J.sl 27 none 0 0 none (some (.one (.v (.int .i64 0)))) none 0 0 0 1 (fun L w => sb_h (r := 0) (Nat.le_refl 0) w) (.slice none 0 0) rfl ?_
    refine J.app 27 3 (.one (.v (.slice none 0 0))) (.one (.v (.int .i64 n))) [] (fun ty w1 hk hr => ?_)
    have hx : Ext w w1 := hr.ext' (fun b hb => by cases hb)
    obtain ⟨inf, hi, hz⟩ := Option.map_eq_some_iff.1 (show (Tryz.prog.info? 5).map (fun i => (i.zero, i.size, i.bytes)) = some (some (.int .u8 0), 1, 1) by kernel_rfl)
    have hz1 : inf.zero = some (.int .u8 0) := congrArg Prod.fst hz
    have hz2 : inf.size = 1 := congrArg (fun x => x.2.1) hz
    have hz3 : inf.bytes = 1 := congrArg (fun x => x.2.2) hz
    refine ⟨_, _, run_append_nil_zeros w1 27 3 ty 5 inf (.int .u8 0) .i64 .i64 Tryz.underlying27 Tryz.underlying3 hi hz1 n h0 (by omega) (by omega) (by rw [hz3]; omega), known_nil _, ?_⟩
    generalize hw2 : w1.drew.alloc _ = w2
    have hge := grownCap_ge w1 n 0 5
    have hle := grownCap_le_maxLen w1 n 0 5 (by show n ≤ maxLen; simp only [maxLen]; omega)
    have hb2 : w2.heap[w1.heap.size]? = some (Obj.cells (Builtin.zeroCells (Value.int .u8 0).cells n ++ Builtin.zeroCells (Value.int .u8 0).cells (grownCap w1 n 0 5 - n)) 5 (0, 0)) := by
      rw [← hw2]
      show (w1.heap.push _)[w1.heap.size]? = _
      simp
    have hx2 : Ext w1 w2 := by
      rw [← hw2]
      refine (.mk2 (?_) (fun k hk => ?_))
      · show w1.heap.size ≤ (w1.heap.push _).size
        rw [Array.size_push]; omega
      · show (w1.heap.push _)[k]? = w1.heap[k]?
        rw [Array.getElem?_push_lt hk, Array.getElem?_eq_getElem hk]
    generalize grownCap w1 n 0 5 = c at *
    refine J.sl 27 (some ⟨w1.heap.size, 0, none⟩) n c none (some (.one (.v (.int .i64 0)))) none 0 0 c 1 (fun L w => sb_h (r := 0) (Nat.zero_le _) w) (.slice (some ⟨w1.heap.size, 0, none⟩) 0 c) (by simp [sliced, Addr.add]) ?_
    refine J.ret (.one (.v (.slice (some ⟨w1.heap.size, 0, none⟩) 0 c))) [] (fun w3 _ hr3 => ?_)
    have hx3 : Ext w2 w3 := hr3.ext' (fun b hb => by cases hb)
    refine ⟨(hx.trans hx2).trans hx3, _, rfl, rfl, .inr ⟨w1.heap.size, c, _, rfl, hx.1, hx3.blk hb2, Nat.zero_le _, hle, ?_, rfl⟩⟩
    simp only [Array.size_append, size_zeroCells]
    show n * 1 + (c - n) * 1 = c * 1
    omega
  · refine J.brf (decide ((n : Int) > 0)) (decide_eq_false (by omega)) ?_
    exact J.ret (.one (.v (.slice none 0 0))) [] (fun w1 _ hr => ⟨hr.ext' (fun b hb => by cases hb), _, rfl, rfl, .inl ⟨rfl, rfl⟩⟩)
/-- A row of rows of bytes, as told. -/
structure Part where
  A : Option Addr
  n : Nat
  c : Nat
  l : List Int
def Part.val (p : Part) : Value := .slice p.A p.n p.c
def RowsAt (w : World) (gs : Nat) (ps : List Part) : Prop := (∃ cs fz, w.heap[gs]? = some (Obj.cells cs 27 fz) ∧ ∀ (i : Nat) (p : Part), ps[i]? = some p → cs[i]? = some p.val) ∧ ∀ p ∈ ps, BAt w p.A p.n p.l ∧ p.n ≤ 281474976710656 ∧ (p.A = none → p.c = 0)
theorem RowsAt.ext {w w' : World} {gs : Nat} {ps : List Part} (h : RowsAt w gs ps) (hx : Ext w w') : RowsAt w' gs ps := ⟨let ⟨cs, fz, h1, h2⟩ := h.1; ⟨cs, fz, hx.blk h1, h2⟩, fun p hp => ⟨(h.2 p hp).1.ext hx, (h.2 p hp).2⟩⟩
theorem RowsAt.lies {w : World} {gs : Nat} {ps : List Part} (h : RowsAt w gs ps) {i : Nat} {p : Part} (hi : ps[i]? = some p) : LiesAt w ⟨gs, 0 + i * 1, none⟩ [p.val] := fun j v hv => by
  obtain ⟨cs, fz, h1, h2⟩ := h.1
  cases j with
  | zero =>
    cases hv
    rw [Addr.add_mid]
    unfold World.cell?
    rw [h1]
    have := h2 i p hi
    simpa using this
  | succ j => cases hv
def sumN (ps : List Part) (i : Nat) : Nat := ((ps.take i).map Part.n).sum
def catL (ps : List Part) (i : Nat) : List Int := (ps.take i).flatMap Part.l
theorem sumN_step {ps : List Part} {i : Nat} {p : Part} (h : ps[i]? = some p) : sumN ps (i + 1) = sumN ps i + p.n := by
  unfold sumN
  rw [List.take_add_one, h]; simp
theorem catL_step {ps : List Part} {i : Nat} {p : Part} (h : ps[i]? = some p) : catL ps (i + 1) = catL ps i ++ p.l := by
  unfold catL
  rw [List.take_add_one, h]; simp
theorem sumN_mono {ps : List Part} {i j : Nat} (h : i ≤ j) : sumN ps i ≤ sumN ps j := by
  unfold sumN
  have : ps.take i = (ps.take j).take i := by rw [List.take_take, Nat.min_eq_left h]
  rw [this]
  have h2 := List.take_append_drop i (ps.take j)
  have : ((ps.take j).map Part.n).sum = (((ps.take j).take i).map Part.n).sum + (((ps.take j).drop i).map Part.n).sum := by
    rw [← List.sum_append, ← List.map_append, h2]
  omega
theorem owns_base {w : World} {b b2 e size n : Nat} {v : Value} {xs : List Value} (h : w.ownsRow b e size v n xs) (hb : b2 ≤ b) : w.ownsRow b2 e size v n xs := ⟨h.1, h.2.imp id (fun ⟨g, cap, cur, h1, h2, h3⟩ => ⟨g, cap, cur, h1, Nat.le_trans hb h2, h3⟩)⟩
theorem owns_ext {w w' : World} {b e size n : Nat} {v : Value} {xs : List Value} (h : w.ownsRow b e size v n xs) (hx : Ext w w') : w'.ownsRow b e size v n xs := ⟨h.1, h.2.imp id (fun ⟨g, cap, cur, h1, h2, h3, h4⟩ => ⟨g, cap, cur, h1, h2, hx.blk h3, h4⟩)⟩
/-- Bytes are appended to a row of one's own. -/
theorem app_bytes {w : World} {b n : Nat} {v : Value} {xs : List Value} (h : w.ownsRow b 5 1 v n xs) (p : Part) (hp : BAt w p.A p.n p.l) (hnil : p.A = none → p.c = 0) (hb : b ≤ w.heap.size) (hm : n + p.n ≤ 109951162777600) (ty : Nat) :
    ∃ v' w', (Builtin.append_ #[27, 27] ty #[v, p.val]).run Tryz.prog w = .ok v' w' ∧ w'.ownsRow b 5 1 v' (n + p.n) (xs ++ enc p.l) ∧ Chg (fun k => b ≤ k) w w' := by
  obtain ⟨inf, hi, hz⟩ := Option.map_eq_some_iff.1 (show (Tryz.prog.info? 5).map (fun i => (i.zero, i.size, i.bytes)) = some (some (.int .u8 0), 1, 1) by kernel_rfl)
  have hz1 : inf.zero = some (.int .u8 0) := congrArg Prod.fst hz
  have hz2 : inf.size = 1 := congrArg (fun x => x.2.1) hz
  have hz3 : inf.bytes = 1 := congrArg (fun x => x.2.2) hz
  cases hA : p.A with
  | none =>
    have hn0 : p.n = 0 := by
      rcases hp.2 with h0 | ⟨g, o, cs, fz, h1, _⟩
      · exact h0
      · rw [hA] at h1; cases h1
    have hl : p.l = [] := List.length_eq_zero_iff.1 (hp.1.trans hn0)
    refine ⟨v, w, ?_, ?_, Chg.refl⟩
    · unfold Part.val
      rw [hA, hn0, hnil hA]
      exact run_append_owned_none w b 27 ty 5 inf 1 Tryz.underlying27 hi v n xs h
    · rw [hn0, hl]; simpa [enc] using h
  | some ad =>
    have hlen : (enc p.l).length = p.n * 1 := by rw [enc, List.length_map, hp.1]; omega
    obtain ⟨v', w', h1, h2, h3, _⟩ := run_append_own_wide (P := Tryz.prog) w b 27 ty 5 inf (.int .u8 0) 1 1 Tryz.underlying27 hi hz1 hz2 hz3 rfl (by omega) v n xs h ad p.n p.c (enc p.l) hlen (fun j u hu => by
      rcases hp.2 with h0 | ⟨g, o, cs, fz, e1, ⟨_, _, e2⟩, e3⟩
      · have := (List.getElem?_eq_some_iff.1 hu).1; omega
      · rw [hA] at e1; cases e1
        unfold enc at hu
        rw [List.getElem?_map] at hu
        obtain ⟨x, hx, rfl⟩ := Option.map_eq_some_iff.1 hu
        rw [Addr.add_mid]
        unfold World.cell?
        rw [e2]
        exact e3 j x hx) (fun u hu => by
      obtain ⟨x, _, rfl⟩ := List.mem_map.1 hu; rfl) (by show n + p.n ≤ maxLen; simp only [maxLen]; omega) (by omega) hb
    refine ⟨v', w', ?_, h2, .mk2 (h3.size) (fun k hk hnb => h3.block k hk (fun e => hnb ?_))⟩
    · unfold Part.val; rw [hA]; exact h1
    · rcases h.2 with ⟨rfl, _⟩ | ⟨g, cap, cur, rfl, hg, _⟩
      · cases e
      · cases e; exact hg
theorem concat_c {gs c : Nat} (ps : List Part) (w : World) (h : RowsAt w gs ps) (hm : sumN ps ps.length ≤ 1099511627776) (hk : ps.length ≤ 1099511627776) : Calls Tryz.prog 110 #[.slice (some ⟨gs, 0, none⟩) ps.length c] w fun e w' => Ext w w' ∧ ∃ v, e = .returned v ∧ w'.ownsRow w.heap.size 5 1 v (sumN ps ps.length) (enc (catL ps ps.length)) := by
  refine J.enter Tryz.func110 rfl [] [.one (.v (.slice (some ⟨gs, 0, none⟩) ps.length c))] 36 (known_nil w) ?_
  have fin : ∀ {u w1 : World}, Ext w u → Rel [] u w1 → Ext w w1 := fun hx hr => hx.rel' hr (fun b hb => by cases hb)
  refine J.loop (fun i : Nat => [(0, .one (.v (.slice (some ⟨gs, 0, none⟩) ps.length c))), (3, .one (.v (.int .i64 (sumN ps i)))), (9, .one (.v (.slice (some ⟨gs, 0, none⟩) ps.length c))), (10, .one (.v (.int .i64 ps.length))), (11, .one (.v (.int .i64 i)))]) (fun _ => []) (fun i u => i ≤ ps.length ∧ Ext w u) (fun i => ps.length - i) [] 0 (fun w3 hk3 hr3 => ⟨Nat.zero_le _, fin (.refl w) hr3⟩) ?_
  intro p i w1 hp ⟨hi, hx1⟩ hk1
  refine J.brd ((i : Int) < (ps.length : Int)) (fun h1 => ?_) (fun h1 => ?_)
  · have hj : i < ps.length := by omega
    have hjz := List.getElem?_eq_getElem hj
    generalize ps[i] = q at hjz
    have hq := h.2 q (List.mem_iff_getElem?.2 ⟨i, hjz⟩)
    have hs := sumN_step hjz
    have hs2 := sumN_mono (ps := ps) (i := i + 1) (j := ps.length) hj
    refine J.ix gs 0 ps.length c 1 i rfl hj ?_
    refine J.ld 27 ⟨gs, 0 + i * 1, none⟩ (.one (.v q.val)) [] (fun w4 hk4 hr4 => (h.ext (fin hx1 hr4)).lies hjz) ?_
    refine J.ari ((sumN ps (i + 1) : Nat) : Int) (.add (x := sumN ps i) (y := q.n) (by omega) (by omega) (by omega)) ?_
    refine J.brf (decide (((sumN ps (i + 1) : Nat) : Int) < 0)) (decide_eq_false (by omega)) ?_
    refine J.ari ((i + 1 : Nat) : Int) (.add (x := i) (y := 1) (by omega) (by omega) (by omega)) ?_
    exact J.at (fun a u h1 h2 hk hr => hp (i + 1) a u h1 h2 hk ⟨by omega, fin hx1 hr⟩ (by omega))
  · have : i = ps.length := by omega
    subst this
    refine J.call Tryz.func111 [.one (.v (.slice none 0 0)), .one (.v (.int .i64 (sumN ps ps.length)))] [] (fun w2 hk2 hr2 => ?_)
    refine (grow_c (sumN ps ps.length) (by omega) w2).mono ?_
    rintro e w3 ⟨hx3, v0, rfl, hv0⟩
    refine ⟨.one (.v v0), [], rfl, rfl, known_nil _, ?_⟩
    have hx2 := fin hx1 hr2
    have hv0 := owns_base hv0 hx2.1
    refine J.loop (fun x : Nat × Value => [(6, .one (.v x.2)), (25, .one (.v (.slice (some ⟨gs, 0, none⟩) ps.length c))), (26, .one (.v (.int .i64 ps.length))), (27, .one (.v (.int .i64 x.1)))]) (fun _ => []) (fun x u => x.1 ≤ ps.length ∧ Ext w u ∧ u.ownsRow w.heap.size 5 1 x.2 (sumN ps x.1) (enc (catL ps x.1))) (fun x => ps.length - x.1) [] (0, v0) (fun w4 hk4 hr4 => ⟨Nat.zero_le _, fin (hx2.trans hx3) hr4, owns_ext hv0 (hr4.ext' (fun b hb => by cases hb))⟩) ?_
    rintro p2 ⟨i, v⟩ w4 hp2 ⟨hi2, hx4, hv⟩ hk4
    refine J.brd ((i : Int) < (ps.length : Int)) (fun h2 => ?_) (fun h2 => ?_)
    · have hj : i < ps.length := by omega
      have hjz := List.getElem?_eq_getElem hj
      generalize ps[i] = q at hjz
      have hq := h.2 q (List.mem_iff_getElem?.2 ⟨i, hjz⟩)
      have hs := sumN_step hjz
      have hs2 := sumN_mono (ps := ps) (i := i + 1) (j := ps.length) hj
      refine J.ix gs 0 ps.length c 1 i rfl hj ?_
      refine J.ld 27 ⟨gs, 0 + i * 1, none⟩ (.one (.v q.val)) [] (fun w5 hk5 hr5 => (h.ext (fin hx4 hr5)).lies hjz) ?_
      refine J.app 27 27 (.one (.v v)) (.one (.v q.val)) [] (fun ty w5 hk5 hr5 => ?_)
      have hx5 := fin hx4 hr5
      obtain ⟨v', w6, e1, e2, e3⟩ := app_bytes (owns_ext hv (hr5.ext' (fun b hb => by cases hb))) q (hq.1.ext hx5) hq.2.2 hx5.1 (by show sumN ps i + q.n ≤ _; omega) ty
      refine ⟨v', w6, e1, known_nil _, ?_⟩
      have hx6 : Ext w w6 := (.mk2 (Nat.le_trans hx5.1 e3.1) (fun k hk => (e3.2 k (Nat.lt_of_lt_of_le hk hx5.1) (by omega)).trans (hx5.2 k hk)))
      refine J.ari ((i + 1 : Nat) : Int) (.add (x := i) (y := 1) (by omega) (by omega) (by omega)) ?_
      rw [← hs] at e2
      have e4 : enc (catL ps i) ++ enc q.l = enc (catL ps (i + 1)) := by rw [catL_step hjz]; simp [enc]
      rw [e4] at e2
      exact J.at (fun a u h1 h2 hk hr => hp2 (i + 1, v') a u h1 h2 hk ⟨by show i + 1 ≤ ps.length; omega, fin hx6 hr, owns_ext e2 (hr.ext' (fun b hb => by cases hb))⟩ (by show ps.length - (i + 1) < ps.length - i; omega))
    · have : i = ps.length := by omega
      subst this
      exact J.ret (.one (.v v)) [] (fun w5 hk5 hr5 => ⟨fin hx4 hr5, v, rfl, owns_ext hv (hr5.ext' (fun b hb => by cases hb))⟩)
/-- A part of one's own row is bytes. -/
theorem owns_BAt {w : World} {b n : Nat} {v : Value} {l : List Int} (h : w.ownsRow b 5 1 v n (enc l)) : ∃ A c, v = .slice A n c ∧ BAt w A n l ∧ (A = none → c = 0) ∧ ∀ g o s, A = some ⟨g, o, s⟩ → b ≤ g := by
  have hl : l.length = n := by have := h.1; rw [enc, List.length_map] at this; omega
  rcases h.2 with ⟨rfl, rfl⟩ | ⟨g, cap, cur, rfl, hg, hcur, hcap1, hcap2, hsz, htake⟩
  · exact ⟨none, 0, rfl, ⟨hl, .inl rfl⟩, fun _ => rfl, fun _ _ _ h => by cases h⟩
  · refine ⟨some ⟨g, 0, none⟩, cap, rfl, ⟨hl, .inr ⟨g, 0, cur, (0, 0), rfl, .of hcur, fun i x hx => ?_⟩⟩, (fun h => by cases h), fun g' o s h => by cases h; exact hg⟩
    have hi : i < l.length := (List.getElem?_eq_some_iff.1 hx).1
    have : (enc l)[i]? = some (.int .u8 x) := by unfold enc; rw [List.getElem?_map, hx]; rfl
    rw [← htake, List.getElem?_take_of_lt (by omega), Array.getElem?_toList] at this
    rw [Nat.zero_add]; exact this
theorem clone_c (p : Part) (w : World) (hp : BAt w p.A p.n p.l) (hnil : p.A = none → p.c = 0) (hm : p.n ≤ 1099511627776) : Calls Tryz.prog 48 #[p.val] w fun e w' => Ext w w' ∧ ∃ A c, e = .returned (.slice A p.n c) ∧ BAt w' A p.n p.l ∧ (A = none → c = 0) := by
  have fin : ∀ {u w1 : World}, Ext w u → Rel [] u w1 → Ext w w1 := fun hx hr => hx.rel' hr (fun b hb => by cases hb)
  cases hA : p.A with
  | none =>
    have hn0 : p.n = 0 := by
      rcases hp.2 with h0 | ⟨g, o, cs, fz, h1, _⟩
      · exact h0
      · rw [hA] at h1; cases h1
    refine J.enter Tryz.func48 rfl [] [.one (.v (.slice none p.n p.c))] 8 (known_nil w) ?_ (by unfold Part.val; rw [hA]; rfl)
    refine J.ret (.one (.v (.slice none 0 0))) [] (fun w1 _ hr => ⟨fin (.refl w) hr, none, 0, by rw [hn0]; rfl, ⟨hp.1, .inl hn0⟩, fun _ => rfl⟩)
  | some ad =>
    refine J.enter Tryz.func48 rfl [] [.one (.v (.slice (some ad) p.n p.c))] 8 (known_nil w) ?_ (by unfold Part.val; rw [hA]; rfl)
    refine J.bslO 5 0 1 [] [] [] (fun w0 w1 _ hr0 _ hx0 hb0 => ?_)
    have hx1 : Ext w w1 := (fin (.refl w) hr0).trans hx0
    refine J.app 27 27 (.one (.v (.slice (some ⟨w0.heap.size, 0, none⟩) 0 0))) (.one (.v (.slice (some ad) p.n p.c))) [] (fun ty w2 hk hr => ?_)
    have hx2 := fin hx1 hr
    have hown : w2.ownsRow w.heap.size 5 1 (.slice (some ⟨w0.heap.size, 0, none⟩) 0 0) 0 [] := ⟨rfl, .inr ⟨w0.heap.size, 0, #[], rfl, hr0.1, (hr.ext' (fun b hb => by cases hb)).blk hb0, Nat.le_refl _, Nat.zero_le _, rfl, rfl⟩⟩
    obtain ⟨v', w3, e1, e2, e3⟩ := app_bytes hown p (hp.ext hx2) hnil hx2.1 (by omega) ty
    rw [Nat.zero_add, List.nil_append] at e2
    have hx3 : Ext w w3 := (.mk2 (Nat.le_trans hx2.1 e3.1) (fun k hk => (e3.2 k (Nat.lt_of_lt_of_le hk hx2.1) (by omega)).trans (hx2.2 k hk)))
    refine ⟨v', w3, by unfold Part.val at e1; rw [hA] at e1; exact e1, known_nil _, ?_⟩
    obtain ⟨A, c, rfl, hb, hc, _⟩ := owns_BAt e2
    exact J.ret (.one (.v (.slice A p.n c))) [] (fun w4 _ hr4 => ⟨fin hx3 hr4, A, c, rfl, hb.ext (hr4.ext' (fun b hb => by cases hb)), hc⟩)
end Go.Proofs.YtlhmpmmblnbmbaaGreat.Byt
set_option linter.unusedVariables false
set_option linter.unusedSimpArgs false
set_option maxRecDepth 100000
namespace Go.Proofs.YtlhmpmmblnbmbaaGreat.Zon
open Go.Proofs.YtlhmpmmblnbmbaaGreat.Sx Go.Proofs.YtlhmpmmblnbmbaaGreat.Byt
def Zn.size (z : Zn) : Int := max z.block 1
/-- Append's error for so many bytes. -/
def Zn.appErr (z : Zn) (m : Nat) : Int := if m = 0 ∨ (m : Int) % z.size ≠ 0 then 3 else if z.done = true ∨ (m : Int) / z.size > z.cap - z.wp then 6 else 0
theorem append_c (z : Zn) (b : Part) (l : List Int) (w : World) (hz : BAt w z.A z.n l) (hz0 : z.A = none → z.c = 0) (hb : BAt w b.A b.n b.l) (hb0 : b.A = none → b.c = 0) (hm : z.n + b.n ≤ 1099511627776) (hc0 : 0 ≤ z.cap) (hc1 : z.cap ≤ 9223372036854775807) :
    Calls Tryz.prog 97 #[z.val, b.val] w fun e w' => Ext w w' ∧ ((z.appErr b.n ≠ 0 ∧ e = .returned (.tuple #[.agg #[.int .i64 0, .int .i64 0, .slice none 0 0, .int .i64 0, .bool false], .int .i64 (z.appErr b.n)])) ∨
      (z.appErr b.n = 0 ∧ ∃ g c, e = .returned (.tuple #[({ z with A := some ⟨g, 0, none⟩, n := z.n + b.n, c := c, l := l ++ b.l } : Zn).val, .int .i64 0]) ∧ BAt w' (some ⟨g, 0, none⟩) (z.n + b.n) (l ++ b.l) ∧ z.n + b.n ≤ c ∧ c ≤ 9223372036854775807)) := by
  refine J.enter Tryz.func97 rfl [] [.agg z.cs, .one (.v b.val)] 46 (known_nil w) ?_
  refine J.new 137 z.cs [] (fun g1 h1 _ => ?_)
  refine J.new 137 zZone [⟨g1, 137, z.cs⟩] (fun g2 h2 _ => ?_)
  have fin : ∀ {u w1 : World} {c1 c2 : List C}, Ext w u → Rel [⟨g1, 137, c1⟩, ⟨g2, 137, c2⟩] u w1 → Ext w w1 := fun hx hr => hx.rel' hr (mem2 (.inl h1) (.inl h2))
  have hs0 : 0 < z.size := by unfold Zn.size; omega
  by_cases hb1 : b.n = 0
  · refine J.lit 11 ((b.n : Int) == 0) true (by simp [hb1]) ?_
    have he : z.appErr b.n = 3 := by unfold Zn.appErr; rw [if_pos (.inl hb1)]
    refine J.brt ((3 : Int) != 0) rfl ?_
    exact J.ret (.tup [(true, zZone), (false, [.v (.int .i64 3)])]) [⟨g1, 137, z.cs⟩, ⟨g2, 137, zZone⟩] (fun w1 _ hr => ⟨fin (.refl w) hr, .inl ⟨by rw [he]; decide, by rw [he]; rfl⟩⟩)
  refine J.lit 11 ((b.n : Int) == 0) false (by simp; omega) ?_
  refine J.ari ((b.n : Int) % z.size) (.rem (x := b.n) (y := max z.block 1) (by omega) hs0 rfl) ?_
  by_cases hb2 : (b.n : Int) % z.size = 0
  rotate_left
  · refine J.lit 15 ((b.n : Int) % z.size != 0) true (by simp [hb2]) ?_
    have he : z.appErr b.n = 3 := by unfold Zn.appErr; rw [if_pos (.inr hb2)]
    refine J.brt ((3 : Int) != 0) rfl ?_
    exact J.ret (.tup [(true, zZone), (false, [.v (.int .i64 3)])]) [⟨g1, 137, z.cs⟩, ⟨g2, 137, zZone⟩] (fun w1 _ hr => ⟨fin (.refl w) hr, .inl ⟨by rw [he]; decide, by rw [he]; rfl⟩⟩)
  refine J.lit 15 ((b.n : Int) % z.size != 0) false (by simp [hb2]) ?_
  have h3 : ¬ (b.n = 0 ∨ (b.n : Int) % z.size ≠ 0) := fun h => h.elim hb1 (fun h => h hb2)
  by_cases hd : z.done = true
  · refine J.lit 21 z.done true hd ?_
    have he : z.appErr b.n = 6 := by unfold Zn.appErr; rw [if_neg h3, if_pos (.inl hd)]
    refine J.brt ((6 : Int) != 0) rfl ?_
    exact J.ret (.tup [(true, zZone), (false, [.v (.int .i64 6)])]) [⟨g1, 137, z.cs⟩, ⟨g2, 137, zZone⟩] (fun w1 _ hr => ⟨fin (.refl w) hr, .inl ⟨by rw [he]; decide, by rw [he]; rfl⟩⟩)
  refine J.lit 21 z.done false (by simpa using hd) ?_
  have hw0 := z.wp0
  have hw1 := z.wple
  refine J.drw 11 [(3, .one (.v (.int .i64 ((b.n : Int) / z.size)))), (7, .one (.v (.int .i64 z.wp))), (8, .one (.v (.int .i64 (z.cap - z.wp))))] [⟨g1, 137, z.cs⟩, ⟨g2, 137, zZone⟩] (.cons (Y.ari (.quo (x := b.n) (y := max z.block 1) (by omega) (by omega) hs0 rfl)) <| .cons (Y.call Tryz.func107 [.agg z.cs] (fun w1 _ _ => wp_c z (by omega) w1)) <| .cons (Y.ari (.sub (x := z.cap) (y := z.wp) rfl (by omega) (by omega))) .nil) ?_
  by_cases hf : (b.n : Int) / z.size > z.cap - z.wp
  · refine J.lit 24 (decide ((b.n : Int) / z.size > z.cap - z.wp)) true (decide_eq_true hf) ?_
    have he : z.appErr b.n = 6 := by unfold Zn.appErr; rw [if_neg h3, if_pos (.inr hf)]
    refine J.brt ((6 : Int) != 0) rfl ?_
    exact J.ret (.tup [(true, zZone), (false, [.v (.int .i64 6)])]) [⟨g1, 137, z.cs⟩, ⟨g2, 137, zZone⟩] (fun w1 _ hr => ⟨fin (.refl w) hr, .inl ⟨by rw [he]; decide, by rw [he]; rfl⟩⟩)
  refine J.lit 24 (decide ((b.n : Int) / z.size > z.cap - z.wp)) false (decide_eq_false hf) ?_
  have he : z.appErr b.n = 0 := by unfold Zn.appErr; rw [if_neg h3, if_neg (fun h => h.elim hd hf)]
  refine J.brf ((0 : Int) != 0) rfl ?_
  refine J.bsl 27 2 1 [.slice none 0 0, .slice none 0 0] [.v (.slice z.A z.n z.c), .v b.val] [⟨g1, 137, z.cs⟩, ⟨g2, 137, zZone⟩] (fun g3 h4 hn3 => ?_)
  refine J.call Tryz.func110 [.one (.slc 2 0 2 2)] [⟨g1, 137, z.cs⟩, ⟨g2, 137, zZone⟩, ⟨g3, 27, [.v (.slice z.A z.n z.c), .v b.val]⟩] (fun w1 hk hr => ?_)
  have fin3 : ∀ {u w1 : World} {c1 c2 c3 : List C}, Ext w u → Rel [⟨g1, 137, c1⟩, ⟨g2, 137, c2⟩, ⟨g3, 27, c3⟩] u w1 → Ext w w1 := fun hx hr => hx.rel' hr (mem3 (.inl h1) (.inl h2) (.inl h4))
  have hx1 := fin3 (.refl w) hr
  have hrows : RowsAt w1 g3 [⟨z.A, z.n, z.c, l⟩, b] := ⟨⟨_, _, hk.get 2 rfl, fun i p hp => by
    match i, hp with
    | 0, hp => cases hp; rfl
    | 1, hp => cases hp; rfl⟩, mem2 ⟨hz.ext hx1, by show z.n ≤ _; omega, hz0⟩ ⟨hb.ext hx1, by omega, hb0⟩⟩
  have es : sumN [⟨z.A, z.n, z.c, l⟩, b] 2 = z.n + b.n := by simp [sumN]
  have ec : catL [⟨z.A, z.n, z.c, l⟩, b] 2 = l ++ b.l := by simp [catL]
  refine (concat_c (c := 2) [⟨z.A, z.n, z.c, l⟩, b] w1 hrows (by show sumN [⟨z.A, z.n, z.c, l⟩, b] 2 ≤ _; omega) (by show 2 ≤ _; omega)).mono ?_
  rintro e w2 ⟨hx2, v, rfl, hv⟩
  replace hv : w2.ownsRow w1.heap.size 5 1 v (sumN [⟨z.A, z.n, z.c, l⟩, b] 2) (enc (catL [⟨z.A, z.n, z.c, l⟩, b] 2)) := hv
  rw [es, ec] at hv
  rcases hv.2 with ⟨_, h0⟩ | ⟨g, cap, cur, rfl, hg, hcur, hcap1, hcap2, hsz, htake⟩
  · omega
  refine ⟨.one (.v (.slice (some ⟨g, 0, none⟩) (z.n + b.n) cap)), _, rfl, rfl, hx2.known hk, ?_⟩
  have hbt : BAt w2 (some ⟨g, 0, none⟩) (z.n + b.n) (l ++ b.l) := ⟨by rw [List.length_append, hz.1, hb.1], .inr ⟨g, 0, cur, (0, 0), rfl, .of hcur, fun i x hx => by
    have hi : i < (l ++ b.l).length := (List.getElem?_eq_some_iff.1 hx).1
    rw [List.length_append, hz.1, hb.1] at hi
    have : (enc (l ++ b.l))[i]? = some (.int .u8 x) := by unfold enc; rw [List.getElem?_map, hx]; rfl
    rw [← htake, List.getElem?_take_of_lt (by omega), Array.getElem?_toList] at this
    rw [Nat.zero_add]; exact this⟩⟩
  refine J.ret (.tup [(true, ({ z with A := some ⟨g, 0, none⟩, n := z.n + b.n, c := cap, l := l ++ b.l } : Zn).cs), (false, [.v (.int .i64 0)])]) [⟨g1, 137, ({ z with A := some ⟨g, 0, none⟩, n := z.n + b.n, c := cap, l := l ++ b.l } : Zn).cs⟩, ⟨g2, 137, ({ z with A := some ⟨g, 0, none⟩, n := z.n + b.n, c := cap, l := l ++ b.l } : Zn).cs⟩, ⟨g3, 27, [.v (.slice z.A z.n z.c), .v b.val]⟩] (fun w3 hk3 hr3 => ⟨fin3 (hx1.trans hx2) hr3, .inr ⟨he, g, cap, rfl, ?_, hcap1, by simp only [maxLen] at hcap2; omega⟩⟩)
  have hk2 := hx2.known hk
  refine hbt.chg (S := fun k => k = g1 ∨ k = g2 ∨ k = g3) (hr3.chg' (mem3 (.inl (.inl rfl)) (.inl (.inr (.inl rfl))) (.inl (.inr (.inr rfl))))) (fun k cs fz hS hb => ?_)
  rcases hS with rfl | rfl | rfl
  · exact ne_u8 (hk2.get 0 rfl) hb (by show u8ty 137 = false; kernel_rfl) rfl
  · exact ne_u8 (hk2.get 1 rfl) hb (by show u8ty 137 = false; kernel_rfl) rfl
  · exact ne_u8 (hk2.get 2 rfl) hb (by show u8ty 27 = false; kernel_rfl) rfl
/-- May these blocks be read? -/
def Zn.noRead (z : Zn) (at_ n : Int) : Prop := at_ < 0 ∨ n < 0 ∨ at_ > z.wp ∨ n > z.wp - at_
instance (z : Zn) (at_ n : Int) : Decidable (z.noRead at_ n) := by unfold Zn.noRead; infer_instance
theorem read_c (z : Zn) (l : List Int) (at_ n : Int) (w : World) (hz : BAt w z.A z.n l) (hz0 : z.A = none → z.c = 0) (hz1 : z.n ≤ z.c) (hm : z.n ≤ 1099511627776) :
    Calls Tryz.prog 109 #[z.val, .int .i64 at_, .int .i64 n] w fun e w' => Ext w w' ∧ ((z.noRead at_ n ∧ e = .returned (.tuple #[.slice none 0 0, .int .i64 4])) ∨
      (¬ z.noRead at_ n ∧ ∃ A c, e = .returned (.tuple #[.slice A (n * z.size).toNat c, .int .i64 0]) ∧ BAt w' A (n * z.size).toNat ((l.drop (at_ * z.size).toNat).take (n * z.size).toNat) ∧ (A = none → c = 0))) := by
  refine J.enter Tryz.func109 rfl [] [.agg z.cs, .one (.v (.int .i64 at_)), .one (.v (.int .i64 n))] 44 (known_nil w) ?_
  refine J.new 137 z.cs [] (fun g1 h1 _ => ?_)
  have fin : ∀ {u w1 : World}, Ext w u → Rel [⟨g1, 137, z.cs⟩] u w1 → Ext w w1 := fun hx hr => hx.rel' hr (mem1 (.inl h1))
  have hs0 : 0 < z.size := by unfold Zn.size; omega
  have hw0 := z.wp0
  have hw1 := z.wple
  by_cases c1 : at_ < 0
  · refine J.lit 11 (decide (at_ < 0)) true (decide_eq_true c1) ?_
    exact J.ret (.tup [(false, [.v (.slice none 0 0)]), (false, [.v (.int .i64 4)])]) [⟨g1, 137, z.cs⟩] (fun w1 _ hr => ⟨fin (.refl w) hr, .inl ⟨.inl c1, rfl⟩⟩)
  refine J.lit 11 (decide (at_ < 0)) false (decide_eq_false c1) ?_
  by_cases c2 : n < 0
  · refine J.lit 15 (decide (n < 0)) true (decide_eq_true c2) ?_
    exact J.ret (.tup [(false, [.v (.slice none 0 0)]), (false, [.v (.int .i64 4)])]) [⟨g1, 137, z.cs⟩] (fun w1 _ hr => ⟨fin (.refl w) hr, .inl ⟨.inr (.inl c2), rfl⟩⟩)
  refine J.lit 15 (decide (n < 0)) false (decide_eq_false c2) ?_
  refine J.call Tryz.func107 [.agg z.cs] [⟨g1, 137, z.cs⟩] (fun w1 hk1 hr1 => ?_)
  refine (wp_c z (by omega) w1).mono ?_
  rintro e w2 ⟨rfl, hx⟩
  have hx2 := (fin (.refl w) hr1).trans hx
  refine ⟨.one (.v (.int .i64 z.wp)), _, rfl, rfl, hx.known hk1, ?_⟩
  by_cases c3 : at_ > z.wp
  · refine J.lit 21 (decide (at_ > z.wp)) true (decide_eq_true c3) ?_
    exact J.ret (.tup [(false, [.v (.slice none 0 0)]), (false, [.v (.int .i64 4)])]) [⟨g1, 137, z.cs⟩] (fun w1 _ hr => ⟨fin hx2 hr, .inl ⟨.inr (.inr (.inl c3)), rfl⟩⟩)
  refine J.lit 21 (decide (at_ > z.wp)) false (decide_eq_false c3) ?_
  refine J.call Tryz.func107 [.agg z.cs] [⟨g1, 137, z.cs⟩] (fun w3 hk3 hr3 => ?_)
  refine (wp_c z (by omega) w3).mono ?_
  rintro e w4 ⟨rfl, hx'⟩
  have hx4 := (fin hx2 hr3).trans hx'
  refine ⟨.one (.v (.int .i64 z.wp)), _, rfl, rfl, hx'.known hk3, ?_⟩
  refine J.ari (z.wp - at_) (.sub (x := z.wp) (y := at_) rfl (by omega) (by omega)) ?_
  by_cases c4 : n > z.wp - at_
  · refine J.brt (decide (n > z.wp - at_)) (decide_eq_true c4) ?_
    exact J.ret (.tup [(false, [.v (.slice none 0 0)]), (false, [.v (.int .i64 4)])]) [⟨g1, 137, z.cs⟩] (fun w1 _ hr => ⟨fin hx4 hr, .inl ⟨.inr (.inr (.inr c4)), rfl⟩⟩)
  refine J.brf (decide (n > z.wp - at_)) (decide_eq_false c4) ?_
  have hno : ¬ z.noRead at_ n := fun h => h.elim c1 (fun h => h.elim c2 (fun h => h.elim c3 c4))
  have hws : z.wp * z.size ≤ z.n := Int.ediv_mul_le _ (by omega)
  have hq1 : 0 ≤ at_ * z.size := Int.mul_nonneg (by omega) (by omega)
  have hq2 : 0 ≤ n * z.size := Int.mul_nonneg (by omega) (by omega)
  have hq3 : (at_ + n) * z.size ≤ z.wp * z.size := Int.mul_le_mul_of_nonneg_right (by omega) (by omega)
  have hq4 : (at_ + n) * z.size = at_ * z.size + n * z.size := Int.add_mul _ _ _
  have hsz : z.size = max z.block 1 := rfl
  refine J.ari (at_ * z.size) (.mul (x := at_) (y := max z.block 1) rfl (by omega) (by omega)) ?_
  refine J.ari (at_ + n) (.add (x := at_) (y := n) rfl (by omega) (by omega)) ?_
  refine J.ari ((at_ + n) * z.size) (.mul (x := at_ + n) (y := max z.block 1) rfl (by omega) (by omega)) ?_
  obtain ⟨a0, e1⟩ : ∃ a0 : Nat, at_ * z.size = (a0 : Int) := ⟨(at_ * z.size).toNat, by omega⟩
  obtain ⟨n0, e2⟩ : ∃ n0 : Nat, n * z.size = (n0 : Int) := ⟨(n * z.size).toNat, by omega⟩
  have e3 : (at_ + n) * z.size = ((a0 + n0 : Nat) : Int) := by omega
  have hin : a0 + n0 ≤ z.n := by omega
  obtain ⟨A2, hA2⟩ : ∃ A2, A2 = (if z.c = a0 then z.A else z.A.map (·.add (a0 * 1))) := ⟨_, rfl⟩
  refine J.sl 27 z.A z.n z.c (some (.one (.v (.int .i64 (at_ * z.size))))) (some (.one (.v (.int .i64 ((at_ + n) * z.size))))) none a0 (a0 + n0) z.c 1 (fun L w => by
    show (Instr.sliceBounds true z.n z.c (some (.int .i64 (at_ * z.size))) (some (.int .i64 ((at_ + n) * z.size))) none).run _ w = _
    rw [e1, e3]; exact sb_lh (by omega) (by omega) w) (.slice A2 n0 (z.c - a0)) (by unfold sliced; rw [← hA2, Nat.add_sub_cancel_left]) ?_
  have hnil : A2 = none → z.c - a0 = 0 := fun h => by
    rw [hA2] at h
    split at h
    · omega
    · have := hz0 (Option.map_eq_none_iff.1 h); omega
  have hsub : ∀ u, BAt u z.A z.n l → BAt u A2 n0 ((l.drop a0).take n0) := fun u hu => by
    refine ⟨by rw [List.length_take, List.length_drop, hu.1]; omega, ?_⟩
    by_cases h0 : n0 = 0
    · exact .inl h0
    · rcases hu.2 with h9 | ⟨g, o, cs, fz, g1, g2, g3⟩
      · omega
      · refine .inr ⟨g, o + a0 * 1, cs, fz, ?_, g2, fun i x hx => ?_⟩
        · rw [hA2, if_neg (by omega), g1, Option.map_some, Addr.add_mid]
        · have hi : i < n0 := by
            have := (List.getElem?_eq_some_iff.1 hx).1
            rw [List.length_take] at this; omega
          rw [List.getElem?_take_of_lt hi, List.getElem?_drop] at hx
          have := g3 (a0 + i) x hx
          rw [show o + a0 * 1 + i = o + (a0 + i) by omega]; exact this
  refine J.call Tryz.func48 [.one (.v (.slice A2 n0 (z.c - a0)))] [⟨g1, 137, z.cs⟩] (fun w5 hk5 hr5 => ?_)
  have hx5 := fin hx4 hr5
  refine (clone_c ⟨A2, n0, z.c - a0, (l.drop a0).take n0⟩ w5 (hsub w5 (hz.ext hx5)) hnil (by show n0 ≤ _; omega)).mono ?_
  rintro e w6 ⟨hx6, A3, c3', rfl, hb6, hn6⟩
  refine ⟨.one (.v (.slice A3 n0 c3')), _, rfl, rfl, hx6.known hk5, ?_⟩
  refine J.ret (.tup [(false, [.v (.slice A3 n0 c3')]), (false, [.v (.int .i64 0)])]) [⟨g1, 137, z.cs⟩] (fun w7 hk7 hr7 => ⟨fin (hx5.trans hx6) hr7, .inr ⟨hno, A3, c3', ?_, ?_, hn6⟩⟩)
  · rw [e2, Int.toNat_natCast]; rfl
  · rw [e2, e1, Int.toNat_natCast, Int.toNat_natCast]
    exact hb6.ext (hr7.ext' (mem1 (.inr ((hk7.get 0 rfl).trans ((hx6.known hk5).get 0 rfl).symm))))
end Go.Proofs.YtlhmpmmblnbmbaaGreat.Zon
