/- The cache by what it holds. -/
import Derived.Test.YtlhmpmmblnbmbaaCacN
set_option linter.unusedVariables false
set_option linter.unusedSimpArgs false
namespace Go.Proofs.Ytlhmpmmblnbmbaa.Cac
open Go Go.RowKit Go.Proofs.Ytlhmpmmblnbmbaa.PCachePlays Go.Proofs.YtlhmpmmblnbmbaaW.PrintWords Go.Proofs.YtlhmpmmblnbmbaaW.PrintLast Go.Proofs.YtlhmpmmblnbmbaaW.PrintMore Go.Proofs.Ytlhmpmmblnbmbaa.FlowU Go.Proofs.Ytlhmpmmblnbmbaa.Ev Go.Proofs.Ytlhmpmmblnbmbaa.Ke Go.Proofs.Ytlhmpmmblnbmbaa.Cells
abbrev KL := List (S36 × List Int)
def view (m : List Ent) : KL := m.map fun e => (e.k, e.d)
def fwo (k : S36) (L : KL) : KL := L.filter fun x => !same x.1 k
def fat (k : S36) (L : KL) : Option (List Int) := (L.find? fun x => same x.1 k).map (·.2)
def putL (room : Int) (k : S36) (d : List Int) (L : KL) : KL := if room = 0 then L else if (((k, d) :: fwo k L).length : Int) > room then ((k, d) :: fwo k L).dropLast else (k, d) :: fwo k L
def dropL (z : Int) (L : KL) : KL := L.filter fun x => !(x.1.f0 == z)
theorem view_len (m : List Ent) : (view m).length = m.length := List.length_map ..
theorem view_wo (k : S36) (m : List Ent) : view (wo k m) = fwo k (view m) := by
  unfold view wo fwo
  rw [List.filter_map]; rfl
theorem view_drop (z : Int) (m : List Ent) : view (dropM z m) = dropL z (view m) := by
  unfold view dropM dropL
  rw [List.filter_map]; rfl
theorem view_put (room : Int) (m : List Ent) (k : S36) (v : Value) (d : List Int) (u : Int) : view (putM room m ⟨k, v, d, u⟩) = putL room k d (view m) := by
  have e1 : view ((⟨k, v, d, u⟩ : Ent) :: wo k m) = (k, d) :: fwo k (view m) := by rw [← view_wo]; rfl
  have e2 : (((k, d) :: fwo k (view m)).length : Int) = (((⟨k, v, d, u⟩ : Ent) :: wo k m).length : Int) := by rw [← e1, view_len]
  unfold putM putL
  rw [e2]
  split
  · rfl
  · split
    · rw [← e1]; unfold view; rw [List.map_dropLast]
    · exact e1
theorem view_at (k : S36) (m : List Ent) : fat k (view m) = (at_ k m).map (·.d) := by
  unfold fat view at_
  rw [List.find?_map, Option.map_map]
  rfl
theorem view_keys (m : List Ent) : (view m).map (·.1) = m.map (·.k) := by unfold view; rw [List.map_map]; rfl
def OK (m : List Ent) (clock : Int) (N : Nat) : Prop := m.Pairwise (fun a b => b.u < a.u) ∧ (∀ e ∈ m, 0 ≤ e.u ∧ e.u ≤ clock) ∧ 0 ≤ clock ∧ clock ≤ N ∧ m.length ≤ N ∧ ∀ e ∈ m, e.d.length ≤ 1000000
theorem OK.sub {m l : List Ent} {clock : Int} {N M : Nat} (h : OK m clock N) (hs : l.Sublist m) (hN : N ≤ M) : OK l clock M := ⟨h.1.sublist hs, fun e he => h.2.1 e (hs.subset he), h.2.2.1, by have := h.2.2.2.1; omega, Nat.le_trans hs.length_le (Nat.le_trans h.2.2.2.2.1 hN), fun e he => h.2.2.2.2.2 e (hs.subset he)⟩
theorem OK.cons {m : List Ent} {clock : Int} {N : Nat} (h : OK m clock N) {e : Ent} (hu : e.u = clock + 1) (hd : e.d.length ≤ 1000000) : OK (e :: wo e.k m) (clock + 1) (N + 1) := by
  obtain ⟨h1, h2, h3, h4, h5, h6⟩ := h
  refine ⟨List.pairwise_cons.2 ⟨fun x hx => ?_, h1.sublist wo_sub⟩, fun x hx => ?_, by omega, by omega, ?_, fun x hx => ?_⟩
  · have := (h2 x (wo_sub.subset hx)).2; omega
  · rcases List.mem_cons.1 hx with rfl | hx
    · omega
    · have := h2 x (wo_sub.subset hx); omega
  · have := (wo_sub (k := e.k) (m := m)).length_le
    rw [List.length_cons]; omega
  · rcases List.mem_cons.1 hx with rfl | hx
    · exact hd
    · exact h6 x (wo_sub.subset hx)
/-- The cache at gC, its map at gM: what it holds, the one used last first; N bounds how often it was called. -/
structure CI (W : World) (gC gM : Nat) (room hits misses : Int) (N : Nat) (L : KL) : Prop where
  ex : ∃ m clock, CA W gC gM room clock hits misses m ∧ view m = L ∧ OK m clock N
  h0 : 0 ≤ hits ∧ hits ≤ N
  m0 : 0 ≤ misses ∧ misses ≤ N
section
variable {W W1 w : World} {gC gM g t : Nat} {room hits misses : Int} {N : Nat} {L : KL} {cs : Array Value}
theorem CI.below (h : CI W gC gM room hits misses N L) (hb : Below W.heap.size W W1) : CI W1 gC gM room hits misses N L := by
  obtain ⟨⟨m, clock, h1, h2⟩, h3, h4⟩ := h
  exact ⟨⟨m, clock, h1.below hb, h2⟩, h3, h4⟩
theorem CI.far (h : CI W gC gM room hits misses N L) (hk : W.heap[g]? = some (.cells cs t (0, 0))) (h5 : t ≠ 5) (h83 : t ≠ 83) (hf : ∀ k, k ≠ g → W1.heap[k]? = W.heap[k]?) : CI W1 gC gM room hits misses N L := by
  obtain ⟨⟨m, clock, h1, h2⟩, h3, h4⟩ := h
  exact ⟨⟨m, clock, h1.far hk h5 h83 hf, h2⟩, h3, h4⟩
theorem CI.len (h : CI W gC gM room hits misses N L) : L.length ≤ N := by
  obtain ⟨⟨m, clock, h1, rfl, h2⟩, h3, h4⟩ := h
  rw [view_len]; exact h2.2.2.2.2.1
theorem CI.more {M : Nat} (h : CI W gC gM room hits misses N L) (hM : N ≤ M) : CI W gC gM room hits misses M L := by
  obtain ⟨⟨m, clock, h1, h2, h3⟩, h4, h5⟩ := h
  exact ⟨⟨m, clock, h1, h2, h3.sub (List.Sublist.refl _) hM⟩, by omega, by omega⟩
/-- A block of other cells is not the cache's. -/
theorem CI.apart (h : CI W gC gM room hits misses N L) (hk : W.heap[g]? = some (.cells cs t (0, 0))) (h83 : t ≠ 83) : ¬ S2 gC gM g := by
  obtain ⟨⟨m, clock, h1, h2⟩, h3, h4⟩ := h
  rintro (rfl | rfl)
  · exact ne_ty hk h1.cell h83 rfl
  · exact h1.map.ne hk rfl
theorem CI.lt (h : CI W gC gM room hits misses N L) : gC < W.heap.size ∧ gM < W.heap.size := by
  obtain ⟨⟨m, clock, h1, h2⟩, h3, h4⟩ := h
  exact h1.lt
theorem new_i (room r : Int) (hr : min (max room 0) 65536 = r) (w : World) : Calls Try.prog 17 #[.int .i64 room] w fun e w' => ∃ gC gM, e = .returned (.pointer (some ⟨gC, 0, none⟩)) ∧ CI w' gC gM r 0 0 0 [] ∧ w.heap.size ≤ gC ∧ w.heap.size ≤ gM ∧ Below w.heap.size w w' := by
  subst hr
  refine Calls.mono (new_c room w) ?_
  rintro e w' ⟨gC, gM, he, hca, h1, h2, hb⟩
  exact ⟨gC, gM, he, ⟨⟨[], 0, hca, rfl, List.Pairwise.nil, (fun e he => by cases he), by omega, by omega, Nat.le_refl _, (fun e he => by cases he)⟩, by omega, by omega⟩, h1, h2, hb⟩
theorem put_i (k : S36) (hgk : G36 k) (A : Option Addr) (n c : Nat) (d : List Int) (L' : KL) (w : World) (HC : ∀ w', KB (S2 gC gM) w w' → (Kd.int .u8).C w' A n d) (hl : d.length = n) (hn : n ≤ c) (h47 : n ≤ 1000000) (h : CI w gC gM room hits misses N L) (hN : N ≤ 900000) (hL : putL room k d L = L') : Calls Try.prog 18 #[.pointer (some ⟨gC, 0, none⟩), kv k, .slice A n c] w fun e w' => e = .returned (.tuple #[]) ∧ CI w' gC gM room hits misses (N + 1) L' ∧ KB (S2 gC gM) w w' := by
  subst hL
  obtain ⟨⟨m, clock, h1, rfl, h2⟩, h3, h4⟩ := h
  have ⟨o1, o2, o3, o4, o5, o6⟩ := h2
  refine Calls.mono (put_c k hgk A n c d w ⟨HC⟩ hl hn h47 h1 ⟨o3, by omega⟩ o1 o2 (by omega)) ?_
  rintro e w' ⟨he, v, hca, hkb⟩
  refine ⟨he, ⟨⟨_, _, hca, view_put .., ?_⟩, by omega, by omega⟩, hkb⟩
  have hc := h2.cons (e := ⟨k, v, d, clock + 1⟩) rfl (by show d.length ≤ _; omega)
  by_cases hr : room = 0
  · rw [putM_0 hr, clkM_0 hr]; exact h2.sub (List.Sublist.refl _) (Nat.le_succ _)
  · rw [clkM_1 hr]
    by_cases ho : (((⟨k, v, d, clock + 1⟩ : Ent) :: wo k m).length : Int) > room
    · rw [putM_ov hr ho]; exact hc.sub (List.dropLast_sublist _) (Nat.le_refl _)
    · rw [putM_no hr ho]; exact hc
theorem get_none_i (k : S36) (hgk : G36 k) (w : World) (h : CI w gC gM room hits misses N L) (hN : N ≤ 900000) (hk : fat k L = none) : Calls Try.prog 19 #[.pointer (some ⟨gC, 0, none⟩), kv k] w fun e w' => e = .returned (.tuple #[.slice none 0 0, .bool false]) ∧ CI w' gC gM room hits (misses + 1) (N + 1) L ∧ KB (S2 gC gM) w w' := by
  obtain ⟨⟨m, clock, h1, rfl, h2⟩, h3, h4⟩ := h
  have ⟨o1, o2, o3, o4, o5, o6⟩ := h2
  have ha : at_ k m = none := by rw [view_at] at hk; simpa using hk
  have hc := get_c k hgk w h1 ⟨o3, by omega⟩ (by omega) (by omega) (by omega) o6
  rw [ha] at hc
  refine Calls.mono hc ?_
  rintro e w' ⟨he, hca, hkb⟩
  exact ⟨he, ⟨⟨m, clock, hca, rfl, h2.sub (List.Sublist.refl _) (Nat.le_succ _)⟩, by omega, by omega⟩, hkb⟩
theorem get_some_i (k : S36) (hgk : G36 k) (d : List Int) (L' : KL) (w : World) (h : CI w gC gM room hits misses N L) (hN : N ≤ 900000) (hk : fat k L = some d) (hL : (k, d) :: fwo k L = L') : Calls Try.prog 19 #[.pointer (some ⟨gC, 0, none⟩), kv k] w fun e w' => ∃ v, e = .returned (.tuple #[v, .bool true]) ∧ (Kd.int .u8).R 5 w' 0 (fun _ => True) v d ∧ CI w' gC gM room (hits + 1) misses (N + 1) L' ∧ KB (S2 gC gM) w w' := by
  subst hL
  obtain ⟨⟨m, clock, h1, rfl, h2⟩, h3, h4⟩ := h
  have ⟨o1, o2, o3, o4, o5, o6⟩ := h2
  rw [view_at] at hk
  obtain ⟨e0, ha, rfl⟩ := Option.map_eq_some_iff.1 hk
  obtain ⟨hm, rfl⟩ := at_mem ha
  have hc := get_c e0.k hgk w h1 ⟨o3, by omega⟩ (by omega) (by omega) (by omega) o6
  rw [ha] at hc
  refine Calls.mono hc ?_
  rintro e w' ⟨v, he, hr, hca, hkb⟩
  refine ⟨v, he, hr, ⟨⟨_, clock + 1, hca, ?_, h2.cons (e := ⟨e0.k, e0.v, e0.d, clock + 1⟩) rfl (o6 e0 hm)⟩, by omega, by omega⟩, hkb⟩
  rw [← view_wo]; rfl
theorem keys_i (w : World) (h : CI w gC gM room hits misses N L) (hN : N ≤ 900000) : Calls Try.prog 27 #[.pointer (some ⟨gC, 0, none⟩)] w fun e w' => ∃ v, e = .returned v ∧ KRow w' v (L.map (·.1)) ∧ Below w.heap.size w w' := by
  obtain ⟨⟨m, clock, h1, rfl, h2⟩, h3, h4⟩ := h
  have ⟨o1, o2, o3, o4, o5, o6⟩ := h2
  rw [view_keys]
  exact keys_c w h1 o1 (fun e he => by have := o2 e he; omega) (by omega)
theorem len_i (w : World) (h : CI w gC gM room hits misses N L) : Calls Try.prog 20 #[.pointer (some ⟨gC, 0, none⟩)] w fun e w' => e = .returned (.int .i64 L.length) ∧ Below w.heap.size w w' := by
  obtain ⟨⟨m, clock, h1, rfl, h2⟩, h3, h4⟩ := h
  exact len_c w h1 (view_len m).symm
theorem counts_i (w : World) (h : CI w gC gM room hits misses N L) : Calls Try.prog 28 #[.pointer (some ⟨gC, 0, none⟩)] w fun e w' => e = .returned (.tuple #[.int .i64 hits, .int .i64 misses]) ∧ Below w.heap.size w w' := by
  obtain ⟨⟨m, clock, h1, rfl, h2⟩, h3, h4⟩ := h
  exact counts_c w h1
theorem clear_i (w : World) (h : CI w gC gM room hits misses N L) : Calls Try.prog 26 #[.pointer (some ⟨gC, 0, none⟩)] w fun e w' => e = .returned (.tuple #[]) ∧ CI w' gC gM room hits misses N [] ∧ KB (S2 gC gM) w w' := by
  obtain ⟨⟨m, clock, h1, rfl, h2⟩, h3, h4⟩ := h
  refine Calls.mono (clear_c w h1) ?_
  rintro e w' ⟨he, hca, hkb⟩
  exact ⟨he, ⟨⟨[], clock, hca, rfl, h2.sub (List.nil_sublist _) (Nat.le_refl _)⟩, h3, h4⟩, hkb⟩
theorem drop_i (z : Int) (w : World) (h : CI w gC gM room hits misses N L) (hN : N ≤ 900000) : Calls Try.prog 25 #[.pointer (some ⟨gC, 0, none⟩), .int .i64 z] w fun e w' => e = .returned (.int .i64 ((L.length : Int) - (dropL z L).length)) ∧ CI w' gC gM room hits misses N (dropL z L) ∧ KB (S2 gC gM) w w' := by
  obtain ⟨⟨m, clock, h1, rfl, h2⟩, h3, h4⟩ := h
  have ⟨o1, o2, o3, o4, o5, o6⟩ := h2
  refine Calls.mono (drop_c z w h1 o1 (fun e he => by have := o2 e he; omega) (by omega)) ?_
  rintro e w' ⟨he, hca, hkb⟩
  refine ⟨?_, ⟨⟨_, clock, hca, view_drop .., h2.sub List.filter_sublist (Nat.le_refl _)⟩, h3, h4⟩, hkb⟩
  rw [he, ← view_drop, view_len, view_len]
end
end Go.Proofs.Ytlhmpmmblnbmbaa.Cac
