/- How a slice of structs of two ints, inside a struct argument, is read: my own words for the rows. -/
import Derived.Test.YtlefjgpkabijdaaDoorV
import Derived.Deep.SlicePairs
import Derived.ProofKit
import Derived.WalkKit
namespace Go.Proofs.YtlefjgpkabijdaaDoorQ
open Go.RowKit Go.ChangeShapes Go.WideShapes Go.Proofs.YtlefjgpkabijdaaDoorW.PrintWords Go.Proofs.YtlefjgpkabijdaaDoorW.PrintLast Go.Proofs.YtlefjgpkabijdaaDoorW.PrintMore
section
variable {H : Type} {enc : TypeId × Value → H} {P : Program} {w : World} {base : Nat}
theorem pairs_C {α : Type} (d : Kd α) (mk : Int → Int → α) (Q : α → Prop) (hsz : d.sz = 2) (hmk : ∀ w a b, d.K w (mk a b) [.int .i64 a, .int .i64 b]) (hQ : ∀ a b, (Lit.int .i64 a).wf = true → (Lit.int .i64 b).wf = true → Q (mk a b))
    {t e : TypeId} {f0 f1 : Field} {fuel : Nat} {cs : List Value} {x : DataW H × List MemPlace} (ht : P.underlying t = some (.slice e)) (he : P.underlying e = some (.struct #[f0, f1]))
    (ce : P.cellsOf e = 2) (o0 : f0.offset = 0) (o1 : f1.offset = 1) (c0 : P.cellsOf f0.type = 1) (c1 : P.cellsOf f1.type = 1) (i0 : P.underlying f0.type = some (.int .i64)) (i1 : P.underlying f1.type = some (.int .i64))
    (h : DataW.trod enc P w base (fun _ => true) true fuel t cs = some x) :
    ∃ (A : Option Addr) (c : Nat) (l : List α), cs = [.slice A l.length c] ∧ l.length ≤ c ∧ l.length ≤ maxLen ∧ d.C w A l.length l ∧ ∀ p ∈ l, Q p := by
  rcases Go.Deep.open_slice_pairs ht he ce o0 o1 c0 c1 h with ⟨rfl, _⟩ | ⟨a, len, cap, m, n, V0, V1, D0, D1, P0, P1, rfl, _, hl, hm, hmm, _, hx⟩
  · exact ⟨none, 0, [], rfl, Nat.le_refl _, Nat.zero_le _, Kd.C_nil d w, fun p hp => by cases hp⟩
  · have each : ∀ i, i < len → ∃ q : Int × Int, V0 i = .int .i64 q.1 ∧ V1 i = .int .i64 q.2 ∧ (Lit.int .i64 q.1).wf = true ∧ (Lit.int .i64 q.2).wf = true := by
      intro i hi
      obtain ⟨_, _, h0, h1⟩ := hx i (by rw [hmm]; split <;> omega)
      obtain ⟨a0, e0, _, w0⟩ := DataW.trod_int i0 h0
      obtain ⟨a1, e1, _, w1⟩ := DataW.trod_int i1 h1
      exact ⟨(a0, a1), by simpa using e0, by simpa using e1, w0, w1⟩
    obtain ⟨q, hq⟩ := Go.Deep.choose_lt each
    have hlen : ((List.range len).map fun i => mk (q i).1 (q i).2).length = len := by simp
    refine ⟨some a, cap, (List.range len).map fun i => mk (q i).1 (q i).2, by rw [hlen], by rw [hlen]; exact hl, by rw [hlen]; omega, ⟨rfl, by rw [hlen]; unfold maxLen at hm; omega, fun _ => ⟨a, rfl, fun j p hj => ?_⟩⟩, ?_⟩
    · obtain ⟨hj1, hj2⟩ := List.getElem?_eq_some_iff.1 hj
      have hjl : j < len := by rwa [hlen] at hj1
      have hp : p = mk (q j).1 (q j).2 := by rw [← hj2]; simp
      obtain ⟨e0, e1, _, _⟩ := hq j hjl
      obtain ⟨g0, g1, _, _⟩ := hx j (by rw [hmm]; split <;> omega)
      refine ⟨[.int .i64 (q j).1, .int .i64 (q j).2], by rw [hsz]; rfl, by rw [hp]; exact hmk _ _ _, fun i u hu => ?_⟩
      rw [hsz]
      match i with
      | 0 =>
        have : Value.int .i64 (q j).1 = u := by simpa using hu
        rw [Nat.add_zero, g0, e0, this]
      | 1 =>
        have : Value.int .i64 (q j).2 = u := by simpa using hu
        rw [g1, e1, this]
      | i + 2 => simp at hu
    · intro p hp
      obtain ⟨i, hi, rfl⟩ := List.mem_map.1 hp
      obtain ⟨_, _, w0, w1⟩ := hq i (List.mem_range.1 hi)
      exact hQ _ _ w0 w1
open Go.ChangeAt in
theorem ints_C {t e : TypeId} {fuel : Nat} {cs : List Value} {x : DataW H × List MemPlace} (ht : P.underlying t = some (.slice e)) (he : P.underlying e = some (.int .i64)) (ce : P.cellsOf e = 1)
    (h : DataW.trod enc P w base (fun _ => true) true fuel t cs = some x) :
    ∃ (A : Option Addr) (c : Nat) (l : List Int), cs = [.slice A l.length c] ∧ l.length ≤ c ∧ l.length ≤ maxLen ∧ (Kd.int .i64).C w A l.length l ∧ ∀ p ∈ l, (Lit.int .i64 p).wf = true := by
  rcases open_ints ht he ce h with ⟨rfl, _⟩ | ⟨a, len, cap, zs, rfl, _, hl, hm, hz, _, hcell, hwz⟩
  · exact ⟨none, 0, [], rfl, Nat.le_refl _, Nat.zero_le _, Kd.C_nil _ w, fun p hp => by cases hp⟩
  · obtain ⟨l, rfl, hr, hml, hw, hc⟩ := ReadsInt.ofRowC (k := .i64) (w := w) (a := some a) (len := len) (cap := cap) (zs := zs) (.inr ⟨a, rfl, hl, hm, by simpa using hz, hcell, hwz⟩)
    exact ⟨some a, cap, l, rfl, hc, hml, Kd.C_of_reads (d := (0 : Int)) (h1 := fun _ => rfl) hr, hw⟩
end
end Go.Proofs.YtlefjgpkabijdaaDoorQ
