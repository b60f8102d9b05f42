/- append to a slice that came in and has no room: a new row. -/
import Derived.Test.YtkhlhhpkleaphaaV
import Derived.Test.YtkhlhhpkleaphaaWMore
import Derived.Test.YtkhlhhpkleaphaaWKept
import Derived.ArgAppend
import Derived.Below
namespace Go.Proofs.YtkhlhhpkleaphaaAC
open Go.RowKit Go.Proofs.YtkhlhhpkleaphaaW.PrintWords Go.Proofs.YtkhlhhpkleaphaaW.PrintLast Go.Proofs.YtkhlhhpkleaphaaW.PrintMore Go.Proofs.YtkhlhhpkleaphaaV
theorem append_full {P : Program} {ops : Array Oper} {rest : List Oper} {o : Oper} {a : Act} {Q : Exit → Act → World → Prop} {W : World} (hgd : o.guard = none) (s x : Operand) (t e : TypeId)
    (ho : o.op = .call { callee := .builtin .append, args := #[s, x], argTypes := #[t, t] }) (ht : P.underlying t = some (.slice e)) (hinfo : (P.info? e).map (fun i => (i.zero, i.size, i.bytes)) = some (some (.int .i64 0), 1, 8))
    (A : Option Addr) (xs : List Int) (y : Int) (hs : a.eval s = .slice A xs.length xs.length) (hx : a.eval x = .slice (some ⟨W.heap.size, 0, none⟩) 1 1) (hr : Kd.C (Kd.int .i64) W A xs.length xs) (hl : xs.length < 17592186044416)
    (h : ∀ v1 w1, Kd.R (Kd.int .i64) e w1 W.heap.size (fun _ => True) v1 (xs ++ [y]) → Below W.heap.size W w1 → wpList P ops Q rest (a.put o.dst v1) w1) :
    wpList P ops Q (o :: rest) a (W.alloc (.cells [.int .i64 y].toArray e)) := by
  obtain ⟨i, hi, hi2⟩ := Option.map_eq_some_iff.1 hinfo
  simp only [Prod.mk.injEq] at hi2
  obtain ⟨hz, h4, h5⟩ := hi2
  have hr2 : Kd.C (Kd.int .i64) (W.alloc (.cells [.int .i64 y].toArray e)) A xs.length xs := Kd.C_alloc hr _
  have hsz : (W.alloc (.cells [.int .i64 y].toArray e)).heap.size = W.heap.size + 1 := by show (W.heap.push _).size = _; simp
  refine wpList_append_grows (W.alloc (.cells [.int .i64 y].toArray e)) hgd s x t ho e i (.int .i64 0) 1 8 ht hi hz h4 h5 rfl (by decide) A xs.length xs.length (encs (Value.int .i64) xs) hs ?_ (by simp [encs]) ?_ ⟨W.heap.size, 0, none⟩ 1 1 [.int .i64 y] hx rfl ?_ (by intro u hu; simp at hu; subst hu; rfl) (by omega) (by simp only [maxLen]; omega) (by omega) ?_
  · intro hA
    rcases Nat.eq_zero_or_pos xs.length with h0 | h0
    · exact ⟨h0, h0⟩
    · obtain ⟨ad, e1, _⟩ := Kd.at_int hr2 0 (by omega) (by omega)
      rw [hA] at e1; cases e1
  · intro b hb j u hj
    obtain ⟨hj1, hj2⟩ := List.getElem?_eq_some_iff.1 hj
    rw [encs_length] at hj1
    obtain ⟨ad, e1, hc⟩ := Kd.at_int hr2 (j : Int) (by omega) (by omega)
    rw [hb] at e1
    cases e1
    rw [Int.toNat_natCast] at hc
    rw [hc, ← hj2]
    simp [encs, rd, List.getD, hj1]
  · intro j u hj
    match j, hj with
    | 0, hj =>
      cases hj
      have : (W.alloc (.cells [.int .i64 y].toArray e)).heap[W.heap.size]? = some (.cells [.int .i64 y].toArray e (0, 0)) := by show (W.heap.push _)[W.heap.size]? = _; simp
      exact (blk_cell this 0).trans rfl
    | j + 1, hj => simp at hj
  · intro v' w' hown hg
    have hb : Below W.heap.size W w' := ⟨hg.os, hg.tape, hg.output, by have := hg.size; omega, fun k hk => by
      rw [hg.block k (by omega) (by simp)]
      show (W.heap.push _)[k]? = _
      rw [Array.getElem?_push]
      simp [show ¬ k = W.heap.size by omega]⟩
    refine h v' w' (Kd.R_of_own (enc := Value.int .i64) (h1 := fun _ => rfl) ?_ (fun _ _ => trivial)) hb
    obtain ⟨o1, o2⟩ := hown
    rw [encs_append, List.length_append, List.length_singleton]
    refine ⟨by simp [encs], ?_⟩
    rcases o2 with o2 | ⟨g, cap, cur, q1, q2, q3, q4, q5, q6, q7⟩
    · exact .inl o2
    · exact .inr ⟨g, cap, cur, q1, by omega, q3, q4, q5, q6, q7⟩
end Go.Proofs.YtkhlhhpkleaphaaAC
