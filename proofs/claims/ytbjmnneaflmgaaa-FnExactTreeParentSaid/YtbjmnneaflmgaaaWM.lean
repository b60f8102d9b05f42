import Derived.Maps.OwnOps
import Derived.Test.YtbjmnneaflmgaaaWWords
import Derived.Test.YtbjmnneaflmgaaaWGuard
import Derived.Test.YtbjmnneaflmgaaaWT
/-! A map from numbers to rows of numbers that the call makes: each key is filled once, and the rows are only read. -/
namespace Go.Proofs.YtbjmnneaflmgaaaWM
open Go Go.RowKit Go.Maps Go.MapKept Go.Proofs.YtbjmnneaflmgaaaW.PrintWords Go.Proofs.YtbjmnneaflmgaaaWT
open Go.WideElems (Fit)
open Go.ChangeMaps (setBlock heap_setBlock_same heap_setBlock_other)
/-- A reader that reads nothing: the entries' rows are told apart from it. -/
def r0 (_ : Value) : Option (DataW Unit × List MemPlace) := some (.nil, [])
/-- Block B is a map: at each end of a way of D the way, in a row of the call's own (its block is ok). -/
def Ways (P : Program) (k ti : TypeId) (w : World) (B : Nat) (ok : Nat → Prop) (D : List (List Int)) : Prop :=
  ∃ es clock, w.heap[B]? = some (.map es clock) ∧ Fit P k r0 es clock ∧ es.size = D.length ∧ (∀ x ∈ es.toList, ∃ p ∈ D, x.key = .int .i64 (wEnd p) ∧ Kd.R (Kd.int .i64) ti w (B + 1) ok x.val p) ∧ ∀ p ∈ D, ∃ x ∈ es.toList, x.key = .int .i64 (wEnd p)
section
variable {P : Program} {k ti t E : TypeId} {w w1 : World} {B : Nat} {ok ok' : Nat → Prop} {D : List (List Int)}
theorem Ways.lt (h : Ways P k ti w B ok D) : B < w.heap.size := by
  obtain ⟨es, c, h1, _⟩ := h
  exact (Array.getElem?_eq_some_iff.1 h1).1
theorem Ways.step (h : Ways P k ti w B ok D) (hB : w1.heap[B]? = w.heap[B]?) (hm : ∀ j, ok j → j < w.heap.size → w1.heap[j]? = w.heap[j]?) : Ways P k ti w1 B ok D := by
  obtain ⟨es, c, h1, F, h2, h3, h4⟩ := h
  exact ⟨es, c, hB.trans h1, F, h2, fun x hx => by
    obtain ⟨p, hp, e, hr⟩ := h3 x hx
    exact ⟨p, hp, e, Kd.R_step hr hm⟩, h4⟩
theorem Ways.reno (h : Ways P k ti w B ok D) (hn : ∀ j, ok j → B < j → j < w.heap.size → ok' j) : Ways P k ti w B ok' D := by
  obtain ⟨es, c, h1, F, h2, h3, h4⟩ := h
  exact ⟨es, c, h1, F, h2, fun x hx => by
    obtain ⟨p, hp, e, hr⟩ := h3 x hx
    exact ⟨p, hp, e, Kd.R_mono (Kd.R_bound hr) (fun j hj => hn j hj.1 (by have := hj.2.1; omega) hj.2.2.1)⟩, h4⟩
theorem Ways.grown (h : Ways P k ti w B ok D) {row : Option Nat} (hg : w.grownBy w1 row) (hB : some B ≠ row) (hok : ∀ j, ok j → some j ≠ row) : Ways P k ti w1 B ok D :=
  h.step (hg.block B h.lt hB) (fun j hj hl => hg.block j hl (hok j hj))
theorem Ways.below (h : Ways P k ti w B ok D) (hb : Below w.heap.size w w1) : Ways P k ti w1 B ok D :=
  h.step (hb.block B h.lt) (fun j _ hl => hb.block j hl)
/-- What stands at a number. -/
theorem Ways.look (h : Ways P k ti w B ok D) (K : Keyed P k) (hk : P.underlying k = some (.int .i64)) (ht : P.underlying t = some (.map k E)) (hz : (zeroValue E).run P w = .ok (.slice none 0 0) w) (hD : (D.map wEnd).Nodup) (hne : ∀ p ∈ D, p ≠ []) (m : Int) (hm : (Lit.int .i64 m).wf = true) :
    ∃ v, (Instr.lookup t (.map (some B)) (.int .i64 m) false).run P w = .ok v w ∧ Kd.R (Kd.int .i64) ti w (B + 1) ok v (wTo D m) ∧ ((wSeen D m = false ∧ v = .slice none 0 0) ∨ (wSeen D m = true ∧ ∃ ad c, v = .slice (some ad) (wTo D m).length c)) := by
  obtain ⟨es, c, h1, F, h2, h3, h4⟩ := h
  rcases Maps.fit_look false K ht hz h1 F (keyOf_int_mk hk hm) with ⟨hrun, hno, _⟩ | ⟨e0, y, hm0, hkey, hrun, _⟩
  · have hs : wSeen D m = false := by
      cases hs : wSeen D m with
      | false => rfl
      | true =>
        obtain ⟨p, hp, e⟩ := (wSeen_iff D m).1 hs
        obtain ⟨x, hx, hxk⟩ := h4 p hp
        exact absurd (by rw [hxk, e]) (hno x hx)
    exact ⟨_, hrun, by rw [wTo_none hs]; exact Kd.R_nil _ _ _ _ _, .inl ⟨hs, rfl⟩⟩
  · obtain ⟨p, hp, e, hr⟩ := h3 e0 hm0
    rw [hkey] at e
    injection e with _ e
    have ep : wTo D m = p := by rw [e]; exact wTo_of1 hD hp
    rw [ep]
    refine ⟨_, hrun, hr, .inr ⟨(wSeen_iff D m).2 ⟨p, hp, e.symm⟩, ?_⟩⟩
    obtain ⟨inner, hl, ho⟩ := Kd.R_own hr
    rcases ho with ⟨_, h0⟩ | ⟨g, cap, cur, hv, _⟩
    · exact absurd (List.eq_nil_of_length_eq_zero h0) (hne p hp)
    · exact ⟨_, cap, hv⟩
/-- A new key is filled. -/
theorem Ways.store (h : Ways P k ti w B ok D) (K : Keyed P k) (hk : P.underlying k = some (.int .i64)) (ht : P.underlying t = some (.map k E)) {v : Value} {q : List Int} {m : Int} (he : wEnd q = m) (hq : wSeen D m = false) (hm : (Lit.int .i64 m).wf = true) (hv : Kd.R (Kd.int .i64) ti w (B + 1) ok v q) (hroom : D.length < maxLen) :
    ∃ w2, (Instr.mapUpdate t (.map (some B)) (.int .i64 m) v).run P w = .ok () w2 ∧ Ways P k ti w2 B ok (D ++ [q]) ∧ w.grownBy w2 (some B) := by
  subst he
  obtain ⟨es, c, h1, F, h2, h3, h4⟩ := h
  have hkey := keyOf_int_mk hk hm
  have hno : ∀ x ∈ es.toList, x.key ≠ .int .i64 (wEnd q) := by
    intro x hx e
    obtain ⟨p, hp, e2, _⟩ := h3 x hx
    rw [e] at e2
    injection e2 with _ e2
    have := (wSeen_iff D (wEnd q)).2 ⟨p, hp, e2.symm⟩
    rw [hq] at this
    cases this
  rcases K.find w hkey es.toList F.keys with ⟨f1, _⟩ | ⟨j, e0, _, f2, f3⟩
  · have hg : w.grownBy (setBlock w B (.map (es.push ⟨.int .i64 (wEnd q), v, c⟩) (c + 1))) (some B) := ⟨rfl, rfl, rfl, by simp [setBlock], fun i _ hi => heap_setBlock_other h1 _ (fun e => hi (by rw [e]))⟩
    have mv : ∀ {u : Value} {p : List Int}, Kd.R (Kd.int .i64) ti w (B + 1) ok u p → Kd.R (Kd.int .i64) ti (setBlock w B (.map (es.push ⟨.int .i64 (wEnd q), v, c⟩) (c + 1))) (B + 1) ok u p := fun hr =>
      Kd.R_mono (Kd.R_grown (Kd.R_bound hr) hg (fun j hj e => by have := hj.2.1; cases e; omega)) (fun _ hj => hj.1)
    refine ⟨_, ?_, ⟨_, _, heap_setBlock_same h1 _, ⟨?_, stamped_push F.stamped hno, ?_⟩, ?_, ?_, ?_⟩, hg⟩
    · simp [Instr.mapUpdate, run_underlying ht, MapKept.run_getObj_map h1, K.check w false hkey, f1, MapKept.run_setObj_map _ h1, Result.andThen, setBlock]
    · simp; omega
    · intro x hx
      simp only [Array.toList_push, List.mem_append, List.mem_singleton] at hx
      rcases hx with hx | rfl
      · exact F.reads x hx
      · exact ⟨_, Go.WideElems.rd_mk hkey rfl⟩
    · simp [h2]
    · intro x hx
      simp only [Array.toList_push, List.mem_append, List.mem_singleton] at hx
      rcases hx with hx | rfl
      · obtain ⟨p, hp, e, hr⟩ := h3 x hx
        exact ⟨p, List.mem_append_left _ hp, e, mv hr⟩
      · exact ⟨q, List.mem_append_right _ (by simp), rfl, mv hv⟩
    · intro p hp
      rcases List.mem_append.1 hp with hp | hp
      · obtain ⟨x, hx, e⟩ := h4 p hp
        exact ⟨x, by simp [hx], e⟩
      · simp at hp
        rw [hp]
        exact ⟨⟨.int .i64 (wEnd q), v, c⟩, by simp, rfl⟩
  · exact absurd f3 (hno e0 (List.mem_of_getElem? f2))
theorem Ways.cell_ne (h : Ways P k ti w B ok D) {a : Addr} {v : Value} (hc : w.cell? a = some v) : a.block ≠ B := by
  obtain ⟨es, c, h1, _⟩ := h
  rintro rfl
  simp [World.cell?, h1] at hc
theorem Ways.own_ne (h : Ways P k ti w B ok D) {e base size n : Nat} {v : Value} {xs : List Value} (ho : w.ownsRow base e size v n xs) : some B ≠ v.ownBlock := by
  obtain ⟨es, c, h1, _⟩ := h
  intro hb
  obtain ⟨cells, hc⟩ := own_typed ho B hb.symm
  rw [h1] at hc
  cases hc
theorem Ways.row_ne (h : Ways P k ti w B ok D) {α : Type} {d : Kd α} {e base : Nat} {okr : Nat → Prop} {v : Value} {xs : List α} (hr : Kd.R d e w base okr v xs) : Kd.R d e w base (fun j => okr j ∧ j ≠ B) v xs := by
  obtain ⟨es, c, h1, _⟩ := h
  refine Kd.R_mono (Kd.R_bound hr) (fun j hj => ⟨hj.1, ?_⟩)
  rintro rfl
  obtain ⟨_, _, _, q, _, cells, hc⟩ := hj
  rw [h1] at hc
  cases hc
/-- A row of another type has been written. -/
theorem Ways.grown_row (h : Ways P k ti w B ok D) {row : Option Nat} (hg : w.grownBy w1 row) {e : TypeId} (hc : ∀ j, row = some j → ∃ cells, w.heap[j]? = some (.cells cells e (0, 0))) (hne : ti ≠ e) : Ways P k ti w1 B ok D := by
  obtain ⟨es, c, h1, F, h2, h3, h4⟩ := h
  have hB : some B ≠ row := by
    intro hb
    obtain ⟨cells, hcc⟩ := hc B hb.symm
    rw [h1] at hcc
    cases hcc
  refine ⟨es, c, (hg.block B (Array.getElem?_eq_some_iff.1 h1).1 hB).trans h1, F, h2, fun x hx => ?_, h4⟩
  obtain ⟨p, hp, e1, hr⟩ := h3 x hx
  refine ⟨p, hp, e1, Kd.R_mono (Kd.R_grown (Kd.R_bound hr) hg (fun j hj e2 => ?_)) (fun _ hj => hj.1)⟩
  obtain ⟨_, _, _, q, hq, cells, hcc⟩ := hj
  obtain ⟨cells', hc'⟩ := hc j e2.symm
  rw [hcc] at hc'
  injection hc' with hc'
  injection hc' with _ hc'
  rw [show q = ti by simpa [Kd.int, Kd.scalar] using hq] at hc'
  exact hne hc'
/-- A new map. -/
theorem Ways.made (w : World) (ok : Nat → Prop) : Ways P k ti (w.alloc (.map #[] 0)) w.heap.size ok [] :=
  ⟨#[], 0, (MapKept.heap_alloc w _).1, ⟨by simp, stamped_empty 0, by simp⟩, rfl, by simp, by simp⟩
end
section
variable {P : Program} {ops : Array Oper} {rest : List Oper} {o : Oper} {a : Act} {Q : Exit → Act → World → Prop} {w w2 : World}
theorem gate_lookup {t : TypeId} {m x : Operand} {c : Bool} {N : Tmp} (_ho : o.op = .lookup t m x c) (_hN : o.dst = some N) (h : wpList P ops Q (o :: rest) a w) : wpList P ops Q (o :: rest) a w := h
theorem gate_update {t : TypeId} {m x v : Operand} (_ho : o.op = .mapUpdate t m x v) (h : wpList P ops Q (o :: rest) a w) : wpList P ops Q (o :: rest) a w := h
theorem gate_insert {t : TypeId} {m x v : Operand} (_ho : o.op = .insert t m x v) (h : wpList P ops Q (o :: rest) a w) : wpList P ops Q (o :: rest) a w := h
theorem wp_lookup_run (hg : o.guard = none) (m x : Operand) (t : TypeId) (hop : o.op = Op.lookup t m x false) {mv key v : Value} (hm : a.eval m = mv) (hx : a.eval x = key) (hrun : (Instr.lookup t mv key false).run P w = .ok v w) (hK : wpList P ops Q rest (a.put o.dst v) w) : wpList P ops Q (o :: rest) a w := by
  refine wpList_plain hg fun K' hK' => ?_
  unfold Oper.wp
  simp [execOp, hop, hm, hx, hrun, Result.andThen]
  exact hK' _ _ hK
theorem wp_store_run (hg : o.guard = none) (m x v : Operand) (t : TypeId) (hop : o.op = Op.mapUpdate t m x v) {mv key u : Value} (hm : a.eval m = mv) (hx : a.eval x = key) (hv : a.eval v = u) (hrun : (Instr.mapUpdate t mv key u).run P w = .ok () w2) (hK : wpList P ops Q rest (a.put o.dst undef) w2) : wpList P ops Q (o :: rest) a w := by
  refine wpList_plain hg fun K' hK' => ?_
  unfold Oper.wp
  simp [execOp, hop, hm, hx, hv, hrun, Result.andThen]
  exact hK' _ _ hK
theorem wp_insert_run (hg : o.guard = none) (m x v : Operand) (t : TypeId) (hop : o.op = Op.insert t m x v) {mv key u : Value} (hm : a.eval m = mv) (hx : a.eval x = key) (hv : a.eval v = u) (hrun : (Instr.mapUpdate t mv key u).run P w = .ok () w2) (hK : wpList P ops Q rest (a.put o.dst undef) w2) : wpList P ops Q (o :: rest) a w := by
  refine wpList_plain hg fun K' hK' => ?_
  unfold Oper.wp
  simp [execOp, hop, hm, hx, hv, hrun, Result.andThen]
  exact hK' _ _ hK
end
end Go.Proofs.YtbjmnneaflmgaaaWM
