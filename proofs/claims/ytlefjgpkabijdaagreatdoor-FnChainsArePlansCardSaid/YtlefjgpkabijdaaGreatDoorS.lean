/- The library's functions over a slice that the call itself made, by the shelf's contracts, in the print's words. -/
import Derived.Test.YtlefjgpkabijdaaGreatDoorL
import Derived.Test.YtlefjgpkabijdaaGreatDoorV
import Derived.Test.YtlefjgpkabijdaaGreatDoorWMore
import Derived.Test.YtlefjgpkabijdaaGreatDoorWKept
import Derived.Lib.OwnBridge
import Derived.Below
import Derived.WalkKit
import Derived.KernelRfl
import Derived.OwnWalk
namespace Go.Proofs.YtlefjgpkabijdaaGreatDoorS
open Go.RowKit Go.Sort Go.Proofs.YtlefjgpkabijdaaGreatDoorW.PrintWords Go.Proofs.YtlefjgpkabijdaaGreatDoorW.PrintLast Go.Proofs.YtlefjgpkabijdaaGreatDoorW.PrintMore Go.Proofs.YtlefjgpkabijdaaGreatDoorV Go.Proofs.YtlefjgpkabijdaaGreatDoorL
/-- An own row that is not empty: where it lies. -/
theorem own_form {e : Nat} {w : World} {base : Nat} {ok : Nat → Prop} {v : Value} {l : List Int} (h : Kd.R (Kd.int .i64) e w base ok v l) (hp : 0 < l.length) :
    ∃ g cap, v = .slice (some ⟨g, 0, none⟩) l.length cap ∧ base ≤ g ∧ g < w.heap.size ∧ l.length ≤ cap ∧ cap ≤ maxLen ∧ Holds (Value.int .i64) w g 0 l.toArray ∧ ok g := by
  have ho : w.ownsRow base e 1 v l.length (l.map (Value.int .i64)) := Kd.own_of_R h
  obtain ⟨g, cap, rfl, h1, h2, h3, h4, _, h6⟩ := Go.Lib.holds_of_ownsRow ho (by rintro rfl; have := ho.2; rcases this with ⟨_, h⟩ | ⟨g, cap, cur, h, _⟩; omega; cases h)
  exact ⟨g, cap, rfl, h1, h2, h3, h4, h6, h.1 g rfl⟩
/-- .. behind a contract in the sort's words. -/
theorem own_after {e : Nat} {w : World} {base g cap q k : Nat} {ok : Nat → Prop} {l ys : List Int} (h : Kd.R (Kd.int .i64) e w base ok (.slice (some ⟨g, 0, none⟩) l.length cap) l) (hy : ys.length = l.length) (hk : k ≤ l.length) :
    Kd.R (Kd.int .i64) e (putRow (Value.int .i64) (Sort.ahead w q) g 0 ys.toArray) base ok (.slice (some ⟨g, 0, none⟩) k cap) (ys.take k) := by
  have ho : w.ownsRow base e 1 (.slice (some ⟨g, 0, none⟩) l.length cap) l.length (l.map (Value.int .i64)) := Kd.own_of_R h
  have := Go.Lib.ownsRow_putRow (q := q) ho hy hk
  have hl : (ys.take k).length = k := by rw [List.length_take]; omega
  refine Kd.R_of_own (enc := Value.int .i64) (h1 := fun _ => rfl) ?_ (fun k' hk' => h.1 k' hk')
  rw [hl]
  exact this
theorem own_after_all {e : Nat} {w : World} {base g cap q : Nat} {ok : Nat → Prop} {l ys : List Int} (h : Kd.R (Kd.int .i64) e w base ok (.slice (some ⟨g, 0, none⟩) l.length cap) l) (hy : ys.length = l.length) :
    Kd.R (Kd.int .i64) e (putRow (Value.int .i64) (Sort.ahead w q) g 0 ys.toArray) base ok (.slice (some ⟨g, 0, none⟩) l.length cap) ys := by
  have := own_after (q := q) (k := l.length) h hy (Nat.le_refl _)
  rwa [← hy, List.take_length, hy] at this
theorem new_blk (w : World) (o : Obj) : (w.alloc o).heap[w.heap.size]? = some o := by show (w.heap.push o)[w.heap.size]? = _; simp
theorem below_grow {B : Nat} (w : World) (os : Array Obj) (hB : B ≤ w.heap.size) : Below B w (grow w os) := ⟨rfl, rfl, rfl, by simp [grow], fun k hk => heap_grow_old _ _ (by omega)⟩
theorem below_sortWorld {B : Nat} {w0 w : World} {g q : Nat} {d : Array Int} {os : Array Obj} (h : Below B w0 w) (hg : B ≤ g) (hs : B ≤ w.heap.size) : Below B w0 (grow (putRow (Value.int .i64) (Sort.ahead w q) g 0 d) os) :=
  (Go.Lib.below_putRow (q := q) (d := d) h hg).trans (below_grow _ os (by simpa [putRow, mapBlock, Sort.ahead] using hs))
theorem kept_put {w : World} {g q : Nat} {d : Array Int} {ok : Nat → Prop} (hg : ok g) : Kept w (putRow (Value.int .i64) (Sort.ahead w q) g 0 d) ok :=
  ⟨by simp [putRow, mapBlock, Sort.ahead], fun i _ hn => by simp [putRow, mapBlock, Sort.ahead, Array.getElem?_modify, show g ≠ i from fun e => hn (e ▸ hg)]⟩

theorem sort_f43 {ti base : Nat} {w0 w : World} {ok : Nat → Prop} {v : Value} {l : List Int} (hB : Below base w0 w) (ho : Kd.R (Kd.int .i64) ti w base ok v l) (hp : 0 < l.length) (hs : l.length < 4611686018427387904) :
    Calls Tryz.prog 43 #[v] w fun e w' => e = .returned (.tuple #[]) ∧ Kd.R (Kd.int .i64) ti w' base ok v (l.mergeSort fun x y => decide (x ≤ y)) ∧ Below base w0 w' := by
  obtain ⟨b, cap, rfl, h1, h2, h3, h4, h5, h6⟩ := own_form ho hp
  have hbs : base ≤ w.heap.size := Nat.le_trans h1 (Nat.le_of_lt h2)
  have hmx : l.length ≤ 9223372036854775807 := Nat.le_trans h3 h4
  refine (AnyM.slices_Sort_int lay_sort b 0 cap l w h5 h2 hs).mono ?_
  rintro e w' ⟨rfl, n, os, rfl⟩
  refine ⟨rfl, ?_, below_sortWorld hB h1 hbs⟩
  have := own_after_all (q := n) ho (List.length_mergeSort l (le := fun x y => decide (x ≤ y)))
  exact Kd.R_below this (below_grow _ os (Nat.le_refl _))
theorem sortk_f43 {ti base : Nat} {w0 w : World} {ok : Nat → Prop} {v : Value} {l : List Int} (hB : Below base w0 w) (ho : Kd.R (Kd.int .i64) ti w base ok v l) (hp : 0 < l.length) (hs : l.length < 4611686018427387904) :
    Calls Tryz.prog 43 #[v] w fun e w' => e = .returned (.tuple #[]) ∧ Kd.R (Kd.int .i64) ti w' base ok v (l.mergeSort fun x y => decide (x ≤ y)) ∧ Below base w0 w' ∧ Kept w w' ok := by
  obtain ⟨b, cap, rfl, h1, h2, h3, h4, h5, h6⟩ := own_form ho hp
  have hbs : base ≤ w.heap.size := Nat.le_trans h1 (Nat.le_of_lt h2)
  have hmx : l.length ≤ 9223372036854775807 := Nat.le_trans h3 h4
  refine (AnyM.slices_Sort_int lay_sort b 0 cap l w h5 h2 hs).mono ?_
  rintro e w' ⟨rfl, n, os, rfl⟩
  refine ⟨rfl, ?_, below_sortWorld hB h1 hbs, (kept_put h6).below (below_grow _ os (Nat.le_refl _))⟩
  have := own_after_all (q := n) ho (List.length_mergeSort l (le := fun x y => decide (x ≤ y)))
  exact Kd.R_below this (below_grow _ os (Nat.le_refl _))

theorem comp_f44 {ti base : Nat} {w0 w : World} {ok : Nat → Prop} {v : Value} {l : List Int} (hB : Below base w0 w) (ho : Kd.R (Kd.int .i64) ti w base ok v l) (hp : 0 < l.length) (hle : (Go.Lib.compact l).length ≤ l.length) :
    Calls Tryz.prog 44 #[v] w fun e w' => ∃ v' : Value, e = .returned v' ∧ Kd.R (Kd.int .i64) ti w' base ok v' (Go.Lib.compact l) ∧ Below base w0 w' := by
  obtain ⟨b, cap, rfl, h1, h2, h3, h4, h5, h6⟩ := own_form ho hp
  have hbs : base ≤ w.heap.size := Nat.le_trans h1 (Nat.le_of_lt h2)
  have hmx : l.length ≤ 9223372036854775807 := Nat.le_trans h3 h4
  refine (AnyG.slices_Compact_int lay_comp b 0 cap l w h5 hmx h3).mono ?_
  rintro e w' ⟨rfl, q, rfl⟩
  refine ⟨_, rfl, ?_, Go.Lib.below_putRow hB h1⟩
  have := own_after (q := q) (ys := Go.Lib.compact l ++ List.replicate (l.length - (Go.Lib.compact l).length) 0) ho (by rw [List.length_append, List.length_replicate]; omega) hle
  rwa [List.take_append_of_le_length (Nat.le_refl _), List.take_length] at this
theorem compk_f44 {ti base : Nat} {w0 w : World} {ok : Nat → Prop} {v : Value} {l : List Int} (hB : Below base w0 w) (ho : Kd.R (Kd.int .i64) ti w base ok v l) (hp : 0 < l.length) (hle : (Go.Lib.compact l).length ≤ l.length) :
    Calls Tryz.prog 44 #[v] w fun e w' => ∃ v' : Value, e = .returned v' ∧ Kd.R (Kd.int .i64) ti w' base ok v' (Go.Lib.compact l) ∧ Below base w0 w' ∧ Kept w w' ok := by
  obtain ⟨b, cap, rfl, h1, h2, h3, h4, h5, h6⟩ := own_form ho hp
  have hbs : base ≤ w.heap.size := Nat.le_trans h1 (Nat.le_of_lt h2)
  have hmx : l.length ≤ 9223372036854775807 := Nat.le_trans h3 h4
  refine (AnyG.slices_Compact_int lay_comp b 0 cap l w h5 hmx h3).mono ?_
  rintro e w' ⟨rfl, q, rfl⟩
  refine ⟨_, rfl, ?_, Go.Lib.below_putRow hB h1, kept_put h6⟩
  have := own_after (q := q) (ys := Go.Lib.compact l ++ List.replicate (l.length - (Go.Lib.compact l).length) 0) ho (by rw [List.length_append, List.length_replicate]; omega) hle
  rwa [List.take_append_of_le_length (Nat.le_refl _), List.take_length] at this

theorem blk_setCells {g : Nat} {e : TypeId} : ∀ (vs : List Value) (o : Nat) (w : World) (cur : Array Value), w.heap[g]? = some (.cells cur e (0, 0)) → ∃ cur', cur'.size = cur.size ∧ (w.setCells g o vs).heap[g]? = some (.cells cur' e (0, 0))
  | [], _, _, cur, h => ⟨cur, rfl, h⟩
  | v :: r, o, w, cur, h => by
    obtain ⟨c, h1, h2⟩ := blk_setCells r (o + 1) (w.setCell ⟨g, o, none⟩ v) _ (blk_set h o v)
    exact ⟨c, by rw [h1, Array.size_setIfInBounds], h2⟩
theorem below_setCells {B : Nat} {a : World} (b : Nat) (hb : B ≤ b) : ∀ (vs : List Value) (o : Nat) {w : World}, Below B a w → Below B a (w.setCells b o vs)
  | [], _, _, h => h
  | v :: r, o, w, h => below_setCells b hb r (o + 1) ⟨h.os, h.tape, h.output, by simpa [World.setCell] using h.size, fun k hk => by rw [← h.block k hk]; exact Below.heap_setCell _ _ _ _ (by show k ≠ b; omega)⟩
theorem below_new {B : Nat} {w0 w : World} (h : Below B w0 w) (hs : B ≤ w.heap.size) (o : Obj) : Below B w0 (w.alloc o) := h.trans ((below_alloc (Below.refl w.heap.size w) o).mono hs)
/-- An own row, known by its cells. -/
theorem own_of_cells {e base g n cap : Nat} {w : World} {ok : Nat → Prop} {cur : Array Value} {l : List Int} (hb : w.heap[g]? = some (.cells cur e (0, 0))) (hg : base ≤ g) (hn : l.length = n) (hc : n ≤ cap) (hm : cap ≤ maxLen) (hs : cur.size = cap) (ho : ok g)
    (hv : ∀ j (hj : j < l.length), w.cell? ⟨g, j, none⟩ = some (.int .i64 l[j])) : Kd.R (Kd.int .i64) e w base ok (.slice (some ⟨g, 0, none⟩) n cap) l := by
  subst hn
  refine Kd.R_of_own (enc := Value.int .i64) (h1 := fun _ => rfl) ⟨by simp [encs], .inr ⟨g, cap, cur, rfl, hg, hb, hc, hm, by omega, ?_⟩⟩ (fun k hk => by cases hk; exact ho)
  apply List.ext_getElem?
  intro j
  rw [Nat.mul_one, List.getElem?_take]
  by_cases hj : j < l.length
  · rw [if_pos hj, Array.getElem?_toList, ← blk_cell hb j, hv j hj]
    simp [encs, hj]
  · rw [if_neg hj]
    simp [encs, Nat.le_of_not_lt hj]
/-- slices.Grow of the nil slice. -/
theorem grow_f45 (n : Nat) (w : World) (hn : n ≤ 1000000000) :
    Calls Tryz.prog 45 #[.slice none 0 0, .int .i64 n] w fun e w' => ∃ v : Value, e = .returned v ∧ Kd.R (Kd.int .i64) 3 w' w.heap.size (fun _ => True) v [] ∧ Below w.heap.size w w' := by
  by_cases h0 : n = 0
  · subst h0
    refine (Any8.slices_Grow_room lay_grow none 0 0 0 w (by omega) (by omega) (by omega) (by omega)).mono ?_
    rintro e w' ⟨rfl, rfl⟩
    exact ⟨_, rfl, Kd.R_nil _ _ _ _ _, Below.refl _ _⟩
  · have hi : (Tryz.prog.info? 3).map (fun i => (i.zero, i.size, i.bytes)) = some (some (.int .i64 0), 1, 8) := by kernel_rfl
    obtain ⟨i0, hi0, hz⟩ := Option.map_eq_some_iff.1 hi
    simp only [Prod.mk.injEq] at hz
    obtain ⟨z1, z2, z3⟩ := hz
    have gc1 := grownCap_ge w (0 + n) 0 3
    have gc2 := grownCap_le_maxLen w (0 + n) 0 3 (by unfold maxLen; omega)
    refine (Any8.slices_Grow_grow lay_grow i0 (.int .i64 0) hi0 z1 (by omega) none 0 0 n [] w (by omega) (by omega) (by rw [z3]; omega) (by omega) (by rw [z2]; rfl) (fun _ => rfl) (fun a h => by cases h)).mono ?_
    rintro e w' ⟨rfl, rfl⟩
    simp only [lay_grow_ren]
    generalize hG : grownCap w (0 + n) 0 3 = G at *
    obtain ⟨cu, hcu⟩ : ∃ cu, ([] : List Value).toArray ++ Builtin.zeroCells (Value.int .i64 0).cells (0 + n - 0) ++ Builtin.zeroCells (Value.int .i64 0).cells (G - (0 + n)) = cu := ⟨_, rfl⟩
    have zc : ∀ n, (Builtin.zeroCells (Value.int .i64 0).cells n).size = n := fun n => by simp [Builtin.zeroCells, Value.cells]
    have hcus : cu.size = G := by rw [← hcu]; simp [zc]; omega
    rw [hcu]
    have hd : (w.drew.alloc (.cells cu 3)).heap[w.heap.size]? = some (.cells cu 3 (0, 0)) := by show (w.heap.push (.cells cu 3))[w.heap.size]? = _; simp
    refine ⟨_, rfl, own_of_cells (l := []) hd (Nat.le_refl _) rfl (by omega) gc2 hcus trivial (fun j hj => absurd hj (Nat.not_lt_zero _)), ?_⟩
    exact below_new (w := w.drew) (below_drew (Below.refl _ _)) (Nat.le_refl _) _


end Go.Proofs.YtlefjgpkabijdaaGreatDoorS
