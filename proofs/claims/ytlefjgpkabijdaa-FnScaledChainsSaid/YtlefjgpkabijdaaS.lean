/- The library's functions over a slice that the call itself made, by the shelf's contracts, in the print's words. -/
import Derived.Test.YtlefjgpkabijdaaL
import Derived.Test.YtlefjgpkabijdaaV
import Derived.Test.YtlefjgpkabijdaaWMore
import Derived.Test.YtlefjgpkabijdaaWKept
import Derived.Lib.OwnBridge
import Derived.Below
import Derived.WalkKit
import Derived.KernelRfl
import Derived.OwnWalk
namespace Go.Proofs.YtlefjgpkabijdaaS
open Go.RowKit Go.Sort Go.Proofs.YtlefjgpkabijdaaW.PrintWords Go.Proofs.YtlefjgpkabijdaaW.PrintLast Go.Proofs.YtlefjgpkabijdaaW.PrintMore Go.Proofs.YtlefjgpkabijdaaV Go.Proofs.YtlefjgpkabijdaaL
/-- An own row that is not empty: where it lies. -/
theorem own_form {e : Nat} {w : World} {base : Nat} {ok : Nat → Prop} {v : Value} {l : List Int} (h : Kd.R (Kd.int .i64) e w base ok v l) (hp : 0 < l.length) :
    ∃ g cap, v = .slice (some ⟨g, 0, none⟩) l.length cap ∧ base ≤ g ∧ g < w.heap.size ∧ l.length ≤ cap ∧ cap ≤ maxLen ∧ Holds (Value.int .i64) w g 0 l.toArray ∧ ok g := by
  have ho : w.ownsRow base e 1 v l.length (l.map (Value.int .i64)) := Kd.own_of_R h
  obtain ⟨g, cap, rfl, h1, h2, h3, h4, _, h6⟩ := Go.Lib.holds_of_ownsRow ho (by rintro rfl; have := ho.2; rcases this with ⟨_, h⟩ | ⟨g, cap, cur, h, _⟩; omega; cases h)
  exact ⟨g, cap, rfl, h1, h2, h3, h4, h6, h.1 g rfl⟩
/-- .. behind a contract in the sort's words. -/
theorem own_after {e : Nat} {w : World} {base g cap q k : Nat} {ok : Nat → Prop} {l ys : List Int} (h : Kd.R (Kd.int .i64) e w base ok (.slice (some ⟨g, 0, none⟩) l.length cap) l) (hy : ys.length = l.length) (hk : k ≤ l.length) :
    Kd.R (Kd.int .i64) e (putRow (Value.int .i64) (Sort.ahead w q) g 0 ys.toArray) base ok (.slice (some ⟨g, 0, none⟩) k cap) (ys.take k) := by
  have ho : w.ownsRow base e 1 (.slice (some ⟨g, 0, none⟩) l.length cap) l.length (l.map (Value.int .i64)) := Kd.own_of_R h
  have := Go.Lib.ownsRow_putRow (q := q) ho hy hk
  have hl : (ys.take k).length = k := by rw [List.length_take]; omega
  refine Kd.R_of_own (enc := Value.int .i64) (h1 := fun _ => rfl) ?_ (fun k' hk' => h.1 k' hk')
  rw [hl]
  exact this
theorem own_after_all {e : Nat} {w : World} {base g cap q : Nat} {ok : Nat → Prop} {l ys : List Int} (h : Kd.R (Kd.int .i64) e w base ok (.slice (some ⟨g, 0, none⟩) l.length cap) l) (hy : ys.length = l.length) :
    Kd.R (Kd.int .i64) e (putRow (Value.int .i64) (Sort.ahead w q) g 0 ys.toArray) base ok (.slice (some ⟨g, 0, none⟩) l.length cap) ys := by
  have := own_after (q := q) (k := l.length) h hy (Nat.le_refl _)
  rwa [← hy, List.take_length, hy] at this
theorem new_blk (w : World) (o : Obj) : (w.alloc o).heap[w.heap.size]? = some o := by show (w.heap.push o)[w.heap.size]? = _; simp
theorem below_grow {B : Nat} (w : World) (os : Array Obj) (hB : B ≤ w.heap.size) : Below B w (grow w os) := ⟨rfl, rfl, rfl, by simp [grow], fun k hk => heap_grow_old _ _ (by omega)⟩
theorem below_sortWorld {B : Nat} {w0 w : World} {g q : Nat} {d : Array Int} {os : Array Obj} (h : Below B w0 w) (hg : B ≤ g) (hs : B ≤ w.heap.size) : Below B w0 (grow (putRow (Value.int .i64) (Sort.ahead w q) g 0 d) os) :=
  (Go.Lib.below_putRow (q := q) (d := d) h hg).trans (below_grow _ os (by simpa [putRow, mapBlock, Sort.ahead] using hs))
theorem kept_put {w : World} {g q : Nat} {d : Array Int} {ok : Nat → Prop} (hg : ok g) : Kept w (putRow (Value.int .i64) (Sort.ahead w q) g 0 d) ok :=
  ⟨by simp [putRow, mapBlock, Sort.ahead], fun i _ hn => by simp [putRow, mapBlock, Sort.ahead, Array.getElem?_modify, show g ≠ i from fun e => hn (e ▸ hg)]⟩
theorem del_f57 {ti base : Nat} {w0 w : World} {ok : Nat → Prop} {v : Value} {l : List Int} (p : Int → Bool) (g : Nat) (lb : Array Value) (eg : ∀ args w, (callFunc g args).run Try.prog w = .ok (.enter g args) w) (hB : Below base w0 w) (ho : Kd.R (Kd.int .i64) ti w base ok v l) (hp : 0 < l.length)
    (hg : ∀ (W : World) (x : Int), Below base w0 W → FnGives Try.prog g lb #[.int .i64 x] (.bool (p x)) W) :
    Calls Try.prog 57 #[v, .func (.func g) #[] lb] w fun e w' => ∃ v' : Value, e = .returned v' ∧ Kd.R (Kd.int .i64) ti w' base ok v' (l.filter fun x => !p x) ∧ Below base w0 w' := by
  obtain ⟨b, cap, rfl, h1, h2, h3, h4, h5, h6⟩ := own_form ho hp
  have hbs : base ≤ w.heap.size := Nat.le_trans h1 (Nat.le_of_lt h2)
  have hmx : l.length ≤ 9223372036854775807 := Nat.le_trans h3 h4
  have c := AnyE.slices_DeleteFunc lay_delf (Value.int .i64) (fun _ => rfl) p g lb eg 0 Try.zeroValue3 b 0 cap l.toArray w
    (fun W x hW => hg W x (hB.trans (hW.mono hbs))) (fun n os dk x _ => hg _ x (below_sortWorld hB h1 hbs)) h5 (by simpa using hmx) (by simpa using h3)
  simp only [List.size_toArray] at c
  change Calls Try.prog 57 #[.slice (some ⟨b, 0, none⟩) l.length cap, .func (.func g) #[] lb] w _ at c
  refine c.mono ?_
  rintro e w' ⟨rfl, q, rfl⟩
  have hle : (l.filter fun x => !p x).length ≤ l.length := List.length_filter_le ..
  refine ⟨_, rfl, ?_, Go.Lib.below_putRow hB h1⟩
  have := own_after (q := q) (ys := (l.filter fun x => !p x) ++ List.replicate (l.length - (l.filter fun x => !p x).length) 0) ho (by rw [List.length_append, List.length_replicate]; omega) hle
  rwa [List.take_append_of_le_length (Nat.le_refl _), List.take_length] at this

theorem sort_f77 {ti base : Nat} {w0 w : World} {ok : Nat → Prop} {v : Value} {l : List Int} (hB : Below base w0 w) (ho : Kd.R (Kd.int .i64) ti w base ok v l) (hp : 0 < l.length) (hs : l.length < 4611686018427387904) :
    Calls Try.prog 77 #[v] w fun e w' => e = .returned (.tuple #[]) ∧ Kd.R (Kd.int .i64) ti w' base ok v (l.mergeSort fun x y => decide (x ≤ y)) ∧ Below base w0 w' := by
  obtain ⟨b, cap, rfl, h1, h2, h3, h4, h5, h6⟩ := own_form ho hp
  have hbs : base ≤ w.heap.size := Nat.le_trans h1 (Nat.le_of_lt h2)
  have hmx : l.length ≤ 9223372036854775807 := Nat.le_trans h3 h4
  refine (AnyM.slices_Sort_int lay_sort b 0 cap l w h5 h2 hs).mono ?_
  rintro e w' ⟨rfl, n, os, rfl⟩
  refine ⟨rfl, ?_, below_sortWorld hB h1 hbs⟩
  have := own_after_all (q := n) ho (List.length_mergeSort l (le := fun x y => decide (x ≤ y)))
  exact Kd.R_below this (below_grow _ os (Nat.le_refl _))
theorem sortk_f77 {ti base : Nat} {w0 w : World} {ok : Nat → Prop} {v : Value} {l : List Int} (hB : Below base w0 w) (ho : Kd.R (Kd.int .i64) ti w base ok v l) (hp : 0 < l.length) (hs : l.length < 4611686018427387904) :
    Calls Try.prog 77 #[v] w fun e w' => e = .returned (.tuple #[]) ∧ Kd.R (Kd.int .i64) ti w' base ok v (l.mergeSort fun x y => decide (x ≤ y)) ∧ Below base w0 w' ∧ Kept w w' ok := by
  obtain ⟨b, cap, rfl, h1, h2, h3, h4, h5, h6⟩ := own_form ho hp
  have hbs : base ≤ w.heap.size := Nat.le_trans h1 (Nat.le_of_lt h2)
  have hmx : l.length ≤ 9223372036854775807 := Nat.le_trans h3 h4
  refine (AnyM.slices_Sort_int lay_sort b 0 cap l w h5 h2 hs).mono ?_
  rintro e w' ⟨rfl, n, os, rfl⟩
  refine ⟨rfl, ?_, below_sortWorld hB h1 hbs, (kept_put h6).below (below_grow _ os (Nat.le_refl _))⟩
  have := own_after_all (q := n) ho (List.length_mergeSort l (le := fun x y => decide (x ≤ y)))
  exact Kd.R_below this (below_grow _ os (Nat.le_refl _))

theorem comp_f78 {ti base : Nat} {w0 w : World} {ok : Nat → Prop} {v : Value} {l : List Int} (hB : Below base w0 w) (ho : Kd.R (Kd.int .i64) ti w base ok v l) (hp : 0 < l.length) (hle : (Go.Lib.compact l).length ≤ l.length) :
    Calls Try.prog 78 #[v] w fun e w' => ∃ v' : Value, e = .returned v' ∧ Kd.R (Kd.int .i64) ti w' base ok v' (Go.Lib.compact l) ∧ Below base w0 w' := by
  obtain ⟨b, cap, rfl, h1, h2, h3, h4, h5, h6⟩ := own_form ho hp
  have hbs : base ≤ w.heap.size := Nat.le_trans h1 (Nat.le_of_lt h2)
  have hmx : l.length ≤ 9223372036854775807 := Nat.le_trans h3 h4
  refine (AnyG.slices_Compact_int lay_comp b 0 cap l w h5 hmx h3).mono ?_
  rintro e w' ⟨rfl, q, rfl⟩
  refine ⟨_, rfl, ?_, Go.Lib.below_putRow hB h1⟩
  have := own_after (q := q) (ys := Go.Lib.compact l ++ List.replicate (l.length - (Go.Lib.compact l).length) 0) ho (by rw [List.length_append, List.length_replicate]; omega) hle
  rwa [List.take_append_of_le_length (Nat.le_refl _), List.take_length] at this
theorem compk_f78 {ti base : Nat} {w0 w : World} {ok : Nat → Prop} {v : Value} {l : List Int} (hB : Below base w0 w) (ho : Kd.R (Kd.int .i64) ti w base ok v l) (hp : 0 < l.length) (hle : (Go.Lib.compact l).length ≤ l.length) :
    Calls Try.prog 78 #[v] w fun e w' => ∃ v' : Value, e = .returned v' ∧ Kd.R (Kd.int .i64) ti w' base ok v' (Go.Lib.compact l) ∧ Below base w0 w' ∧ Kept w w' ok := by
  obtain ⟨b, cap, rfl, h1, h2, h3, h4, h5, h6⟩ := own_form ho hp
  have hbs : base ≤ w.heap.size := Nat.le_trans h1 (Nat.le_of_lt h2)
  have hmx : l.length ≤ 9223372036854775807 := Nat.le_trans h3 h4
  refine (AnyG.slices_Compact_int lay_comp b 0 cap l w h5 hmx h3).mono ?_
  rintro e w' ⟨rfl, q, rfl⟩
  refine ⟨_, rfl, ?_, Go.Lib.below_putRow hB h1, kept_put h6⟩
  have := own_after (q := q) (ys := Go.Lib.compact l ++ List.replicate (l.length - (Go.Lib.compact l).length) 0) ho (by rw [List.length_append, List.length_replicate]; omega) hle
  rwa [List.take_append_of_le_length (Nat.le_refl _), List.take_length] at this

theorem blk_setCells {g : Nat} {e : TypeId} : ∀ (vs : List Value) (o : Nat) (w : World) (cur : Array Value), w.heap[g]? = some (.cells cur e (0, 0)) → ∃ cur', cur'.size = cur.size ∧ (w.setCells g o vs).heap[g]? = some (.cells cur' e (0, 0))
  | [], _, _, cur, h => ⟨cur, rfl, h⟩
  | v :: r, o, w, cur, h => by
    obtain ⟨c, h1, h2⟩ := blk_setCells r (o + 1) (w.setCell ⟨g, o, none⟩ v) _ (blk_set h o v)
    exact ⟨c, by rw [h1, Array.size_setIfInBounds], h2⟩
theorem below_setCells {B : Nat} {a : World} (b : Nat) (hb : B ≤ b) : ∀ (vs : List Value) (o : Nat) {w : World}, Below B a w → Below B a (w.setCells b o vs)
  | [], _, _, h => h
  | v :: r, o, w, h => below_setCells b hb r (o + 1) ⟨h.os, h.tape, h.output, by simpa [World.setCell] using h.size, fun k hk => by rw [← h.block k hk]; exact Below.heap_setCell _ _ _ _ (by show k ≠ b; omega)⟩
theorem below_new {B : Nat} {w0 w : World} (h : Below B w0 w) (hs : B ≤ w.heap.size) (o : Obj) : Below B w0 (w.alloc o) := h.trans ((below_alloc (Below.refl w.heap.size w) o).mono hs)
/-- An own row, known by its cells. -/
theorem own_of_cells {e base g n cap : Nat} {w : World} {ok : Nat → Prop} {cur : Array Value} {l : List Int} (hb : w.heap[g]? = some (.cells cur e (0, 0))) (hg : base ≤ g) (hn : l.length = n) (hc : n ≤ cap) (hm : cap ≤ maxLen) (hs : cur.size = cap) (ho : ok g)
    (hv : ∀ j (hj : j < l.length), w.cell? ⟨g, j, none⟩ = some (.int .i64 l[j])) : Kd.R (Kd.int .i64) e w base ok (.slice (some ⟨g, 0, none⟩) n cap) l := by
  subst hn
  refine Kd.R_of_own (enc := Value.int .i64) (h1 := fun _ => rfl) ⟨by simp [encs], .inr ⟨g, cap, cur, rfl, hg, hb, hc, hm, by omega, ?_⟩⟩ (fun k hk => by cases hk; exact ho)
  apply List.ext_getElem?
  intro j
  rw [Nat.mul_one, List.getElem?_take]
  by_cases hj : j < l.length
  · rw [if_pos hj, Array.getElem?_toList, ← blk_cell hb j, hv j hj]
    simp [encs, hj]
  · rw [if_neg hj]
    simp [encs, Nat.le_of_not_lt hj]
/-- slices.Grow of the nil slice. -/
theorem grow_f79 (n : Nat) (w : World) (hn : n ≤ 1000000000) :
    Calls Try.prog 79 #[.slice none 0 0, .int .i64 n] w fun e w' => ∃ v : Value, e = .returned v ∧ Kd.R (Kd.int .i64) 3 w' w.heap.size (fun _ => True) v [] ∧ Below w.heap.size w w' := by
  by_cases h0 : n = 0
  · subst h0
    refine (Any8.slices_Grow_room lay_grow none 0 0 0 w (by omega) (by omega) (by omega) (by omega)).mono ?_
    rintro e w' ⟨rfl, rfl⟩
    exact ⟨_, rfl, Kd.R_nil _ _ _ _ _, Below.refl _ _⟩
  · have hi : (Try.prog.info? 3).map (fun i => (i.zero, i.size, i.bytes)) = some (some (.int .i64 0), 1, 8) := by kernel_rfl
    obtain ⟨i0, hi0, hz⟩ := Option.map_eq_some_iff.1 hi
    simp only [Prod.mk.injEq] at hz
    obtain ⟨z1, z2, z3⟩ := hz
    have gc1 := grownCap_ge w (0 + n) 0 3
    have gc2 := grownCap_le_maxLen w (0 + n) 0 3 (by unfold maxLen; omega)
    refine (Any8.slices_Grow_grow lay_grow i0 (.int .i64 0) hi0 z1 (by omega) none 0 0 n [] w (by omega) (by omega) (by rw [z3]; omega) (by omega) (by rw [z2]; rfl) (fun _ => rfl) (fun a h => by cases h)).mono ?_
    rintro e w' ⟨rfl, rfl⟩
    simp only [lay_grow_ren]
    generalize hG : grownCap w (0 + n) 0 3 = G at *
    obtain ⟨cu, hcu⟩ : ∃ cu, ([] : List Value).toArray ++ Builtin.zeroCells (Value.int .i64 0).cells (0 + n - 0) ++ Builtin.zeroCells (Value.int .i64 0).cells (G - (0 + n)) = cu := ⟨_, rfl⟩
    have zc : ∀ n, (Builtin.zeroCells (Value.int .i64 0).cells n).size = n := fun n => by simp [Builtin.zeroCells, Value.cells]
    have hcus : cu.size = G := by rw [← hcu]; simp [zc]; omega
    rw [hcu]
    have hd : (w.drew.alloc (.cells cu 3)).heap[w.heap.size]? = some (.cells cu 3 (0, 0)) := by show (w.heap.push (.cells cu 3))[w.heap.size]? = _; simp
    refine ⟨_, rfl, own_of_cells (l := []) hd (Nat.le_refl _) rfl (by omega) gc2 hcus trivial (fun j hj => absurd hj (Nat.not_lt_zero _)), ?_⟩
    exact below_new (w := w.drew) (below_drew (Below.refl _ _)) (Nat.le_refl _) _

/-- slices.Insert of one number. -/
theorem ins_f52 {base : Nat} {w0 w : World} {ok : Nat → Prop} {v : Value} {l : List Int} (i : Nat) (x : Int) (vb vc : Nat) (hB : Below base w0 w) (ho : Kd.R (Kd.int .i64) 3 w base ok v l) (hp : 0 < l.length) (hi : i ≤ l.length) (hs : l.length ≤ 1000000)
    (hx : w.heap[vb]? = some (.cells #[.int .i64 x] 3 (0, 0))) (hne : some vb ≠ v.ownBlock) :
    Calls Try.prog 52 #[v, .int .i64 i, .slice (some ⟨vb, 0, none⟩) 1 vc] w fun e w' => ∃ v' : Value, e = .returned v' ∧ Kd.R (Kd.int .i64) 3 w' base (fun k => ok k ∨ w.heap.size ≤ k) v' (l.take i ++ x :: l.drop i) ∧ Below base w0 w' := by
  obtain ⟨b, cap, rfl, h1, h2, h3, h4, h5, h6⟩ := own_form ho hp
  have hbs : base ≤ w.heap.size := Nat.le_trans h1 (Nat.le_of_lt h2)
  have hvb : vb ≠ b := fun e => hne (by rw [e]; rfl)
  obtain ⟨_, hcase⟩ : w.ownsRow base 3 1 (.slice (some ⟨b, 0, none⟩) l.length cap) l.length (l.map (Value.int .i64)) := Kd.own_of_R ho
  obtain ⟨cur, hcur, hsz⟩ : ∃ cur : Array Value, w.heap[b]? = some (.cells cur 3 (0, 0)) ∧ cur.size = cap := by
    rcases hcase with ⟨e0, _⟩ | ⟨g', cap', cur, e0, _, hg, _, _, hs, _⟩
    · cases e0
    · cases e0; exact ⟨cur, hg, by omega⟩
  have cc : ∀ j (hj : j < l.length), w.cell? ⟨b, j, none⟩ = some (.int .i64 l[j]) := fun j hj => by
    have := (h5 j (by simpa using hj)).1
    rw [Nat.zero_add] at this
    rw [this]; simp [getElem!_pos, hj]
  have hcs : ∀ j u, (l.map (Value.int .i64))[j]? = some u → w.cell? ⟨b, 0 + j, none⟩ = some u := fun j u hj => by
    rw [List.getElem?_map] at hj
    obtain ⟨y, hy, rfl⟩ := Option.map_eq_some_iff.1 hj
    obtain ⟨hl, rfl⟩ := List.getElem?_eq_some_iff.1 hy
    rw [Nat.zero_add]; exact cc j hl
  have hvs : ∀ j u, ([Value.int .i64 x])[j]? = some u → w.cell? ⟨vb, 0 + j, none⟩ = some u := fun j u hj => by
    match j, hj with
    | 0, hj => cases hj; exact (blk_cell hx 0).trans rfl
    | j + 1, hj => simp at hj
  have o1 : ∀ u ∈ l.map (Value.int .i64), u.oneCell' = true := fun u hu => by obtain ⟨y, _, rfl⟩ := List.mem_map.1 hu; rfl
  have o2 : ∀ u ∈ [Value.int .i64 x], u.oneCell' = true := fun u hu => by rw [List.mem_singleton.1 hu]; rfl
  have res : ∀ j (hj : j < (l.take i ++ x :: l.drop i).length), (l.take i ++ x :: l.drop i)[j] = if h : j < i then l[j] else if j = i then x else l[j - 1]'(by simp at hj; omega) := fun j hj => by
    by_cases c : j < i
    · rw [dif_pos c, List.getElem_append_left (by rw [List.length_take]; omega), List.getElem_take]
    · rw [dif_neg c, List.getElem_append_right (by rw [List.length_take]; omega)]
      by_cases d : j = i
      · subst d; rw [if_pos rfl]; simp [Nat.min_eq_left hi]
      · rw [if_neg d]
        have e : j - (l.take i).length = (j - 1 - i) + 1 := by rw [List.length_take]; omega
        simp only [e, List.getElem_cons_succ, List.getElem_drop]
        congr 1; omega
  have rl : (l.take i ++ x :: l.drop i).length = l.length + 1 := by simp; omega
  have gc1 := grownCap_ge w (l.length + 1) cap 3
  have gc2 := grownCap_le_maxLen w (l.length + 1) cap 3 (by unfold maxLen; omega)
  by_cases room : l.length + 1 ≤ cap
  · have sp : ∀ j, j < l.length + 1 → (w.cell? ⟨b, 0 + j, none⟩).isSome = true := fun j hj => by rw [Nat.zero_add, blk_cell hcur]; simp [show j < cur.size by omega]
    have fz : ∀ j, w.frozen? ⟨b, j, none⟩ = false := fun j => blk_frozen hcur j
    rcases Nat.lt_or_ge i l.length with hlt | hge
    · have c := Any2.slices_Insert_int_shift lay_ins b 0 l.length cap i vb 0 1 vc (l.map (Value.int .i64)) [.int .i64 x] w hlt (by omega) room h4 hvb (by simp) rfl hcs sp (fun j _ => fz _) hvs o1 o2 3 3 1 cap (by simp [World.shape?, hx]) (by simp [World.shape?, hcur, hsz]) (by omega) (blk_frozen hx _) (blk_frozen hx _)
      refine c.mono ?_
      rintro e w' ⟨rfl, rfl⟩
      simp only [Nat.zero_add]
      have hd : (w.drew).heap[b]? = some (.cells cur 3 (0, 0)) := hcur
      obtain ⟨c1, s1, b1⟩ := blk_setCells ((l.map (Value.int .i64)).drop i) (i + 1) w.drew cur hd
      obtain ⟨c2, s2, b2⟩ := blk_setCells [.int .i64 x] i _ c1 b1
      refine ⟨_, rfl, own_of_cells b2 h1 rl (by omega) h4 (by omega) (.inl h6) (fun j hj => ?_), below_setCells b h1 _ _ (below_setCells b h1 _ _ ⟨hB.os, hB.tape, hB.output, hB.size, hB.block⟩)⟩
      rw [res j hj]
      rw [rl] at hj
      by_cases d : j = i
      · subst d
        rw [dif_neg (by omega), if_pos rfl]
        have := World.cell?_setCells_in b [.int .i64 x] j _ (fun q hq => by simp at hq; subst hq; rw [Nat.add_zero, blk_cell b1]; simp [show j < c1.size by omega]) 0 (by simp)
        exact this
      · rw [World.cell?_setCells_out b _ _ _ _ (fun _ _ => by simp; omega)]
        by_cases c : j < i
        · rw [dif_pos c, World.cell?_setCells_out b _ _ _ _ (fun _ _ => .inl (by show j < i + 1; omega))]
          exact cc j (by omega)
        · rw [dif_neg c, if_neg d]
          have := World.cell?_setCells_in b ((l.map (Value.int .i64)).drop i) (i + 1) w.drew (fun q hq => by simp at hq; rw [blk_cell hd]; simp [show i + 1 + q < cur.size by omega]) (j - 1 - i) (by simp; omega)
          rw [show i + 1 + (j - 1 - i) = j by omega] at this
          rw [this]
          simp [show i + (j - 1 - i) = j - 1 by omega]
    · obtain rfl : i = l.length := by omega
      have c := Any2.slices_Insert_int_end_room lay_ins b 0 l.length cap vb 0 1 vc [.int .i64 x] w (by omega) room h4 rfl (fun j hj => by have := sp (l.length + j) (by omega); rwa [show 0 + (l.length + j) = 0 + l.length + j by omega] at this) (fun j _ => fz _) hvs o2
      refine c.mono ?_
      rintro e w' ⟨rfl, rfl⟩
      simp only [Nat.zero_add]
      obtain ⟨c2, s2, b2⟩ := blk_setCells [.int .i64 x] l.length w cur hcur
      refine ⟨_, rfl, own_of_cells b2 h1 rl (by omega) h4 (by omega) (.inl h6) (fun j hj => ?_), below_setCells b h1 _ _ hB⟩
      rw [res j hj]
      rw [rl] at hj
      by_cases d : j = l.length
      · subst d
        rw [dif_neg (by omega), if_pos rfl]
        exact World.cell?_setCells_in b [.int .i64 x] l.length w (fun q hq => by simp at hq; subst hq; have := sp l.length (by omega); rwa [Nat.zero_add] at this) 0 (by simp)
      · rw [dif_pos (by omega), World.cell?_setCells_out b _ _ _ _ (fun _ _ => .inl (by show j < l.length; omega))]
        exact cc j (by omega)
  · rcases Nat.lt_or_ge i l.length with hlt | hge
    · have c := Any2.slices_Insert_int_grow lay_ins b 0 l.length cap i vb 0 1 vc (l.map (Value.int .i64)) [.int .i64 x] w hlt (by omega) h3 (by omega) (by omega) (by simp) rfl hcs hvs o1 o2
      refine c.mono ?_
      rintro e w' ⟨rfl, rfl⟩
      simp only [lay_ins_ren]
      generalize hG : grownCap w (l.length + 1) cap 3 = G at *
      obtain ⟨cu, hcu⟩ : ∃ cu, ((l.map (Value.int .i64)).take i).toArray ++ Builtin.zeroCells (Value.int .i64 0).cells (l.length + 1 - i) ++ Builtin.zeroCells (Value.int .i64 0).cells (G - (l.length + 1)) = cu := ⟨_, rfl⟩
      have zc : ∀ n, (Builtin.zeroCells (Value.int .i64 0).cells n).size = n := fun n => by simp [Builtin.zeroCells, Value.cells]
      have hcus : cu.size = G := by rw [← hcu]; simp [zc]; omega
      rw [hcu]
      have hd : ((w.alloc (.cells cu 3)).drew).heap[w.heap.size]? = some (.cells cu 3 (0, 0)) := by show (w.heap.push (.cells cu 3))[w.heap.size]? = _; simp
      obtain ⟨c1, s1, b1⟩ := blk_setCells [.int .i64 x] i _ cu hd
      have b1' : (((w.alloc (.cells cu 3)).drew.setCells w.heap.size i [.int .i64 x]).drew).heap[w.heap.size]? = some (.cells c1 3 (0, 0)) := b1
      obtain ⟨c2, s2, b2⟩ := blk_setCells ((l.map (Value.int .i64)).drop i) (i + 1) _ c1 b1'
      refine ⟨_, rfl, own_of_cells b2 hbs rl (by omega) gc2 (by omega) (.inr (Nat.le_refl _)) (fun j hj => ?_), ?_⟩
      · rw [res j hj]
        rw [rl] at hj
        by_cases c : j < i
        · rw [dif_pos c, World.cell?_setCells_out _ _ _ _ _ (fun _ _ => .inl (by show j < i + 1; omega))]
          show ((w.alloc (.cells cu 3)).drew.setCells w.heap.size i [.int .i64 x]).cell? _ = _
          rw [World.cell?_setCells_out _ _ _ _ _ (fun _ _ => .inl c), blk_cell hd, ← hcu]
          rw [Array.getElem?_append_left (by simp; omega), Array.getElem?_append_left (by simp; omega)]
          simp [show j < i from c, show j < l.length by omega]
        · rw [dif_neg c]
          by_cases d : j = i
          · subst d
            rw [if_pos rfl, World.cell?_setCells_out _ _ _ _ _ (fun _ _ => .inl (by show j < j + 1; omega))]
            exact World.cell?_setCells_in _ [.int .i64 x] j _ (fun q hq => by simp at hq; subst hq; rw [Nat.add_zero, blk_cell hd]; simp [show j < cu.size by omega]) 0 (by simp)
          · rw [if_neg d]
            have := World.cell?_setCells_in w.heap.size ((l.map (Value.int .i64)).drop i) (i + 1) _ (fun q hq => by simp at hq; rw [blk_cell b1']; simp [show i + 1 + q < c1.size by omega]) (j - 1 - i) (by simp; omega)
            rw [show i + 1 + (j - 1 - i) = j by omega] at this
            rw [this]
            simp [show i + (j - 1 - i) = j - 1 by omega]
      · refine below_setCells _ hbs _ _ ?_
        have := below_setCells (B := base) (a := w0) w.heap.size hbs [.int .i64 x] i (w := (w.alloc (.cells cu 3)).drew) (by have := below_new hB hbs (.cells cu 3); exact ⟨this.os, this.tape, this.output, this.size, this.block⟩)
        exact ⟨this.os, this.tape, this.output, this.size, this.block⟩
    · obtain rfl : i = l.length := by omega
      have c := Any2.slices_Insert_int_end_grow lay_ins (some ⟨b, 0, none⟩) l.length cap vb 0 1 vc (l.map (Value.int .i64)) [.int .i64 x] w (by omega) h3 (by omega) (by omega) (by simp) rfl (fun h => by cases h) (fun a ha j u hj => by cases ha; rw [Addr.add_lit]; exact hcs j u hj) hvs o2
      refine c.mono ?_
      rintro e w' ⟨rfl, rfl⟩
      simp only [lay_ins_ren]
      generalize hG : grownCap w (l.length + 1) cap 3 = G at *
      obtain ⟨cu, hcu⟩ : ∃ cu, (l.map (Value.int .i64) ++ [Value.int .i64 x]).toArray ++ Builtin.zeroCells (Value.int .i64 0).cells (G - (l.length + 1)) = cu := ⟨_, rfl⟩
      have zc : ∀ n, (Builtin.zeroCells (Value.int .i64 0).cells n).size = n := fun n => by simp [Builtin.zeroCells, Value.cells]
      have hcus : cu.size = G := by rw [← hcu]; simp [zc]; omega
      rw [hcu]
      have hd : (w.drew.alloc (.cells cu 3)).heap[w.heap.size]? = some (.cells cu 3 (0, 0)) := by show (w.heap.push (.cells cu 3))[w.heap.size]? = _; simp
      refine ⟨_, rfl, own_of_cells hd hbs rl (by omega) gc2 hcus (.inr (Nat.le_refl _)) (fun j hj => ?_), ?_⟩
      · rw [res j hj]
        rw [rl] at hj
        rw [blk_cell hd, ← hcu, Array.getElem?_append_left (by simp; omega)]
        by_cases c : j < l.length
        · rw [dif_pos c]; simp [List.getElem?_append_left, c]
        · obtain rfl : j = l.length := by omega
          rw [dif_neg c, if_pos rfl]; simp
      · exact below_new (w := w.drew) ⟨hB.os, hB.tape, hB.output, hB.size, hB.block⟩ hbs _

end Go.Proofs.YtlefjgpkabijdaaS
