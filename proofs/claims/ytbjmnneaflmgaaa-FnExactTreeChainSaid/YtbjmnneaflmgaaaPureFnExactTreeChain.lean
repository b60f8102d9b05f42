/- For every n: TreeChain of the program answers as the reference does, and shares no memory. -/
import Derived.Test.YtbjmnneaflmgaaaMFnExactTreeChainx3
import Derived.Test.YtbjmnneaflmgaaaWT
namespace Go.Proofs.Ytbjmnneaflmgaaa.Pure
open Go.RowKit Go.Proofs.Ytbjmnneaflmgaaa.MFnExactTreeChain Go.Proofs.YtbjmnneaflmgaaaW.PrintWords Go.Proofs.YtbjmnneaflmgaaaW.PrintLast Go.Proofs.YtbjmnneaflmgaaaW.PrintMore
set_option linter.unusedVariables false
set_option linter.unusedSimpArgs false
open Go.Proofs.YtbjmnneaflmgaaaWT

theorem w64 {x : Int} (h1 : -9223372036854775808 ≤ x) (h2 : x ≤ 9223372036854775807) : wrap64 x = x := by unfold wrap64; omega

theorem rd_nat (xs : List Int) (j : Nat) : rd xs (j : Int) = xs.getD j 0 := by unfold rd; rw [Int.toNat_natCast]

theorem ev_shift {α : Type} {g : Nat → Option α} {r : α} (h : Ev (fun k => g (k + 1)) r) : Ev g r := by
  obtain ⟨K, hK⟩ := h
  refine ⟨K + 1, fun k hk => ?_⟩
  obtain ⟨m, rfl⟩ : ∃ m, k = m + 1 := ⟨k - 1, by omega⟩
  exact hK m (by omega)

theorem ev_bind {α β : Type} {g : Nat → Option α} {F : Nat → α → Option β} {a : α} {r : β} (h : Ev g a) (k : Ev (fun n => F n a) r) : Ev (fun n => (g n).bind (fun x => F n x)) r := Ev.bind h k

theorem ev_some {α : Type} {g : Nat → Option α} {r : α} (h : ∀ k, g k = some r) : Ev g r := ⟨0, fun k _ => h k⟩

theorem eqIntS_same (xs : List Int) (hb : xs.length ≤ 4611686018427387904) : Ev (fun k => laws_eqIntS.f k xs xs) true := by
  have loop : ∀ (d k : Nat) (i : Int), 0 ≤ i → i ≤ xs.length → (xs.length : Int) - i = d → d < k → laws_eqIntS.l0 k xs xs i = some true := by
    intro d
    induction d with
    | zero =>
      intro k i h0 h1 hd hk
      obtain ⟨k, rfl⟩ : ∃ m, k = m + 1 := ⟨k - 1, by omega⟩
      rw [laws_eqIntS.l0, if_neg (by omega)]
    | succ d ih =>
      intro k i h0 h1 hd hk
      obtain ⟨k, rfl⟩ : ∃ m, k = m + 1 := ⟨k - 1, by omega⟩
      rw [laws_eqIntS.l0, if_pos (by omega), if_pos h0, if_pos (by omega), if_pos rfl, w64 (by omega) (by omega)]
      exact ih k (i + 1) (by omega) (by omega) (by omega) (by omega)
  refine ⟨xs.length + 1, fun k hk => ?_⟩
  show laws_eqIntS.f k xs xs = some true
  unfold laws_eqIntS.f
  rw [if_pos rfl]
  exact loop xs.length k 0 (by omega) (by omega) (by omega) (by omega)

def marked (n : Nat) (a : Int) : List Int := (List.range n).map (fun j : Nat => a + (j : Int))
theorem marked_length (n : Nat) (a : Int) : (marked n a).length = n := by simp [marked]
theorem marked_succ (n : Nat) (a : Int) : marked (n + 1) a = marked n a ++ [a + n] := by simp [marked, List.range_succ]
theorem marked_get (n : Nat) (a : Int) (j : Nat) (h : j < n) : (marked n a).getD j 0 = a + j := by simp [marked, List.getD, h]

theorem marked_step (xs : List Int) (a : Int) (i : Nat) (h : i < xs.length) : (marked i a ++ xs.drop i).set i (a + i) = marked (i + 1) a ++ xs.drop (i + 1) := by
  rw [List.set_append_right _ _ (by rw [marked_length]; exact Nat.le_refl _), marked_length, Nat.sub_self, List.drop_eq_getElem_cons h, List.set_cons_zero, marked_succ]
  simp

theorem markIntS_ev (xs : List Int) (a : Int) (h0 : 0 ≤ a) (ha : a + xs.length ≤ 4611686018427387904) : Ev (fun k => laws_markIntS.f k xs a) (a + xs.length, marked xs.length a) := by
  have loop : ∀ (d k i : Nat), i ≤ xs.length → xs.length - i = d → d < k → laws_markIntS.l0 k (marked i a ++ xs.drop i) (a + i) i = some (a + xs.length, marked xs.length a) := by
    intro d
    induction d with
    | zero =>
      intro k i h1 hd hk
      obtain ⟨k, rfl⟩ : ∃ m, k = m + 1 := ⟨k - 1, by omega⟩
      obtain rfl : i = xs.length := by omega
      have hl : (marked xs.length a ++ xs.drop xs.length).length = xs.length := by simp [marked_length]
      rw [laws_markIntS.l0, hl, if_neg (by omega)]
      simp
    | succ d ih =>
      intro k i h1 hd hk
      obtain ⟨k, rfl⟩ : ∃ m, k = m + 1 := ⟨k - 1, by omega⟩
      have hl : (marked i a ++ xs.drop i).length = xs.length := by simp [marked_length]; omega
      rw [laws_markIntS.l0, hl, if_pos (by omega), if_pos (by omega), Int.toNat_natCast, marked_step xs a i (by omega), w64 (by omega) (by omega), w64 (by omega) (by omega)]
      have e : a + (i : Int) + 1 = a + ((i + 1 : Nat) : Int) := by omega
      rw [e]
      exact ih k (i + 1) (by omega) (by omega) (by omega)
  refine ⟨xs.length + 1, fun k hk => ?_⟩
  have h := loop xs.length k 0 (by omega) (by omega) (by omega)
  simpa [marked, laws_markIntS.f] using h

theorem heldIntS_ev (n : Nat) (a : Int) (h0 : 0 ≤ a) (ha : a + n ≤ 4611686018427387904) : Ev (fun k => laws_heldIntS.f k (marked n a) a) (a + n) := by
  have loop : ∀ (d k i : Nat), i ≤ n → n - i = d → d < k → laws_heldIntS.l0 k (marked n a) (a + i) i = some (a + n) := by
    intro d
    induction d with
    | zero =>
      intro k i h1 hd hk
      obtain ⟨k, rfl⟩ : ∃ m, k = m + 1 := ⟨k - 1, by omega⟩
      obtain rfl : i = n := by omega
      rw [laws_heldIntS.l0, marked_length, if_neg (by omega)]
    | succ d ih =>
      intro k i h1 hd hk
      obtain ⟨k, rfl⟩ : ∃ m, k = m + 1 := ⟨k - 1, by omega⟩
      rw [laws_heldIntS.l0, marked_length, if_pos (by omega), if_pos (by omega), rd_nat, marked_get n a i (by omega), if_pos rfl, w64 (by omega) (by omega), w64 (by omega) (by omega)]
      have e : a + (i : Int) + 1 = a + ((i + 1 : Nat) : Int) := by omega
      rw [e]
      exact ih k (i + 1) (by omega) (by omega) (by omega)
  refine ⟨n + 1, fun k hk => ?_⟩
  have h := loop n k 0 (by omega) (by omega) (by omega)
  simpa [laws_heldIntS.f] using h

/-- The law's tail where the arguments are numbers: both sides answer (w, b): the law holds. -/
theorem tail_ (a0 : Int) (w : List Int) (b : Bool) (hw : w.length ≤ 1000000) (hs : Ev (fun k => spec_TreeChain.f k a0) (w, b)) (hi : Ev (fun k => impl_TreeChain.f a0) (w, b)) : Ev (fun k => laws_FnExactTreeChain.f k a0) true := by
  have hm := markIntS_ev w 1 (by omega) (by omega)
  have hh := heldIntS_ev w.length 1 (by omega) (by omega)
  have he := eqIntS_same w (by omega)
  have e0 : (b != b) = false := by cases b <;> rfl
  have n0 : ¬ (1 + (w.length : Int) < 0) := by omega
  have j1 : Ev (fun k => laws_FnExactTreeChain.j1 k (marked w.length 1) (1 + w.length) false) true := by
    refine ev_shift ?_
    simp only [laws_FnExactTreeChain.j1, Bool.false_eq_true, if_false]
    refine ev_bind hh ?_
    simp only [if_neg n0, if_true]
    exact Ev.now _
  have j0 : Ev (fun k => laws_FnExactTreeChain.j0 k a0 w b w false) true := by
    refine ev_shift ?_
    simp only [laws_FnExactTreeChain.j0, Bool.false_eq_true, if_false]
    refine ev_bind hm ?_
    refine ev_bind hh ?_
    simp only [if_neg n0, if_true]
    refine ev_bind hi ?_
    refine ev_bind he ?_
    simp only [if_true, e0]
    exact j1
  unfold laws_FnExactTreeChain.f
  refine ev_bind hs ?_
  refine ev_bind hi ?_
  refine ev_bind he ?_
  simp only [if_true, e0]
  exact j0

/-! the reference's tree: for each number the one before it on its way -/
theorem rd_list (xs : List Int) (i : Nat) (h : i < xs.length) : rd xs (i : Int) = xs[i] := by unfold rd; rw [Int.toNat_natCast]; simp [List.getD, h]
theorem sum64 {x a : Int} {n : Nat} (c1 : 1 ≤ x) (c2 : x ≤ n) (b1 : 1 ≤ a) (b2 : a ≤ n) (hn : n ≤ 100000) : wrap64 (x + a) = x + a := w64 (by omega) (by omega)
theorem inc64 {j n : Nat} (h : j < n) (hn : n ≤ 100000) : wrap64 ((j : Int) + 1) = ((j + 1 : Nat) : Int) := by rw [w64 (by omega) (by omega)]; omega
def par (D : List (List Int)) (x : Int) : Int := wEnd (wTo D x).dropLast
def above (n : Nat) (D : List (List Int)) : List Int := (List.range (n + 1)).map fun x : Nat => par D (x : Int)
theorem above_len (n : Nat) (D : List (List Int)) : (above n D).length = n + 1 := by unfold above; simp
theorem above_rd (n : Nat) (D : List (List Int)) (x : Int) (h0 : 0 ≤ x) (h1 : x ≤ n) : rd (above n D) x = par D x := by
  obtain ⟨m, rfl⟩ := Int.eq_ofNat_of_zero_le h0
  rw [rd_list _ _ (by rw [above_len]; omega)]
  unfold above
  simp
theorem wTo_snoc_other (D : List (List Int)) (q : List Int) (x : Int) (h : wEnd q ≠ x) : wTo (D ++ [q]) x = wTo D x := by
  unfold wTo
  rw [List.find?_append]
  cases D.find? (fun p => wEnd p == x) with
  | some p => rfl
  | none => simp [h]
theorem wTo_snoc_same (D : List (List Int)) (q : List Int) (h : wSeen D (wEnd q) = false) : wTo (D ++ [q]) (wEnd q) = q := by
  unfold wTo
  have : D.find? (fun p => wEnd p == wEnd q) = none := by
    rw [List.find?_eq_none]
    intro p hp hc
    simp at hc
    have := (wSeen_iff D (wEnd q)).2 ⟨p, hp, hc⟩
    rw [h] at this
    cases this
  rw [List.find?_append, this]
  simp
theorem above_set (n : Nat) (D : List (List Int)) (p : List Int) (x : Int) (h0 : 0 ≤ x) (hs : wSeen D x = false) : above n (D ++ [p ++ [x]]) = (above n D).set x.toNat (wEnd p) := by
  apply List.ext_getElem?
  intro i
  by_cases hi : i < n + 1
  · rw [List.getElem?_set]
    rw [above_len]
    unfold above
    rw [List.getElem?_map, List.getElem?_map, List.getElem?_range hi]
    simp only [Option.map_some]
    by_cases c : x.toNat = i
    · rw [if_pos c, if_pos (by omega)]
      have e : (i : Int) = x := by omega
      rw [e]
      have := wTo_snoc_same D (p ++ [x]) (by rw [wEnd_snoc]; exact hs)
      rw [wEnd_snoc] at this
      unfold par
      rw [this, List.dropLast_concat]
    · rw [if_neg c]
      unfold par
      rw [wTo_snoc_other D (p ++ [x]) i (by rw [wEnd_snoc]; omega)]
  · rw [List.getElem?_eq_none (by rw [above_len]; omega), List.getElem?_eq_none (by rw [List.length_set, above_len]; omega)]
theorem above_start (n : Nat) : above n [[1]] = List.replicate (n + 1) 0 := by
  apply List.ext_getElem?
  intro i
  by_cases hi : i < n + 1
  · unfold above
    rw [List.getElem?_map, List.getElem?_range hi, List.getElem?_replicate, if_pos hi]
    have e : par [[1]] (i : Int) = 0 := by
      unfold par wTo
      rw [List.find?_cons]
      cases (wEnd [1] == (i : Int)) <;> rfl
    simp only [Option.map_some, e]
  · rw [List.getElem?_eq_none (by rw [above_len]; omega), List.getElem?_eq_none (by rw [List.length_replicate]; omega)]
/-- Seen, or not: by the one before it. -/
theorem par_zero {B : Int} {D : List (List Int)} (h : WOk B D) (hw : ∀ p ∈ D, WWay D p) (x : Int) (hx : 2 ≤ x) : par D x = 0 ↔ wSeen D x = false := by
  constructor
  · intro h0
    cases hs : wSeen D x with
    | false => rfl
    | true =>
      obtain ⟨p, hp, e⟩ := (wSeen_iff D x).1 hs
      unfold par at h0
      rw [← e, wTo_of h hp] at h0
      rcases (hw p hp).made with rfl | ⟨q, hq, a, ha, rfl⟩
      · simp [wEnd] at e; omega
      · rw [List.dropLast_concat] at h0
        have := h.pos q hq _ (wEnd_mem (h.ne q hq))
        omega
  · intro hs
    unfold par
    rw [wTo_none hs]
    rfl
theorem wRun_prefix {B : Int} : ∀ d, ∀ p ∈ wRun B d, ∀ i, 1 ≤ i → i ≤ p.length → p.take i ∈ wRun B d
  | 0, p, h, i, h1, h2 => by
    simp [wRun] at h
    subst h
    simp at h2
    obtain rfl : i = 1 := by omega
    simp [wRun]
  | d + 1, p, h, i, h1, h2 => by
    rcases wRun_mem B d p h with h | ⟨q, a, hq, ha, rfl, _⟩
    · exact wRun_sub B d _ (wRun_prefix d p h i h1 h2)
    · by_cases c : i ≤ q.length
      · rw [List.take_append_of_le_length c]
        exact wRun_sub B d _ (wRun_prefix d q (List.mem_of_getElem? hq) i h1 c)
      · rw [List.take_of_length_le (by rw [List.length_append] at h2 ⊢; simp at h2 ⊢; omega)]
        exact h
theorem meWay_ev (n : Nat) (hn : 1 ≤ n) (hn2 : n ≤ 100000) (d : Nat) (p : List Int) (hp : p ∈ wRun n d) (hpl : p.length ≤ 100000) : Ev (fun k => spec_meWay.f k (above n (wRun n d)) (wEnd p)) p := by
  have ok := wRun_ok (show (1 : Int) ≤ n by omega) d
  have loop : ∀ i, i ≤ p.length → Ev (fun k => spec_meWay.l0 k (above n (wRun n d)) (wEnd (p.take i)) (p.drop i)) p := by
    intro i
    induction i with
    | zero =>
      intro _
      refine ev_shift ?_
      rw [List.take_zero, List.drop_zero]
      simp only [spec_meWay.l0, if_neg (show ¬ wEnd [] > 0 by decide)]
      exact Ev.now _
    | succ i ih =>
      intro hi
      have hm := wRun_prefix d p hp (i + 1) (by omega) hi
      have e1 := ok.pos _ hm _ (wEnd_mem (ok.ne _ hm))
      have e2 := ok.most _ hm
      have et : p.take (i + 1) = p.take i ++ [p[i]] := List.take_succ_eq_append_getElem (by omega)
      have ee : wEnd (p.take (i + 1)) = p[i] := by rw [et, wEnd_snoc]
      have epar : rd (above n (wRun n d)) (wEnd (p.take (i + 1))) = wEnd (p.take i) := by
        rw [above_rd _ _ _ (by omega) (by omega)]
        unfold par
        rw [wTo_of ok hm, et, List.dropLast_concat]
      have ed : [wEnd (p.take (i + 1))] ++ p.drop (i + 1) = p.drop i := by
        rw [ee, List.singleton_append]; exact (List.drop_eq_getElem_cons (by omega)).symm
      refine ev_shift ?_
      simp only [spec_meWay.l0, if_pos (show wEnd (p.take (i + 1)) > 0 by omega), Option.bind_some, if_pos (show [wEnd (p.take (i + 1))].length + (p.drop (i + 1)).length < 17592186044416 by rw [List.length_drop]; simp only [List.length_cons, List.length_nil]; omega), if_pos (show 0 ≤ wEnd (p.take (i + 1)) by omega), if_pos (show wEnd (p.take (i + 1)) < ((above n (wRun n d)).length : Int) by rw [above_len]; omega), epar, ed]
      exact ih (by omega)
  have := loop p.length (Nat.le_refl _)
  rw [List.take_length, List.drop_length] at this
  exact this
/-- What holds of the list within a round. -/
structure Mid (n : Nat) (D : List (List Int)) : Prop where
  ok : WOk n D
  way : ∀ p ∈ D, WWay D p
theorem mid_run (n : Nat) (hn : 1 ≤ n) (d : Nat) : Mid n (wRun n d) := ⟨wRun_ok (by omega) d, wRun_way (by omega) d⟩
theorem mid_add {n : Nat} {D : List (List Int)} (h : Mid n D) {p : List Int} (hp : p ∈ D) {a : Int} (ha : a ∈ p) : Mid n (wAdd n p D a) := by
  have pos := h.ok.pos p hp
  refine ⟨wAdd_ok h.ok pos (h.ok.ne p hp) (pos a ha), fun q hq => ?_⟩
  unfold wAdd at hq ⊢
  split at hq
  · rename_i c
    rw [if_pos c]
    rcases List.mem_append.1 hq with hq | hq
    · exact (h.way q hq).mono (fun x hx => List.mem_append_left _ hx)
    · simp at hq
      subst hq
      have w := h.way p hp
      refine ⟨List.mem_append_left _ w.one, fun x hx => ?_, .inr ⟨p, List.mem_append_left _ hp, a, ha, rfl⟩⟩
      rw [wEnd_snoc]
      have := pos a ha
      rcases List.mem_append.1 hx with hx | hx
      · have := w.top x hx; omega
      · simp at hx; omega
  · rename_i c
    rw [if_neg c]
    exact h.way q hq
theorem run_short (n : Nat) (hn : 1 ≤ n) (hn2 : n ≤ 100000) (d : Nat) (p : List Int) (hp : p ∈ wRun n d) : p.length ≤ n := by
  have ok := wRun_ok (show (1 : Int) ≤ n by omega) d
  have way := wRun_way (show (1 : Int) ≤ n by omega) d p hp
  have := wRun_up (show (1 : Int) ≤ n by omega) d p hp
  exact nodup_le n p (this.imp (fun h e => by omega)) (fun x hx => ⟨ok.pos p hp x hx, by have := way.top x hx; have := ok.most p hp; omega⟩)
theorem meTree_ev (n : Nat) (hn : 1 ≤ n) (hn2 : n ≤ 100000) : Ev (fun k => spec_meTree.f k (n : Int)) (wTo (wAll n) n) := by
  have inner : ∀ (R : List Int) (p : List Int) (e : Nat) (xs : List Int) (len i : Int) (D0 : List (List Int)), p ∈ D0 → Mid n D0 → e ≤ D0.length → D0.length ≤ n → (∀ x ∈ p, 1 ≤ x ∧ x ≤ n) → (p.foldl (wAdd n p) D0).length ≤ n → p.length ≤ n →
      Ev (fun k => spec_meTree.l1 k n (above n (p.foldl (wAdd n p) D0)) (((p.foldl (wAdd n p) D0).drop e).map wEnd) xs len (wrap64 (i + 1))) R →
      ∀ (r j : Nat), j + r = p.length → ∀ D, D = (p.take j).foldl (wAdd n p) D0 → Ev (fun k => spec_meTree.l2 k n (above n D) ((D.drop e).map wEnd) (wEnd p) xs len i p p.length j) R := by
    intro R p e xs len i D0 hp0 hmid0 he hl0 hpb hlf hpl hend r
    induction r with
    | zero =>
      intro j hj D hD
      obtain rfl : j = p.length := by omega
      rw [List.take_length] at hD
      subst hD
      refine ev_shift ?_
      simp only [spec_meTree.l2, if_neg (show ¬ (p.length : Int) < (p.length : Int) by omega)]
      exact hend
    | succ r ih =>
      intro j hj D hD
      have hjp : j < p.length := by omega
      have hmem := List.getElem_mem hjp
      have pD : p ∈ D := by
        obtain ⟨E, h⟩ := wFold_pre n p (p.take j) D0
        rw [hD, h]
        exact List.mem_append_left _ hp0
      have mids : ∀ (l : List Int) (E : List (List Int)), (∀ x ∈ l, x ∈ p) → p ∈ E → Mid n E → Mid n (l.foldl (wAdd n p) E) := by
        intro l
        induction l with
        | nil => intro E _ _ h; exact h
        | cons a l ihl =>
          intro E hl hE h
          rw [List.foldl_cons]
          refine ihl _ (fun x hx => hl x (List.mem_cons_of_mem _ hx)) ?_ (mid_add h hE (hl a List.mem_cons_self))
          obtain ⟨F, hF⟩ := wAdd_pre n p E a
          rw [hF]
          exact List.mem_append_left _ hE
      have midD : Mid n D := by rw [hD]; exact mids _ _ (fun x hx => List.mem_of_mem_take hx) hp0 hmid0
      have hDl : D.length ≤ n := by
        have h := wFold_length n p (p.drop j) ((p.take j).foldl (wAdd n p) D0)
        rw [← List.foldl_append, List.take_append_drop, ← hD] at h
        omega
      have heD : e ≤ D.length := by
        have := wFold_length n p (p.take j) D0
        rw [← hD] at this
        omega
      have hstep : (p.take (j + 1)).foldl (wAdd n p) D0 = wAdd n p D p[j] := by rw [wFold_take n p D0 j hjp, hD]
      obtain ⟨b1, b2⟩ := hpb _ hmem
      have c1 := midD.ok.pos p pD _ (wEnd_mem (midD.ok.ne p pD))
      have c2 := midD.ok.most p pD
      have hrd : rd p (j : Int) = p[j] := rd_list p j hjp
      have hnext := ih (j + 1) (by omega) _ hstep.symm
      have hdrop := wAdd_drop n p D p[j] e heD
      obtain ⟨a, ha⟩ : ∃ a, p[j] = a := ⟨_, rfl⟩
      rw [ha] at b1 b2 hrd hnext hdrop
      have w1 : wrap64 (wEnd p + a) = wEnd p + a := sum64 c1 c2 b1 b2 hn2
      have w2 : wrap64 ((j : Int) + 1) = ((j + 1 : Nat) : Int) := inc64 hjp (Nat.le_trans hpl hn2)
      refine ev_shift ?_
      simp only [spec_meTree.l2, if_pos (Int.ofNat_lt.2 hjp), if_pos (Int.natCast_nonneg j), hrd, w1, w2]
      by_cases hx : wEnd p + a ≤ (n : Int)
      · have hz := par_zero midD.ok midD.way (wEnd p + a) (by omega)
        have hab := above_rd n D (wEnd p + a) (by omega) hx
        simp only [if_pos hx, if_pos (show 0 ≤ wEnd p + a by omega), if_pos (show wEnd p + a < ((above n D).length : Int) by rw [above_len]; omega), hab]
        by_cases hs : wSeen D (wEnd p + a) = false
        · have hw : wAdd n p D a = D ++ [p ++ [wEnd p + a]] := by unfold wAdd; rw [if_pos ⟨hx, hs⟩]
          rw [hdrop, if_pos ⟨hx, hs⟩, hw, above_set n D p _ (by omega) hs] at hnext
          simp only [if_pos (hz.2 hs), if_pos (show ((D.drop e).map wEnd).length < 17592186044416 by rw [List.length_map, List.length_drop]; omega)]
          exact hnext
        · have hw : wAdd n p D a = D := by unfold wAdd; rw [if_neg (fun h => hs h.2)]
          rw [hdrop, if_neg (fun h => hs h.2), hw] at hnext
          simp only [if_neg (fun h => hs (hz.1 h))]
          exact hnext
      · have hw : wAdd n p D a = D := by unfold wAdd; rw [if_neg (fun h => hx h.1)]
        rw [hdrop, if_neg (fun h => hx h.1), hw] at hnext
        simp only [if_neg hx]
        exact hnext
  have rows : ∀ (R : List Int) (s e : Nat), e = (wRun n s).length → s ≤ e →
      Ev (fun k => spec_meTree.l0 k n (above n (wRun n e)) (((wRun n e).drop e).map wEnd)) R →
      ∀ (r i : Nat), s + i + r = e → Ev (fun k => spec_meTree.l1 k n (above n (wRun n (s + i))) (((wRun n (s + i)).drop e).map wEnd) (((wRun n s).drop s).map wEnd) (((wRun n s).drop s).map wEnd).length i) R := by
    intro R s e he hse hend r
    have hxl : (((wRun n s).drop s).map wEnd).length = e - s := by rw [List.length_map, List.length_drop, he]
    have heB : e ≤ n := by rw [he]; exact wRun_len hn s
    induction r with
    | zero =>
      intro i hi
      rw [show s + i = e by omega]
      refine ev_shift ?_
      simp only [spec_meTree.l1, if_neg (show ¬ (i : Int) < ((((wRun n s).drop s).map wEnd).length : Int) by rw [hxl]; omega)]
      exact hend
    | succ r ih =>
      intro i hi
      have hil : s + i < (wRun n s).length := by rw [← he]; omega
      have hix : i < (((wRun n s).drop s).map wEnd).length := by rw [hxl]; omega
      have hg : (wRun n s)[s + i]? = some ((wRun n s)[s + i]'hil) := List.getElem?_eq_getElem hil
      have hg2 := wRun_get n s i _ _ hg
      obtain ⟨p, hp⟩ : ∃ p, (wRun n s)[s + i]'hil = p := ⟨_, rfl⟩
      rw [hp] at hg hg2
      have hpm := List.mem_of_getElem? hg2
      have hrd : rd (((wRun n s).drop s).map wEnd) (i : Int) = wEnd p := by
        rw [rd_list _ _ (by rw [hxl]; omega)]
        simp [hp]
      have hlen : e ≤ (wRun n (s + i)).length := by
        obtain ⟨E, hE⟩ := wRun_pre n s i
        rw [hE, List.length_append]
        omega
      have ok := wRun_ok (show (1 : Int) ≤ n by omega) (s + i)
      have way := wRun_way (show (1 : Int) ≤ n by omega) (s + i) p hpm
      have hpl := run_short n hn hn2 (s + i) p hpm
      have hnext := ih (i + 1) (by omega)
      rw [← Nat.add_assoc, wRun_step hg2] at hnext
      have w2 : wrap64 ((i : Int) + 1) = ((i + 1 : Nat) : Int) := inc64 (n := 100000) (by omega) (Nat.le_refl _)
      rw [← w2] at hnext
      refine ev_shift ?_
      simp only [spec_meTree.l1, if_pos (Int.ofNat_lt.2 hix), if_pos (Int.natCast_nonneg i), hrd]
      refine ev_bind (meWay_ev n hn hn2 (s + i) p hpm (by omega)) ?_
      have := inner R p e _ _ (i : Int) (wRun n (s + i)) hpm (mid_run n hn _) hlen (wRun_len hn _) (fun x hx => ⟨ok.pos p hpm x hx, by have := way.top x hx; have := ok.most p hpm; omega⟩) (by rw [← wRun_step hg2]; exact wRun_len hn _) hpl hnext p.length 0 (by omega) _ rfl
      exact this
  have all : ∀ (d s : Nat), n - s ≤ d → s < (wRun n s).length → Ev (fun k => spec_meTree.l0 k n (above n (wRun n s)) (((wRun n s).drop s).map wEnd)) (wTo (wAll n) n) := by
    intro d
    induction d with
    | zero =>
      intro s h1 h2
      have := wRun_len hn s
      omega
    | succ d ih =>
      intro s h1 h2
      have hl := wRun_len hn s
      have ok := wRun_ok (show (1 : Int) ≤ n by omega) s
      have fin : wSeen (wRun n s) n = true → Ev (fun k => spec_meTree.j1 k n (above n (wRun n s)) (((wRun n s).drop s).map wEnd) false) (wTo (wAll n) n) := by
        intro hs
        obtain ⟨p, hp, e⟩ := (wSeen_iff _ _).1 hs
        have hw := meWay_ev n hn hn2 s p hp (by have := run_short n hn hn2 s p hp; omega)
        have epp : wTo (wAll n) n = p := by
          obtain ⟨E, hE⟩ := wAll_pre hn s
          rw [← e]
          exact wTo_of1 (wRun_ok (show (1 : Int) ≤ n by omega) n).one (by show p ∈ wAll n; rw [hE]; exact List.mem_append_left _ hp)
        rw [epp]
        rw [e] at hw
        refine ev_shift ?_
        simp only [spec_meTree.j1, Bool.false_eq_true, if_false]
        exact ev_bind hw (Ev.now _)
      by_cases c1 : n = 1
      · have hs : wSeen (wRun n s) n = true := by
          obtain ⟨E, hE⟩ := wRun_pre n 0 s
          rw [Nat.zero_add] at hE
          rw [hE]
          exact (wSeen_iff _ _).2 ⟨[1], List.mem_append_left _ (by simp [wRun]), by rw [c1]; rfl⟩
        have f := fin hs
        refine ev_shift ?_
        simp only [spec_meTree.l0, if_neg (show ¬ (n : Int) > 1 by omega)]
        exact f
      · have hz := par_zero ok (wRun_way (show (1 : Int) ≤ n by omega) s) n (by omega)
        have hab := above_rd n (wRun n s) n (by omega) (by omega)
        refine ev_shift ?_
        simp only [spec_meTree.l0, if_pos (show (n : Int) > 1 by omega), if_pos (show (0 : Int) ≤ n by omega), if_pos (show (n : Int) < ((above n (wRun n s)).length : Int) by rw [above_len]; omega), hab]
        by_cases hs : wSeen (wRun n s) n = false
        · have et : (par (wRun n s) n == 0) = true := by simp [hz.2 hs]
          rw [et]
          have hmore : (wRun n s).length < (wRun n (wRun n s).length).length := by
            refine Decidable.byContradiction fun hc => ?_
            have := wAll_of_stop hn (d := (wRun n s).length) (by omega)
            obtain ⟨q, hq, e, _⟩ := wAll_short hn n n hn (by have := @Nat.lt_two_pow_self n; rw [Nat.pow_succ]; omega) (Nat.le_refl _)
            have hsame : wRun n s = wAll n := by
              obtain ⟨E, hE⟩ := wRun_pre n s ((wRun n s).length - s)
              rw [show s + ((wRun n s).length - s) = (wRun n s).length by omega] at hE
              have hl2 : (wRun n (wRun n s).length).length ≤ (wRun n s).length := by omega
              rw [hE, List.length_append] at hl2
              have : E = [] := List.eq_nil_of_length_eq_zero (by omega)
              rw [this, List.append_nil] at hE
              rw [← hE, ‹wRun n (wRun n s).length = wAll n›]
            have := (wSeen_iff (wRun n s) n).2 ⟨q, by rw [hsame]; exact hq, e⟩
            rw [hs] at this
            cases this
          have hend := ih (wRun n s).length (by omega) hmore
          have hr := rows _ s (wRun n s).length rfl (by omega) hend ((wRun n s).length - s) 0 (by omega)
          rw [Nat.add_zero, List.drop_length] at hr
          refine ev_shift ?_
          simp only [spec_meTree.j1, if_true]
          exact hr
        · have hs' : wSeen (wRun n s) n = true := by cases h : wSeen (wRun n s) n with
            | true => rfl
            | false => exact absurd h hs
          have et : (par (wRun n s) n == 0) = false := by
            have : par (wRun n s) n ≠ 0 := fun h => hs (hz.1 h)
            simp [this]
          rw [et]
          exact fin hs'
  unfold spec_meTree.f
  have w1 : wrap64 ((n : Int) + 1) = (n : Int) + 1 := w64 (by omega) (by omega)
  simp only [w1, if_pos (show (0 : Int) ≤ (n : Int) + 1 by omega), if_pos (show ((n : Int) + 1).toNat ≤ 35184372088832 by omega)]
  have h0 := all n 0 (by omega) (by simp [wRun])
  rw [show ((n : Int) + 1).toNat = n + 1 by omega, ← above_start]
  exact h0
theorem l1In_eq (a b c : Int) : spec_l1In.f a b c = some (decide (b ≤ a ∧ a ≤ c)) := by
  unfold spec_l1In.f
  by_cases h : a ≥ b
  · rw [if_pos h]; congr 1; simp [h]
  · rw [if_neg h]; congr 1; symm; exact decide_eq_false (fun h2 => h h2.1)
theorem specTree_ev (n : Int) : Ev (fun k => spec_TreeChain.f k n) (if 1 ≤ n ∧ n ≤ 400 then (wTo (wAll 400) n, true) else ([], false)) := by
  unfold spec_TreeChain.f
  rw [l1In_eq]
  by_cases c : 1 ≤ n ∧ n ≤ 400
  · simp only [Option.bind_some, decide_eq_true c, if_true, if_pos c]
    obtain ⟨m, rfl⟩ := Int.eq_ofNat_of_zero_le (show 0 ≤ n by omega)
    have := meTree_ev m (by omega) (by omega)
    rw [← wTo_bound (B := m) (B' := 400) (by omega) (by omega) m (by omega) (by omega)] at this
    exact ev_bind this (Ev.now _)
  · simp only [Option.bind_some, decide_eq_false c, Bool.false_eq_true, if_false, if_neg c]
    exact Ev.now _
theorem way_short_ (B : Nat) (h1 : 1 ≤ B) (h2 : B ≤ 100000) (n : Int) : (wTo (wAll B) n).length ≤ B := by
  cases hs : wSeen (wAll B) n with
  | false => rw [wTo_none hs]; exact Nat.zero_le _
  | true =>
    obtain ⟨p, hp, e⟩ := (wSeen_iff _ _).1 hs
    rw [← e, show wTo (wAll B) (wEnd p) = p from wTo_of1 (wRun_ok (show (1 : Int) ≤ B by omega) B).one hp]
    exact run_short B h1 h2 B p hp
theorem ans_len_ (B : Nat) (h1 : 1 ≤ B) (h2 : B ≤ 100000) (n : Int) : (if 1 ≤ n ∧ n ≤ 400 then (wTo (wAll B) n, true) else (([] : List Int), false)).1.length ≤ 1000000 := by
  have h := way_short_ B h1 h2 n
  by_cases c : 1 ≤ n ∧ n ≤ 400
  · rw [if_pos c]; exact Nat.le_trans h (by omega)
  · rw [if_neg c]; exact Nat.zero_le _
theorem ans_len (n : Int) : (if 1 ≤ n ∧ n ≤ 400 then (wTo (wAll 400) n, true) else (([] : List Int), false)).1.length ≤ 1000000 := ans_len_ 400 (by omega) (by omega) n
theorem FnExactTreeChain : laws_FnExactTreeChain.Pure := by
  intro n _
  exact (tail_ n _ _ (ans_len n) (specTree_ev n) (ev_some fun _ => rfl)).rounds
end Go.Proofs.Ytbjmnneaflmgaaa.Pure
