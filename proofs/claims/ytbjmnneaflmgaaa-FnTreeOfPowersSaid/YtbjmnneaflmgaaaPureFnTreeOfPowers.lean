/- The ways in the tree are chains in which each number is made from the one before it, and each number on a way has the way up to it. -/
import Derived.Test.YtbjmnneaflmgaaaMFnTreeOfPowersx5
import Derived.Test.YtbjmnneaflmgaaaWT
namespace Go.Proofs.Ytbjmnneaflmgaaa.Pure
open Go.RowKit Go.Proofs.Ytbjmnneaflmgaaa.MFnTreeOfPowers Go.Proofs.YtbjmnneaflmgaaaW.PrintWords Go.Proofs.YtbjmnneaflmgaaaW.PrintLast Go.Proofs.YtbjmnneaflmgaaaW.PrintMore
set_option linter.unusedVariables false
set_option linter.unusedSimpArgs false
open Go.Proofs.YtbjmnneaflmgaaaWT
theorem w64 {x : Int} (h1 : -9223372036854775808 ≤ x) (h2 : x ≤ 9223372036854775807) : wrap64 x = x := by unfold wrap64; omega

theorem rd_nat (xs : List Int) (j : Nat) : rd xs (j : Int) = xs.getD j 0 := by unfold rd; rw [Int.toNat_natCast]

theorem ev_shift {α : Type} {g : Nat → Option α} {r : α} (h : Ev (fun k => g (k + 1)) r) : Ev g r := by
  obtain ⟨K, hK⟩ := h
  refine ⟨K + 1, fun k hk => ?_⟩
  obtain ⟨m, rfl⟩ : ∃ m, k = m + 1 := ⟨k - 1, by omega⟩
  exact hK m (by omega)

theorem ev_bind {α β : Type} {g : Nat → Option α} {F : Nat → α → Option β} {a : α} {r : β} (h : Ev g a) (k : Ev (fun n => F n a) r) : Ev (fun n => (g n).bind (fun x => F n x)) r := Ev.bind h k

theorem ev_some {α : Type} {g : Nat → Option α} {r : α} (h : ∀ k, g k = some r) : Ev g r := ⟨0, fun k _ => h k⟩

/-! the reference's tree: for each number the one before it on its way -/
theorem rd_list (xs : List Int) (i : Nat) (h : i < xs.length) : rd xs (i : Int) = xs[i] := by unfold rd; rw [Int.toNat_natCast]; simp [List.getD, h]
theorem sum64 {x a : Int} {n : Nat} (c1 : 1 ≤ x) (c2 : x ≤ n) (b1 : 1 ≤ a) (b2 : a ≤ n) (hn : n ≤ 100000) : wrap64 (x + a) = x + a := w64 (by omega) (by omega)
theorem inc64 {j n : Nat} (h : j < n) (hn : n ≤ 100000) : wrap64 ((j : Int) + 1) = ((j + 1 : Nat) : Int) := by rw [w64 (by omega) (by omega)]; omega
def par (D : List (List Int)) (x : Int) : Int := wEnd (wTo D x).dropLast
def above (n : Nat) (D : List (List Int)) : List Int := (List.range (n + 1)).map fun x : Nat => par D (x : Int)
theorem above_len (n : Nat) (D : List (List Int)) : (above n D).length = n + 1 := by unfold above; simp
theorem above_rd (n : Nat) (D : List (List Int)) (x : Int) (h0 : 0 ≤ x) (h1 : x ≤ n) : rd (above n D) x = par D x := by
  obtain ⟨m, rfl⟩ := Int.eq_ofNat_of_zero_le h0
  rw [rd_list _ _ (by rw [above_len]; omega)]
  unfold above
  simp
theorem wTo_snoc_other (D : List (List Int)) (q : List Int) (x : Int) (h : wEnd q ≠ x) : wTo (D ++ [q]) x = wTo D x := by
  unfold wTo
  rw [List.find?_append]
  cases D.find? (fun p => wEnd p == x) with
  | some p => rfl
  | none => simp [h]
theorem wTo_snoc_same (D : List (List Int)) (q : List Int) (h : wSeen D (wEnd q) = false) : wTo (D ++ [q]) (wEnd q) = q := by
  unfold wTo
  have : D.find? (fun p => wEnd p == wEnd q) = none := by
    rw [List.find?_eq_none]
    intro p hp hc
    simp at hc
    have := (wSeen_iff D (wEnd q)).2 ⟨p, hp, hc⟩
    rw [h] at this
    cases this
  rw [List.find?_append, this]
  simp
theorem above_set (n : Nat) (D : List (List Int)) (p : List Int) (x : Int) (h0 : 0 ≤ x) (hs : wSeen D x = false) : above n (D ++ [p ++ [x]]) = (above n D).set x.toNat (wEnd p) := by
  apply List.ext_getElem?
  intro i
  by_cases hi : i < n + 1
  · rw [List.getElem?_set]
    rw [above_len]
    unfold above
    rw [List.getElem?_map, List.getElem?_map, List.getElem?_range hi]
    simp only [Option.map_some]
    by_cases c : x.toNat = i
    · rw [if_pos c, if_pos (by omega)]
      have e : (i : Int) = x := by omega
      rw [e]
      have := wTo_snoc_same D (p ++ [x]) (by rw [wEnd_snoc]; exact hs)
      rw [wEnd_snoc] at this
      unfold par
      rw [this, List.dropLast_concat]
    · rw [if_neg c]
      unfold par
      rw [wTo_snoc_other D (p ++ [x]) i (by rw [wEnd_snoc]; omega)]
  · rw [List.getElem?_eq_none (by rw [above_len]; omega), List.getElem?_eq_none (by rw [List.length_set, above_len]; omega)]
theorem above_start (n : Nat) : above n [[1]] = List.replicate (n + 1) 0 := by
  apply List.ext_getElem?
  intro i
  by_cases hi : i < n + 1
  · unfold above
    rw [List.getElem?_map, List.getElem?_range hi, List.getElem?_replicate, if_pos hi]
    have e : par [[1]] (i : Int) = 0 := by
      unfold par wTo
      rw [List.find?_cons]
      cases (wEnd [1] == (i : Int)) <;> rfl
    simp only [Option.map_some, e]
  · rw [List.getElem?_eq_none (by rw [above_len]; omega), List.getElem?_eq_none (by rw [List.length_replicate]; omega)]
/-- Seen, or not: by the one before it. -/
theorem par_zero {B : Int} {D : List (List Int)} (h : WOk B D) (hw : ∀ p ∈ D, WWay D p) (x : Int) (hx : 2 ≤ x) : par D x = 0 ↔ wSeen D x = false := by
  constructor
  · intro h0
    cases hs : wSeen D x with
    | false => rfl
    | true =>
      obtain ⟨p, hp, e⟩ := (wSeen_iff D x).1 hs
      unfold par at h0
      rw [← e, wTo_of h hp] at h0
      rcases (hw p hp).made with rfl | ⟨q, hq, a, ha, rfl⟩
      · simp [wEnd] at e; omega
      · rw [List.dropLast_concat] at h0
        have := h.pos q hq _ (wEnd_mem (h.ne q hq))
        omega
  · intro hs
    unfold par
    rw [wTo_none hs]
    rfl
theorem wRun_prefix {B : Int} : ∀ d, ∀ p ∈ wRun B d, ∀ i, 1 ≤ i → i ≤ p.length → p.take i ∈ wRun B d
  | 0, p, h, i, h1, h2 => by
    simp [wRun] at h
    subst h
    simp at h2
    obtain rfl : i = 1 := by omega
    simp [wRun]
  | d + 1, p, h, i, h1, h2 => by
    rcases wRun_mem B d p h with h | ⟨q, a, hq, ha, rfl, _⟩
    · exact wRun_sub B d _ (wRun_prefix d p h i h1 h2)
    · by_cases c : i ≤ q.length
      · rw [List.take_append_of_le_length c]
        exact wRun_sub B d _ (wRun_prefix d q (List.mem_of_getElem? hq) i h1 c)
      · rw [List.take_of_length_le (by rw [List.length_append] at h2 ⊢; simp at h2 ⊢; omega)]
        exact h
theorem meWay_ev (n : Nat) (hn : 1 ≤ n) (hn2 : n ≤ 100000) (d : Nat) (p : List Int) (hp : p ∈ wRun n d) (hpl : p.length ≤ 100000) : Ev (fun k => spec_meWay.f k (above n (wRun n d)) (wEnd p)) p := by
  have ok := wRun_ok (show (1 : Int) ≤ n by omega) d
  have loop : ∀ i, i ≤ p.length → Ev (fun k => spec_meWay.l0 k (above n (wRun n d)) (wEnd (p.take i)) (p.drop i)) p := by
    intro i
    induction i with
    | zero =>
      intro _
      refine ev_shift ?_
      rw [List.take_zero, List.drop_zero]
      simp only [spec_meWay.l0, if_neg (show ¬ wEnd [] > 0 by decide)]
      exact Ev.now _
    | succ i ih =>
      intro hi
      have hm := wRun_prefix d p hp (i + 1) (by omega) hi
      have e1 := ok.pos _ hm _ (wEnd_mem (ok.ne _ hm))
      have e2 := ok.most _ hm
      have et : p.take (i + 1) = p.take i ++ [p[i]] := List.take_succ_eq_append_getElem (by omega)
      have ee : wEnd (p.take (i + 1)) = p[i] := by rw [et, wEnd_snoc]
      have epar : rd (above n (wRun n d)) (wEnd (p.take (i + 1))) = wEnd (p.take i) := by
        rw [above_rd _ _ _ (by omega) (by omega)]
        unfold par
        rw [wTo_of ok hm, et, List.dropLast_concat]
      have ed : [wEnd (p.take (i + 1))] ++ p.drop (i + 1) = p.drop i := by
        rw [ee, List.singleton_append]; exact (List.drop_eq_getElem_cons (by omega)).symm
      refine ev_shift ?_
      simp only [spec_meWay.l0, if_pos (show wEnd (p.take (i + 1)) > 0 by omega), Option.bind_some, if_pos (show [wEnd (p.take (i + 1))].length + (p.drop (i + 1)).length < 17592186044416 by rw [List.length_drop]; simp only [List.length_cons, List.length_nil]; omega), if_pos (show 0 ≤ wEnd (p.take (i + 1)) by omega), if_pos (show wEnd (p.take (i + 1)) < ((above n (wRun n d)).length : Int) by rw [above_len]; omega), epar, ed]
      exact ih (by omega)
  have := loop p.length (Nat.le_refl _)
  rw [List.take_length, List.drop_length] at this
  exact this
/-- What holds of the list within a round. -/
structure Mid (n : Nat) (D : List (List Int)) : Prop where
  ok : WOk n D
  way : ∀ p ∈ D, WWay D p
theorem mid_run (n : Nat) (hn : 1 ≤ n) (d : Nat) : Mid n (wRun n d) := ⟨wRun_ok (by omega) d, wRun_way (by omega) d⟩
theorem mid_add {n : Nat} {D : List (List Int)} (h : Mid n D) {p : List Int} (hp : p ∈ D) {a : Int} (ha : a ∈ p) : Mid n (wAdd n p D a) := by
  have pos := h.ok.pos p hp
  refine ⟨wAdd_ok h.ok pos (h.ok.ne p hp) (pos a ha), fun q hq => ?_⟩
  unfold wAdd at hq ⊢
  split at hq
  · rename_i c
    rw [if_pos c]
    rcases List.mem_append.1 hq with hq | hq
    · exact (h.way q hq).mono (fun x hx => List.mem_append_left _ hx)
    · simp at hq
      subst hq
      have w := h.way p hp
      refine ⟨List.mem_append_left _ w.one, fun x hx => ?_, .inr ⟨p, List.mem_append_left _ hp, a, ha, rfl⟩⟩
      rw [wEnd_snoc]
      have := pos a ha
      rcases List.mem_append.1 hx with hx | hx
      · have := w.top x hx; omega
      · simp at hx; omega
  · rename_i c
    rw [if_neg c]
    exact h.way q hq
theorem run_short (n : Nat) (hn : 1 ≤ n) (hn2 : n ≤ 100000) (d : Nat) (p : List Int) (hp : p ∈ wRun n d) : p.length ≤ n := by
  have ok := wRun_ok (show (1 : Int) ≤ n by omega) d
  have way := wRun_way (show (1 : Int) ≤ n by omega) d p hp
  have := wRun_up (show (1 : Int) ≤ n by omega) d p hp
  exact nodup_le n p (this.imp (fun h e => by omega)) (fun x hx => ⟨ok.pos p hp x hx, by have := way.top x hx; have := ok.most p hp; omega⟩)
theorem meTree_ev (n : Nat) (hn : 1 ≤ n) (hn2 : n ≤ 100000) : Ev (fun k => spec_meTree.f k (n : Int)) (wTo (wAll n) n) := by
  have inner : ∀ (R : List Int) (p : List Int) (e : Nat) (xs : List Int) (len i : Int) (D0 : List (List Int)), p ∈ D0 → Mid n D0 → e ≤ D0.length → D0.length ≤ n → (∀ x ∈ p, 1 ≤ x ∧ x ≤ n) → (p.foldl (wAdd n p) D0).length ≤ n → p.length ≤ n →
      Ev (fun k => spec_meTree.l1 k n (above n (p.foldl (wAdd n p) D0)) (((p.foldl (wAdd n p) D0).drop e).map wEnd) xs len (wrap64 (i + 1))) R →
      ∀ (r j : Nat), j + r = p.length → ∀ D, D = (p.take j).foldl (wAdd n p) D0 → Ev (fun k => spec_meTree.l2 k n (above n D) ((D.drop e).map wEnd) (wEnd p) xs len i p p.length j) R := by
    intro R p e xs len i D0 hp0 hmid0 he hl0 hpb hlf hpl hend r
    induction r with
    | zero =>
      intro j hj D hD
      obtain rfl : j = p.length := by omega
      rw [List.take_length] at hD
      subst hD
      refine ev_shift ?_
      simp only [spec_meTree.l2, if_neg (show ¬ (p.length : Int) < (p.length : Int) by omega)]
      exact hend
    | succ r ih =>
      intro j hj D hD
      have hjp : j < p.length := by omega
      have hmem := List.getElem_mem hjp
      have pD : p ∈ D := by
        obtain ⟨E, h⟩ := wFold_pre n p (p.take j) D0
        rw [hD, h]
        exact List.mem_append_left _ hp0
      have mids : ∀ (l : List Int) (E : List (List Int)), (∀ x ∈ l, x ∈ p) → p ∈ E → Mid n E → Mid n (l.foldl (wAdd n p) E) := by
        intro l
        induction l with
        | nil => intro E _ _ h; exact h
        | cons a l ihl =>
          intro E hl hE h
          rw [List.foldl_cons]
          refine ihl _ (fun x hx => hl x (List.mem_cons_of_mem _ hx)) ?_ (mid_add h hE (hl a List.mem_cons_self))
          obtain ⟨F, hF⟩ := wAdd_pre n p E a
          rw [hF]
          exact List.mem_append_left _ hE
      have midD : Mid n D := by rw [hD]; exact mids _ _ (fun x hx => List.mem_of_mem_take hx) hp0 hmid0
      have hDl : D.length ≤ n := by
        have h := wFold_length n p (p.drop j) ((p.take j).foldl (wAdd n p) D0)
        rw [← List.foldl_append, List.take_append_drop, ← hD] at h
        omega
      have heD : e ≤ D.length := by
        have := wFold_length n p (p.take j) D0
        rw [← hD] at this
        omega
      have hstep : (p.take (j + 1)).foldl (wAdd n p) D0 = wAdd n p D p[j] := by rw [wFold_take n p D0 j hjp, hD]
      obtain ⟨b1, b2⟩ := hpb _ hmem
      have c1 := midD.ok.pos p pD _ (wEnd_mem (midD.ok.ne p pD))
      have c2 := midD.ok.most p pD
      have hrd : rd p (j : Int) = p[j] := rd_list p j hjp
      have hnext := ih (j + 1) (by omega) _ hstep.symm
      have hdrop := wAdd_drop n p D p[j] e heD
      obtain ⟨a, ha⟩ : ∃ a, p[j] = a := ⟨_, rfl⟩
      rw [ha] at b1 b2 hrd hnext hdrop
      have w1 : wrap64 (wEnd p + a) = wEnd p + a := sum64 c1 c2 b1 b2 hn2
      have w2 : wrap64 ((j : Int) + 1) = ((j + 1 : Nat) : Int) := inc64 hjp (Nat.le_trans hpl hn2)
      refine ev_shift ?_
      simp only [spec_meTree.l2, if_pos (Int.ofNat_lt.2 hjp), if_pos (Int.natCast_nonneg j), hrd, w1, w2]
      by_cases hx : wEnd p + a ≤ (n : Int)
      · have hz := par_zero midD.ok midD.way (wEnd p + a) (by omega)
        have hab := above_rd n D (wEnd p + a) (by omega) hx
        simp only [if_pos hx, if_pos (show 0 ≤ wEnd p + a by omega), if_pos (show wEnd p + a < ((above n D).length : Int) by rw [above_len]; omega), hab]
        by_cases hs : wSeen D (wEnd p + a) = false
        · have hw : wAdd n p D a = D ++ [p ++ [wEnd p + a]] := by unfold wAdd; rw [if_pos ⟨hx, hs⟩]
          rw [hdrop, if_pos ⟨hx, hs⟩, hw, above_set n D p _ (by omega) hs] at hnext
          simp only [if_pos (hz.2 hs), if_pos (show ((D.drop e).map wEnd).length < 17592186044416 by rw [List.length_map, List.length_drop]; omega)]
          exact hnext
        · have hw : wAdd n p D a = D := by unfold wAdd; rw [if_neg (fun h => hs h.2)]
          rw [hdrop, if_neg (fun h => hs h.2), hw] at hnext
          simp only [if_neg (fun h => hs (hz.1 h))]
          exact hnext
      · have hw : wAdd n p D a = D := by unfold wAdd; rw [if_neg (fun h => hx h.1)]
        rw [hdrop, if_neg (fun h => hx h.1), hw] at hnext
        simp only [if_neg hx]
        exact hnext
  have rows : ∀ (R : List Int) (s e : Nat), e = (wRun n s).length → s ≤ e →
      Ev (fun k => spec_meTree.l0 k n (above n (wRun n e)) (((wRun n e).drop e).map wEnd)) R →
      ∀ (r i : Nat), s + i + r = e → Ev (fun k => spec_meTree.l1 k n (above n (wRun n (s + i))) (((wRun n (s + i)).drop e).map wEnd) (((wRun n s).drop s).map wEnd) (((wRun n s).drop s).map wEnd).length i) R := by
    intro R s e he hse hend r
    have hxl : (((wRun n s).drop s).map wEnd).length = e - s := by rw [List.length_map, List.length_drop, he]
    have heB : e ≤ n := by rw [he]; exact wRun_len hn s
    induction r with
    | zero =>
      intro i hi
      rw [show s + i = e by omega]
      refine ev_shift ?_
      simp only [spec_meTree.l1, if_neg (show ¬ (i : Int) < ((((wRun n s).drop s).map wEnd).length : Int) by rw [hxl]; omega)]
      exact hend
    | succ r ih =>
      intro i hi
      have hil : s + i < (wRun n s).length := by rw [← he]; omega
      have hix : i < (((wRun n s).drop s).map wEnd).length := by rw [hxl]; omega
      have hg : (wRun n s)[s + i]? = some ((wRun n s)[s + i]'hil) := List.getElem?_eq_getElem hil
      have hg2 := wRun_get n s i _ _ hg
      obtain ⟨p, hp⟩ : ∃ p, (wRun n s)[s + i]'hil = p := ⟨_, rfl⟩
      rw [hp] at hg hg2
      have hpm := List.mem_of_getElem? hg2
      have hrd : rd (((wRun n s).drop s).map wEnd) (i : Int) = wEnd p := by
        rw [rd_list _ _ (by rw [hxl]; omega)]
        simp [hp]
      have hlen : e ≤ (wRun n (s + i)).length := by
        obtain ⟨E, hE⟩ := wRun_pre n s i
        rw [hE, List.length_append]
        omega
      have ok := wRun_ok (show (1 : Int) ≤ n by omega) (s + i)
      have way := wRun_way (show (1 : Int) ≤ n by omega) (s + i) p hpm
      have hpl := run_short n hn hn2 (s + i) p hpm
      have hnext := ih (i + 1) (by omega)
      rw [← Nat.add_assoc, wRun_step hg2] at hnext
      have w2 : wrap64 ((i : Int) + 1) = ((i + 1 : Nat) : Int) := inc64 (n := 100000) (by omega) (Nat.le_refl _)
      rw [← w2] at hnext
      refine ev_shift ?_
      simp only [spec_meTree.l1, if_pos (Int.ofNat_lt.2 hix), if_pos (Int.natCast_nonneg i), hrd]
      refine ev_bind (meWay_ev n hn hn2 (s + i) p hpm (by omega)) ?_
      have := inner R p e _ _ (i : Int) (wRun n (s + i)) hpm (mid_run n hn _) hlen (wRun_len hn _) (fun x hx => ⟨ok.pos p hpm x hx, by have := way.top x hx; have := ok.most p hpm; omega⟩) (by rw [← wRun_step hg2]; exact wRun_len hn _) hpl hnext p.length 0 (by omega) _ rfl
      exact this
  have all : ∀ (d s : Nat), n - s ≤ d → s < (wRun n s).length → Ev (fun k => spec_meTree.l0 k n (above n (wRun n s)) (((wRun n s).drop s).map wEnd)) (wTo (wAll n) n) := by
    intro d
    induction d with
    | zero =>
      intro s h1 h2
      have := wRun_len hn s
      omega
    | succ d ih =>
      intro s h1 h2
      have hl := wRun_len hn s
      have ok := wRun_ok (show (1 : Int) ≤ n by omega) s
      have fin : wSeen (wRun n s) n = true → Ev (fun k => spec_meTree.j1 k n (above n (wRun n s)) (((wRun n s).drop s).map wEnd) false) (wTo (wAll n) n) := by
        intro hs
        obtain ⟨p, hp, e⟩ := (wSeen_iff _ _).1 hs
        have hw := meWay_ev n hn hn2 s p hp (by have := run_short n hn hn2 s p hp; omega)
        have epp : wTo (wAll n) n = p := by
          obtain ⟨E, hE⟩ := wAll_pre hn s
          rw [← e]
          exact wTo_of1 (wRun_ok (show (1 : Int) ≤ n by omega) n).one (by show p ∈ wAll n; rw [hE]; exact List.mem_append_left _ hp)
        rw [epp]
        rw [e] at hw
        refine ev_shift ?_
        simp only [spec_meTree.j1, Bool.false_eq_true, if_false]
        exact ev_bind hw (Ev.now _)
      by_cases c1 : n = 1
      · have hs : wSeen (wRun n s) n = true := by
          obtain ⟨E, hE⟩ := wRun_pre n 0 s
          rw [Nat.zero_add] at hE
          rw [hE]
          exact (wSeen_iff _ _).2 ⟨[1], List.mem_append_left _ (by simp [wRun]), by rw [c1]; rfl⟩
        have f := fin hs
        refine ev_shift ?_
        simp only [spec_meTree.l0, if_neg (show ¬ (n : Int) > 1 by omega)]
        exact f
      · have hz := par_zero ok (wRun_way (show (1 : Int) ≤ n by omega) s) n (by omega)
        have hab := above_rd n (wRun n s) n (by omega) (by omega)
        refine ev_shift ?_
        simp only [spec_meTree.l0, if_pos (show (n : Int) > 1 by omega), if_pos (show (0 : Int) ≤ n by omega), if_pos (show (n : Int) < ((above n (wRun n s)).length : Int) by rw [above_len]; omega), hab]
        by_cases hs : wSeen (wRun n s) n = false
        · have et : (par (wRun n s) n == 0) = true := by simp [hz.2 hs]
          rw [et]
          have hmore : (wRun n s).length < (wRun n (wRun n s).length).length := by
            refine Decidable.byContradiction fun hc => ?_
            have := wAll_of_stop hn (d := (wRun n s).length) (by omega)
            obtain ⟨q, hq, e, _⟩ := wAll_short hn n n hn (by have := @Nat.lt_two_pow_self n; rw [Nat.pow_succ]; omega) (Nat.le_refl _)
            have hsame : wRun n s = wAll n := by
              obtain ⟨E, hE⟩ := wRun_pre n s ((wRun n s).length - s)
              rw [show s + ((wRun n s).length - s) = (wRun n s).length by omega] at hE
              have hl2 : (wRun n (wRun n s).length).length ≤ (wRun n s).length := by omega
              rw [hE, List.length_append] at hl2
              have : E = [] := List.eq_nil_of_length_eq_zero (by omega)
              rw [this, List.append_nil] at hE
              rw [← hE, ‹wRun n (wRun n s).length = wAll n›]
            have := (wSeen_iff (wRun n s) n).2 ⟨q, by rw [hsame]; exact hq, e⟩
            rw [hs] at this
            cases this
          have hend := ih (wRun n s).length (by omega) hmore
          have hr := rows _ s (wRun n s).length rfl (by omega) hend ((wRun n s).length - s) 0 (by omega)
          rw [Nat.add_zero, List.drop_length] at hr
          refine ev_shift ?_
          simp only [spec_meTree.j1, if_true]
          exact hr
        · have hs' : wSeen (wRun n s) n = true := by cases h : wSeen (wRun n s) n with
            | true => rfl
            | false => exact absurd h hs
          have et : (par (wRun n s) n == 0) = false := by
            have : par (wRun n s) n ≠ 0 := fun h => hs (hz.1 h)
            simp [this]
          rw [et]
          exact fin hs'
  unfold spec_meTree.f
  have w1 : wrap64 ((n : Int) + 1) = (n : Int) + 1 := w64 (by omega) (by omega)
  simp only [w1, if_pos (show (0 : Int) ≤ (n : Int) + 1 by omega), if_pos (show ((n : Int) + 1).toNat ≤ 35184372088832 by omega)]
  have h0 := all n 0 (by omega) (by simp [wRun])
  rw [show ((n : Int) + 1).toNat = n + 1 by omega, ← above_start]
  exact h0
theorem l1In_both (a b c : Int) : spec_l1In.f a b c = some (decide (b ≤ a ∧ a ≤ c)) := by
  unfold spec_l1In.f
  by_cases h : a ≥ b
  · rw [if_pos h]; congr 1; simp [h]
  · rw [if_neg h]; congr 1; symm; exact decide_eq_false (fun h2 => h h2.1)
theorem specTree_ev (n : Int) : Ev (fun k => spec_TreeChain.f k n) (if 1 ≤ n ∧ n ≤ 400 then (wTo (wAll 400) n, true) else ([], false)) := by
  unfold spec_TreeChain.f
  rw [l1In_both]
  by_cases c : 1 ≤ n ∧ n ≤ 400
  · simp only [Option.bind_some, decide_eq_true c, if_true, if_pos c]
    obtain ⟨m, rfl⟩ := Int.eq_ofNat_of_zero_le (show 0 ≤ n by omega)
    have := meTree_ev m (by omega) (by omega)
    rw [← wTo_bound (B := m) (B' := 400) (by omega) (by omega) m (by omega) (by omega)] at this
    exact ev_bind this (Ev.now _)
  · simp only [Option.bind_some, decide_eq_false c, Bool.false_eq_true, if_false, if_neg c]
    exact Ev.now _
theorem way_short_ (B : Nat) (h1 : 1 ≤ B) (h2 : B ≤ 100000) (n : Int) : (wTo (wAll B) n).length ≤ B := by
  cases hs : wSeen (wAll B) n with
  | false => rw [wTo_none hs]; exact Nat.zero_le _
  | true =>
    obtain ⟨p, hp, e⟩ := (wSeen_iff _ _).1 hs
    rw [← e, show wTo (wAll B) (wEnd p) = p from wTo_of1 (wRun_ok (show (1 : Int) ≤ B by omega) B).one hp]
    exact run_short B h1 h2 B p hp
theorem ans_len_ (B : Nat) (h1 : 1 ≤ B) (h2 : B ≤ 100000) (n : Int) : (if 1 ≤ n ∧ n ≤ 400 then (wTo (wAll B) n, true) else (([] : List Int), false)).1.length ≤ 1000000 := by
  have h := way_short_ B h1 h2 n
  by_cases c : 1 ≤ n ∧ n ≤ 400
  · rw [if_pos c]; exact Nat.le_trans h (by omega)
  · rw [if_neg c]; exact Nat.zero_le _
theorem ans_len (n : Int) : (if 1 ≤ n ∧ n ≤ 400 then (wTo (wAll 400) n, true) else (([] : List Int), false)).1.length ≤ 1000000 := ans_len_ 400 (by omega) (by omega) n
abbrev St := S57
def inner (xs : List Int) (k j : Int) : Nat → Int → List St
  | 0, _ => []
  | d + 1, i => if wrap64 (rd xs i + rd xs j) = rd xs k then ⟨i, j⟩ :: inner xs k j d (i + 1) else inner xs k j d (i + 1)
def outer (xs : List Int) (k : Int) : Nat → Int → List St
  | 0, _ => []
  | d + 1, j => inner xs k j (j + 1).toNat 0 ++ outer xs k d (j + 1)
def sumsOf (xs : List Int) (k : Int) : List St := outer xs k k.toNat 0

theorem inner_length (xs : List Int) (k j : Int) : ∀ (d : Nat) (i : Int), (inner xs k j d i).length ≤ d
  | 0, _ => Nat.le_refl _
  | d + 1, i => by
    have := inner_length xs k j d (i + 1)
    unfold inner
    split
    · simp only [List.length_cons]; omega
    · omega

theorem impl_inner (xs : List Int) (k j : Int) (r : List St) (hj : 0 ≤ j) (hjk : j < k) (hk : k < xs.length) (hl : xs.length ≤ 100000) : ∀ (d : Nat) (i : Int) (acc : List St), 0 ≤ i → i + d = j + 1 → acc.length + d ≤ 8000000000000 →
    Ev (fun f => impl_sums.l0 f xs k (acc ++ inner xs k j d i) k (j + 1)) r → Ev (fun f => impl_sums.l1 f xs k acc j k j (j + 1) i) r := by
  intro d
  induction d with
  | zero =>
    intro i acc hi hd _ h
    refine ev_shift ?_
    simp only [impl_sums.l1, if_neg (show ¬ i < j + 1 by omega), w64 (show -9223372036854775808 ≤ j + 1 by omega) (by omega)]
    simpa [inner] using h
  | succ d ih =>
    intro i acc hi hd hacc h
    refine ev_shift ?_
    simp only [impl_sums.l1, if_pos (show i < j + 1 by omega), if_pos hi, if_pos (show i < (xs.length : Int) by omega), if_pos hj, if_pos (show j < (xs.length : Int) by omega), if_pos (show 0 ≤ k by omega), if_pos hk,
      w64 (show -9223372036854775808 ≤ i + 1 by omega) (by omega)]
    by_cases c : wrap64 (rd xs i + rd xs j) = rd xs k
    · simp only [if_pos c, if_pos (show acc.length < 8796093022208 by omega)]
      refine ih (i + 1) (acc ++ [⟨i, j⟩]) (by omega) (by omega) (by simp only [List.length_append, List.length_singleton]; omega) ?_
      simpa [inner, c] using h
    · simp only [if_neg c]
      refine ih (i + 1) acc (by omega) (by omega) (by omega) ?_
      simpa [inner, c] using h
theorem impl_outer (xs : List Int) (k : Int) (hk : k < xs.length) (hl : xs.length ≤ 100000) : ∀ (d : Nat) (j : Int) (acc : List St), 0 ≤ j → j + d = k → acc.length + d * 100001 ≤ 8000000000000 →
    Ev (fun f => impl_sums.l0 f xs k acc k j) (acc ++ outer xs k d j) := by
  intro d
  induction d with
  | zero =>
    intro j acc hj hd _
    refine ev_shift ?_
    simp only [impl_sums.l0, if_neg (show ¬ j < k by omega), outer, List.append_nil]
    exact Ev.now _
  | succ d ih =>
    intro j acc hj hd hacc
    refine ev_shift ?_
    simp only [impl_sums.l0, if_pos (show j < k by omega), w64 (show -9223372036854775808 ≤ j + 1 by omega) (by omega)]
    have hi := inner_length xs k j (j + 1).toNat 0
    refine impl_inner xs k j _ hj (by omega) hk hl (j + 1).toNat 0 acc (by omega) (by omega) (by omega) ?_
    have h := ih (j + 1) (acc ++ inner xs k j (j + 1).toNat 0) (by omega) (by omega) (by rw [List.length_append]; omega)
    simpa [outer] using h
theorem sums_ev (xs : List Int) (k : Int) (h0 : 0 ≤ k) (hk : k < xs.length) (hl : xs.length ≤ 100000) : Ev (fun f => impl_sums.f f xs k) (sumsOf xs k) := by
  have h := impl_outer xs k hk hl k.toNat 0 [] (by omega) (by omega) (by simp only [List.length_nil]; omega)
  simpa [sumsOf, impl_sums.f] using h

/-! the chain's test, in both ways -/
def risingFrom (xs : List Int) : Nat → Int → Bool
  | 0, _ => true
  | d + 1, i => if rd xs i ≥ 1 then (if rd xs i ≤ 1000000 then (if i > 0 then (if rd xs (i - 1) ≥ rd xs i then false else risingFrom xs d (i + 1)) else risingFrom xs d (i + 1)) else false) else false
def pairsFrom (xs : List Int) : Nat → Int → Bool
  | 0, _ => true
  | d + 1, k => if (sumsOf xs k).length = 0 then false else pairsFrom xs d (k + 1)
def implFrom (xs : List Int) : Nat → Int → Bool
  | 0, _ => true
  | d + 1, k => if rd xs k ≤ rd xs (k - 1) then false else if rd xs k > 1000000 then false else if (sumsOf xs k).length = 0 then false else implFrom xs d (k + 1)
/-- Is it a chain? -/
def chain (xs : List Int) : Bool := if 1 ≤ xs.length ∧ xs.length ≤ 41 then (if rd xs 0 = 1 then implFrom xs (xs.length - 1) 1 else false) else false

theorem in_eq (a b c : Int) : impl_in.f a b c = some (decide (b ≤ a) && decide (a ≤ c)) := by
  unfold impl_in.f
  by_cases h : a ≥ b
  · rw [if_pos h]; simp [show b ≤ a from h]
  · rw [if_neg h]; simp [show ¬ b ≤ a from h]
theorem implFrom_ev (xs : List Int) (hl : xs.length ≤ 100000) : ∀ (d : Nat) (k : Int), 1 ≤ k → k + d = xs.length → Ev (fun f => impl_IsChain.l0 f xs k) (implFrom xs d k) := by
  intro d
  induction d with
  | zero =>
    intro i h0 hd
    refine ev_shift ?_
    simp only [impl_IsChain.l0, if_neg (show ¬ i < (xs.length : Int) by omega), implFrom]
    exact Ev.now _
  | succ d ih =>
    intro i h0 hd
    have hn := ih (i + 1) (by omega) (by omega)
    refine ev_shift ?_
    simp only [impl_IsChain.l0, if_pos (show i < (xs.length : Int) by omega), if_pos (show 0 ≤ i by omega), w64 (show -9223372036854775808 ≤ i + 1 by omega) (by omega), w64 (show -9223372036854775808 ≤ i - 1 by omega) (by omega), if_pos (show 0 ≤ i - 1 by omega), if_pos (show i - 1 < (xs.length : Int) by omega)]
    unfold implFrom
    by_cases c1 : rd xs i ≤ rd xs (i - 1)
    · simp only [if_pos c1]; exact Ev.now _
    · simp only [if_neg c1]
      by_cases c2 : rd xs i > 1000000
      · simp only [if_pos c2]; exact Ev.now _
      · simp only [if_neg c2]
        refine ev_bind (sums_ev xs i (by omega) (by omega) hl) ?_
        by_cases c : (sumsOf xs i).length = 0
        · simp only [if_pos c, if_pos (show ((sumsOf xs i).length : Int) = 0 by omega)]; exact Ev.now _
        · simp only [if_neg c, if_neg (show ¬ ((sumsOf xs i).length : Int) = 0 by omega)]; exact hn
theorem isChain_ev (xs : List Int) (hl : xs.length ≤ 1048576) : Ev (fun f => impl_IsChain.f f xs) (chain xs) := by
  unfold impl_IsChain.f chain
  simp only [in_eq, Option.bind_some]
  by_cases c : 1 ≤ xs.length ∧ xs.length ≤ 41
  · simp only [if_pos c, decide_eq_true (show (1 : Int) ≤ xs.length by omega), decide_eq_true (show (xs.length : Int) ≤ 41 by omega), Bool.and_self, if_true, if_pos (show (0 : Int) < xs.length by omega)]
    by_cases c1 : rd xs 0 = 1
    · simp only [if_pos c1]
      refine ev_shift ?_
      simp only [impl_IsChain.j0, c1, bne_self_eq_false, Bool.false_eq_true, if_false]
      exact implFrom_ev xs (by omega) (xs.length - 1) 1 (by omega) (by omega)
    · simp only [if_neg c1]
      refine ev_shift ?_
      simp only [impl_IsChain.j0, bne_iff_ne.mpr c1, if_true]
      exact Ev.now _
  · rw [if_neg c]
    have e : (decide ((1 : Int) ≤ xs.length) && decide ((xs.length : Int) ≤ 41)) = false := by
      rw [Bool.and_eq_false_iff, decide_eq_false_iff_not, decide_eq_false_iff_not]; omega
    simp only [e, Bool.false_eq_true, if_false]
    refine ev_shift ?_
    simp only [impl_IsChain.j0, if_true]
    exact Ev.now _

theorem implFrom_head (xs : List Int) (d : Nat) (k : Int) (h : implFrom xs (d + 1) k = true) : (sumsOf xs k).length ≠ 0 ∧ implFrom xs d (k + 1) = true ∧ rd xs (k - 1) < rd xs k ∧ rd xs k ≤ 1000000 := by
  unfold implFrom at h
  split at h
  · cases h
  · split at h
    · cases h
    · split at h
      · cases h
      · rename_i a b c
        exact ⟨c, h, by omega, by omega⟩
theorem chain_from (xs : List Int) (h : chain xs = true) : 1 ≤ xs.length ∧ xs.length ≤ 41 ∧ rd xs 0 = 1 ∧ implFrom xs (xs.length - 1) 1 = true := by
  unfold chain at h
  split at h
  · rename_i c
    split at h
    · rename_i c1
      exact ⟨c.1, c.2, c1, h⟩
    · cases h
  · cases h

abbrev rdS (ss : List St) (i : Int) : St := rd_T57 ss i
theorem outer_length (xs : List Int) (k : Int) : ∀ (d : Nat) (j : Int), 0 ≤ j → j + d ≤ 100000 → (outer xs k d j).length ≤ d * 100001
  | 0, _, _, _ => Nat.le_refl _
  | d + 1, j, h0, h1 => by
    have h2 := outer_length xs k d (j + 1) (by omega) (by omega)
    have h3 := inner_length xs k j (j + 1).toNat 0
    unfold outer
    rw [List.length_append]
    omega
theorem sums_length (xs : List Int) (k : Int) (h0 : 0 ≤ k) (h1 : k ≤ 100000) : (sumsOf xs k).length ≤ 10000100000 := by
  have := outer_length xs k k.toNat 0 (by omega) (by omega)
  unfold sumsOf
  omega
def lastOf (ss : List St) : St := rdS ss (ss.length - 1)
def stepsFrom (xs : List Int) : Nat → Int → List St
  | 0, _ => []
  | d + 1, k => lastOf (sumsOf xs k) :: stepsFrom xs d (k + 1)
theorem stepsFrom_length (xs : List Int) : ∀ (d : Nat) (k : Int), (stepsFrom xs d k).length = d
  | 0, _ => rfl
  | d + 1, k => by rw [stepsFrom, List.length_cons, stepsFrom_length xs d (k + 1)]
/-- ChainSteps of a chain. -/
def stepsOf (xs : List Int) : List St := stepsFrom xs (xs.length - 1) 1

theorem chainSteps_loop (xs : List Int) (hl : xs.length ≤ 100000) : ∀ (d : Nat) (k : Int) (acc : List St), 1 ≤ k → k + d = xs.length → acc.length + d ≤ 8000000000000 → implFrom xs d k = true → Ev (fun f => impl_chainSteps.l0 f xs acc k) (acc ++ stepsFrom xs d k) := by
  intro d
  induction d with
  | zero =>
    intro k acc h0 hd _ _
    refine ev_shift ?_
    simp only [impl_chainSteps.l0, if_neg (show ¬ k < (xs.length : Int) by omega), stepsFrom, List.append_nil]
    exact Ev.now _
  | succ d ih =>
    intro k acc h0 hd ha hi
    obtain ⟨h1, h2, _, _⟩ := implFrom_head xs d k hi
    have h3 := sums_length xs k (by omega) (by omega)
    refine ev_shift ?_
    simp only [impl_chainSteps.l0, if_pos (show k < (xs.length : Int) by omega), w64 (show -9223372036854775808 ≤ k + 1 by omega) (by omega)]
    refine ev_bind (sums_ev xs k (by omega) (by omega) hl) ?_
    simp only [w64 (show -9223372036854775808 ≤ ((sumsOf xs k).length : Int) - 1 by omega) (by omega), if_pos (show 0 ≤ ((sumsOf xs k).length : Int) - 1 by omega), if_pos (show ((sumsOf xs k).length : Int) - 1 < (sumsOf xs k).length by omega), if_pos (show acc.length < 8796093022208 by omega)]
    have h := ih (k + 1) (acc ++ [lastOf (sumsOf xs k)]) (by omega) (by omega) (by simp only [List.length_append, List.length_singleton]; omega) h2
    simp only [List.append_assoc, List.singleton_append] at h
    exact h

theorem chainSteps_ev (xs : List Int) (h : chain xs = true) : Ev (fun f => impl_chainSteps.f f xs) (stepsOf xs) := by
  obtain ⟨h1, h2, _, h4⟩ := chain_from xs h
  have := chainSteps_loop xs (by omega) (xs.length - 1) 1 [] (by omega) (by omega) (by simp only [List.length_nil]; omega) h4
  simpa [stepsOf, impl_chainSteps.f] using this
theorem stepsOf_length (xs : List Int) (h : chain xs = true) : (stepsOf xs).length ≤ 40 := by
  obtain ⟨h1, h2, _, _⟩ := chain_from xs h
  unfold stepsOf
  rw [stepsFrom_length]
  omega

def starFrom (ss : List St) : Nat → Int → Bool
  | 0, _ => true
  | d + 1, i => if (rdS ss i).f1 = i then starFrom ss d (i + 1) else false
theorem step_loop (ss : List St) (hl : ss.length ≤ 100000) : ∀ (d : Nat) (i : Int), 0 ≤ i → i + d = ss.length → Ev (fun f => impl_IsStepByStep.l0 f ss ss.length i) (starFrom ss d i, true) := by
  intro d
  induction d with
  | zero =>
    intro i h0 hd
    refine ev_shift ?_
    simp only [impl_IsStepByStep.l0, if_neg (show ¬ i < (ss.length : Int) by omega), starFrom]
    exact Ev.now _
  | succ d ih =>
    intro i h0 hd
    have hn := ih (i + 1) (by omega) (by omega)
    refine ev_shift ?_
    simp only [impl_IsStepByStep.l0, if_pos (show i < (ss.length : Int) by omega), if_pos h0, w64 (show -9223372036854775808 ≤ i + 1 by omega) (by omega)]
    unfold starFrom
    by_cases c : (rdS ss i).f1 = i
    · rw [if_pos c]; simp only [if_pos c]; exact hn
    · rw [if_neg c]; simp only [if_neg c]; exact Ev.now _
/-- IsStepByStep. -/
def isStep (xs : List Int) : Bool × Bool := if chain xs = true then (starFrom (stepsOf xs) (stepsOf xs).length 0, true) else (false, false)
theorem implStep_ev (xs : List Int) (hl : xs.length ≤ 1048576) : Ev (fun f => impl_IsStepByStep.f f xs) (isStep xs) := by
  unfold impl_IsStepByStep.f isStep
  refine ev_bind (isChain_ev xs hl) ?_
  by_cases c : chain xs = true
  · simp only [c, if_true]
    exact ev_bind (chainSteps_ev xs c) (step_loop _ (by have := stepsOf_length xs c; omega) _ 0 (by omega) (by omega))
  · simp only [if_neg c]; exact Ev.now _

theorem sameInts_ev (l : List Int) (hl : l.length ≤ 1000000) : Ev (fun k => laws_pSameInts.f k l l) true := by
  have loop : ∀ (d i : Nat), i + d = l.length → Ev (fun k => laws_pSameInts.l0 k l l l.length i) true := by
    intro d
    induction d with
    | zero =>
      intro i hd
      refine ev_shift ?_
      simp only [laws_pSameInts.l0, if_neg (show ¬ (i : Int) < (l.length : Int) by omega)]
      exact Ev.now _
    | succ d ih =>
      intro i hd
      refine ev_shift ?_
      simp only [laws_pSameInts.l0, if_pos (show (i : Int) < (l.length : Int) by omega), if_pos (show (0 : Int) ≤ (i : Int) by omega), if_true, w64 (show -9223372036854775808 ≤ (i : Int) + 1 by omega) (by omega)]
      exact ih (i + 1) (by omega)
  unfold laws_pSameInts.f
  simp only [if_true]
  exact loop l.length 0 (by omega)
/-! what is drawn from bytes -/
theorem u8_of {x : Int} (h : (Lit.int .u8 x).wf = true) : 0 ≤ x ∧ x ≤ 255 := by
  simpa [Lit.wf, IntKind.min, IntKind.max, IntKind.signed, IntKind.bits] using h
theorem rd_u8 {code : List Int} (hc : ∀ x ∈ code, 0 ≤ x ∧ x ≤ 255) (i : Int) : 0 ≤ rd code i ∧ rd code i ≤ 255 := by
  unfold rd
  by_cases h : i.toNat < code.length
  · have := hc _ (List.getElem_mem h)
    simpa [List.getD, h] using this
  · simp [List.getD, h]
theorem u64_low (x : Int) : 0 ≤ wrap64 (Go.bits .and .u64 (IntKind.u64.wrap x / 1099511627776) 255) ∧ wrap64 (Go.bits .and .u64 (IntKind.u64.wrap x / 1099511627776) 255) ≤ 255 := by
  have h : 0 ≤ IntKind.u64.wrap x / 1099511627776 ∧ IntKind.u64.wrap x / 1099511627776 < 2 ^ 32 := by rw [IntKind.wrap_u64]; omega
  generalize IntKind.u64.wrap x / 1099511627776 = y at h ⊢
  have e : Go.bits .and .u64 y (2 ^ 8 - 1) = y % 2 ^ 8 := bits_mask .u64 32 (by decide) (fun n a b => by rw [IntKind.wrap_u64]; omega) 8 (by decide) y h.1 h.2
  rw [show (255 : Int) = 2 ^ 8 - 1 by decide, e, w64 (by omega) (by omega)]
  omega
theorem next_ok {code : List Int} (hc : ∀ x ∈ code, 0 ≤ x ∧ x ≤ 255) (at_ seed : Int) (h0 : 0 ≤ at_) (h1 : at_ ≤ 1000000000) : ∃ v s, spec_l1Cur_next.f code at_ seed = some (v, at_ + 1, s) ∧ 0 ≤ v ∧ v ≤ 255 := by
  unfold spec_l1Cur_next.f
  have w1 : wrap64 (at_ + 1) = at_ + 1 := w64 (by omega) (by omega)
  obtain ⟨r0, r1⟩ := rd_u8 hc at_
  rw [w1]
  by_cases c : at_ < (code.length : Int)
  · rw [if_pos c, if_pos h0]
    by_cases d : at_ + 1 ≤ (code.length : Int)
    · rw [if_pos d, w64 (by omega) (by omega)]
      exact ⟨_, _, rfl, r0, r1⟩
    · rw [if_neg d]
      exact ⟨_, _, rfl, u64_low _⟩
  · rw [if_neg c]
    by_cases d : at_ + 1 ≤ (code.length : Int)
    · rw [if_pos d]
      exact ⟨_, _, rfl, by omega, by omega⟩
    · rw [if_neg d]
      exact ⟨_, _, rfl, u64_low _⟩
theorem pick_ok {code : List Int} (hc : ∀ x ∈ code, 0 ≤ x ∧ x ≤ 255) (at_ seed n : Int) (h0 : 0 ≤ at_) (h1 : at_ ≤ 999999000) : ∃ v a s, spec_l1Cur_pick.f code at_ seed n = some (v, a, s) ∧ 0 ≤ v ∧ (v < n ∨ v = 0) ∧ at_ ≤ a ∧ a ≤ at_ + 2 := by
  unfold spec_l1Cur_pick.f
  by_cases c : n ≤ 1
  · rw [if_pos c]
    exact ⟨_, _, _, rfl, by omega, .inr rfl, by omega, by omega⟩
  · rw [if_neg c]
    obtain ⟨v, s, e, v0, v1⟩ := next_ok hc at_ seed h0 (by omega)
    rw [e, Option.bind_some]
    by_cases d : n > 200
    · rw [if_pos d]
      obtain ⟨v', s', e', v0', v1'⟩ := next_ok hc (at_ + 1) s (by omega) (by omega)
      show ∃ v a s, ((spec_l1Cur_next.f code (at_ + 1) _).bind _) = _ ∧ _
      rw [e', Option.bind_some, if_neg (show ¬ n = 0 by omega), w64 (show -9223372036854775808 ≤ v * 256 by omega) (by omega)]
      have hp : 0 ≤ v * 256 + v' := by omega
      rw [w64 (by omega) (by omega)]
      refine ⟨_, _, _, rfl, Int.tmod_nonneg _ hp, .inl ?_, by show at_ ≤ at_ + 1 + 1; omega, by show at_ + 1 + 1 ≤ _; omega⟩
      exact Int.tmod_lt_of_pos _ (by omega)
    · rw [if_neg d, if_neg (show ¬ n = 0 by omega)]
      refine ⟨_, _, _, rfl, Int.tmod_nonneg _ v0, .inl ?_, by show at_ ≤ at_ + 1; omega, by show at_ + 1 ≤ _; omega⟩
      exact Int.tmod_lt_of_pos _ (by omega)
theorem one_ok {code : List Int} (hc : ∀ x ∈ code, 0 ≤ x ∧ x ≤ 255) (at_ seed n : Int) (h0 : 0 ≤ at_) (h1 : at_ ≤ 999999000) : ∃ v a s, spec_l1Cur_one.f code at_ seed n = some (v, a, s) ∧ at_ ≤ a ∧ a ≤ at_ + 2 := by
  unfold spec_l1Cur_one.f
  obtain ⟨v, a, s, e, _, _, a1, a2⟩ := pick_ok hc at_ seed n h0 h1
  rw [e]
  exact ⟨_, _, _, rfl, a1, a2⟩
theorem among_ok {code : List Int} (hc : ∀ x ∈ code, 0 ≤ x ∧ x ≤ 255) (at_ seed : Int) (l : List Int) (hl : l.length ≠ 0) (h0 : 0 ≤ at_) (h1 : at_ ≤ 999999000) : ∃ v a s, spec_l1Cur_among.f code at_ seed l = some (v, a, s) ∧ at_ ≤ a ∧ a ≤ at_ + 2 := by
  unfold spec_l1Cur_among.f
  obtain ⟨v, a, s, e, v0, v1, a1, a2⟩ := pick_ok hc at_ seed l.length h0 h1
  rw [e, Option.bind_some, if_pos (show (0 : Int) ≤ v from v0), if_pos (show v < (l.length : Int) by omega)]
  exact ⟨_, _, _, rfl, a1, a2⟩
/-! a way is a chain, step by step -/
theorem way_link {n : Nat} (hn : 1 ≤ n) (d : Nat) (p : List Int) (hp : p ∈ wRun n d) (k : Nat) (h1 : 1 ≤ k) (h2 : k < p.length) : ∃ i, i < k ∧ rd p (k : Int) = rd p ((k : Int) - 1) + rd p (i : Int) := by
  have hm := wRun_prefix d p hp (k + 1) (by omega) (by omega)
  have way := wRun_way (show (1 : Int) ≤ n by omega) d _ hm
  have et : p.take (k + 1) = p.take k ++ [p[k]] := List.take_succ_eq_append_getElem (by omega)
  have et2 : p.take k = p.take (k - 1) ++ [p[k - 1]] := by
    have := List.take_succ_eq_append_getElem (show k - 1 < p.length by omega)
    rwa [show k - 1 + 1 = k by omega] at this
  have r1 : rd p (k : Int) = p[k] := rd_list p k h2
  have r2 : rd p ((k : Int) - 1) = p[k - 1] := by rw [show (k : Int) - 1 = ((k - 1 : Nat) : Int) by omega]; exact rd_list p (k - 1) (by omega)
  rcases way.made with h | ⟨q, _, a, ha, h⟩
  · have := congrArg List.length h
    rw [List.length_take] at this
    simp at this
    omega
  · rw [et] at h
    obtain ⟨e1, e2⟩ := List.append_inj' h rfl
    injection e2 with e2
    rw [← e1] at e2 ha
    rw [et2, wEnd_snoc] at e2
    obtain ⟨i, hi, ei⟩ := List.getElem_of_mem ha
    rw [List.length_take] at hi
    rw [List.getElem_take] at ei
    exact ⟨i, by omega, by rw [r1, r2, e2, ← ei, rd_list p i (by omega)]⟩
theorem inner_f1 (xs : List Int) (k j : Int) : ∀ (d : Nat) (i : Int), ∀ s ∈ inner xs k j d i, s.f1 = j
  | 0, _, s, h => by cases h
  | d + 1, i, s, h => by
    unfold inner at h
    split at h
    · rcases List.mem_cons.1 h with rfl | h
      · rfl
      · exact inner_f1 xs k j d (i + 1) s h
    · exact inner_f1 xs k j d (i + 1) s h
theorem inner_ne (xs : List Int) (k j : Int) : ∀ (d : Nat) (i m : Int), i ≤ m → m < i + d → wrap64 (rd xs m + rd xs j) = rd xs k → inner xs k j d i ≠ []
  | 0, i, m, h1, h2, _ => by omega
  | d + 1, i, m, h1, h2, h3 => by
    unfold inner
    split
    · simp
    · rename_i c
      by_cases e : m = i
      · rw [e] at h3; exact absurd h3 c
      · exact inner_ne xs k j d (i + 1) m (by omega) (by omega) h3
theorem outer_last (xs : List Int) (k : Int) : ∀ (d : Nat) (j : Int), outer xs k (d + 1) j = outer xs k d j ++ inner xs k (j + d) (j + d + 1).toNat 0
  | 0, j => by simp [outer]
  | d + 1, j => by
    rw [outer, outer_last xs k d (j + 1), outer, ← List.append_assoc, show j + 1 + (d : Int) = j + ((d + 1 : Nat) : Int) by omega]
theorem sums_last (xs : List Int) (k : Nat) (hk : 1 ≤ k) (i : Nat) (hi : i < k) (h : wrap64 (rd xs i + rd xs ((k : Int) - 1)) = rd xs k) : (sumsOf xs k).length ≠ 0 ∧ (lastOf (sumsOf xs k)).f1 = (k : Int) - 1 := by
  have e : sumsOf xs k = outer xs k (k - 1) 0 ++ inner xs k ((k : Int) - 1) k 0 := by
    unfold sumsOf
    rw [Int.toNat_natCast]
    have := outer_last xs k (k - 1) 0
    rw [show k - 1 + 1 = k by omega, show (0 : Int) + ((k - 1 : Nat) : Int) = (k : Int) - 1 by omega, show ((k : Int) - 1 + 1).toNat = k by omega] at this
    exact this
  have hne := inner_ne xs k ((k : Int) - 1) k 0 i (by omega) (by omega) h
  obtain ⟨l, hl⟩ : ∃ l, inner xs k ((k : Int) - 1) k 0 = l := ⟨_, rfl⟩
  have hf := inner_f1 xs k ((k : Int) - 1) k 0
  rw [hl] at hne hf e
  rw [e]
  have hlp : 0 < l.length := List.length_pos_iff.2 hne
  refine ⟨by rw [List.length_append]; omega, ?_⟩
  unfold lastOf
  obtain ⟨A, hA⟩ : ∃ A, outer xs k (k - 1) 0 = A := ⟨_, rfl⟩
  rw [hA, List.length_append]
  have e2 : (A ++ l)[A.length + (l.length - 1)]? = some (l[l.length - 1]'(by omega)) := by rw [List.getElem?_append_right (by omega), show A.length + (l.length - 1) - A.length = l.length - 1 by omega, List.getElem?_eq_getElem (by omega)]
  have e3 : rdS (A ++ l) (((A.length + l.length : Nat) : Int) - 1) = l[l.length - 1]'(by omega) := by
    show List.getD (A ++ l) (((A.length + l.length : Nat) : Int) - 1).toNat _ = _
    rw [show (((A.length + l.length : Nat) : Int) - 1).toNat = A.length + (l.length - 1) by omega, List.getD_eq_getElem?_getD, e2]
    rfl
  rw [e3]
  exact hf _ (List.getElem_mem _)
structure Way (p : List Int) : Prop where
  one : rd p 0 = 1
  len : 1 ≤ p.length ∧ p.length ≤ 41
  link : ∀ k : Nat, 1 ≤ k → k < p.length → ∃ i : Nat, i < k ∧ rd p (k : Int) = rd p ((k : Int) - 1) + rd p (i : Int)
  box : ∀ k : Nat, k < p.length → 1 ≤ rd p (k : Int) ∧ rd p (k : Int) ≤ 100000
theorem way_sums {p : List Int} (h : Way p) (k : Nat) (h1 : 1 ≤ k) (h2 : k < p.length) : rd p ((k : Int) - 1) < rd p k ∧ rd p k ≤ 1000000 ∧ (sumsOf p k).length ≠ 0 ∧ (lastOf (sumsOf p k)).f1 = (k : Int) - 1 := by
  obtain ⟨i, hi, e⟩ := h.link k h1 h2
  have b1 := h.box i (by omega)
  have b2 := h.box k h2
  have b3 := h.box (k - 1) (by omega)
  rw [show ((k - 1 : Nat) : Int) = (k : Int) - 1 by omega] at b3
  have := sums_last p k h1 i hi (by rw [w64 (by omega) (by omega)]; omega)
  exact ⟨by omega, by omega, this.1, this.2⟩
theorem way_from {p : List Int} (h : Way p) : ∀ (d k : Nat), 1 ≤ k → k + d = p.length → implFrom p d (k : Int) = true
  | 0, _, _, _ => rfl
  | d + 1, k, h1, h2 => by
    obtain ⟨a, b, c, _⟩ := way_sums h k h1 (by omega)
    unfold implFrom
    rw [if_neg (by omega), if_neg (by omega), if_neg c]
    exact way_from h d (k + 1) (by omega) (by omega)
theorem way_chain {p : List Int} (h : Way p) : chain p = true := by
  unfold chain
  rw [if_pos h.len, if_pos h.one]
  exact way_from h (p.length - 1) 1 (Nat.le_refl _) (by have := h.len; omega)
theorem stepsFrom_at (xs : List Int) : ∀ (d : Nat) (k : Int) (i : Nat), i < d → rdS (stepsFrom xs d k) (i : Int) = lastOf (sumsOf xs (k + i))
  | 0, _, _, h => by omega
  | d + 1, k, 0, _ => by
    rw [stepsFrom, show k + ((0 : Nat) : Int) = k by omega]
    rfl
  | d + 1, k, i + 1, h => by
    have := stepsFrom_at xs d (k + 1) i (by omega)
    rw [show k + 1 + (i : Int) = k + ((i + 1 : Nat) : Int) by omega] at this
    rw [← this, stepsFrom]
    show List.getD _ (((i + 1 : Nat) : Int)).toNat _ = List.getD _ ((i : Int)).toNat _
    rw [Int.toNat_natCast, Int.toNat_natCast]
    rfl
theorem star_all (ss : List St) : ∀ (d i : Nat), (∀ j : Nat, i ≤ j → j < i + d → (rdS ss (j : Int)).f1 = (j : Int)) → starFrom ss d (i : Int) = true
  | 0, _, _ => rfl
  | d + 1, i, h => by
    unfold starFrom
    rw [if_pos (h i (Nat.le_refl _) (by omega))]
    exact star_all ss d (i + 1) (fun j h1 h2 => h j (by omega) (by omega))
theorem way_step {p : List Int} (h : Way p) : isStep p = (true, true) := by
  unfold isStep
  rw [if_pos (way_chain h)]
  have hl : (stepsOf p).length = p.length - 1 := stepsFrom_length p (p.length - 1) 1
  have := star_all (stepsOf p) (stepsOf p).length 0 (fun j _ h2 => by
    rw [hl] at h2
    have e := stepsFrom_at p (p.length - 1) 1 j (by omega)
    unfold stepsOf
    rw [e]
    have := way_sums h (j + 1) (by omega) (by omega)
    have e2 := this.2.2.2
    rw [show ((j + 1 : Nat) : Int) = 1 + (j : Int) by omega] at e2
    rw [e2]
    omega)
  rw [show ((0 : Nat) : Int) = 0 from rfl] at this
  rw [this]
theorem way_of (n : Nat) (hn : 1 ≤ n) (hn2 : n ≤ 400) (p : List Int) (hp : p ∈ wAll n) (hl : p.length ≤ 41) : Way p := by
  have ok := wRun_ok (show (1 : Int) ≤ n by omega) n
  have hne := ok.ne p hp
  have hlp : 0 < p.length := List.length_pos_iff.2 hne
  refine ⟨?_, ⟨hlp, hl⟩, fun k h1 h2 => way_link hn n p hp k h1 h2, fun k hk => ?_⟩
  · have hm := wRun_prefix n p hp 1 (Nat.le_refl _) hlp
    have way := wRun_way (show (1 : Int) ≤ n by omega) n _ hm
    have et : p.take 1 = [p[0]] := by
      have := List.take_succ_eq_append_getElem hlp
      simpa using this
    have h1 := way.one
    rw [et] at h1
    simp at h1
    have := rd_list p 0 hlp
    rw [show ((0 : Nat) : Int) = 0 from rfl] at this
    rw [this]
    exact h1.symm
  · have r := rd_list p k hk
    have m := List.getElem_mem hk
    have way := wRun_way (show (1 : Int) ≤ n by omega) n p hp
    have := way.top _ m
    have := ok.most p hp
    have := ok.pos p hp _ m
    omega
/-- The way to n, of all ways to 400. -/
theorem tree_way (n : Int) (h1 : 1 ≤ n) (h2 : n ≤ 400) (W : List Int) (hW : wTo (wAll 400) n = W) : Way W ∧ wEnd W = n ∧ (∀ k : Nat, k < W.length → 1 ≤ rd W (k : Int) ∧ rd W (k : Int) ≤ 400 ∧ wTo (wAll 400) (rd W (k : Int)) = W.take (k + 1)) := by
  obtain ⟨q, hq, e, hl⟩ := wAll_short (B := 400) (by omega) 8 n.toNat (by omega) (by omega) (by omega)
  have en : ((n.toNat : Nat) : Int) = n := by omega
  rw [en] at e
  have ok : WOk ((400 : Nat) : Int) (wAll 400) := wRun_ok (by omega) 400
  have eq : W = q := by rw [← hW, ← e]; exact wTo_of ok hq
  subst eq
  refine ⟨way_of 400 (by omega) (by omega) W hq (by omega), e, fun k hk => ?_⟩
  have hm := wRun_prefix 400 W hq (k + 1) (by omega) (by omega)
  have et : W.take (k + 1) = W.take k ++ [W[k]] := List.take_succ_eq_append_getElem (by omega)
  have ee : wEnd (W.take (k + 1)) = rd W (k : Int) := by rw [et, wEnd_snoc, rd_list W k hk]
  have a := ok.pos _ hm _ (wEnd_mem (ok.ne _ hm))
  have b := ok.most _ hm
  rw [ee] at a b
  refine ⟨a, by omega, ?_⟩
  rw [← ee]
  exact wTo_of ok hm
theorem draw_ok {code : List Int} (hc : ∀ x ∈ code, 0 ≤ x ∧ x ≤ 255) : ∃ n, spec_DrawTreeChain.f code = some n := by
  unfold spec_DrawTreeChain.f
  obtain ⟨v, a, s, e, a1, a2⟩ := one_ok hc 0 0 6 (by omega) (by omega)
  rw [e, Option.bind_some]
  dsimp only
  by_cases c : v = true
  · rw [if_pos c]
    obtain ⟨v', a', s', e', b1, b2⟩ := among_ok hc a s [(-1), 0, 1, 400, 401] (by decide) (by omega) (by omega)
    rw [e']
    exact ⟨_, rfl⟩
  · rw [if_neg c]
    obtain ⟨v', a', s', e', _, _, b1, b2⟩ := pick_ok hc a s 120 (by omega) (by omega)
    rw [e']
    exact ⟨_, rfl⟩
theorem rounds_ev (W : List Int) (hl : W.length ≤ 41) (h : ∀ k : Nat, k < W.length → 1 ≤ rd W (k : Int) ∧ rd W (k : Int) ≤ 400 ∧ wTo (wAll 400) (rd W (k : Int)) = W.take (k + 1)) : ∀ (d k : Nat), k + d = W.length → Ev (fun f => laws_FnTreeOfPowers.l0 f W W W.length k) true := by
  intro d
  induction d with
  | zero =>
    intro k hk
    refine ev_shift ?_
    simp only [laws_FnTreeOfPowers.l0, if_neg (show ¬ (k : Int) < (W.length : Int) by omega)]
    exact Ev.now _
  | succ d ih =>
    intro k hk
    obtain ⟨a, b, c⟩ := h k (by omega)
    have hn := ih (k + 1) (by omega)
    have w : wrap64 ((k : Int) + 1) = ((k + 1 : Nat) : Int) := inc64 (n := 100000) (by omega) (Nat.le_refl _)
    have ec : impl_TreeChain.f (rd W (k : Int)) = some (W.take (k + 1), true) := by unfold impl_TreeChain.f; rw [if_pos ⟨a, b⟩, c]
    refine ev_shift ?_
    simp only [laws_FnTreeOfPowers.l0, if_pos (show (k : Int) < (W.length : Int) by omega), if_pos (show (0 : Int) ≤ (k : Int) by omega), ec, Option.bind_some, if_true, w, if_pos (show (0 : Int) ≤ ((k + 1 : Nat) : Int) by omega), if_pos (show ((k + 1 : Nat) : Int) ≤ (W.length : Int) by omega), Int.toNat_natCast]
    refine ev_bind (sameInts_ev (W.take (k + 1)) (by rw [List.length_take]; omega)) ?_
    simp only [if_true]
    exact hn
theorem end_rd {W : List Int} (h : 0 < W.length) : rd W ((W.length : Int) - 1) = wEnd W := by
  rw [show (W.length : Int) - 1 = ((W.length - 1 : Nat) : Int) by omega, rd_list W (W.length - 1) (by omega)]
  unfold wEnd
  rw [List.getLastD_eq_getLast?, List.getLast?_eq_getElem?, List.getElem?_eq_getElem (by omega)]
  rfl
theorem rest_ev (n : Int) (W : List Int) (hw : Way W) (he : wEnd W = n) (hk : ∀ k : Nat, k < W.length → 1 ≤ rd W (k : Int) ∧ rd W (k : Int) ≤ 400 ∧ wTo (wAll 400) (rd W (k : Int)) = W.take (k + 1)) :
    Ev (fun k => (impl_IsStepByStep.f k W).bind fun bt205 => (if bt205.2 = true then (if bt205.1 = true then ((impl_IsChain.f k W).bind fun t207 => (if t207 = true then (if 0 ≤ (wrap64 ((W.length : Int) - 1)) then (if (wrap64 ((W.length : Int) - 1)) < (W.length : Int) then (if (rd W (wrap64 ((W.length : Int) - 1))) = n then (laws_FnTreeOfPowers.l0 k W W (W.length : Int) 0) else (none)) else (none)) else (none)) else (none))) else (none)) else (none))) true := by
  obtain ⟨l1, l2⟩ := hw.len
  have hs := implStep_ev W (by omega)
  rw [way_step hw] at hs
  have hc := isChain_ev W (by omega)
  rw [way_chain hw] at hc
  have w1 : wrap64 ((W.length : Int) - 1) = (W.length : Int) - 1 := w64 (by omega) (by omega)
  refine ev_bind hs ?_
  simp only [if_true]
  refine ev_bind hc ?_
  simp only [if_true, w1, if_pos (show (0 : Int) ≤ (W.length : Int) - 1 by omega), if_pos (show (W.length : Int) - 1 < (W.length : Int) by omega), end_rd (show 0 < W.length by omega), if_pos he]
  exact rounds_ev W l2 hk W.length 0 (by omega)
theorem FnTreeOfPowers : laws_FnTreeOfPowers.Pure := by
  intro l0 l1 m0 _ hu m1 _ _
  have hc : ∀ x ∈ l0, 0 ≤ x ∧ x ≤ 255 := fun x hx => u8_of (hu x hx)
  unfold laws_FnTreeOfPowers.f
  by_cases hb : laws_big.f l0 l1 = some true
  · exact ⟨0, by rw [hb]; rfl⟩
  · have hb2 : laws_big.f l0 l1 = some false := by
      unfold laws_big.f at hb ⊢
      split
      · rename_i c; rw [if_pos c] at hb; exact absurd rfl hb
      · rename_i c
        rw [if_neg c] at hb
        cases h : decide ((l1.length : Int) > wrap64 (1048576 - (l0.length : Int))) with
        | true => rw [h] at hb; exact absurd rfl hb
        | false => rfl
    obtain ⟨n, hn⟩ := draw_ok hc
    refine Ev.rounds (r := true) ?_
    have hs := specTree_ev n
    rw [hb2, hn]
    simp only [Option.bind_some, Bool.false_eq_true, if_false]
    have hi : impl_TreeChain.f n = some (if 1 ≤ n ∧ n ≤ 400 then (wTo (wAll 400) n, true) else ([], false)) := rfl
    rw [hi]
    simp only [Option.bind_some]
    refine ev_bind hs ?_
    by_cases c : 1 ≤ n ∧ n ≤ 400
    · obtain ⟨W, hW⟩ : ∃ W, wTo (wAll 400) n = W := ⟨_, rfl⟩
      obtain ⟨hw, he, hk⟩ := tree_way n c.1 c.2 W hW
      have hl := hw.len
      simp only [if_pos c, hW, bne_self_eq_false, Bool.false_eq_true, if_false]
      refine ev_bind (sameInts_ev W (by omega)) ?_
      simp only [if_true]
      exact rest_ev n W hw he hk
    · simp only [if_neg c, bne_self_eq_false, Bool.false_eq_true, if_false]
      refine ev_bind (sameInts_ev [] (by simp)) ?_
      simp only [if_true]
      exact Ev.now _
end Go.Proofs.Ytbjmnneaflmgaaa.Pure
