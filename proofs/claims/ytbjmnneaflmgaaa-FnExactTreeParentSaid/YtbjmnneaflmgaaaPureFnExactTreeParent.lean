/- For every n: TreeParent of the program answers as the reference does. -/
import Derived.Test.YtbjmnneaflmgaaaMFnExactTreeParentx3
import Derived.Test.YtbjmnneaflmgaaaWT
namespace Go.Proofs.Ytbjmnneaflmgaaa.Pure
open Go.RowKit Go.Proofs.Ytbjmnneaflmgaaa.MFnExactTreeParent Go.Proofs.YtbjmnneaflmgaaaW.PrintWords Go.Proofs.YtbjmnneaflmgaaaW.PrintLast Go.Proofs.YtbjmnneaflmgaaaW.PrintMore
set_option linter.unusedVariables false
set_option linter.unusedSimpArgs false
open Go.Proofs.YtbjmnneaflmgaaaWT
theorem w64 {x : Int} (h1 : -9223372036854775808 ≤ x) (h2 : x ≤ 9223372036854775807) : wrap64 x = x := by unfold wrap64; omega

theorem rd_nat (xs : List Int) (j : Nat) : rd xs (j : Int) = xs.getD j 0 := by unfold rd; rw [Int.toNat_natCast]

theorem ev_shift {α : Type} {g : Nat → Option α} {r : α} (h : Ev (fun k => g (k + 1)) r) : Ev g r := by
  obtain ⟨K, hK⟩ := h
  refine ⟨K + 1, fun k hk => ?_⟩
  obtain ⟨m, rfl⟩ : ∃ m, k = m + 1 := ⟨k - 1, by omega⟩
  exact hK m (by omega)

theorem ev_bind {α β : Type} {g : Nat → Option α} {F : Nat → α → Option β} {a : α} {r : β} (h : Ev g a) (k : Ev (fun n => F n a) r) : Ev (fun n => (g n).bind (fun x => F n x)) r := Ev.bind h k

theorem ev_some {α : Type} {g : Nat → Option α} {r : α} (h : ∀ k, g k = some r) : Ev g r := ⟨0, fun k _ => h k⟩

def hasFrom (ys : List Int) (x : Int) : Nat → Int → Bool
  | 0, _ => false
  | d + 1, i => if rd ys i = x then true else hasFrom ys x d (i + 1)
/-- Is x among them? -/
def has (ys : List Int) (x : Int) : Bool := hasFrom ys x ys.length 0
theorem hasFrom_at (ys : List Int) (x : Int) : ∀ (d : Nat) (i : Int), hasFrom ys x d i = true → ∃ j, i ≤ j ∧ j < i + d ∧ rd ys j = x
  | 0, _, h => by cases h
  | d + 1, i, h => by
    unfold hasFrom at h
    split at h
    · rename_i c; exact ⟨i, by omega, by omega, c⟩
    · obtain ⟨j, h1, h2, h3⟩ := hasFrom_at ys x d (i + 1) h
      exact ⟨j, by omega, by omega, h3⟩
theorem hasFrom_mk (ys : List Int) (x : Int) : ∀ (d : Nat) (i j : Int), i ≤ j → j < i + d → rd ys j = x → hasFrom ys x d i = true
  | 0, _, _, _, _, _ => by omega
  | d + 1, i, j, h1, h2, h3 => by
    unfold hasFrom
    split
    · rfl
    · rename_i c
      by_cases e : i = j
      · subst e; exact absurd h3 c
      · exact hasFrom_mk ys x d (i + 1) j (by omega) (by omega) h3
theorem has_iff (ys : List Int) (x : Int) : has ys x = true ↔ ∃ j : Int, 0 ≤ j ∧ j < ys.length ∧ rd ys j = x := by
  constructor
  · intro h
    obtain ⟨j, h1, h2, h3⟩ := hasFrom_at ys x ys.length 0 h
    exact ⟨j, h1, by omega, h3⟩
  · rintro ⟨j, h1, h2, h3⟩
    exact hasFrom_mk ys x ys.length 0 j h1 (by omega) h3
theorem rd_take (xs : List Int) (k j : Int) (h0 : 0 ≤ j) (h1 : j < k) : rd (xs.take k.toNat) j = rd xs j := by
  unfold rd
  simp only [List.getD_eq_getElem?_getD]
  rw [List.getElem?_take_of_lt (by omega)]

theorem l1Has_ev (ys : List Int) (x : Int) (hl : ys.length ≤ 100000000) : Ev (fun f => spec_l1Has.f f ys x) (has ys x) := by
  have loop : ∀ (d : Nat) (i : Int), 0 ≤ i → i + d = ys.length → Ev (fun f => spec_l1Has.l0 f x ys ys.length i) (hasFrom ys x d i) := by
    intro d
    induction d with
    | zero =>
      intro i h0 hd
      refine ev_shift ?_
      simp only [spec_l1Has.l0, if_neg (show ¬ i < (ys.length : Int) by omega), hasFrom]
      exact Ev.now _
    | succ d ih =>
      intro i h0 hd
      have hn := ih (i + 1) (by omega) (by omega)
      refine ev_shift ?_
      simp only [spec_l1Has.l0, if_pos (show i < (ys.length : Int) by omega), if_pos h0, w64 (show -9223372036854775808 ≤ i + 1 by omega) (by omega)]
      unfold hasFrom
      by_cases c : rd ys i = x
      · rw [if_pos c]; simp only [if_pos c]; exact Ev.now _
      · rw [if_neg c]; simp only [if_neg c]; exact hn
  exact loop ys.length 0 (by omega) (by omega)

theorem rd_ne (xs : List Int) (i : Nat) (h : i < xs.length) : rd xs (i : Int) = xs[i] := by rw [rd_nat]; simp [List.getD, h]
theorem has_mem (ys : List Int) (x : Int) : has ys x = decide (x ∈ ys) := by
  rw [Bool.eq_iff_iff, decide_eq_true_iff, has_iff]
  constructor
  · rintro ⟨j, h0, h1, h2⟩
    obtain ⟨j, rfl⟩ := Int.eq_ofNat_of_zero_le h0
    rw [rd_ne ys j (by omega)] at h2
    exact List.mem_iff_getElem.2 ⟨j, by omega, h2⟩
  · intro h
    obtain ⟨j, h1, h2⟩ := List.mem_iff_getElem.1 h
    exact ⟨j, by omega, by omega, by rw [rd_ne ys j h1]; exact h2⟩
theorem drop_cons (xs : List Int) (i : Nat) (h : i < xs.length) : xs.drop i = rd xs (i : Int) :: xs.drop (i + 1) := by rw [rd_ne xs i h]; exact List.drop_eq_getElem_cons h
theorem rd_list (xs : List Int) (i : Nat) (h : i < xs.length) : rd xs (i : Int) = xs[i] := by unfold rd; rw [Int.toNat_natCast]; simp [List.getD, h]
theorem inc64 {j n : Nat} (h : j < n) (hn : n ≤ 100000) : wrap64 ((j : Int) + 1) = ((j + 1 : Nat) : Int) := by rw [w64 (by omega) (by omega)]; omega
/-- What holds of the list within a round. -/
structure Mid (n : Nat) (D : List (List Int)) : Prop where
  ok : WOk n D
  way : ∀ p ∈ D, WWay D p
theorem mid_run (n : Nat) (hn : 1 ≤ n) (d : Nat) : Mid n (wRun n d) := ⟨wRun_ok (by omega) d, wRun_way (by omega) d⟩
theorem mid_add {n : Nat} {D : List (List Int)} (h : Mid n D) {p : List Int} (hp : p ∈ D) {a : Int} (ha : a ∈ p) : Mid n (wAdd n p D a) := by
  have pos := h.ok.pos p hp
  refine ⟨wAdd_ok h.ok pos (h.ok.ne p hp) (pos a ha), fun q hq => ?_⟩
  unfold wAdd at hq ⊢
  split at hq
  · rename_i c
    rw [if_pos c]
    rcases List.mem_append.1 hq with hq | hq
    · exact (h.way q hq).mono (fun x hx => List.mem_append_left _ hx)
    · simp at hq
      subst hq
      have w := h.way p hp
      refine ⟨List.mem_append_left _ w.one, fun x hx => ?_, .inr ⟨p, List.mem_append_left _ hp, a, ha, rfl⟩⟩
      rw [wEnd_snoc]
      have := pos a ha
      rcases List.mem_append.1 hx with hx | hx
      · have := w.top x hx; omega
      · simp at hx; omega
  · rename_i c
    rw [if_neg c]
    exact h.way q hq
theorem run_short (n : Nat) (hn : 1 ≤ n) (hn2 : n ≤ 100000) (d : Nat) (p : List Int) (hp : p ∈ wRun n d) : p.length ≤ n := by
  have ok := wRun_ok (show (1 : Int) ≤ n by omega) d
  have way := wRun_way (show (1 : Int) ≤ n by omega) d p hp
  have := wRun_up (show (1 : Int) ≤ n by omega) d p hp
  exact nodup_le n p (this.imp (fun h e => by omega)) (fun x hx => ⟨ok.pos p hp x hx, by have := way.top x hx; have := ok.most p hp; omega⟩)
theorem end_rd {W : List Int} (h : 0 < W.length) : rd W ((W.length : Int) - 1) = wEnd W := by
  rw [show (W.length : Int) - 1 = ((W.length - 1 : Nat) : Int) by omega, rd_list W (W.length - 1) (by omega)]
  unfold wEnd
  rw [List.getLastD_eq_getLast?, List.getLast?_eq_getElem?, List.getElem?_eq_getElem (by omega)]
  rfl
/-! the reference's tree, level by level -/
def Sees (D : List (List Int)) (alls : List Int) : Prop := (∀ x, x ∈ alls ↔ wSeen D x = true) ∧ alls.length = D.length
theorem put_sees {D : List (List Int)} {alls : List Int} (h : Sees D alls) (q : List Int) (x : Int) (hq : wEnd q = x) (hx : wSeen D x = false) (hl : D.length ≤ 1000000) : ∃ alls', spec_l1Put.f alls x = some alls' ∧ Sees (D ++ [q]) alls' := by
  have hno : x ∉ alls := fun hm => by
    have := (h.1 x).1 hm
    rw [hx] at this
    cases this
  refine ⟨_, by unfold spec_l1Put.f; rw [if_neg hno, if_pos (by rw [h.2]; exact hl)], fun y => ?_, ?_⟩
  · generalize spec_l1Put.at_ alls x alls.length 0 = k
    have e : y ∈ alls ↔ y ∈ alls.take k ∨ y ∈ alls.drop k := by rw [← List.mem_append, List.take_append_drop]
    have e2 : wSeen (D ++ [q]) y = true ↔ wSeen D y = true ∨ y = x := by
      rw [wSeen_iff, wSeen_iff]
      constructor
      · rintro ⟨p, hp, ep⟩
        rcases List.mem_append.1 hp with hp | hp
        · exact .inl ⟨p, hp, ep⟩
        · simp at hp
          subst hp
          exact .inr (by rw [← ep, hq])
      · rintro (⟨p, hp, ep⟩ | rfl)
        · exact ⟨p, List.mem_append_left _ hp, ep⟩
        · exact ⟨q, List.mem_append_right _ (by simp), hq⟩
    rw [e2, ← h.1 y, e, List.mem_append, List.mem_cons]
    constructor
    · rintro (a | a | a)
      · exact .inl (.inl a)
      · exact .inr a
      · exact .inl (.inr a)
    · rintro ((a | a) | a)
      · exact .inl a
      · exact .inr (.inr a)
      · exact .inr (.inl a)
  · have := congrArg List.length (List.take_append_drop (spec_l1Put.at_ alls x alls.length 0) alls)
    rw [List.length_append] at this
    rw [List.length_append, List.length_cons, List.length_append, ← h.2]
    simp only [List.length_cons, List.length_nil]
    omega
theorem has_seen {D : List (List Int)} {alls : List Int} (h : Sees D alls) (x : Int) : has alls x = wSeen D x := by
  rw [has_mem]
  cases hs : wSeen D x with
  | true => exact decide_eq_true ((h.1 x).2 hs)
  | false => exact decide_eq_false (fun hm => by have := (h.1 x).1 hm; rw [hs] at this; cases this)
theorem len64 {n : Nat} (h : 0 < n) (h2 : n ≤ 100000) : wrap64 ((n : Int) - 1) = (n : Int) - 1 ∧ (0 : Int) ≤ (n : Int) - 1 ∧ (n : Int) - 1 < (n : Int) := ⟨w64 (by omega) (by omega), by omega, by omega⟩
theorem c1_ {n : Nat} (h : n ≤ 100000) : n + 1 < 17592186044416 := by omega
theorem c2_ {n : Nat} (h : n ≤ 100000) : n + 1 < 5864062014805 := by omega
theorem sum_ {x a : Int} {n : Nat} (c1 : 1 ≤ x) (b1 : 1 ≤ a) (b2 : x + a ≤ n) (hn : n ≤ 100000) : wrap64 (x + a) = x + a := w64 (by omega) (by omega)
theorem mid_len {B : Nat} {D : List (List Int)} (h : Mid B D) : D.length ≤ B := by
  have := nodup_le B _ h.ok.one (fun x hx => by
    obtain ⟨p, hp, rfl⟩ := List.mem_map.1 hx
    exact ⟨h.ok.pos p hp _ (wEnd_mem (h.ok.ne p hp)), h.ok.most p hp⟩)
  rwa [List.length_map] at this
theorem own_eq (p : List Int) (h : p.length ≤ 100000) : spec_l1Own.f p = some p := by
  unfold spec_l1Own.f
  rw [Option.bind_some, if_pos (by simp only [List.length_nil]; omega), List.nil_append]
theorem grow_in (B : Nat) (hB : 1 ≤ B) (hB2 : B ≤ 100000) (p : List Int) (e : Nat) (rows : List (List Int)) (len i : Int) (hp : ∀ x ∈ p, 1 ≤ x ∧ wEnd p + x ≤ B) (hw : 1 ≤ wEnd p) (hpl : p.length ≤ 100000) : ∀ (r j : Nat), j + r = p.length → ∀ (D : List (List Int)) (alls : List Int), Mid B D → p ∈ D → e ≤ D.length → Sees D alls →
    ∃ alls', Sees ((p.drop j).foldl (wAdd B p) D) alls' ∧ ∀ R, Ev (fun k => spec_shTree_grow.l0 k rows len (wrap64 (i + 1)) (((p.drop j).foldl (wAdd B p) D).drop e) alls') R → Ev (fun k => spec_shTree_grow.l1 k p (wEnd p) rows len i p p.length j (D.drop e) alls) R := by
  intro r
  induction r with
  | zero =>
    intro j hj D alls _ _ _ hs
    obtain rfl : j = p.length := by omega
    rw [List.drop_length]
    refine ⟨alls, hs, fun R h => ev_shift ?_⟩
    simp only [spec_shTree_grow.l1, if_neg (show ¬ (p.length : Int) < (p.length : Int) by omega)]
    exact h
  | succ r ih =>
    intro j hj D alls hmid hpD he hs
    have hjp : j < p.length := by omega
    have hcons : p.drop j = p[j] :: p.drop (j + 1) := List.drop_eq_getElem_cons hjp
    have hmem := List.getElem_mem hjp
    obtain ⟨b1, b2⟩ := hp _ hmem
    have hrd : rd p (j : Int) = p[j] := rd_list p j hjp
    have hmid2 := mid_add hmid hpD hmem
    have hpD2 : p ∈ wAdd B p D p[j] := by
      obtain ⟨F, hF⟩ := wAdd_pre B p D p[j]
      rw [hF]
      exact List.mem_append_left _ hpD
    have hDl := mid_len hmid
    rw [hcons, List.foldl_cons]
    have w1 : wrap64 (wEnd p + p[j]) = wEnd p + p[j] := sum_ hw b1 b2 hB2
    have w2 : wrap64 ((j : Int) + 1) = ((j + 1 : Nat) : Int) := inc64 hjp hpl
    have hh := l1Has_ev alls (wEnd p + p[j]) (by rw [hs.2]; exact Nat.le_trans hDl (Nat.le_trans hB2 (by decide)))
    rw [has_seen hs] at hh
    cases hseen : wSeen D (wEnd p + p[j]) with
    | true =>
      have ea : wAdd B p D p[j] = D := by unfold wAdd; rw [if_neg (fun h => by rw [hseen] at h; cases h.2)]
      rw [hseen] at hh
      obtain ⟨alls', h1, h2⟩ := ih (j + 1) (by omega) D alls hmid hpD he hs
      rw [ea]
      refine ⟨alls', h1, fun R h => ev_shift ?_⟩
      simp only [spec_shTree_grow.l1, if_pos (Int.ofNat_lt.2 hjp), if_pos (Int.natCast_nonneg j), hrd, w1, w2]
      refine ev_bind hh ?_
      simp only [if_true]
      exact h2 R h
    | false =>
      have ea : wAdd B p D p[j] = D ++ [p ++ [wEnd p + p[j]]] := by unfold wAdd; rw [if_pos ⟨b2, hseen⟩]
      rw [hseen] at hh
      obtain ⟨alls2, e2, hs2⟩ := put_sees hs (p ++ [wEnd p + p[j]]) (wEnd p + p[j]) (wEnd_snoc _ _) hseen (Nat.le_trans hDl (Nat.le_trans hB2 (by decide)))
      rw [ea] at hmid2 hpD2
      obtain ⟨alls', h1, h2⟩ := ih (j + 1) (by omega) _ alls2 hmid2 hpD2 (by rw [List.length_append]; exact Nat.le_trans he (Nat.le_add_right _ _)) hs2
      rw [ea]
      refine ⟨alls', h1, fun R h => ev_shift ?_⟩
      have hd : (D ++ [p ++ [wEnd p + p[j]]]).drop e = D.drop e ++ [p ++ [wEnd p + p[j]]] := List.drop_append_of_le_length he
      have h3 := h2 R h
      rw [hd] at h3
      have c1 : p.length + [wEnd p + p[j]].length < 17592186044416 := c1_ hpl
      have c2 : (D.drop e).length + [p ++ [wEnd p + p[j]]].length < 5864062014805 := c2_ (by rw [List.length_drop]; exact Nat.le_trans (Nat.sub_le _ _) (Nat.le_trans hDl hB2))
      simp only [spec_shTree_grow.l1, if_pos (Int.ofNat_lt.2 hjp), if_pos (Int.natCast_nonneg j), hrd, w1, w2]
      refine ev_bind hh ?_
      simp only [Bool.false_eq_true, if_false, e2, Option.bind_some, own_eq p hpl, if_pos c1, if_pos c2]
      exact h3
theorem grow_ev (B : Nat) (hB : 1 ≤ B) (hB2 : B ≤ 100000) (s e : Nat) (he : e = (wRun B s).length) (hse : s ≤ e) (hrows : ∀ p ∈ (wRun B s).drop s, ∀ x ∈ p, wEnd p + x ≤ B) (alls : List Int) (hs : Sees (wRun B s) alls) :
    ∃ alls', Sees (wRun B e) alls' ∧ Ev (fun k => spec_shTree_grow.f k ((wRun B s).drop s) alls) ((wRun B e).drop e, alls') := by
  have hxl : ((wRun B s).drop s).length = e - s := by rw [List.length_drop, he]
  have heB : e ≤ B := by rw [he]; exact wRun_len hB s
  have loop : ∀ (r i : Nat), s + i + r = e → ∀ alls, Sees (wRun B (s + i)) alls → ∃ alls', Sees (wRun B e) alls' ∧ Ev (fun k => spec_shTree_grow.l0 k ((wRun B s).drop s) ((wRun B s).drop s).length i ((wRun B (s + i)).drop e) alls) ((wRun B e).drop e, alls') := by
    intro r
    induction r with
    | zero =>
      intro i hi alls hs
      have e1 : s + i = e := by omega
      rw [e1] at hs ⊢
      refine ⟨alls, hs, ev_shift ?_⟩
      simp only [spec_shTree_grow.l0, if_neg (show ¬ (i : Int) < (((wRun B s).drop s).length : Int) by rw [hxl]; omega)]
      exact Ev.now _
    | succ r ih =>
      intro i hi alls hs
      have hil : s + i < (wRun B s).length := by rw [← he]; omega
      have hix : i < ((wRun B s).drop s).length := by rw [hxl]; omega
      have hg : (wRun B s)[s + i]? = some ((wRun B s)[s + i]'hil) := List.getElem?_eq_getElem hil
      have hg2 := wRun_get B s i _ _ hg
      have hrow : rd_L1 ((wRun B s).drop s) (i : Int) = (wRun B s)[s + i]'hil := by
        unfold rd_L1
        rw [Int.toNat_natCast, List.getD_eq_getElem?_getD, List.getElem?_drop, hg]
        rfl
      have hmr : (wRun B s)[s + i]'hil ∈ (wRun B s).drop s := by
        refine List.mem_iff_getElem?.2 ⟨i, ?_⟩
        rw [List.getElem?_drop, hg]
      obtain ⟨p, hp⟩ : ∃ p, (wRun B s)[s + i]'hil = p := ⟨_, rfl⟩
      rw [hp] at hg2 hrow hmr
      have hpm := List.mem_of_getElem? hg2
      have ok := wRun_ok (show (1 : Int) ≤ B by omega) (s + i)
      have hpl := run_short B hB hB2 (s + i) p hpm
      have hlen : e ≤ (wRun B (s + i)).length := by
        obtain ⟨E, hE⟩ := wRun_pre B s i
        rw [hE, List.length_append]
        omega
      have hne := ok.ne p hpm
      have hpp : 0 < p.length := List.length_pos_iff.2 hne
      obtain ⟨alls2, hs2, hin⟩ := grow_in B hB hB2 p e ((wRun B s).drop s) (((wRun B s).drop s).length) (i : Int) (fun x hx => ⟨ok.pos p hpm x hx, hrows p hmr x hx⟩) (ok.pos p hpm _ (wEnd_mem hne)) (by omega) p.length 0 (by omega) (wRun B (s + i)) alls (mid_run B hB _) hpm hlen hs
      rw [List.drop_zero] at hs2 hin
      rw [← wRun_step hg2] at hs2 hin
      obtain ⟨alls3, hs3, hnext⟩ := ih (i + 1) (by omega) alls2 hs2
      have w2 : wrap64 ((i : Int) + 1) = ((i + 1 : Nat) : Int) := inc64 (n := 100000) (by omega) (Nat.le_refl _)
      rw [← w2, ← Nat.add_assoc] at hnext
      refine ⟨alls3, hs3, ev_shift ?_⟩
      obtain ⟨wl, wl0, wl1⟩ := len64 hpp (Nat.le_trans hpl hB2)
      simp only [spec_shTree_grow.l0, if_pos (Int.ofNat_lt.2 hix), if_pos (Int.natCast_nonneg i), hrow, wl, if_pos wl0, if_pos wl1, end_rd hpp]
      exact hin _ hnext
  have h0 : (wRun B (s + 0)).drop e = [] := List.drop_eq_nil_of_le (by rw [he]; exact Nat.le_refl _)
  obtain ⟨alls', h1, h2⟩ := loop (e - s) 0 (by omega) alls hs
  rw [h0] at h2
  exact ⟨alls', h1, h2⟩
/-- Behind the levels up to t. -/
structure Lev (B : Nat) (n : Int) (t s : Nat) : Prop where
  size : ∀ p ∈ (wRun B s).drop s, p.length = t + 1
  none_ : ∀ p ∈ (wRun B s).take s, wEnd p ≠ n
  all : ∀ q ∈ wAll B, q.length ≤ t + 1 → q ∈ wRun B s
  le : s ≤ (wRun B s).length
theorem end_pow {B : Nat} (hB : 1 ≤ B) : ∀ d, ∀ p ∈ wRun B d, wEnd p ≤ 2 ^ (p.length - 1)
  | 0, p, h => by simp [wRun] at h; subst h; simp [wEnd]
  | d + 1, p, h => by
    rcases wRun_mem B d p h with h | ⟨q, a, hq, ha, rfl, _⟩
    · exact end_pow hB d p h
    · have hm := List.mem_of_getElem? hq
      have ih := end_pow hB d q hm
      have way := wRun_way (show (1 : Int) ≤ B by omega) d q hm
      have := way.top a ha
      have hne := (wRun_ok (show (1 : Int) ≤ B by omega) d).ne q hm
      have hpos := List.length_pos_iff.2 hne
      rw [wEnd_snoc, List.length_append, List.length_singleton, show q.length + 1 - 1 = (q.length - 1) + 1 by omega, Int.pow_succ]
      omega
theorem new_from (B s e : Nat) (he : e = (wRun B s).length) : ∀ i, s + i ≤ e → ∀ q ∈ (wRun B (s + i)).drop e, ∃ p ∈ (wRun B s).drop s, ∃ a ∈ p, q = p ++ [wEnd p + a]
  | 0, _, q, h => by
    rw [Nat.add_zero, he, List.drop_length] at h
    cases h
  | i + 1, hi, q, h => by
    have ih := new_from B s e he i (by omega)
    have hil : s + i < (wRun B s).length := by omega
    have hg : (wRun B s)[s + i]? = some ((wRun B s)[s + i]'hil) := List.getElem?_eq_getElem hil
    have hg2 := wRun_get B s i _ _ hg
    have hmr : (wRun B s)[s + i]'hil ∈ (wRun B s).drop s := List.mem_iff_getElem?.2 ⟨i, by rw [List.getElem?_drop, hg]⟩
    have hlen : e ≤ (wRun B (s + i)).length := by
      obtain ⟨E, hE⟩ := wRun_pre B s i
      rw [hE, List.length_append]
      omega
    obtain ⟨p, hp⟩ : ∃ p, (wRun B s)[s + i]'hil = p := ⟨_, rfl⟩
    rw [hp] at hg2 hmr
    have key : ∀ (l : List Int) (D : List (List Int)), (∀ x ∈ l, x ∈ p) → e ≤ D.length → (∀ q ∈ D.drop e, ∃ p ∈ (wRun B s).drop s, ∃ a ∈ p, q = p ++ [wEnd p + a]) → ∀ q ∈ (l.foldl (wAdd B p) D).drop e, ∃ p ∈ (wRun B s).drop s, ∃ a ∈ p, q = p ++ [wEnd p + a] := by
      intro l
      induction l with
      | nil => intro D _ _ h; exact h
      | cons a l ihl =>
        intro D hl hD h
        rw [List.foldl_cons]
        refine ihl _ (fun x hx => hl x (List.mem_cons_of_mem _ hx)) ?_ ?_
        · obtain ⟨F, hF⟩ := wAdd_pre B p D a
          rw [hF, List.length_append]
          omega
        · intro q hq
          unfold wAdd at hq
          split at hq
          · rw [List.drop_append_of_le_length hD] at hq
            rcases List.mem_append.1 hq with hq | hq
            · exact h q hq
            · simp at hq
              exact ⟨p, hmr, a, hl a List.mem_cons_self, hq⟩
          · exact h q hq
    rw [← Nat.add_assoc, wRun_step hg2] at h
    exact key p _ (fun x hx => hx) hlen ih q h
theorem same_end {B : Nat} (hB : 1 ≤ B) {p q : List Int} (hp : p ∈ wAll B) (hq : q ∈ wAll B) (e : wEnd p = wEnd q) : p = q := by
  have ok := wRun_ok (show (1 : Int) ≤ B by omega) B
  have a := wTo_of ok hp
  have b := wTo_of ok hq
  rw [e] at a
  exact a.symm.trans b
theorem run_all {B : Nat} (hB : 1 ≤ B) (d : Nat) : ∀ p ∈ wRun B d, p ∈ wAll B := fun p hp => by
  obtain ⟨E, hE⟩ := wAll_pre hB d
  rw [hE]
  exact List.mem_append_left _ hp
theorem lev_next {B : Nat} (hB : 1 ≤ B) (n : Int) (t s e : Nat) (he : e = (wRun B s).length) (h : Lev B n t s) (hno : ∀ p ∈ (wRun B s).drop s, wEnd p ≠ n) : Lev B n (t + 1) e := by
  have hpre : ∃ E, wRun B e = wRun B s ++ E := by
    have := wRun_pre B s (e - s)
    have hle := h.le
    rwa [show s + (e - s) = e by omega] at this
  obtain ⟨E, hE⟩ := hpre
  refine ⟨fun q hq => ?_, fun p hp => ?_, fun q hq hl => ?_, by rw [hE, List.length_append]; omega⟩
  · have hle := h.le
    have hq' : q ∈ (wRun B (s + (e - s))).drop e := by rw [show s + (e - s) = e by omega]; exact hq
    obtain ⟨p, hp, a, _, rfl⟩ := new_from B s e he (e - s) (by omega) q hq'
    rw [List.length_append, h.size p hp]
    rfl
  · rw [hE, List.take_append_of_le_length (by omega), he, List.take_length] at hp
    rw [← List.take_append_drop s (wRun B s)] at hp
    rcases List.mem_append.1 hp with hp | hp
    · exact h.none_ p hp
    · exact hno p hp
  · by_cases c : q.length ≤ t + 1
    · rw [hE]
      exact List.mem_append_left _ (h.all q hq c)
    · have way := wRun_way (show (1 : Int) ≤ B by omega) B q hq
      rcases way.made with rfl | ⟨p, hp, a, ha, rfl⟩
      · simp at c
      · rw [List.length_append, List.length_singleton] at hl c
        have hps := h.all p hp (by omega)
        obtain ⟨i, hi⟩ := List.getElem?_of_mem hps
        have hil := (List.getElem?_eq_some_iff.1 hi).1
        have hmost := (wRun_ok (show (1 : Int) ≤ B by omega) B).most _ hq
        rw [wEnd_snoc] at hmost
        have hgi : (wRun B i)[i]? = some p := by
          have hal := run_all hB s p hps
          have hiB : i < B := Nat.lt_of_lt_of_le hil (wRun_len hB s)
          have hlt : i < (wRun B i).length := by
            refine Decidable.byContradiction fun c => ?_
            have hstop := wAll_of_stop hB (d := i) (by omega)
            have h1 : (wAll B).length ≤ i := by rw [← hstop]; omega
            obtain ⟨E2, hE2⟩ := wAll_pre hB s
            rw [hE2, List.length_append] at h1
            omega
          rcases Nat.le_total i s with c | c
          · obtain ⟨E2, hE2⟩ := wRun_pre B i (s - i)
            rw [show i + (s - i) = s by omega] at hE2
            rw [hE2, List.getElem?_append_left hlt] at hi
            exact hi
          · obtain ⟨E2, hE2⟩ := wRun_pre B s (i - s)
            rw [show s + (i - s) = i by omega] at hE2
            rw [hE2, List.getElem?_append_left hil]
            exact hi
        have hseen := wFold_seen B p a hmost p (wRun B i) ha
        rw [← wRun_step hgi] at hseen
        obtain ⟨q', hq', e'⟩ := (wSeen_iff _ _).1 hseen
        have hq2 : q' ∈ wRun B e := by
          have := wRun_pre B (i + 1) (e - (i + 1))
          rw [show i + 1 + (e - (i + 1)) = e by omega] at this
          obtain ⟨E3, hE3⟩ := this
          rw [hE3]
          exact List.mem_append_left _ hq'
        have := same_end hB (run_all hB e q' hq2) hq (by rw [e', wEnd_snoc])
        rw [← this]
        exact hq2
theorem level_ev (B : Nat) (hB : 8192 ≤ B) (hB2 : B ≤ 100000) (n : Int) (h1 : 1 ≤ n) (h2 : n ≤ 100) (W : List Int) (hW : wTo (wAll B) n = W) : ∀ (d t s : Nat) (alls : List Int), t + d = 13 → Lev B n t s → Sees (wRun B s) alls → Ev (fun k => spec_shPath.l0 k n ((wRun B s).drop s) alls) W := by
  have hB1 : 1 ≤ B := by omega
  obtain ⟨q, hq, eq, hql⟩ := wAll_short hB1 6 n.toNat (by omega) (by omega) (by omega)
  have en : ((n.toNat : Nat) : Int) = n := by omega
  rw [en] at eq
  have okA := wRun_ok (show (1 : Int) ≤ B by omega) B
  have ans : q = W := by
    have a : wTo (wAll B) (wEnd q) = q := wTo_of okA hq
    rw [eq, hW] at a
    exact a.symm
  intro d
  induction d with
  | zero =>
    intro t s alls ht hlev _
    exfalso
    have hm := hlev.all q hq (by omega)
    rw [← List.take_append_drop s (wRun B s)] at hm
    rcases List.mem_append.1 hm with hm | hm
    · exact hlev.none_ q hm eq
    · have := hlev.size q hm
      omega
  | succ d ih =>
    intro t s alls ht hlev hs
    have ok := wRun_ok (show (1 : Int) ≤ B by omega) s
    have hsub : ∀ p ∈ (wRun B s).drop s, p ∈ wRun B s := fun p hp => List.mem_of_mem_drop hp
    have hall : (((wRun B s).drop s).all fun p => !p.isEmpty && decide (p.length ≤ 1000000)) = true ∧ ((wRun B s).drop s).length ≤ 1000000 := by
      refine ⟨?_, by rw [List.length_drop]; have := wRun_len hB1 s; omega⟩
      rw [List.all_eq_true]
      intro p hp
      have h1 := ok.ne p (hsub p hp)
      have h2 := run_short B hB1 hB2 s p (hsub p hp)
      rw [Bool.and_eq_true]
      refine ⟨?_, decide_eq_true (by omega)⟩
      cases p with
      | nil => exact absurd rfl h1
      | cons _ _ => rfl
    refine ev_shift ?_
    simp only [spec_shPath.l0, if_pos hall]
    cases hf : ((wRun B s).drop s).find? (fun p => wEnd p == n) with
    | some p =>
      have hp := List.mem_of_find?_eq_some hf
      have he := List.find?_some hf
      simp at he
      have : p = q := same_end hB1 (run_all hB1 s p (hsub p hp)) hq (by rw [he, eq])
      rw [this, ans]
      exact Ev.now _
    | none =>
      have hno : ∀ p ∈ (wRun B s).drop s, wEnd p ≠ n := fun p hp e => by
        have := List.find?_eq_none.1 hf p hp
        simp [e] at this
      have hrows : ∀ p ∈ (wRun B s).drop s, ∀ x ∈ p, wEnd p + x ≤ B := fun p hp x hx => by
        have a := end_pow hB1 s p (hsub p hp)
        have b := (wRun_way (show (1 : Int) ≤ B by omega) s p (hsub p hp)).top x hx
        rw [hlev.size p hp] at a
        have c : (2 : Int) ^ (t + 1 - 1) ≤ 2 ^ 12 := by
          have : 2 ^ t ≤ 2 ^ 12 := Nat.pow_le_pow_right (by omega) (by omega)
          exact_mod_cast this
        have c2 : (2 : Int) ^ 12 = 4096 := by decide
        omega
      obtain ⟨alls', hs', hg⟩ := grow_ev B hB1 hB2 s _ rfl hlev.le hrows alls hs
      have hn := lev_next hB1 n t s _ rfl hlev hno
      exact ev_bind hg (ih (t + 1) _ alls' (by omega) hn hs')
theorem path_ev (n : Int) (h1 : 1 ≤ n) (h2 : n ≤ 100) : Ev (fun k => spec_shPath.f k n) (wTo (wAll 256) n) := by
  unfold spec_shPath.f
  obtain ⟨B, hB⟩ : ∃ B : Nat, B = 100000 := ⟨_, rfl⟩
  refine level_ev B (by omega) (by omega) n h1 h2 _ (wTo_bound (B := 256) (B' := B) (by omega) (by omega) n h1 (by omega)) 13 0 0 [1] (by omega) ⟨fun p hp => ?_, fun p hp => ?_, fun q hq hl => ?_, Nat.zero_le _⟩ ⟨fun x => ?_, rfl⟩
  · simp [wRun] at hp; subst hp; rfl
  · simp at hp
  · have way := wRun_way (show (1 : Int) ≤ B by omega) B q hq
    rcases way.made with rfl | ⟨p, hp, a, ha, rfl⟩
    · simp [wRun]
    · have := (wRun_ok (show (1 : Int) ≤ B by omega) B).ne p hp
      have := List.length_pos_iff.2 this
      rw [List.length_append, List.length_singleton] at hl
      omega
  · simp [wRun, wSeen, wEnd]
    exact eq_comm
theorem path_len (n : Int) (h1 : 2 ≤ n) (h2 : n ≤ 100) : 2 ≤ (wTo (wAll 256) n).length ∧ (wTo (wAll 256) n).length ≤ 1000000 := by
  obtain ⟨B, hB⟩ : ∃ B : Nat, B = 256 := ⟨_, rfl⟩
  rw [← hB]
  obtain ⟨q, hq, eq, hql⟩ := wAll_short (B := B) (by omega) 6 n.toNat (by omega) (by omega) (by omega)
  have en : ((n.toNat : Nat) : Int) = n := by omega
  rw [en] at eq
  have a : wTo (wAll B) (wEnd q) = q := wTo_of (wRun_ok (show (1 : Int) ≤ B by omega) B) hq
  rw [← eq, a]
  refine ⟨?_, by omega⟩
  have way := wRun_way (show (1 : Int) ≤ B by omega) B q hq
  rcases way.made with rfl | ⟨p, hp, x, _, rfl⟩
  · simp [wEnd] at eq; omega
  · have := (wRun_ok (show (1 : Int) ≤ B by omega) B).ne p hp
    have := List.length_pos_iff.2 this
    rw [List.length_append, List.length_singleton]
    omega
theorem path_is (n : Int) (W : List Int) (hW : wTo (wAll 256) n = W) : impl_TreePath.f n = some (if 1 ≤ n ∧ n ≤ 100 then (W, true) else ([], false)) := by
  unfold impl_TreePath.f
  rw [hW]
theorem law_ev (n : Int) (W : List Int) (hT : impl_TreePath.f n = some (if 1 ≤ n ∧ n ≤ 100 then (W, true) else ([], false))) (hp : 1 ≤ n → n ≤ 100 → Ev (fun k => spec_shPath.f k n) W) (hl : 2 ≤ n → n ≤ 100 → 2 ≤ W.length ∧ W.length ≤ 1000000) : Ev (fun k => laws_FnExactTreeParent.f k n) true := by
  unfold laws_FnExactTreeParent.f spec_TreeParent.f impl_TreeParent.f
  rw [hT]
  by_cases c : 1 ≤ n ∧ n ≤ 100
  · simp only [if_pos c, Option.bind_some, if_true]
    by_cases c1 : n = 1
    · simp only [if_pos c1, Option.bind_some, bne_self_eq_false, Bool.false_eq_true, if_false, if_true]
      exact Ev.now _
    · simp only [if_neg c1]
      have hp := hp c.1 c.2
      obtain ⟨l1, l2⟩ := hl (by omega) c.2
      have w1 : wrap64 ((W.length : Int) - 2) = (W.length : Int) - 2 := w64 (by omega) (by omega)
      refine ev_bind (a := (rd W ((W.length : Int) - 2), true)) (ev_bind hp ?_) ?_
      · simp only [if_pos (And.intro l1 l2)]
        exact Ev.now _
      · simp only [w1, if_pos (show (0 : Int) ≤ (W.length : Int) - 2 by omega), if_pos (show (W.length : Int) - 2 < (W.length : Int) by omega), Option.bind_some, if_true, bne_self_eq_false, Bool.false_eq_true, if_false]
        exact Ev.now _
  · simp only [if_neg c, Option.bind_some, Bool.false_eq_true, if_false, bne_self_eq_false, if_true]
    exact Ev.now _
theorem FnExactTreeParent : laws_FnExactTreeParent.Pure := fun n _ => (law_ev n _ (path_is n _ rfl) (path_ev n) (path_len n)).rounds
end Go.Proofs.Ytbjmnneaflmgaaa.Pure
