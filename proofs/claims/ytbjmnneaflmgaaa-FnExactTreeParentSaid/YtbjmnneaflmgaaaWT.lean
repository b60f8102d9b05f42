/-! The tree of powers, in plain Lean: its ways in the order in which they are found. -/
namespace Go.Proofs.YtbjmnneaflmgaaaWT
set_option linter.unusedVariables false
/-! the tree of powers: its ways in the order in which they are found -/
def wEnd (p : List Int) : Int := p.getLastD 0
def wSeen (D : List (List Int)) (n : Int) : Bool := D.any fun p => wEnd p == n
def wAdd (B : Int) (p : List Int) (D : List (List Int)) (a : Int) : List (List Int) := if wEnd p + a ≤ B ∧ wSeen D (wEnd p + a) = false then D ++ [p ++ [wEnd p + a]] else D
def wGrow (B : Int) (D : List (List Int)) (p : List Int) : List (List Int) := p.foldl (wAdd B p) D
def wRun (B : Int) : Nat → List (List Int)
  | 0 => [[1]]
  | d + 1 => match (wRun B d)[d]? with
    | none => wRun B d
    | some p => wGrow B (wRun B d) p
theorem wEnd_snoc (p : List Int) (x : Int) : wEnd (p ++ [x]) = x := by unfold wEnd; simp
theorem wSeen_iff (D : List (List Int)) (n : Int) : wSeen D n = true ↔ ∃ p ∈ D, wEnd p = n := by unfold wSeen; simp
theorem wAdd_pre (B : Int) (p : List Int) (D : List (List Int)) (a : Int) : ∃ E, wAdd B p D a = D ++ E := by
  unfold wAdd
  split
  · exact ⟨_, rfl⟩
  · exact ⟨[], (List.append_nil _).symm⟩
theorem wFold_pre (B : Int) (p : List Int) : ∀ (l : List Int) (D : List (List Int)), ∃ E, l.foldl (wAdd B p) D = D ++ E
  | [], D => ⟨[], (List.append_nil _).symm⟩
  | a :: l, D => by
    obtain ⟨E, h⟩ := wAdd_pre B p D a
    obtain ⟨E2, h2⟩ := wFold_pre B p l (D ++ E)
    exact ⟨E ++ E2, by rw [List.foldl_cons, h, h2, List.append_assoc]⟩
theorem wRun_succ_pre (B : Int) (d : Nat) : ∃ E, wRun B (d + 1) = wRun B d ++ E := by
  rw [wRun]
  split
  · exact ⟨[], (List.append_nil _).symm⟩
  · exact wFold_pre B _ _ _
theorem wRun_pre (B : Int) (d : Nat) : ∀ e, ∃ E, wRun B (d + e) = wRun B d ++ E
  | 0 => ⟨[], (List.append_nil _).symm⟩
  | e + 1 => by
    obtain ⟨E, h⟩ := wRun_pre B d e
    obtain ⟨E2, h2⟩ := wRun_succ_pre B (d + e)
    exact ⟨E ++ E2, by rw [← Nat.add_assoc, h2, h, List.append_assoc]⟩
theorem wRun_get (B : Int) (d e i : Nat) (p : List Int) (h : (wRun B d)[i]? = some p) : (wRun B (d + e))[i]? = some p := by
  obtain ⟨E, h2⟩ := wRun_pre B d e
  have hi : i < (wRun B d).length := (List.getElem?_eq_some_iff.1 h).1
  rw [h2, List.getElem?_append_left hi, h]
/-- What each way is: whole numbers from 1 on, its end among them, at most B; and each end is met once. -/
structure WOk (B : Int) (D : List (List Int)) : Prop where
  pos : ∀ p ∈ D, ∀ a ∈ p, 1 ≤ a
  ne : ∀ p ∈ D, p ≠ []
  most : ∀ p ∈ D, wEnd p ≤ B
  one : (D.map wEnd).Nodup
theorem wEnd_mem {p : List Int} (h : p ≠ []) : wEnd p ∈ p := by unfold wEnd; rw [List.getLastD_eq_getLast?, List.getLast?_eq_some_getLast h]; exact List.getLast_mem h
theorem wAdd_ok {B : Int} {p : List Int} {D : List (List Int)} {a : Int} (h : WOk B D) (hp : ∀ x ∈ p, 1 ≤ x) (hne : p ≠ []) (ha : 1 ≤ a) : WOk B (wAdd B p D a) := by
  unfold wAdd
  split
  · rename_i c
    have hE := hp _ (wEnd_mem hne)
    refine ⟨fun q hq x hx => ?_, fun q hq => ?_, fun q hq => ?_, ?_⟩
    · rcases List.mem_append.1 hq with hq | hq
      · exact h.pos q hq x hx
      · simp at hq; subst hq
        rcases List.mem_append.1 hx with hx | hx
        · exact hp x hx
        · simp at hx; omega
    · rcases List.mem_append.1 hq with hq | hq
      · exact h.ne q hq
      · simp at hq; subst hq; simp
    · rcases List.mem_append.1 hq with hq | hq
      · exact h.most q hq
      · simp at hq; subst hq; rw [wEnd_snoc]; exact c.1
    · rw [List.map_append, List.nodup_append]
      refine ⟨h.one, by simp, ?_⟩
      rintro x hx y hy rfl
      simp [wEnd_snoc] at hy
      obtain ⟨q, hq, e⟩ := List.mem_map.1 hx
      have := (wSeen_iff D (wEnd p + a)).2 ⟨q, hq, by omega⟩
      rw [c.2] at this
      cases this
  · exact h
theorem wFold_ok {B : Int} {p : List Int} (hp : ∀ x ∈ p, 1 ≤ x) (hne : p ≠ []) : ∀ (l : List Int) (D : List (List Int)), (∀ x ∈ l, 1 ≤ x) → WOk B D → WOk B (l.foldl (wAdd B p) D)
  | [], D, _, h => h
  | a :: l, D, hl, h => wFold_ok hp hne l _ (fun x hx => hl x (List.mem_cons_of_mem _ hx)) (wAdd_ok h hp hne (hl a List.mem_cons_self))
theorem wRun_ok {B : Int} (hB : 1 ≤ B) : ∀ d, WOk B (wRun B d)
  | 0 => ⟨by simp [wRun], by simp [wRun], by simpa [wRun, wEnd] using hB, by simp [wRun]⟩
  | d + 1 => by
    have h := wRun_ok hB d
    rw [wRun]
    split
    · exact h
    · rename_i p hp
      have hm := List.mem_of_getElem? hp
      exact wFold_ok (h.pos p hm) (h.ne p hm) p _ (h.pos p hm) h
/-- A smaller bound: the same ways, without the greater ones. -/
theorem wAdd_filter {B B' : Int} (hB : B ≤ B') (p : List Int) (D : List (List Int)) (a : Int) (ha : 1 ≤ a) : (wAdd B' p D a).filter (fun q => decide (wEnd q ≤ B)) = if wEnd p ≤ B then wAdd B p (D.filter fun q => decide (wEnd q ≤ B)) a else D.filter fun q => decide (wEnd q ≤ B) := by
  have hs : wEnd p + a ≤ B → wSeen (D.filter fun q => decide (wEnd q ≤ B)) (wEnd p + a) = wSeen D (wEnd p + a) := by
    intro h
    rw [Bool.eq_iff_iff, wSeen_iff, wSeen_iff]
    constructor
    · rintro ⟨q, hq, e⟩; exact ⟨q, (List.mem_filter.1 hq).1, e⟩
    · rintro ⟨q, hq, e⟩; exact ⟨q, List.mem_filter.2 ⟨hq, by simp; omega⟩, e⟩
  unfold wAdd
  by_cases c1 : wEnd p + a ≤ B
  · rw [if_pos (show wEnd p ≤ B by omega), hs c1]
    by_cases c2 : wSeen D (wEnd p + a) = false
    · rw [if_pos ⟨by omega, c2⟩, if_pos ⟨c1, c2⟩, List.filter_append]
      simp [wEnd_snoc, c1]
    · rw [if_neg (fun h => c2 h.2), if_neg (fun h => c2 h.2)]
  · have e : (if wEnd p ≤ B then (if wEnd p + a ≤ B ∧ wSeen (D.filter fun q => decide (wEnd q ≤ B)) (wEnd p + a) = false then (D.filter fun q => decide (wEnd q ≤ B)) ++ [p ++ [wEnd p + a]] else D.filter fun q => decide (wEnd q ≤ B)) else D.filter fun q => decide (wEnd q ≤ B)) = D.filter fun q => decide (wEnd q ≤ B) := by
      split
      · rw [if_neg (fun h => c1 h.1)]
      · rfl
    rw [e]
    split
    · rw [List.filter_append]
      simp [wEnd_snoc, c1]
    · rfl
theorem wFold_filter {B B' : Int} (hB : B ≤ B') (p : List Int) : ∀ (l : List Int) (D : List (List Int)), (∀ x ∈ l, 1 ≤ x) → (l.foldl (wAdd B' p) D).filter (fun q => decide (wEnd q ≤ B)) = if wEnd p ≤ B then l.foldl (wAdd B p) (D.filter fun q => decide (wEnd q ≤ B)) else D.filter fun q => decide (wEnd q ≤ B)
  | [], D, _ => by simp
  | a :: l, D, h => by
    rw [List.foldl_cons, wFold_filter hB p l _ (fun x hx => h x (List.mem_cons_of_mem _ hx)), wAdd_filter hB p D a (h a List.mem_cons_self)]
    split <;> rfl
/-- How many of the first d ways end at most at B. -/
def wCnt (B B' : Int) (d : Nat) : Nat := (((wRun B' d).take d).filter fun q => decide (wEnd q ≤ B)).length
theorem wRun_filter {B B' : Int} (hB1 : 1 ≤ B) (hB : B ≤ B') : ∀ d, (wRun B' d).filter (fun q => decide (wEnd q ≤ B)) = wRun B (wCnt B B' d)
  | 0 => by simp [wRun, wCnt, wEnd, hB1]
  | d + 1 => by
    have ih := wRun_filter hB1 hB d
    have hok := wRun_ok (show 1 ≤ B' by omega) d
    cases hg : (wRun B' d)[d]? with
    | none =>
      have hl := List.getElem?_eq_none_iff.1 hg
      have e : wRun B' (d + 1) = wRun B' d := by rw [wRun, hg]
      have ec : wCnt B B' (d + 1) = wCnt B B' d := by unfold wCnt; rw [e, List.take_of_length_le (by omega), List.take_of_length_le (by omega)]
      rw [e, ec, ih]
    | some p =>
      have hm := List.mem_of_getElem? hg
      obtain ⟨hd, hgp⟩ := List.getElem?_eq_some_iff.1 hg
      have e : wRun B' (d + 1) = wGrow B' (wRun B' d) p := by rw [wRun, hg]
      have et : (wRun B' (d + 1)).take (d + 1) = (wRun B' d).take d ++ [p] := by
        obtain ⟨E, h⟩ := wRun_succ_pre B' d
        rw [h, List.take_append_of_le_length (by omega), List.take_succ_eq_append_getElem hd, hgp]
      have ec : wCnt B B' (d + 1) = wCnt B B' d + (if wEnd p ≤ B then 1 else 0) := by
        unfold wCnt
        rw [et, List.filter_append, List.length_append]
        split <;> simp [*]
      rw [e, wGrow, wFold_filter hB p p _ (hok.pos p hm), ih, ec]
      split
      · rename_i c
        have hsplit : wRun B' d = (wRun B' d).take d ++ (p :: (wRun B' d).drop (d + 1)) := by
          rw [← hgp, List.getElem_cons_drop, List.take_append_drop]
        have : (wRun B (wCnt B B' d))[wCnt B B' d]? = some p := by
          rw [← ih]
          have e2 : (wRun B' d).filter (fun q => decide (wEnd q ≤ B)) = ((wRun B' d).take d).filter (fun q => decide (wEnd q ≤ B)) ++ (p :: ((wRun B' d).drop (d + 1)).filter fun q => decide (wEnd q ≤ B)) := by
            conv => lhs; rw [hsplit]
            rw [List.filter_append, List.filter_cons_of_pos (by simpa using c)]
          rw [e2, List.getElem?_append_right (by unfold wCnt; omega)]
          simp [wCnt]
        rw [wRun, this]
        rfl
      · rfl
theorem wFold_mem (B : Int) (p : List Int) : ∀ (l : List Int) (D : List (List Int)) (q : List Int), q ∈ l.foldl (wAdd B p) D → q ∈ D ∨ ∃ a ∈ l, q = p ++ [wEnd p + a] ∧ wEnd p + a ≤ B
  | [], _, _, h => .inl h
  | a :: l, D, q, h => by
    rcases wFold_mem B p l _ q h with h | ⟨x, hx, e⟩
    · unfold wAdd at h
      split at h
      · rename_i c
        rcases List.mem_append.1 h with h | h
        · exact .inl h
        · simp at h; exact .inr ⟨a, List.mem_cons_self, h, c.1⟩
      · exact .inl h
    · exact .inr ⟨x, List.mem_cons_of_mem _ hx, e⟩
theorem wRun_mem (B : Int) (d : Nat) (q : List Int) (h : q ∈ wRun B (d + 1)) : q ∈ wRun B d ∨ ∃ p a, (wRun B d)[d]? = some p ∧ a ∈ p ∧ q = p ++ [wEnd p + a] ∧ wEnd p + a ≤ B := by
  rw [wRun] at h
  split at h
  · exact .inl h
  · rename_i p hp
    rcases wFold_mem B p p _ q h with h | ⟨a, ha, e⟩
    · exact .inl h
    · exact .inr ⟨p, a, hp, ha, e⟩
/-- What a way is made of. -/
structure WWay (D : List (List Int)) (p : List Int) : Prop where
  one : 1 ∈ p
  top : ∀ a ∈ p, a ≤ wEnd p
  made : p = [1] ∨ ∃ q ∈ D, ∃ a ∈ q, p = q ++ [wEnd q + a]
theorem WWay.mono {D E : List (List Int)} {p : List Int} (h : WWay D p) (hs : ∀ q ∈ D, q ∈ E) : WWay E p := ⟨h.one, h.top, h.made.imp id fun ⟨q, hq, r⟩ => ⟨q, hs q hq, r⟩⟩
theorem wRun_sub (B : Int) (d : Nat) : ∀ q ∈ wRun B d, q ∈ wRun B (d + 1) := fun q h => by
  obtain ⟨E, e⟩ := wRun_succ_pre B d
  rw [e]; exact List.mem_append_left _ h
theorem wRun_way {B : Int} (hB : 1 ≤ B) : ∀ d, ∀ p ∈ wRun B d, WWay (wRun B d) p
  | 0, p, h => by simp [wRun] at h; subst h; exact ⟨by simp, by simp [wEnd], .inl rfl⟩
  | d + 1, p, h => by
    rcases wRun_mem B d p h with h | ⟨q, a, hq, ha, rfl, _⟩
    · exact (wRun_way hB d p h).mono (wRun_sub B d)
    · have hm := List.mem_of_getElem? hq
      have w := wRun_way hB d q hm
      have hp := (wRun_ok hB d).pos q hm
      refine ⟨List.mem_append_left _ w.one, fun x hx => ?_, .inr ⟨q, wRun_sub B d _ hm, a, ha, rfl⟩⟩
      rw [wEnd_snoc]
      have := hp a ha
      rcases List.mem_append.1 hx with hx | hx
      · have := w.top x hx; omega
      · simp at hx; omega
/-- The ways lie by their lengths. -/
structure WSort (d : Nat) (D : List (List Int)) : Prop where
  up : ∀ (i j : Nat) (p q : List Int), i ≤ j → D[i]? = some p → D[j]? = some q → p.length ≤ q.length
  next : ∀ (i : Nat) (p : List Int), d ≤ i → D[i]? = some p → ∀ q ∈ D, q.length ≤ p.length + 1
theorem get_append_cases {α} {D E : List α} {i : Nat} {x : α} (h : (D ++ E)[i]? = some x) : D[i]? = some x ∨ (D.length ≤ i ∧ x ∈ E) := by
  by_cases c : i < D.length
  · rw [List.getElem?_append_left c] at h; exact .inl h
  · rw [List.getElem?_append_right (by omega)] at h; exact .inr ⟨by omega, List.mem_of_getElem? h⟩
theorem wRun_sort {B : Int} : ∀ d, WSort d (wRun B d)
  | 0 => by
    refine ⟨fun i j p q _ hp hq => ?_, fun i p _ hp q hq => ?_⟩
    · have := List.mem_of_getElem? hp; have h2 := List.mem_of_getElem? hq
      simp [wRun] at this h2; subst this h2; exact Nat.le_refl _
    · have := List.mem_of_getElem? hp
      simp [wRun] at this hq; subst this hq; simp
  | d + 1 => by
    have ih := wRun_sort (B := B) d
    cases hg : (wRun B d)[d]? with
    | none =>
      have e : wRun B (d + 1) = wRun B d := by rw [wRun, hg]
      rw [e]
      exact ⟨ih.up, fun i p hi => ih.next i p (by omega)⟩
    | some P =>
      obtain ⟨E, hE⟩ := wRun_succ_pre B d
      have hEl : ∀ q ∈ wRun B (d + 1), q ∈ wRun B d ∨ q.length = P.length + 1 := fun q hq => by
        rcases wRun_mem B d q hq with h | ⟨p, a, hp, _, rfl, _⟩
        · exact .inl h
        · rw [hg] at hp; cases hp; exact .inr (by simp)
      have hall : ∀ q ∈ wRun B (d + 1), q.length ≤ P.length + 1 := fun q hq => by
        rcases hEl q hq with h | h
        · exact ih.next d P (Nat.le_refl _) hg q h
        · omega
      have hEE : ∀ q ∈ E, q.length = P.length + 1 ∨ q.length ≤ P.length + 1 := fun q hq => .inr (hall q (by rw [hE]; exact List.mem_append_right _ hq))
      have hnew : ∀ q ∈ E, q.length = P.length + 1 := by
        intro q hq
        have hw : wRun B (d + 1) = wGrow B (wRun B d) P := by rw [wRun, hg]
        have : ∀ (l : List Int) (D : List (List Int)), ∃ E', l.foldl (wAdd B P) D = D ++ E' ∧ ∀ q ∈ E', q.length = P.length + 1 := by
          intro l
          induction l with
          | nil => intro D; exact ⟨[], (List.append_nil _).symm, by simp⟩
          | cons a l ihl =>
            intro D
            rw [List.foldl_cons]
            unfold wAdd
            split
            · obtain ⟨E', e1, e2⟩ := ihl (D ++ [P ++ [wEnd P + a]])
              refine ⟨[P ++ [wEnd P + a]] ++ E', ?_, fun q hq => ?_⟩
              · rw [← List.append_assoc, ← e1]; rfl
              · rcases List.mem_append.1 hq with h | h
                · simp at h; subst h; simp
                · exact e2 q h
            · exact ihl D
        obtain ⟨E', e1, e2⟩ := this P (wRun B d)
        rw [show P.foldl (wAdd B P) (wRun B d) = wRun B (d + 1) from hw.symm, hE] at e1
        rw [List.append_cancel_left e1] at hq
        exact e2 q hq
      refine ⟨fun i j p q hij hp hq => ?_, fun i p hi hp q hq => ?_⟩
      · have hpm := List.mem_of_getElem? hp
        have hqa := hall p hpm
        rw [hE] at hp hq
        rcases get_append_cases hq with hq | ⟨hj, hq⟩
        · rcases get_append_cases hp with hp | ⟨hi, hp⟩
          · exact ih.up i j p q hij hp hq
          · have := (List.getElem?_eq_some_iff.1 hq).1; omega
        · have := hnew q hq; omega
      · have h1 := hall q hq
        have : P.length ≤ p.length := by
          rw [hE] at hp
          rcases get_append_cases hp with hp | ⟨_, hp⟩
          · exact ih.up d i P p (by omega) hg hp
          · have := hnew p hp; omega
        omega
/-- The end of the search. -/
theorem wRun_stop {B : Int} {d : Nat} (h : (wRun B d).length ≤ d) : ∀ e, wRun B (d + e) = wRun B d
  | 0 => rfl
  | e + 1 => by
    have ih := wRun_stop h e
    rw [← Nat.add_assoc, wRun, ih, List.getElem?_eq_none (by omega)]
theorem nodup_le : ∀ (n : Nat) (l : List Int), l.Nodup → (∀ x ∈ l, 1 ≤ x ∧ x ≤ n) → l.length ≤ n
  | 0, l, _, h => by
    cases l with
    | nil => simp
    | cons a l => have := h a List.mem_cons_self; omega
  | n + 1, l, hn, h => by
    by_cases c : ((n : Int) + 1) ∈ l
    · have h1 := nodup_le n (l.erase ((n : Int) + 1)) (hn.erase _) (fun x hx => by
        have hx' := (List.Nodup.mem_erase_iff hn).1 hx
        have := h x hx'.2
        have := hx'.1
        omega)
      rw [List.length_erase_of_mem c] at h1
      omega
    · have := nodup_le n l hn (fun x hx => by
        have := h x hx
        have : x ≠ (n : Int) + 1 := fun e => c (e ▸ hx)
        omega)
      omega
theorem wRun_len {B : Nat} (hB : 1 ≤ B) (d : Nat) : (wRun B d).length ≤ B := by
  have h := wRun_ok (show (1 : Int) ≤ B by omega) d
  have := nodup_le B _ h.one (fun x hx => by
    obtain ⟨p, hp, rfl⟩ := List.mem_map.1 hx
    exact ⟨h.pos p hp _ (wEnd_mem (h.ne p hp)), h.most p hp⟩)
  rwa [List.length_map] at this
/-- All ways up to B. -/
def wAll (B : Nat) : List (List Int) := wRun B B
theorem wAll_of_stop {B d : Nat} (hB : 1 ≤ B) (h : (wRun B d).length ≤ d) : wRun B d = wAll B := by
  unfold wAll
  rcases Nat.le_total d B with c | c
  · obtain ⟨e, rfl⟩ := Nat.exists_eq_add_of_le c
    rw [wRun_stop h]
  · obtain ⟨e, rfl⟩ := Nat.exists_eq_add_of_le c
    exact wRun_stop (wRun_len hB B) e
theorem wAll_pre {B : Nat} (hB : 1 ≤ B) (d : Nat) : ∃ E, wAll B = wRun B d ++ E := by
  rcases Nat.le_total d B with c | c
  · obtain ⟨e, he⟩ := Nat.exists_eq_add_of_le c
    have := wRun_pre B d e
    unfold wAll
    rw [← he] at this
    exact this
  · obtain ⟨e, rfl⟩ := Nat.exists_eq_add_of_le c
    exact ⟨[], by unfold wAll; rw [wRun_stop (wRun_len hB B) e, List.append_nil]⟩
/-- A way that has been gone on from. -/
theorem wFold_seen (B : Int) (p : List Int) (a : Int) (ha : wEnd p + a ≤ B) : ∀ (l : List Int) (D : List (List Int)), a ∈ l → wSeen (l.foldl (wAdd B p) D) (wEnd p + a) = true
  | x :: l, D, h => by
    have mono : ∀ (l : List Int) (D : List (List Int)) (n : Int), wSeen D n = true → wSeen (l.foldl (wAdd B p) D) n = true := by
      intro l D n h
      obtain ⟨E, e⟩ := wFold_pre B p l D
      rw [e]
      obtain ⟨q, hq, e2⟩ := (wSeen_iff _ _).1 h
      exact (wSeen_iff _ _).2 ⟨q, List.mem_append_left _ hq, e2⟩
    rw [List.foldl_cons]
    rcases List.mem_cons.1 h with rfl | h
    · refine mono l _ _ ?_
      unfold wAdd
      split
      · exact (wSeen_iff _ _).2 ⟨p ++ [wEnd p + a], List.mem_append_right _ (by simp), wEnd_snoc _ _⟩
      · rename_i c
        cases hs : wSeen D (wEnd p + a) with
        | true => rfl
        | false => exact absurd ⟨ha, hs⟩ c
    · exact wFold_seen B p a ha l _ h
/-- From a way of a length each further number has a way that is at most one longer. -/
theorem wAll_next {B : Nat} (hB : 1 ≤ B) (p : List Int) (hp : p ∈ wAll B) (a : Int) (ha : a ∈ p) (hle : wEnd p + a ≤ B) : ∃ q ∈ wAll B, wEnd q = wEnd p + a ∧ q.length ≤ p.length + 1 := by
  obtain ⟨i, hi⟩ := List.getElem?_of_mem hp
  have hiB : i < (wAll B).length := (List.getElem?_eq_some_iff.1 hi).1
  have hiB2 : i < B := Nat.lt_of_lt_of_le hiB (wRun_len hB B)
  have hlt : i < (wRun B i).length := by
    refine Decidable.byContradiction fun c => ?_
    have := wAll_of_stop hB (d := i) (by omega)
    rw [this] at c
    omega
  obtain ⟨E, hE⟩ := wAll_pre hB i
  have hg : (wRun B i)[i]? = some p := by rw [hE, List.getElem?_append_left hlt] at hi; exact hi
  have hw : wRun B (i + 1) = wGrow B (wRun B i) p := by rw [wRun, hg]
  have hs := wFold_seen B p a hle p (wRun B i) ha
  rw [show p.foldl (wAdd B p) (wRun B i) = wRun B (i + 1) from hw.symm] at hs
  obtain ⟨q, hq, e⟩ := (wSeen_iff _ _).1 hs
  obtain ⟨E2, hE2⟩ := wAll_pre hB (i + 1)
  refine ⟨q, by rw [hE2]; exact List.mem_append_left _ hq, e, ?_⟩
  rcases wRun_mem B i q hq with h | ⟨p', x, hp', _, rfl, _⟩
  · exact (wRun_sort i).next i p (Nat.le_refl _) hg q h
  · rw [hg] at hp'; cases hp'; simp
/-- Each number has a way, and it is short. -/
theorem wAll_short {B : Nat} (hB : 1 ≤ B) : ∀ (k n : Nat), 1 ≤ n → n < 2 ^ (k + 1) → n ≤ B → ∃ q ∈ wAll B, wEnd q = n ∧ q.length ≤ 2 * k + 1
  | 0, n, h1, h2, h3 => by
    obtain rfl : n = 1 := by omega
    obtain ⟨E, e⟩ := wAll_pre hB 0
    exact ⟨[1], by rw [e]; simp [wRun], rfl, by simp⟩
  | k + 1, n, h1, h2, h3 => by
    by_cases c : n = 1
    · subst c
      obtain ⟨E, e⟩ := wAll_pre hB 0
      exact ⟨[1], by rw [e]; simp [wRun], rfl, by simp⟩
    · have hpow : 2 ^ (k + 1 + 1) = 2 * 2 ^ (k + 1) := by rw [Nat.pow_succ, Nat.mul_comm]
      obtain ⟨p, hp, e, hl⟩ := wAll_short hB k (n / 2) (by omega) (by omega) (by omega)
      have w := wRun_way (show (1 : Int) ≤ B by omega) B p hp
      have hne : p ≠ [] := fun h => by rw [h] at w; cases w.one
      obtain ⟨q, hq, e2, hl2⟩ := wAll_next hB p hp (wEnd p) (wEnd_mem hne) (by omega)
      by_cases c2 : n % 2 = 0
      · exact ⟨q, hq, by omega, by omega⟩
      · have w2 := wRun_way (show (1 : Int) ≤ B by omega) B q hq
        obtain ⟨r, hr, e3, hl3⟩ := wAll_next hB q hq 1 w2.one (by omega)
        exact ⟨r, hr, by omega, by omega⟩
/-- The way to a number. -/
def wTo (D : List (List Int)) (n : Int) : List Int := (D.find? fun p => wEnd p == n).getD []
theorem wTo_of1 {D : List (List Int)} (h : (D.map wEnd).Nodup) {p : List Int} (hp : p ∈ D) : wTo D (wEnd p) = p := by
  unfold wTo
  cases hf : D.find? (fun q => wEnd q == wEnd p) with
  | none => have := List.find?_eq_none.1 hf p hp; simp at this
  | some q =>
    have hq := List.mem_of_find?_eq_some hf
    have he := List.find?_some hf
    simp at he
    have inj : ∀ (D : List (List Int)), (D.map wEnd).Nodup → p ∈ D → q ∈ D → p = q := by
      intro D
      induction D with
      | nil => intro _ hp; cases hp
      | cons x D ih =>
        intro hn hp hq
        rw [List.map_cons, List.nodup_cons] at hn
        rcases List.mem_cons.1 hp with e1 | hp2
        · rcases List.mem_cons.1 hq with e2 | hq2
          · rw [e1, e2]
          · exact absurd (List.mem_map.2 ⟨q, hq2, by rw [← e1]; exact he⟩) hn.1
        · rcases List.mem_cons.1 hq with e2 | hq2
          · exact absurd (List.mem_map.2 ⟨p, hp2, by rw [← e2]; exact he.symm⟩) hn.1
          · exact ih hn.2 hp2 hq2
    exact (inj D h hp hq).symm
theorem wTo_of {B : Int} {D : List (List Int)} (h : WOk B D) {p : List Int} (hp : p ∈ D) : wTo D (wEnd p) = p := wTo_of1 h.one hp
theorem wTo_none {D : List (List Int)} {n : Int} (h : wSeen D n = false) : wTo D n = [] := by
  unfold wTo
  rw [List.find?_eq_none.2]
  · rfl
  · intro p hp hc
    simp at hc
    have := (wSeen_iff D n).2 ⟨p, hp, hc⟩
    rw [h] at this
    cases this
theorem wTo_bound {B B' : Nat} (hB : 1 ≤ B) (hBB : B ≤ B') (n : Int) (h1 : 1 ≤ n) (hn : n ≤ B) : wTo (wAll B') n = wTo (wAll B) n := by
  obtain ⟨q, hq, e, _⟩ := wAll_short (B := B') (by omega) n.toNat n.toNat (by omega) (by have := @Nat.lt_two_pow_self (n.toNat); rw [Nat.pow_succ]; omega) (by omega)
  have en : ((n.toNat : Nat) : Int) = n := by omega
  rw [en] at e
  have hm : q ∈ wRun B (wCnt B B' B') := by
    rw [← wRun_filter (show (1 : Int) ≤ B by omega) (show (B : Int) ≤ B' by omega)]
    exact List.mem_filter.2 ⟨hq, by simp; omega⟩
  obtain ⟨E, hE⟩ := wAll_pre hB (wCnt B B' B')
  have hm2 : q ∈ wAll B := by rw [hE]; exact List.mem_append_left _ hm
  have a := wTo_of (wRun_ok (show (1 : Int) ≤ B' by omega) B') hq
  have b := wTo_of (wRun_ok (show (1 : Int) ≤ B by omega) B) hm2
  rw [← e]
  exact a.trans b.symm
theorem wRun_step {B : Int} {s : Nat} {p : List Int} (h : (wRun B s)[s]? = some p) : wRun B (s + 1) = p.foldl (wAdd B p) (wRun B s) := by rw [wRun, h]; rfl
theorem wAdd_drop (B : Int) (p : List Int) (D : List (List Int)) (a : Int) (e : Nat) (he : e ≤ D.length) : ((wAdd B p D a).drop e).map wEnd = if wEnd p + a ≤ B ∧ wSeen D (wEnd p + a) = false then (D.drop e).map wEnd ++ [wEnd p + a] else (D.drop e).map wEnd := by
  unfold wAdd
  split
  · rw [List.drop_append_of_le_length he, List.map_append]
    simp [wEnd_snoc]
  · rfl
theorem wFold_length (B : Int) (p : List Int) (l : List Int) (D : List (List Int)) : D.length ≤ (l.foldl (wAdd B p) D).length := by
  obtain ⟨E, h⟩ := wFold_pre B p l D
  rw [h, List.length_append]
  omega
theorem wFold_take (B : Int) (p : List Int) (D : List (List Int)) (j : Nat) (h : j < p.length) : (p.take (j + 1)).foldl (wAdd B p) D = wAdd B p ((p.take j).foldl (wAdd B p) D) (p[j]'h) := by
  rw [List.take_succ_eq_append_getElem h, List.foldl_append]
  rfl
/-- A way rises. -/
theorem wRun_up {B : Int} (hB : 1 ≤ B) : ∀ d, ∀ p ∈ wRun B d, p.Pairwise (· < ·)
  | 0, p, h => by simp [wRun] at h; subst h; simp
  | d + 1, p, h => by
    rcases wRun_mem B d p h with h | ⟨q, a, hq, ha, rfl, _⟩
    · exact wRun_up hB d p h
    · have hm := List.mem_of_getElem? hq
      have w := wRun_way hB d q hm
      have := (wRun_ok hB d).pos q hm a ha
      refine List.pairwise_append.2 ⟨wRun_up hB d q hm, by simp, fun x hx y hy => ?_⟩
      simp at hy
      have := w.top x hx
      omega
end Go.Proofs.YtbjmnneaflmgaaaWT
