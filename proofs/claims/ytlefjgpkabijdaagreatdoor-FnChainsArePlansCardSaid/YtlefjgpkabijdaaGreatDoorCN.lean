/- Numerals and pieces between spaces (plain Lean, no program in sight). -/
import Derived.Test.YtlefjgpkabijdaaGreatDoorCW
import Derived.Lib.AtoiAllCases
import Derived.Lib.IndexBytes
namespace Go.Proofs.YtlefjgpkabijdaaGreatDoor.CN
set_option linter.unusedVariables false
set_option linter.unusedSimpArgs false
open Go.RowKit Go.Proofs.YtlefjgpkabijdaaGreatDoorW.PrintWords Go.Proofs.YtlefjgpkabijdaaGreatDoor.CW

theorem dig_len (n : Nat) : ∀ u : Nat, u ≤ n → (Lib.decDigits u).length ≤ u + 1 := by
  induction n with
  | zero => intro u h; rw [Lib.decDigits, dif_pos (by omega)]; simp
  | succ n ih =>
    intro u h
    rw [Lib.decDigits]
    split
    · simp
    · have := ih (u / 10) (by omega)
      rw [List.length_append, List.length_singleton]; omega
theorem itoa_nat (u : Nat) : Lib.itoa (u : Int) = Lib.decDigits u := by
  unfold Lib.itoa; rw [if_neg (by omega), Int.toNat_natCast]
theorem itoa_len (x : Int) (h0 : 1 ≤ x) (h1 : x ≤ 1000000) : (Lib.itoa x).length ≤ 1000001 := by
  obtain ⟨u, rfl⟩ : ∃ u : Nat, x = u := ⟨x.toNat, by omega⟩
  rw [itoa_nat]
  have := dig_len u u (Nat.le_refl _)
  omega
theorem mk_size (l : List UInt8) : (⟨l.toArray⟩ : ByteArray).size = l.length := by simp [ByteArray.size]
theorem mk_append (a b : List UInt8) : (⟨a.toArray⟩ : ByteArray) ++ ⟨b.toArray⟩ = ⟨(a ++ b).toArray⟩ := by
  apply ByteArray.ext; simp
def Dg (b : UInt8) : Prop := 48 ≤ b.toNat ∧ b.toNat ≤ 57
instance (b : UInt8) : Decidable (Dg b) := by unfold Dg; exact inferInstance
@[irreducible] def stp (n : Nat) (b : UInt8) : Nat := 10 * n + (b.toNat - 48)
theorem stp_eq (n : Nat) (b : UInt8) : stp n b = 10 * n + (b.toNat - 48) := by unfold stp; rfl
def value : Nat → List UInt8 → Nat
  | n, [] => n
  | n, b :: r => value (stp n b) r
theorem value_append : ∀ (l r : List UInt8) (n : Nat), value n (l ++ r) = value (value n l) r
  | [], _, _ => rfl
  | b :: l, r, n => by simp only [List.cons_append, value]; exact value_append l r _
theorem value_ge : ∀ (l : List UInt8) (n : Nat), n ≤ value n l
  | [], n => Nat.le_refl _
  | b :: l, n => by have := value_ge l (stp n b); have e := stp_eq n b; simp only [value]; omega
theorem ofNat_toNat (d : Nat) (h : d < 10) : (UInt8.ofNat (48 + d)).toNat = 48 + d := by
  rw [UInt8.toNat_ofNat']; omega
theorem dig_val (n : Nat) : ∀ u : Nat, u ≤ n → value 0 (Lib.decDigits u) = u := by
  induction n with
  | zero => intro u h; rw [Lib.decDigits, dif_pos (by omega)]; simp only [value, stp_eq, ofNat_toNat u (by omega)]; omega
  | succ n ih =>
    intro u h
    rw [Lib.decDigits]
    split
    · rename_i c; simp only [value, stp_eq, ofNat_toNat u c]; omega
    · rw [value_append, ih (u / 10) (by omega)]; simp only [value, stp_eq, ofNat_toNat (u % 10) (by omega)]; omega
theorem dig_all (n : Nat) : ∀ u : Nat, u ≤ n → ∀ b ∈ Lib.decDigits u, Dg b := by
  induction n with
  | zero =>
    intro u h b hb
    rw [Lib.decDigits, dif_pos (by omega), List.mem_singleton] at hb
    subst hb; unfold Dg; rw [ofNat_toNat u (by omega)]; omega
  | succ n ih =>
    intro u h b hb
    rw [Lib.decDigits] at hb
    split at hb
    · rename_i c; rw [List.mem_singleton] at hb; subst hb; unfold Dg; rw [ofNat_toNat u c]; omega
    · rcases List.mem_append.1 hb with h1 | h1
      · exact ih (u / 10) (by omega) b h1
      · rw [List.mem_singleton] at h1; subst h1; unfold Dg; rw [ofNat_toNat (u % 10) (by omega)]; omega
theorem dig_head (n : Nat) : ∀ u : Nat, u ≤ n → 1 ≤ u → ∃ c r, Lib.decDigits u = c :: r ∧ 49 ≤ c.toNat ∧ c.toNat ≤ 57 := by
  induction n with
  | zero => intro u h h1; omega
  | succ n ih =>
    intro u h h1
    rw [Lib.decDigits]
    split
    · rename_i c; exact ⟨_, _, rfl, by rw [ofNat_toNat u c]; omega, by rw [ofNat_toNat u c]; omega⟩
    · obtain ⟨c, r, e, h2, h3⟩ := ih (u / 10) (by omega) (by omega)
      rw [e]; exact ⟨c, r ++ _, rfl, h2, h3⟩
theorem dig_short (k : Nat) : ∀ u : Nat, u < 10 ^ (k + 1) → (Lib.decDigits u).length ≤ k + 1 := by
  induction k with
  | zero => intro u h; rw [Lib.decDigits, dif_pos (by omega)]; simp
  | succ k ih =>
    intro u h
    rw [Lib.decDigits]
    split
    · simp
    · have := ih (u / 10) (by rw [Nat.pow_succ] at h; omega)
      rw [List.length_append, List.length_singleton]; omega
/-- A numeral without a zero ahead is the numeral of its value. -/
theorem dig_of_value (n : Nat) : ∀ p : List UInt8, p.length ≤ n → p ≠ [] → (∀ b ∈ p, Dg b) → (p.length = 1 ∨ ∃ c r, p = c :: r ∧ 49 ≤ c.toNat) → Lib.decDigits (value 0 p) = p := by
  induction n with
  | zero => intro p h hne; exact absurd (List.length_eq_zero_iff.1 (by omega)) hne
  | succ n ih =>
    intro p h hne hd hh
    obtain ⟨q, d, rfl⟩ : ∃ q d, p = q ++ [d] := ⟨p.dropLast, p.getLast hne, (List.dropLast_concat_getLast hne).symm⟩
    have hdd := hd d (by simp)
    unfold Dg at hdd
    have ed : UInt8.ofNat (48 + (d.toNat - 48)) = d := by
      rw [show 48 + (d.toNat - 48) = d.toNat by omega]; simp
    rw [value_append]
    simp only [value, stp_eq]
    by_cases hq : q = []
    · subst hq
      simp only [value, stp_eq, List.nil_append]
      rw [Lib.decDigits, dif_pos (by omega), show 10 * 0 + (d.toNat - 48) = d.toNat - 48 by omega, ed]
    · obtain ⟨c, r, hc, h49⟩ : ∃ c r, q = c :: r ∧ 49 ≤ c.toNat := by
        rcases hh with h1 | ⟨c, r, e, h2⟩
        · rw [List.length_append, List.length_singleton] at h1
          exact absurd (List.length_eq_zero_iff.1 (by omega)) hq
        · match q, hq with
          | x :: y, _ =>
            rw [List.cons_append] at e
            injection e with e1 e2
            subst e1
            exact ⟨x, y, rfl, h2⟩
      have e1 := ih q (by rw [List.length_append, List.length_singleton] at h; omega) hq (fun b hb => hd b (by simp [hb])) (.inr ⟨c, r, hc, h49⟩)
      have h1 : 1 ≤ value 0 q := by
        rw [hc]; simp only [value]
        have := value_ge r (stp 0 c); have e := stp_eq 0 c; omega
      rw [Lib.decDigits, dif_neg (by omega), show (10 * value 0 q + (d.toNat - 48)) / 10 = value 0 q by omega, show (10 * value 0 q + (d.toNat - 48)) % 10 = d.toNat - 48 by omega, e1, ed]

/-! Atoi -/
theorem parse_ok : ∀ (l : List UInt8) (n : Nat), (∀ b ∈ l, Dg b) → value n l ≤ 10000000 → Lib.parseUint10 n l = .ok (value n l)
  | [], n, _, _ => rfl
  | b :: r, n, hd, hv => by
    have hb := hd b (by simp)
    unfold Dg at hb
    simp only [value] at hv
    have hg := value_ge r (stp n b)
    have es := stp_eq n b
    simp only [Lib.parseUint10, value]
    rw [if_pos hb, if_neg (by omega), if_neg (by omega), show n * 10 + (b.toNat - 48) = stp n b by omega]
    exact parse_ok r _ (fun x hx => hd x (by simp [hx])) hv
theorem val_num (x : Int) (h0 : 1 ≤ x) (h1 : x ≤ 1000000) : val (num x) = x := by
  obtain ⟨u, rfl⟩ : ∃ u : Nat, x = u := ⟨x.toNat, by omega⟩
  obtain ⟨c, r, e, h49, h57⟩ := dig_head u u (Nat.le_refl _) (by omega)
  have hv := dig_val u u (Nat.le_refl _)
  have ha := dig_all u u (Nat.le_refl _)
  have hl : (num (u : Int)).data.toList = c :: r := by unfold num; rw [itoa_nat, e]
  rw [e] at hv ha
  have hp := parse_ok (c :: r) 0 ha (by omega)
  rw [hv] at hp
  unfold val
  rw [hl, Lib.atoiAll_plain c r (by omega) (by omega)]
  unfold Lib.parseMag
  rw [if_neg (by simp), hp]
  simp [Lib.signless, show ¬ 9223372036854775808 ≤ u by omega]

/-! the reference's reading -/
def rdl : Nat → List UInt8 → Int
  | n, [] => n
  | n, b :: r => if Dg b then rdl (stp n b) r else -1
theorem rdl_ok : ∀ (l : List UInt8) (n : Nat), (∀ b ∈ l, Dg b) → rdl n l = value n l
  | [], n, _ => rfl
  | b :: r, n, hd => by
    simp only [rdl, value]
    rw [if_pos (hd b (by simp))]
    exact rdl_ok r _ (fun x hx => hd x (by simp [hx]))
theorem rdl_ge : ∀ (l : List UInt8) (n : Nat), 0 ≤ rdl n l → ∀ b ∈ l, Dg b
  | [], n, _ => fun b hb => by cases hb
  | c :: r, n, h => fun b hb => by
    simp only [rdl] at h
    split at h
    · rename_i hc
      rcases List.mem_cons.1 hb with rfl | h2
      · exact hc
      · exact rdl_ge r _ h b h2
    · omega
def rdn (p : List UInt8) : Int :=
  if 1 ≤ p.length ∧ p.length ≤ 6 then (if p.head? = some 48 ∧ 1 < p.length then -1 else rdl 0 p) else -1
def mil : List UInt8 := [49, 48, 48, 48, 48, 48, 48]
def rdc (p : List UInt8) : Int := if p = mil then 1000000 else rdn p
theorem mil_itoa : Lib.itoa 1000000 = mil := by
  have h := dig_of_value 7 mil (by decide) (by decide) (by decide) (.inr ⟨49, [48, 48, 48, 48, 48, 48], rfl, by decide⟩)
  have e : value 0 mil = 1000000 := by unfold mil; simp [value, stp_eq]
  rw [e] at h
  have := itoa_nat 1000000
  rw [h] at this
  exact this
theorem rdc_itoa (x : Int) (h0 : 1 ≤ x) (h1 : x ≤ 1000000) : rdc (Lib.itoa x) = x := by
  by_cases hx : x = 1000000
  · subst hx; rw [mil_itoa]; unfold rdc; rw [if_pos rfl]
  · obtain ⟨u, rfl⟩ : ∃ u : Nat, x = u := ⟨x.toNat, by omega⟩
    have hv := dig_val u u (Nat.le_refl _)
    have ha := dig_all u u (Nat.le_refl _)
    obtain ⟨c, r, e, h49, h57⟩ := dig_head u u (Nat.le_refl _) (by omega)
    have hs := dig_short 5 u (by have : (10 : Nat) ^ (5 + 1) = 1000000 := by decide
                                 omega)
    rw [itoa_nat]
    unfold rdc
    rw [if_neg (fun e2 => by rw [e2] at hs; simp [mil] at hs)]
    unfold rdn
    rw [if_pos ⟨by rw [e]; simp, hs⟩, if_neg (fun h => by
      have h2 := h.1
      rw [e, List.head?_cons] at h2
      injection h2 with h2
      subst h2
      exact absurd h49 (by decide)), rdl_ok _ _ ha, hv]
theorem itoa_rdc (p : List UInt8) (h : 1 ≤ rdc p) : Lib.itoa (rdc p) = p := by
  unfold rdc at h ⊢
  split
  · rename_i c; rw [mil_itoa, c]
  · rename_i c
    rw [if_neg c] at h
    unfold rdn at h ⊢
    split at h
    · rename_i c1
      rw [if_pos c1]
      split at h
      · omega
      · rename_i c2
        rw [if_neg c2]
        have hd := rdl_ge p 0 (by omega)
        rw [rdl_ok p 0 hd, itoa_nat]
        refine dig_of_value p.length p (Nat.le_refl _) (by intro e; rw [e] at c1; simp at c1) hd ?_
        match p, c1, c2, hd with
        | x :: r, c1, c2, hd =>
          by_cases h1 : (x :: r).length = 1
          · exact .inl h1
          · refine .inr ⟨x, r, rfl, ?_⟩
            have hx := hd x (by simp)
            unfold Dg at hx
            have hne : x ≠ 48 := fun e => c2 ⟨by rw [e]; rfl, by omega⟩
            have : x.toNat ≠ 48 := fun e => hne (UInt8.toNat_inj.1 (by rw [e]; rfl))
            omega
    · omega

/-! the pieces -/
def cut : List UInt8 → List UInt8 → List (List UInt8)
  | cur, [] => [cur]
  | cur, b :: r => if b = 32 then cur :: cut [] r else cut (cur ++ [b]) r
theorem cut_ne : ∀ (r cur : List UInt8), cut cur r ≠ []
  | [], cur => by simp [cut]
  | b :: r, cur => by
    unfold cut
    split
    · simp
    · exact cut_ne r _
theorem join_two (x : List UInt8) (r : List (List UInt8)) (h : r ≠ []) : Lib.join (x :: r) [32] = x ++ 32 :: Lib.join r [32] := by
  match r, h with
  | y :: r, _ =>
    rw [Lib.join_cons, Lib.join_cons]
    simp [Lib.joinTail]
theorem join_cut : ∀ (r cur : List UInt8), Lib.join (cut cur r) [32] = cur ++ r
  | [], cur => by simp [cut, Lib.join_one]
  | b :: r, cur => by
    unfold cut
    split
    · rename_i c
      rw [join_two _ _ (cut_ne r _), join_cut r [], c]
      simp
    · rw [join_cut r _]; simp
theorem cut_skip : ∀ (p cur rest : List UInt8), (∀ b ∈ p, b ≠ 32) → cut cur (p ++ rest) = cut (cur ++ p) rest
  | [], cur, rest, _ => by simp
  | b :: p, cur, rest, h => by
    rw [List.cons_append, cut, if_neg (h b (by simp)), cut_skip p _ rest (fun x hx => h x (by simp [hx]))]
    simp
theorem cut_join : ∀ (l : List (List UInt8)), l ≠ [] → (∀ p ∈ l, ∀ b ∈ p, b ≠ 32) → cut [] (Lib.join l [32]) = l
  | [], h, _ => absurd rfl h
  | [x], _, h => by
    rw [Lib.join_one]
    have := cut_skip x [] [] (h x (by simp))
    rw [List.append_nil, List.nil_append] at this
    rw [this]; rfl
  | x :: y :: r, _, h => by
    rw [join_two x (y :: r) (by simp), cut_skip x [] _ (h x (by simp)), List.nil_append, cut, if_pos rfl, cut_join (y :: r) (by simp) (fun p hp => h p (by simp [hp]))]
theorem ib_none : ∀ (l : List UInt8), (∀ b ∈ l, b ≠ 32) → Lib.indexByte l 32 = -1
  | [], _ => rfl
  | b :: l, h => by
    unfold Lib.indexByte
    rw [if_neg (by have := h b (by simp); simpa using this), ib_none l (fun x hx => h x (by simp [hx]))]
    rfl
theorem ib_some : ∀ (l r : List UInt8), (∀ b ∈ l, b ≠ 32) → Lib.indexByte (l ++ 32 :: r) 32 = (l.length : Int)
  | [], r, _ => by simp [Lib.indexByte]
  | b :: l, r, h => by
    rw [List.cons_append]
    unfold Lib.indexByte
    rw [if_neg (by have := h b (by simp); simpa using this), ib_some l r (fun x hx => h x (by simp [hx])), if_neg (by simp)]
    simp
abbrev mkBA (l : List UInt8) : ByteArray := ⟨l.toArray⟩
theorem ext_take (l : List UInt8) (a b : Nat) : (mkBA l).extract a b = mkBA ((l.drop a).take (b - a)) := by
  apply ByteArray.ext
  apply Array.toList_inj.1
  rw [ByteArray.data_extract, Array.toList_extract]
  try simp [List.extract_eq_take_drop]
theorem split_join : ∀ (l : List (List UInt8)) (k : Nat), l ≠ [] → (∀ p ∈ l, ∀ b ∈ p, b ≠ 32) → l.length ≤ k + 1 → Lib.splitB ⟨#[32]⟩ 0 k (mkBA (Lib.join l [32])) = l.map mkBA
  | [], _, h, _, _ => absurd rfl h
  | [x], k, _, h, _ => by
    rw [Lib.join_one]
    exact Lib.splitB_miss _ 0 k _ (by show Lib.index x [32] = -1; rw [Lib.index_one]; exact ib_none x (h x (by simp)))
  | x :: y :: r, k, _, h, hk => by
    obtain ⟨k, rfl⟩ : ∃ j, k = j + 1 := ⟨k - 1, by simp at hk; omega⟩
    rw [join_two x (y :: r) (by simp)]
    have hi : Lib.indexB (mkBA (x ++ 32 :: Lib.join (y :: r) [32])) ⟨#[32]⟩ = (x.length : Int) := by
      show Lib.index (x ++ 32 :: Lib.join (y :: r) [32]) [32] = _
      rw [Lib.index_one]; exact ib_some x _ (h x (by simp))
    rw [Lib.splitB_hit _ 0 k _ x.length hi, ext_take, ext_take, List.drop_zero, show x.length + 0 - 0 = x.length by omega, List.take_left,
      show (⟨#[32]⟩ : ByteArray).size = 1 from rfl, mk_size]
    have e : ((x ++ 32 :: Lib.join (y :: r) [32]).drop (x.length + 1)).take ((x ++ 32 :: Lib.join (y :: r) [32]).length - (x.length + 1)) = Lib.join (y :: r) [32] := by
      rw [show x ++ 32 :: Lib.join (y :: r) [32] = (x ++ [32]) ++ Lib.join (y :: r) [32] by simp, List.drop_left' (by simp), List.take_of_length_le (by simp only [List.length_append, List.length_cons]; omega)]
    rw [e, split_join (y :: r) k (by simp) (fun p hp => h p (by simp [hp])) (by simp at hk ⊢; omega)]
    rfl
theorem itoa_plain (x : Int) (h0 : 1 ≤ x) : ∀ b ∈ Lib.itoa x, b ≠ 32 := by
  obtain ⟨u, rfl⟩ : ∃ u : Nat, x = u := ⟨x.toNat, by omega⟩
  intro b hb
  rw [itoa_nat] at hb
  have := dig_all u u (Nat.le_refl _) b hb
  unfold Dg at this
  intro e; subst e
  exact absurd this.1 (by decide)
theorem lens_le (l : List Int) (h : ∀ x ∈ l, 1 ≤ x ∧ x ≤ 1000000) : Lib.lens (l.map Lib.itoa) ≤ l.length * 1000001 := by
  induction l with
  | nil => simp [Lib.lens]
  | cons x r ih =>
    have h1 := itoa_len x (h x (by simp)).1 (h x (by simp)).2
    have h2 := ih (fun y hy => h y (by simp [hy]))
    simp only [Lib.lens, List.map_cons, List.sum_cons, List.length_cons] at h2 ⊢
    omega
theorem join_le (l : List Int) (h : ∀ x ∈ l, 1 ≤ x ∧ x ≤ 1000000) : (Lib.join (l.map Lib.itoa) [32]).length ≤ l.length * 1000002 := by
  match l, h with
  | [], _ => simp [Lib.join_nil]
  | x :: r, h =>
    have := lens_le (x :: r) h
    rw [List.map_cons] at this
    rw [List.map_cons, Lib.join_length]
    simp only [List.length_cons, List.length_map] at *
    simp only [List.length_nil] at *
    omega
theorem mk_data (s : ByteArray) : mkBA s.data.toList = s := by cases s; simp
theorem itoas_ne (l : List Int) (h : 0 < l.length) : l.map Lib.itoa ≠ [] := fun e => by
  have := congrArg List.length e
  rw [List.length_map, List.length_nil] at this
  omega
theorem lens_ge (l : List Int) : l.length ≤ (Lib.join (l.map Lib.itoa) [32]).length + 1 := by
  match l with
  | [] => simp
  | x :: r =>
    rw [List.map_cons, Lib.join_length]
    simp only [List.length_cons, List.length_map, List.length_nil]
    omega
theorem itoa_seven (x : Int) (h0 : 1 ≤ x) (h1 : x ≤ 1000000) : (Lib.itoa x).length ≤ 7 := by
  obtain ⟨u, rfl⟩ : ∃ u : Nat, x = u := ⟨x.toNat, by omega⟩
  rw [itoa_nat]
  exact dig_short 6 u (by have : (10 : Nat) ^ (6 + 1) = 10000000 := by decide
                          omega)
theorem lens_seven (l : List Int) (h : ∀ x ∈ l, 1 ≤ x ∧ x ≤ 1000000) : Lib.lens (l.map Lib.itoa) ≤ l.length * 7 := by
  induction l with
  | nil => simp [Lib.lens]
  | cons x r ih =>
    have h1 := itoa_seven x (h x (by simp)).1 (h x (by simp)).2
    have h2 := ih (fun y hy => h y (by simp [hy]))
    simp only [Lib.lens, List.map_cons, List.sum_cons, List.length_cons] at h2 ⊢
    omega
theorem join_eight (l : List Int) (h : ∀ x ∈ l, 1 ≤ x ∧ x ≤ 1000000) : (Lib.join (l.map Lib.itoa) [32]).length ≤ l.length * 8 := by
  match l, h with
  | [], _ => simp [Lib.join_nil]
  | x :: r, h =>
    have := lens_seven (x :: r) h
    rw [List.map_cons] at this
    rw [List.map_cons, Lib.join_length]
    simp only [List.length_cons, List.length_map] at *
    simp only [List.length_nil] at *
    omega
/-- A list that fits is read back from its text. -/
theorem nums_text (l : List Int) (h1 : 0 < l.length) (h2 : l.length ≤ 41) (hx : ∀ x ∈ l, 1 ≤ x ∧ x ≤ 1000000) : Go.Proofs.YtlefjgpkabijdaaGreatDoor.CW.nums (text l) = l := by
  have hg := lens_ge l
  unfold Go.Proofs.YtlefjgpkabijdaaGreatDoor.CW.nums pieces
  have e : text l = mkBA (Lib.join (l.map Lib.itoa) [32]) := rfl
  rw [e, mk_size, split_join _ _ (itoas_ne l (by omega)) (fun p hp b hb => by
    obtain ⟨x, hm, rfl⟩ := List.mem_map.1 hp
    exact itoa_plain x (hx x hm).1 b hb) (by rw [List.length_map]; omega), List.map_map, List.map_map]
  have e2 : l.map ((val ∘ mkBA) ∘ Lib.itoa) = l.map id := List.map_congr_left fun x hm => val_num x (hx x hm).1 (hx x hm).2
  rw [e2, List.map_id]
theorem text_size (l : List Int) (hx : ∀ x ∈ l, 1 ≤ x ∧ x ≤ 1000000) : (text l).size ≤ l.length * 8 := by
  have e : text l = mkBA (Lib.join (l.map Lib.itoa) [32]) := rfl
  rw [e, mk_size]; exact join_eight l hx
end Go.Proofs.YtlefjgpkabijdaaGreatDoor.CN
