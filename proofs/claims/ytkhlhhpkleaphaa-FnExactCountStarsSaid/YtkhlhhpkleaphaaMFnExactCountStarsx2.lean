-- Written by wip/mine.py (a program of this repo) for this claim.
import Derived.Test.YtkhlhhpkleaphaaMFnExactCountStarsx0
import Derived.Test.YtkhlhhpkleaphaaMFnExactCountStarsx1
namespace Go.Proofs.Ytkhlhhpkleaphaa.MFnExactCountStars
open Go.RowKit Go.Proofs.YtkhlhhpkleaphaaW.PrintWords Go.Proofs.YtkhlhhpkleaphaaW.PrintLast Go.Proofs.YtkhlhhpkleaphaaW.PrintMore Go.Proofs.YtkhlhhpkleaphaaV
attribute [local go_sem] max2_int min2_int max_two min_two max_three min_three max_four min_four   -- for this text's walks alone
set_option linter.unusedVariables false
set_option linter.unusedSimpArgs false


/-! ### impl_stars: function 55 -/
/-- What a closure that is handed over has to be: its state s (of a type of the caller's), what it answers, where it writes. -/
structure impl_stars.Env {σ : Type} (fc : List Int → σ → Bool × σ) (G : Nat) (lb : Array Value) (base : Nat) (S : Nat → Prop) (I : σ → World → Prop) : Prop where
  enters : ∀ args w, (callFunc G args).run Try.prog w = .ok (.enter G args) w
  lt : ∀ s w k, I s w → S k → k < w.heap.size
  size : ∀ s w, I s w → base ≤ w.heap.size
  step : ∀ s w W, I s w → Below w.heap.size w W → I s W
  call : ∀ s (A : Option Addr) (c : Nat) (l : List Int) w, I s w → (∀ W, Kept w W S → Kd.C (Kd.int .i64) W A l.length l) → l.length ≤ c → l.length < 17592186044416 → Calls Try.prog G (#[.slice A l.length c] ++ lb) w fun e w' => e = .returned (.bool (fc l s).1) ∧ I (fc l s).2 w' ∧ Kept w w' S ∧ Below base w w'
theorem impl_stars.inf : (Try.prog.info? 3).map (fun i => (i.zero, i.size, i.bytes)) = some (some (.int .i64 0), 1, 8) := by kernel_rfl
def impl_stars.At {σ : Type} (base : Nat) (S : Nat → Prop) (I : σ → World → Prop) (w W : World) (s : σ) : Prop := I s W ∧ Kept w W S ∧ Below base w W
theorem impl_stars.At.on {σ : Type} {fc : List Int → σ → Bool × σ} {G : Nat} {lb : Array Value} {base : Nat} {S : Nat → Prop} {I : σ → World → Prop} (E : impl_stars.Env fc G lb base S I) {w W W2 : World} {s : σ} (h : impl_stars.At base S I w W s) (hb : Below W.heap.size W W2) : impl_stars.At base S I w W2 s :=
  ⟨E.step _ _ _ h.1 hb, h.2.1.below hb, h.2.2.trans (hb.mono (E.size _ _ h.1))⟩
theorem impl_stars.At.call {σ : Type} {base : Nat} {S : Nat → Prop} {I : σ → World → Prop} {w W W2 : World} {s s2 : σ} (h : impl_stars.At base S I w W s) (h1 : I s2 W2) (h2 : Kept W W2 S) (h3 : Below base W W2) : impl_stars.At base S I w W2 s2 :=
  ⟨h1, h.2.1.then_ h2 (fun _ hk => .inl hk), h.2.2.trans h3⟩
theorem impl_stars.At.state {σ : Type} {base : Nat} {S : Nat → Prop} {I : σ → World → Prop} {w W : World} {s : σ} (h : impl_stars.At base S I w W s) : I s W := h.1
theorem impl_stars.At.kept {σ : Type} {base : Nat} {S : Nat → Prop} {I : σ → World → Prop} {w W : World} {s : σ} (h : impl_stars.At base S I w W s) : Kept w W S := h.2.1
mutual
def impl_stars.l0 {σ : Type} (fc : List Int → σ → Bool × σ) : Nat → Int → Int → List Int → σ → Int → Int → Option (Bool × σ)
  | 0, _, _, _, _, _, _ => none
  | k + 1, n, len, l, s, last, i => if i < (l.length : Int) then (if 0 ≤ i then (if l.length < 17592186044416 then ((impl_stars.f fc k n len (l ++ [wrap64 (last + (rd l i))]) s).bind fun t => (if t.1 = true then (some (true, t.2)) else (impl_stars.l0 fc k n len l t.2 last (wrap64 (i + 1))))) else none) else none) else (some (false, s))
def impl_stars.f {σ : Type} (fc : List Int → σ → Bool × σ) : Nat → Int → Int → List Int → σ → Option (Bool × σ)
  | 0, _, _, _, _ => none
  | k + 1, n, len, l, s => if 0 ≤ (wrap64 ((l.length : Int) - 1)) then (if (wrap64 ((l.length : Int) - 1)) < (l.length : Int) then (if (wrap64 ((wrap64 (len - (l.length : Int))) + 1)) = 0 then (if (rd l (wrap64 ((l.length : Int) - 1))) = n then (if l.length < 17592186044416 then some (fc l s) else none) else (some (false, s))) else (if (rd l (wrap64 ((l.length : Int) - 1))) ≥ n then (some (false, s)) else (if 0 ≤ (wrap64 ((wrap64 (len - (l.length : Int))) + 1)) then (if (shl .i64 (rd l (wrap64 ((l.length : Int) - 1))) (wrap64 ((wrap64 (len - (l.length : Int))) + 1))) < n then (some (false, s)) else (impl_stars.l0 fc k n len l s (rd l (wrap64 ((l.length : Int) - 1))) 0)) else (none)))) else (none)) else (none)
end
theorem impl_stars.mono_l {σ : Type} (fc : List Int → σ → Bool × σ) : ∀ k, (∀ y0 y1 y2 y3, LeO (impl_stars.f fc k y0 y1 y2 y3) (impl_stars.f fc (k + 1) y0 y1 y2 y3)) ∧ (∀ y0 y1 y2 y3 y4 y5, LeO (impl_stars.l0 fc k y0 y1 y2 y3 y4 y5) (impl_stars.l0 fc (k + 1) y0 y1 y2 y3 y4 y5))
  | 0 => ⟨fun _ _ _ _ r h => by simp [impl_stars.f] at h, fun _ _ _ _ _ _ r h => by simp [impl_stars.l0] at h⟩
  | k + 1 => by
    obtain ⟨ih0, ih1⟩ := impl_stars.mono_l fc k
    refine ⟨?_, ?_⟩
    · intro y0 y1 y2 y3
      unfold impl_stars.f
      repeat' first
      | (with_reducible exact ih0 _ _ _ _)
      | (with_reducible exact ih1 _ _ _ _ _ _)
      | (with_reducible exact LeO.refl _)
      | (with_reducible exact LeO.none _)
      | (with_reducible refine LeO.ite ?_ ?_)
      | (with_reducible refine LeO.bind ?_ (fun _ => ?_))
    · intro y0 y1 y2 y3 y4 y5
      unfold impl_stars.l0
      repeat' first
      | (with_reducible exact ih0 _ _ _ _)
      | (with_reducible exact ih1 _ _ _ _ _ _)
      | (with_reducible exact LeO.refl _)
      | (with_reducible exact LeO.none _)
      | (with_reducible refine LeO.ite ?_ ?_)
      | (with_reducible refine LeO.bind ?_ (fun _ => ?_))
theorem impl_stars.mono {σ : Type} (fc : List Int → σ → Bool × σ) : ∀ a0 a1 a2 a3 k, LeO (impl_stars.f fc k a0 a1 a2 a3) (impl_stars.f fc (k + 1) a0 a1 a2 a3) := fun a0 a1 a2 a3 k => (impl_stars.mono_l fc k).1 a0 a1 a2 a3
set_option maxHeartbeats 4000000 in
set_option maxRecDepth 100000 in
theorem impl_stars.calls {σ : Type} {fc : List Int → σ → Bool × σ} {G : Nat} {lb : Array Value} {base : Nat} {S : Nat → Prop} {I : σ → World → Prop} (E : impl_stars.Env fc G lb base S I) (k : Nat) : ∀ (a0 a1 : Int) (A2 : Option Addr) (c2 : Nat) (l2 : List Int) (s : σ) (r : Bool × σ) (w : World), I s w → (∀ W, Kept w W S → Kd.C (Kd.int .i64) W A2 l2.length l2) → l2.length ≤ c2 → impl_stars.f fc k a0 a1 l2 s = some r →
    Calls Try.prog 55 #[.int .i64 a0, .int .i64 a1, .slice A2 l2.length c2, .func (.func G) #[] lb] w fun e w' => e = .returned (.bool r.1) ∧ I r.2 w' ∧ Kept w w' S ∧ Below base w w' := by
  induction k using Nat.strongRecOn with
  | _ k ih =>
  intro a0 a1 A2 c2 l2 s r w hi hr2 hc2 h
  cases k with
  | zero => exact absurd h (by simp [impl_stars.f])
  | succ k =>
  simp only [impl_stars.f] at h
  have EN := Aside0.mk E
  have HR2 := Aside0.mk hr2
  have HC2 := Aside0.mk hc2
  have HI := Aside0.mk hi
  have eg := E.enters
  have HRW := Aside0.mk (hr2 w (Kept.refl w S))
  clear hr2 hc2 hi E
  obtain ⟨ji5, hji5⟩ : ∃ j_ : Int, (wrap64 ((l2.length : Int) - 1)) = j_ := ⟨_, rfl⟩
  rw [hji5] at h
  have hji5w : (IntKind.i64.wrap ((l2.length : Int) - 1)) = ji5 := (i64_w _).trans hji5
  by_cases c6 : 0 ≤ ji5
  · rw [if_pos c6] at h
    have c6b0 : decide (0 ≤ ji5) = true := decide_eq_true c6
    by_cases c7 : ji5 < (l2.length : Int)
    · rw [if_pos c7] at h
      have c7b0 : decide (ji5 < (l2.length : Int)) = true := decide_eq_true c7
      obtain ⟨ad, e136, hx136_0⟩ := Kd.at_int HRW.out ji5 c6 c7
      cases e136
      replace c6 := eq_true c6
      replace c7 := eq_true c7
      obtain ⟨ji11, hji11⟩ : ∃ j_ : Int, (wrap64 ((wrap64 (a1 - (l2.length : Int))) + 1)) = j_ := ⟨_, rfl⟩
      rw [hji11] at h
      have hji11w : (IntKind.i64.wrap ((wrap64 (a1 - (l2.length : Int))) + 1)) = ji11 := (i64_w _).trans hji11
      by_cases c8 : ji11 = 0
      · rw [if_pos c8] at h
        have c8b0 : (ji11 == 0) = true := beq_iff_eq.mpr c8
        have c8b1 : (ji11 != 0) = false := bne_eq_false_iff_eq.mpr c8
        clear c8
        by_cases c9 : (rd l2 ji5) = a0
        · rw [if_pos c9] at h
          have c9b0 : ((rd l2 ji5) == a0) = true := beq_iff_eq.mpr c9
          have c9b1 : ((rd l2 ji5) != a0) = false := bne_eq_false_iff_eq.mpr c9
          clear c9
          by_cases c9c : l2.length < 17592186044416
          · rw [if_pos c9c] at h
            obtain rfl := Option.some.inj h
            clear h
            have HL := Aside0.mk c9c
            clear c9c
            go_enter Try.func55, Try.ntmps55
            go_wp2_with (go_at_fn G; refine (EN.out.call s _ _ l2 _ (EN.out.step _ _ _ HI.out (by repeat (first | exact Below.refl _ _ | (with_reducible first | apply below_alloc | apply pw_below_drewN | apply below_drew1)))) (fun W hk => HR2.out W (Kept.then_ (S := S) (by repeat (first | (with_reducible first | apply Kept.alloc | apply Kept.drewN | apply Kept.drew) | exact Kept.refl _ _)) hk (fun _ h_ => .inl h_))) HC2.out HL.out).mono ?_; rintro e w1 ⟨rfl, h1, h2, h3⟩; have H1 := Aside0.mk h1; have H2 := Aside0.mk h2; have H3 := Aside0.mk h3; clear h1 h2 h3)
            go_ret
            have hat := impl_stars.At.call (impl_stars.At.on EN.out ⟨HI.out, Kept.refl w S, Below.refl _ _⟩ (by repeat (first | exact Below.refl _ _ | (with_reducible first | apply below_alloc | apply pw_below_drewN | apply below_drew1)))) H1.out H2.out H3.out
            exact ⟨rfl, hat.1, hat.2.1, hat.2.2⟩
          · rw [if_neg c9c] at h
            cases h
        · rw [if_neg c9] at h
          have c9b0 : ((rd l2 ji5) == a0) = false := beq_eq_false_iff_ne.mpr c9
          have c9b1 : ((rd l2 ji5) != a0) = true := bne_iff_ne.mpr c9
          clear c9
          obtain rfl := Option.some.inj h
          clear h
          go_enter Try.func55, Try.ntmps55
          go_wp2
          go_ret
          have hat := impl_stars.At.on EN.out (w := w) (W := w) (s := s) ⟨HI.out, Kept.refl w S, Below.refl _ _⟩ (by repeat (first | exact Below.refl _ _ | (with_reducible first | apply below_alloc | apply pw_below_drewN | apply below_drew1)))
          exact ⟨rfl, hat.1, hat.2.1, hat.2.2⟩
      · rw [if_neg c8] at h
        have c8b0 : (ji11 == 0) = false := beq_eq_false_iff_ne.mpr c8
        have c8b1 : (ji11 != 0) = true := bne_iff_ne.mpr c8
        clear c8
        by_cases c10 : (rd l2 ji5) ≥ a0
        · rw [if_pos c10] at h
          have c10b0 : decide (a0 ≤ (rd l2 ji5)) = true := decide_eq_true c10
          clear c10
          obtain rfl := Option.some.inj h
          clear h
          go_enter Try.func55, Try.ntmps55
          go_wp2
          go_ret
          have hat := impl_stars.At.on EN.out (w := w) (W := w) (s := s) ⟨HI.out, Kept.refl w S, Below.refl _ _⟩ (by repeat (first | exact Below.refl _ _ | (with_reducible first | apply below_alloc | apply pw_below_drewN | apply below_drew1)))
          exact ⟨rfl, hat.1, hat.2.1, hat.2.2⟩
        · rw [if_neg c10] at h
          have c10b0 : decide (a0 ≤ (rd l2 ji5)) = false := decide_eq_false c10
          clear c10
          by_cases c12 : 0 ≤ ji11
          · rw [if_pos c12] at h
            have c12b0 := eq_true c12
            have c12b1 : decide (0 ≤ ji11) = true := decide_eq_true c12
            clear c12
            obtain ⟨ji13, hji13⟩ : ∃ j_ : Int, (shl .i64 (rd l2 ji5) ji11) = j_ := ⟨_, rfl⟩
            rw [hji13] at h
            have hji13_ : (IntKind.i64.wrap ((rd l2 ji5) * 2 ^ min (ji11).toNat 64)) = ji13 := hji13
            have hji13z : ji11 ≤ 64 → (IntKind.i64.wrap ((rd l2 ji5) * 2 ^ (ji11).toNat)) = ji13 := shl_small hji13
            have hji13y : (wrap64 ((rd l2 ji5) * 2 ^ min (ji11).toNat 64)) = ji13 := (i64_w _).symm.trans hji13_
            have hji13x : ji11 ≤ 64 → (wrap64 ((rd l2 ji5) * 2 ^ (ji11).toNat)) = ji13 := fun h_ => (i64_w _).symm.trans (hji13z h_)
            by_cases c14 : ji13 < a0
            · rw [if_pos c14] at h
              have c14b0 : decide (ji13 < a0) = true := decide_eq_true c14
              clear c14
              obtain rfl := Option.some.inj h
              clear h
              go_enter Try.func55, Try.ntmps55
              go_wp2
              go_ret
              have hat := impl_stars.At.on EN.out (w := w) (W := w) (s := s) ⟨HI.out, Kept.refl w S, Below.refl _ _⟩ (by repeat (first | exact Below.refl _ _ | (with_reducible first | apply below_alloc | apply pw_below_drewN | apply below_drew1)))
              exact ⟨rfl, hat.1, hat.2.1, hat.2.2⟩
            · rw [if_neg c14] at h
              have c14b0 : decide (ji13 < a0) = false := decide_eq_false c14
              clear c14
              have H' := Aside0.mk h
              clear h
              go_enter Try.func55, Try.ntmps55
              go_wp2
              go_loopg [48] k (fun kq v48 w' => ∃ (i : Int) (s' : σ), v48 = .int .i64 i ∧ Aside0 (impl_stars.l0 fc kq a0 a1 l2 s' (rd l2 ji5) i = some r) ∧ Aside0 (kq ≤ k) ∧ Aside0 (impl_stars.At base S I w w' s'))
              case atStart => exact ⟨0, s, by first | rfl | (simp; done), H', ⟨Nat.le_refl _⟩, ⟨impl_stars.At.on EN.out (w := w) (W := w) (s := s) ⟨HI.out, Kept.refl w S, Below.refl _ _⟩ (by repeat (first | exact Below.refl _ _ | (with_reducible first | apply below_alloc | apply pw_below_drewN | apply below_drew1)))⟩⟩
              case round =>
                clear H' hx136_0 c6 c7 c6b0 c7b0 c8b0 c8b1 c10b0 c12b0 c12b1 c14b0 HRW hji13_ hji13z hji13y hji13x
                obtain ⟨i, s', rfl, HA, HK1, HAT⟩ := hrel
                cases gk with
                | zero => exact absurd HA.out (by simp [impl_stars.l0])
                | succ k1 =>
                  have H := HA.out
                  clear HA
                  simp only [impl_stars.l0] at H
                  by_cases c15 : i < (l2.length : Int)
                  · rw [if_pos c15] at H
                    have c15b0 : decide (i < (l2.length : Int)) = true := decide_eq_true c15
                    by_cases c16 : 0 ≤ i
                    · rw [if_pos c16] at H
                      have c16b0 : decide (0 ≤ i) = true := decide_eq_true c16
                      by_cases c19 : l2.length < 17592186044416
                      · rw [if_pos c19] at H
                        have HL := Aside0.mk c19
                        clear c19
                        obtain ⟨y, hy⟩ : ∃ y_ : List Int, y_ = (l2 ++ [wrap64 ((rd l2 ji5) + (rd l2 i))]) := ⟨_, rfl⟩
                        rw [← hy] at H
                        have HY := Aside0.mk hy
                        clear hy
                        obtain ⟨⟨tb, ts⟩, A200, H⟩ := Option.bind_eq_some_iff.mp H
                        dsimp only at H
                        have A20 := Aside0.mk A200
                        clear A200
                        obtain ⟨ad2, e137, hx137_0⟩ := Kd.at_int (HR2.out _ HAT.out.2.1) i c16 c15
                        obtain rfl : ad = ad2 := (by injection e137)
                        replace c16 := eq_true c16
                        replace c15 := eq_true c15
                        cases tb with
                        | true =>
                          rw [if_pos rfl] at H
                          obtain rfl := Option.some.inj H
                          clear H
                          go_wp2_with (first | ((with_reducible refine gate_callee (f := 77) rfl ?_); refine goesL_ (some 55) rfl rfl Try.func77 (by kernel_rfl) rfl #[.slice (some ad) l2.length c2] rfl (by (try simp only [List.map_toArray, List.map_cons, List.map_nil]); first | done | rfl) ?_; (with_reducible refine (slices_Clip_int_int.real _ _ _ _ HC2.out HL.out).mono ?_); rintro e w' ⟨rfl, rfl⟩; refine ⟨_, rfl, ?_⟩) | ((with_reducible refine gate_builtin (b := .append) (xs := #[.tmp 55, .tmp 59]) rfl ?_); at_builtin; refine Go.Proofs.YtkhlhhpkleaphaaAC.append_full rfl (.tmp 55) (.tmp 59) 26 3 rfl Try.underlying26 impl_stars.inf (some ad) l2 (wrap64 ((rd l2 ji5) + (rd l2 i))) rfl rfl (HR2.out _ (impl_stars.At.kept (impl_stars.At.on EN.out HAT.out (by repeat (first | exact Below.refl _ _ | (with_reducible first | apply below_alloc | apply pw_below_drewN | apply below_drew1)))))) HL.out ?_; intro v1 w1 ho0 hb; replace ho0 : Kd.R (Kd.int .i64) 3 w1 _ _ v1 y := (by rw [HY.out]; exact ho0); have HO := Aside0.mk ho0; have n0_ := Aside0.mk (impl_stars.At.on EN.out (impl_stars.At.on EN.out HAT.out (by repeat (first | exact Below.refl _ _ | (with_reducible first | apply below_alloc | apply pw_below_drewN | apply below_drew1)))) hb); have HNS : Aside0 (∀ k_, v1.ownBlock = some k_ → ¬ S k_) := Aside0.mk (fun (k_ : Nat) (e_ : v1.ownBlock = some k_) (hs_ : S k_) => absurd (Kd.R_base ho0 k_ e_) (Nat.not_le_of_lt (EN.out.lt _ _ _ (impl_stars.At.state (impl_stars.At.on EN.out HAT.out (by repeat (first | exact Below.refl _ _ | (with_reducible first | apply below_alloc | apply pw_below_drewN | apply below_drew1))))) hs_))); clear HAT ho0 hb; have HAT := n0_; clear n0_; obtain ⟨Ao, co, eo⟩ := Kd.R_slice HO.out; subst eo) | ((with_reducible refine gate_callee (f := 55) rfl ?_); refine goesL_ (some 62) rfl rfl Try.func55 (by kernel_rfl) rfl #[.int .i64 a0, .int .i64 a1, .slice Ao y.length co, .func (.func G) #[] lb] rfl (by (try simp only [List.map_toArray, List.map_cons, List.map_nil]); first | done | rfl) ?_; refine (ih k1 (by have := HK1.out; omega) a0 a1 Ao co y s' _ _ (impl_stars.At.state (impl_stars.At.on EN.out HAT.out (by repeat (first | exact Below.refl _ _ | (with_reducible first | apply below_alloc | apply pw_below_drewN | apply below_drew1))))) ?side1 ?side2 A20.out).mono ?_; (case side1 => exact Kd.C_kept_own (Kd.R_tight rfl (by (with_reducible repeat (first | apply Kd.R_alloc | apply Kd.R_drewN | apply Kd.R_drew)); exact HO.out)) (fun k_ hk_ => HNS.out k_ hk_.symm)); (case side2 => exact (Kd.R_reads' HO.out).2.1); rintro e w3 ⟨rfl, h1, h2, h3⟩; refine ⟨_, rfl, ?_⟩; have n0_ := Aside0.mk (impl_stars.At.call (impl_stars.At.on EN.out HAT.out (by repeat (first | exact Below.refl _ _ | (with_reducible first | apply below_alloc | apply pw_below_drewN | apply below_drew1)))) h1 h2 h3); clear HAT h1 h2 h3; have HAT := n0_; clear n0_))
                          go_ret
                          exact ⟨rfl, HAT.out.1, HAT.out.2.1, HAT.out.2.2⟩
                        | false =>
                          rw [if_neg (by decide)] at H
                          have H' := Aside0.mk H
                          clear H
                          go_wp2_with (first | ((with_reducible refine gate_callee (f := 77) rfl ?_); refine goesL_ (some 55) rfl rfl Try.func77 (by kernel_rfl) rfl #[.slice (some ad) l2.length c2] rfl (by (try simp only [List.map_toArray, List.map_cons, List.map_nil]); first | done | rfl) ?_; (with_reducible refine (slices_Clip_int_int.real _ _ _ _ HC2.out HL.out).mono ?_); rintro e w' ⟨rfl, rfl⟩; refine ⟨_, rfl, ?_⟩) | ((with_reducible refine gate_builtin (b := .append) (xs := #[.tmp 55, .tmp 59]) rfl ?_); at_builtin; refine Go.Proofs.YtkhlhhpkleaphaaAC.append_full rfl (.tmp 55) (.tmp 59) 26 3 rfl Try.underlying26 impl_stars.inf (some ad) l2 (wrap64 ((rd l2 ji5) + (rd l2 i))) rfl rfl (HR2.out _ (impl_stars.At.kept (impl_stars.At.on EN.out HAT.out (by repeat (first | exact Below.refl _ _ | (with_reducible first | apply below_alloc | apply pw_below_drewN | apply below_drew1)))))) HL.out ?_; intro v1 w1 ho0 hb; replace ho0 : Kd.R (Kd.int .i64) 3 w1 _ _ v1 y := (by rw [HY.out]; exact ho0); have HO := Aside0.mk ho0; have n0_ := Aside0.mk (impl_stars.At.on EN.out (impl_stars.At.on EN.out HAT.out (by repeat (first | exact Below.refl _ _ | (with_reducible first | apply below_alloc | apply pw_below_drewN | apply below_drew1)))) hb); have HNS : Aside0 (∀ k_, v1.ownBlock = some k_ → ¬ S k_) := Aside0.mk (fun (k_ : Nat) (e_ : v1.ownBlock = some k_) (hs_ : S k_) => absurd (Kd.R_base ho0 k_ e_) (Nat.not_le_of_lt (EN.out.lt _ _ _ (impl_stars.At.state (impl_stars.At.on EN.out HAT.out (by repeat (first | exact Below.refl _ _ | (with_reducible first | apply below_alloc | apply pw_below_drewN | apply below_drew1))))) hs_))); clear HAT ho0 hb; have HAT := n0_; clear n0_; obtain ⟨Ao, co, eo⟩ := Kd.R_slice HO.out; subst eo) | ((with_reducible refine gate_callee (f := 55) rfl ?_); refine goesL_ (some 62) rfl rfl Try.func55 (by kernel_rfl) rfl #[.int .i64 a0, .int .i64 a1, .slice Ao y.length co, .func (.func G) #[] lb] rfl (by (try simp only [List.map_toArray, List.map_cons, List.map_nil]); first | done | rfl) ?_; refine (ih k1 (by have := HK1.out; omega) a0 a1 Ao co y s' _ _ (impl_stars.At.state (impl_stars.At.on EN.out HAT.out (by repeat (first | exact Below.refl _ _ | (with_reducible first | apply below_alloc | apply pw_below_drewN | apply below_drew1))))) ?side1 ?side2 A20.out).mono ?_; (case side1 => exact Kd.C_kept_own (Kd.R_tight rfl (by (with_reducible repeat (first | apply Kd.R_alloc | apply Kd.R_drewN | apply Kd.R_drew)); exact HO.out)) (fun k_ hk_ => HNS.out k_ hk_.symm)); (case side2 => exact (Kd.R_reads' HO.out).2.1); rintro e w3 ⟨rfl, h1, h2, h3⟩; refine ⟨_, rfl, ?_⟩; have n0_ := Aside0.mk (impl_stars.At.call (impl_stars.At.on EN.out HAT.out (by repeat (first | exact Below.refl _ _ | (with_reducible first | apply below_alloc | apply pw_below_drewN | apply below_drew1)))) h1 h2 h3); clear HAT h1 h2 h3; have HAT := n0_; clear n0_))
                          go_roundg k1
                          case measure => have := HK1.out; omega
                          case rel => exact ⟨(wrap64 (i + 1)), ts, (by first | rfl | (simp; done) | (simp [*]; done)), H', ⟨by have := HK1.out; omega⟩, ⟨impl_stars.At.on EN.out HAT.out (by repeat (first | exact Below.refl _ _ | (with_reducible first | apply below_alloc | apply pw_below_drewN | apply below_drew1)))⟩⟩
                      · rw [if_neg c19] at H
                        cases H
                    · rw [if_neg c16] at H
                      cases H
                  · rw [if_neg c15] at H
                    have c15b0 : decide (i < (l2.length : Int)) = false := decide_eq_false c15
                    clear c15
                    obtain rfl := Option.some.inj H
                    clear H
                    go_wp2
                    go_ret
                    have hat := impl_stars.At.on EN.out HAT.out (by repeat (first | exact Below.refl _ _ | (with_reducible first | apply below_alloc | apply pw_below_drewN | apply below_drew1)))
                    exact ⟨rfl, hat.1, hat.2.1, hat.2.2⟩
          · rw [if_neg c12] at h
            cases h
    · rw [if_neg c7] at h
      cases h
  · rw [if_neg c6] at h
    cases h



/-! ### impl_CountStars: function 27 -/
def impl_CountStars.fc (_ : List Int) (m : Int) : Bool × Int := (false, wrap64 (m + 1))
def impl_CountStars.f (k : Nat) (n len : Int) : Option (Int × Bool) := (impl_isShort.f n).bind fun t => if t = true then ((impl_lengthOk.f len).bind fun t2 => if t2 = true then ((impl_stars.f impl_CountStars.fc k n len [1] 0).bind fun r => some (r.2, true)) else some (0, false)) else some (0, false)
theorem impl_CountStars.mono : ∀ a0 a1 k, LeO (impl_CountStars.f k a0 a1) (impl_CountStars.f (k + 1) a0 a1) := by
  intro a0 a1 k
  unfold impl_CountStars.f
  repeat' first
      | (with_reducible exact impl_stars.mono _ _ _ _ _ _)
      | (with_reducible exact LeO.refl _)
      | (with_reducible exact LeO.none _)
      | (with_reducible refine LeO.ite ?_ ?_)
      | (with_reducible refine LeO.bind ?_ (fun _ => ?_))
def impl_CountStars.I (B : Nat) (m : Int) (W : World) : Prop := W.heap[B]? = some (.cells #[.int .i64 m] 3 (0, 0))
set_option maxHeartbeats 2000000 in
set_option maxRecDepth 100000 in
theorem impl_CountStars.env (base B : Nat) (hb : base ≤ B) : impl_stars.Env impl_CountStars.fc 56 #[.pointer (some ⟨B, 0, none⟩)] base (fun k => k = B) (impl_CountStars.I B) where
  enters := enters_of Try.func56 (by kernel_rfl) rfl
  lt := fun s w k h hk => by subst hk; exact blk_lt h
  size := fun s w h => Nat.le_of_lt (Nat.lt_of_le_of_lt hb (blk_lt h))
  step := fun s w W h hW => (hW.block B (blk_lt h)).trans h
  call := fun m A c l w h hr hc hl => by
    have hx : w.heap[B]? = some (.cells #[.int .i64 m] 3 (0, 0)) := h
    have h0 : w.cell? ⟨B, 0, none⟩ = some (.int .i64 m) := (blk_cell hx 0).trans rfl
    have hf := blk_frozen hx 0
    show Calls _ _ #[.slice A l.length c, .pointer (some ⟨B, 0, none⟩)] w _
    have HX := Aside0.mk hx
    clear hr hc hl h hx
    go_enter Try.func56, Try.ntmps56
    go_wp2
    go_ret
    refine ⟨rfl, (blk_set HX.out 0 _).trans rfl, Kept.setCell (S := fun k => k = B) (p := ⟨B, 0, none⟩) (Kept.refl w _) (.inl rfl) _, (Below.refl base w).setCell hb _⟩
theorem impl_CountStars.go (k : Nat) (n len : Int) (r : Bool × Int) (W : World) (B C base : Nat) (hB : W.heap[B]? = some (.cells #[.int .i64 0] 3 (0, 0))) (hC : W.heap[C]? = some (.cells #[.int .i64 1] 3 (0, 0))) (hne : C ≠ B) (hb : base ≤ B) (h : impl_stars.f impl_CountStars.fc k n len [1] 0 = some r) :
    Calls Try.prog 55 #[.int .i64 n, .int .i64 len, .slice (some ⟨C, 0, none⟩) 1 1, .func (.func 56) #[] #[.pointer (some ⟨B, 0, none⟩)]] W fun e w' => e = .returned (.bool r.1) ∧ w'.cell? ⟨B, 0, none⟩ = some (.int .i64 r.2) ∧ Below base W w' := by
  refine (impl_stars.calls (impl_CountStars.env base B hb) k n len (some ⟨C, 0, none⟩) 1 [1] 0 r W hB (fun W' hk => ?_) (Nat.le_refl _) h).mono ?_
  · have hC' : W'.heap[C]? = some (.cells #[.int .i64 1] 3 (0, 0)) := (hk.2 C (blk_lt hC) hne).trans hC
    have hR : Kd.R (Kd.int .i64) 3 W' C (fun _ => True) (.slice (some ⟨C, 0, none⟩) 1 1) [(1 : Int)] :=
      Kd.R_of_own (enc := Value.int .i64) (h1 := fun _ => rfl) ⟨by simp [encs], .inr ⟨C, 1, #[.int .i64 1], rfl, Nat.le_refl _, hC', by decide, by decide, by simp, by simp [encs]⟩⟩ (fun _ _ => trivial)
    exact (Kd.R_reads' hR).2.2
  · rintro e w' ⟨rfl, h1, h2, h3⟩
    exact ⟨rfl, (blk_cell h1 0).trans rfl, h3⟩
set_option maxHeartbeats 2000000 in
set_option maxRecDepth 100000 in
theorem impl_CountStars.calls (k : Nat) (a0 : Int) (a1 : Int) (r1 : Int) (r2 : Bool) (w : World) (h : impl_CountStars.f k a0 a1 = some (r1, r2)) :
    Calls Try.prog 27 #[.int .i64 a0, .int .i64 a1] w fun e w' => e = .returned (.tuple #[.int .i64 r1, .bool r2]) ∧ Below w.heap.size w w' := by
  unfold impl_CountStars.f at h
  obtain ⟨t1, hs, h⟩ := Option.bind_eq_some_iff.mp h
  have HS := Aside0.mk hs
  clear hs
  cases t1 with
  | false =>
    rw [if_neg (by decide)] at h
    obtain ⟨rfl, rfl⟩ := Prod.mk.inj (Option.some.inj h)
    clear h
    go_enter Try.func27, Try.ntmps27
    go_wp2_with (go_at_call 53; (with_reducible refine (impl_isShort.calls a0 false _ HS.out).mono ?_); rintro e w2 ⟨rfl, ⟨nd, rfl⟩⟩)
    go_ret2
    exact ⟨rfl, by repeat (first | exact Below.refl _ _ | (with_reducible first | apply below_alloc | apply pw_below_drewN | apply below_drew1))⟩
  | true =>
    rw [if_pos rfl] at h
    obtain ⟨t2, hl, h⟩ := Option.bind_eq_some_iff.mp h
    have HL := Aside0.mk hl
    clear hl
    cases t2 with
    | false =>
      rw [if_neg (by decide)] at h
      obtain ⟨rfl, rfl⟩ := Prod.mk.inj (Option.some.inj h)
      clear h
      go_enter Try.func27, Try.ntmps27
      go_wp2_with (first | (go_at_call 53; (with_reducible refine (impl_isShort.calls a0 true _ HS.out).mono ?_); rintro e w2 ⟨rfl, ⟨nd, rfl⟩⟩) | (go_at_call 54; (with_reducible refine (impl_lengthOk.calls a1 false _ HL.out).mono ?_); rintro e w3 ⟨rfl, ⟨nd2, rfl⟩⟩))
      go_ret2
      exact ⟨rfl, by repeat (first | exact Below.refl _ _ | (with_reducible first | apply below_alloc | apply pw_below_drewN | apply below_drew1))⟩
    | true =>
      rw [if_pos rfl] at h
      obtain ⟨⟨rb, rm⟩, hst, h⟩ := Option.bind_eq_some_iff.mp h
      obtain ⟨rfl, rfl⟩ := Prod.mk.inj (Option.some.inj h)
      clear h
      have HST := Aside0.mk hst
      clear hst
      go_enter Try.func27, Try.ntmps27
      go_wp2_with (first | ((with_reducible refine gate_dst (N := 6) rfl ?_); refine box_event ?hg (N := 6) ?hd (cs := #[.int .i64 0]) (t := 3) ?hr ?_; (case hd => rfl); (case hg => rfl); (case hr => first | (go_simp; done) | (go_simp; rfl)); intro B hg w4 hbox hb4; have HX := Aside0.mk hbox; have hc0 : w4.cell? ⟨B, 0, none⟩ = some (.int .i64 0) := (blk_cell hbox 0).trans rfl; have hf0 := blk_frozen hbox 0; have HB4 := Aside0.mk (show Below w.heap.size w w4 from Below.trans (by repeat (first | exact Below.refl _ _ | (with_reducible first | apply below_alloc | apply pw_below_drewN | apply below_drew1))) (hb4.mono (by simp))); have HG := Aside0.mk (show w.heap.size ≤ B by rw [hg]; simp); clear hb4 hbox hg) | (go_at_call 53; (with_reducible refine (impl_isShort.calls a0 true _ HS.out).mono ?_); rintro e w2 ⟨rfl, ⟨nd, rfl⟩⟩) | (go_at_call 54; (with_reducible refine (impl_lengthOk.calls a1 true _ HL.out).mono ?_); rintro e w3 ⟨rfl, ⟨nd2, rfl⟩⟩) | (go_at_call 55; refine (impl_CountStars.go k a0 a1 (rb, rm) _ B w4.heap.size w.heap.size (blk_alloc ((blk_set HX.out 0 _).trans rfl) _) (by have h_ := blk_new (w4.setCell ⟨B, 0, none⟩ (.int .i64 0)) (.cells #[.int .i64 1] 3); simpa [World.setCell] using h_) (by have := blk_lt HX.out; omega) HG.out HST.out).mono ?_; rintro e w5 ⟨rfl, hc5, hb5⟩; have HB5 := Aside0.mk ((below_alloc (HB4.out.setCell HG.out _) _).trans hb5); clear hb5))
      go_ret2
      exact ⟨rfl, by repeat (first | exact HB5.out | (with_reducible first | apply below_alloc | apply pw_below_drewN | apply below_drew1))⟩


/-! ### laws_FnExactCountStars: function 8 -/
def laws_FnExactCountStars.f (k : Nat) (a0 : Int) (a1 : Int) : Option (Bool) := (spec_CountStars.f k a0 a1).bind fun bt136 => ((impl_CountStars.f k a0 a1).bind fun bt138 => (if bt138.1 = bt136.1 then (if (bt138.2 != bt136.2) = true then (some false) else (some true)) else (some false)))
theorem laws_FnExactCountStars.mono : ∀ a0 a1 k, LeO (laws_FnExactCountStars.f k a0 a1) (laws_FnExactCountStars.f (k + 1) a0 a1) := by
  intro a0 a1 k
  unfold laws_FnExactCountStars.f
  repeat' first
      | (with_reducible exact impl_CountStars.mono _ _ _)
      | (with_reducible exact spec_CountStars.mono _ _ _)
      | (with_reducible exact LeO.refl _)
      | (with_reducible exact LeO.none _)
      | (with_reducible refine LeO.ite ?_ ?_)
      | (with_reducible refine LeO.bind ?_ (fun _ => ?_))
      | exact impl_CountStars.mono _ _ _
      | exact spec_CountStars.mono _ _ _
      | exact LeO.none _
      | refine LeO.ite ?_ ?_
      | refine LeO.bind ?_ (fun _ => ?_)
set_option maxHeartbeats 8000000 in
set_option maxRecDepth 100000 in
theorem laws_FnExactCountStars.calls (k : Nat) (a0 : Int) (a1 : Int) (r : Bool) (w : World) (h : laws_FnExactCountStars.f k a0 a1 = some r) :
    Calls Try.prog 8 #[.int .i64 a0, .int .i64 a1] w fun e w' => e = .returned (.bool r) ∧ Below w.heap.size w w' := by
  have HB := Aside0.mk (Below.refl w.heap.size w)
  have H : ((spec_CountStars.f k a0 a1).bind fun bt136 => ((impl_CountStars.f k a0 a1).bind fun bt138 => (if bt138.1 = bt136.1 then (if (bt138.2 != bt136.2) = true then (some false) else (some true)) else (some false)))) = some r := h
  clear h
  replace H := Option.bind_eq_some_iff.mp H
  obtain ⟨⟨t136, t137⟩, A30, H⟩ := H
  replace H : ((impl_CountStars.f k a0 a1).bind fun bt138 => (if bt138.1 = t136 then (if (bt138.2 != t137) = true then (some false) else (some true)) else (some false))) = some r := H
  have A3 := Aside0.mk A30
  clear A30
  replace H := Option.bind_eq_some_iff.mp H
  obtain ⟨⟨t138, t139⟩, A40, H⟩ := H
  replace H : (if t138 = t136 then (if (t139 != t137) = true then (some false) else (some true)) else (some false)) = some r := H
  have A4 := Aside0.mk A40
  clear A40
  by_cases c5 : t138 = t136
  · rw [if_pos c5] at H
    have c5b0 : (t138 == t136) = true := beq_iff_eq.mpr c5
    have c5b1 : (t138 != t136) = false := bne_eq_false_iff_eq.mpr c5
    clear c5
    by_cases c6 : (t139 != t137) = true
    · rw [if_pos c6] at H
      have c6b0 : (t139 != t137) = true := c6
      (try (have c6b1 : decide (t139 = t137) = false := by simpa using c6))
      (try (have c6b2 : (t139 == t137) = false := by simpa using c6))
      (try (have c6b3 : ¬ (t139 = t137) := by simpa using c6))
      clear c6
      obtain rfl := Option.some.inj H
      go_enter Try.func8, Try.ntmps8
      go_wp2_with (first | ((with_reducible refine gate_callee (f := 26) rfl ?_); refine goesL_ (some 12) rfl rfl Try.func26 (by kernel_rfl) rfl #[.int .i64 a0, .int .i64 a1] rfl (by (try simp only [List.map_toArray, List.map_cons, List.map_nil]); first | done | rfl | (simp only [List.length_drop, List.length_take]; rfl)) ?_; (with_reducible refine (spec_CountStars.calls k a0 a1 t136 t137 _ A3.out).mono ?_); rintro e w7 ⟨rfl, hb⟩; refine ⟨_, rfl, ?_⟩; have n0_ := Aside0.mk (below_step (by repeat (first | (with_reducible first | exact HB.out | apply below_alloc | apply pw_below_drewN | apply below_drew1) | exact HB.out)) hb); clear HB; have HB := n0_; clear n0_; (try clear hb)) | ((with_reducible refine gate_callee (f := 27) rfl ?_); refine goesL_ (some 18) rfl rfl Try.func27 (by kernel_rfl) rfl #[.int .i64 a0, .int .i64 a1] rfl (by (try simp only [List.map_toArray, List.map_cons, List.map_nil]); first | done | rfl | (simp only [List.length_drop, List.length_take]; rfl)) ?_; (with_reducible refine (impl_CountStars.calls k a0 a1 t138 t139 _ A4.out).mono ?_); rintro e w8 ⟨rfl, hb⟩; refine ⟨_, rfl, ?_⟩; have n0_ := Aside0.mk (below_step (by repeat (first | (with_reducible first | exact HB.out | apply below_alloc | apply pw_below_drewN | apply below_drew1) | exact HB.out)) hb); clear HB; have HB := n0_; clear n0_; (try clear hb)))
      go_ret
      exact ⟨by first | rfl | (simp [errW_none, errW_some] <;> rfl) | (simp [*, errW_none, errW_some] <;> rfl), by repeat (first | (with_reducible first | exact HB.out | apply below_alloc | apply pw_below_drewN | apply below_drew1) | exact HB.out)⟩
    · rw [if_neg c6] at H
      have c6b0 : (t139 != t137) = false := by simpa using c6
      (try (have c6b1 : decide (t139 = t137) = true := by simpa using c6))
      (try (have c6b2 : (t139 == t137) = true := by simpa using c6))
      clear c6
      obtain rfl := Option.some.inj H
      go_enter Try.func8, Try.ntmps8
      go_wp2_with (first | ((with_reducible refine gate_callee (f := 26) rfl ?_); refine goesL_ (some 12) rfl rfl Try.func26 (by kernel_rfl) rfl #[.int .i64 a0, .int .i64 a1] rfl (by (try simp only [List.map_toArray, List.map_cons, List.map_nil]); first | done | rfl | (simp only [List.length_drop, List.length_take]; rfl)) ?_; (with_reducible refine (spec_CountStars.calls k a0 a1 t136 t137 _ A3.out).mono ?_); rintro e w9 ⟨rfl, hb⟩; refine ⟨_, rfl, ?_⟩; have n0_ := Aside0.mk (below_step (by repeat (first | (with_reducible first | exact HB.out | apply below_alloc | apply pw_below_drewN | apply below_drew1) | exact HB.out)) hb); clear HB; have HB := n0_; clear n0_; (try clear hb)) | ((with_reducible refine gate_callee (f := 27) rfl ?_); refine goesL_ (some 18) rfl rfl Try.func27 (by kernel_rfl) rfl #[.int .i64 a0, .int .i64 a1] rfl (by (try simp only [List.map_toArray, List.map_cons, List.map_nil]); first | done | rfl | (simp only [List.length_drop, List.length_take]; rfl)) ?_; (with_reducible refine (impl_CountStars.calls k a0 a1 t138 t139 _ A4.out).mono ?_); rintro e w10 ⟨rfl, hb⟩; refine ⟨_, rfl, ?_⟩; have n0_ := Aside0.mk (below_step (by repeat (first | (with_reducible first | exact HB.out | apply below_alloc | apply pw_below_drewN | apply below_drew1) | exact HB.out)) hb); clear HB; have HB := n0_; clear n0_; (try clear hb)))
      go_ret
      exact ⟨by first | rfl | (simp [errW_none, errW_some] <;> rfl) | (simp [*, errW_none, errW_some] <;> rfl), by repeat (first | (with_reducible first | exact HB.out | apply below_alloc | apply pw_below_drewN | apply below_drew1) | exact HB.out)⟩
  · rw [if_neg c5] at H
    have c5b0 : (t138 == t136) = false := beq_eq_false_iff_ne.mpr c5
    have c5b1 : (t138 != t136) = true := bne_iff_ne.mpr c5
    obtain rfl := Option.some.inj H
    go_enter Try.func8, Try.ntmps8
    go_wp2_with (first | ((with_reducible refine gate_callee (f := 26) rfl ?_); refine goesL_ (some 12) rfl rfl Try.func26 (by kernel_rfl) rfl #[.int .i64 a0, .int .i64 a1] rfl (by (try simp only [List.map_toArray, List.map_cons, List.map_nil]); first | done | rfl | (simp only [List.length_drop, List.length_take]; rfl)) ?_; (with_reducible refine (spec_CountStars.calls k a0 a1 t136 t137 _ A3.out).mono ?_); rintro e w11 ⟨rfl, hb⟩; refine ⟨_, rfl, ?_⟩; have n0_ := Aside0.mk (below_step (by repeat (first | (with_reducible first | exact HB.out | apply below_alloc | apply pw_below_drewN | apply below_drew1) | exact HB.out)) hb); clear HB; have HB := n0_; clear n0_; (try clear hb)) | ((with_reducible refine gate_callee (f := 27) rfl ?_); refine goesL_ (some 18) rfl rfl Try.func27 (by kernel_rfl) rfl #[.int .i64 a0, .int .i64 a1] rfl (by (try simp only [List.map_toArray, List.map_cons, List.map_nil]); first | done | rfl | (simp only [List.length_drop, List.length_take]; rfl)) ?_; (with_reducible refine (impl_CountStars.calls k a0 a1 t138 t139 _ A4.out).mono ?_); rintro e w12 ⟨rfl, hb⟩; refine ⟨_, rfl, ?_⟩; have n0_ := Aside0.mk (below_step (by repeat (first | (with_reducible first | exact HB.out | apply below_alloc | apply pw_below_drewN | apply below_drew1) | exact HB.out)) hb); clear HB; have HB := n0_; clear n0_; (try clear hb)))
    go_ret
    exact ⟨by first | rfl | (simp [errW_none, errW_some] <;> rfl) | (simp [*, errW_none, errW_some] <;> rfl), by repeat (first | (with_reducible first | exact HB.out | apply below_alloc | apply pw_below_drewN | apply below_drew1) | exact HB.out)⟩

/-- THE ONE PURE STATEMENT of laws_FnExactCountStars: yours. -/
def laws_FnExactCountStars.Pure : Prop := ∀ (a0 : Int) (a1 : Int), (Lit.int .i64 a0).wf = true → (Lit.int .i64 a1).wf = true → ∃ k, laws_FnExactCountStars.f k a0 a1 = some true
theorem laws_FnExactCountStars.walk (P : laws_FnExactCountStars.Pure) (a0 : Int) (a1 : Int) (w : World) (w0 : (Lit.int .i64 a0).wf = true) (w1 : (Lit.int .i64 a1).wf = true) :
    Calls Try.prog 8 #[.int .i64 a0, .int .i64 a1] w fun e w' => e = .returned (.bool true) ∧ Below w.heap.size w w' := by
  obtain ⟨k, h⟩ := P a0 a1 w0 w1
  refine (laws_FnExactCountStars.calls k a0 a1 true w h).mono ?_
  rintro e w' ⟨rfl, hd⟩
  exact ⟨rfl, hd⟩

end Go.Proofs.Ytkhlhhpkleaphaa.MFnExactCountStars
