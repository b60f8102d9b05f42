-- Written by wip/mine.py (a program of this repo) for this claim.
import Derived.Test.YtlefjgpkabijdaaMFnChainsTogetherx0
import Derived.Test.YtlefjgpkabijdaaMFnChainsTogetherx1
import Derived.Test.YtlefjgpkabijdaaMFnChainsTogetherx2
import Derived.Test.YtlefjgpkabijdaaMFnChainsTogetherx4
import Derived.Test.YtlefjgpkabijdaaMFnChainsTogetherx5
import Derived.Test.YtlefjgpkabijdaaMFnChainsTogetherx6
import Derived.Test.YtlefjgpkabijdaaMFnChainsTogetherx7
namespace Go.Proofs.Ytlefjgpkabijdaa.MFnChainsTogether
open Go.RowKit Go.Proofs.YtlefjgpkabijdaaW.PrintWords Go.Proofs.YtlefjgpkabijdaaW.PrintLast Go.Proofs.YtlefjgpkabijdaaW.PrintMore Go.Proofs.YtlefjgpkabijdaaV
attribute [local go_sem] max2_int min2_int max_two min_two max_three min_three max_four min_four   -- for this text's walks alone
set_option linter.unusedVariables false
set_option linter.unusedSimpArgs false

/-! ### laws_FnChainsTogether: function 4 -/
mutual
def laws_FnChainsTogether.j0 : Nat → List Int → List Int → List Int → List Int → Bool → Bool → Option (Bool)
  | 0, _, _, _, _, _, _ => none
  | k + 1, x1, x5, x6, x7, x10, x48 => if x48 = true then (some false) else ((impl_MeetChains.f k x5 x6).bind fun bt338 => ((spec_MeetChains.f k x5 x6).bind fun bt342 => (if (bt338.2 != bt342.2) = true then (laws_FnChainsTogether.j1 k x1 x5 x6 x7 x10 bt338.1 bt338.2 true) else ((laws_pSameInts.f k bt338.1 bt342.1).bind fun t346 => (laws_FnChainsTogether.j1 k x1 x5 x6 x7 x10 bt338.1 bt338.2 (!t346))))))
def laws_FnChainsTogether.j1 : Nat → List Int → List Int → List Int → List Int → Bool → List Int → Bool → Bool → Option (Bool)
  | 0, _, _, _, _, _, _, _, _ => none
  | k + 1, x1, x5, x6, x7, x10, x11, x12, x69 => if x69 = true then (some false) else (if x10 = true then (laws_FnChainsTogether.l0 k x1 x5 x6 x7 x11 x12 x7 (x7.length : Int) 0) else (some true))
def laws_FnChainsTogether.l0 : Nat → List Int → List Int → List Int → List Int → List Int → Bool → List Int → Int → Int → Option (Bool)
  | 0, _, _, _, _, _, _, _, _, _ => none
  | k + 1, x1, x5, x6, x7, x11, x12, x72, x73, x74 => if x74 < x73 then (if 0 ≤ x74 then (if x74 < (x72.length : Int) then ((laws_pHas.f k x5 (rd x72 x74)).bind fun t348 => (if t348 = true then (if x12 = true then ((laws_pHas.f k x11 (rd x72 x74)).bind fun t349 => ((laws_pHas.f k x5 (rd x72 x74)).bind fun t350 => (if t350 = true then ((laws_pHas.f k x6 (rd x72 x74)).bind fun t351 => (if (t349 != t351) = true then (some false) else (laws_FnChainsTogether.l0 k x1 x5 x6 x7 x11 x12 x72 x73 (wrap64 (x74 + 1))))) else (if (t349 != false) = true then (some false) else (laws_FnChainsTogether.l0 k x1 x5 x6 x7 x11 x12 x72 x73 (wrap64 (x74 + 1))))))) else (laws_FnChainsTogether.l0 k x1 x5 x6 x7 x11 x12 x72 x73 (wrap64 (x74 + 1)))) else ((laws_pHas.f k x6 (rd x72 x74)).bind fun t352 => (if t352 = true then (if x12 = true then ((laws_pHas.f k x11 (rd x72 x74)).bind fun t353 => ((laws_pHas.f k x5 (rd x72 x74)).bind fun t354 => (if t354 = true then ((laws_pHas.f k x6 (rd x72 x74)).bind fun t355 => (if (t353 != t355) = true then (some false) else (laws_FnChainsTogether.l0 k x1 x5 x6 x7 x11 x12 x72 x73 (wrap64 (x74 + 1))))) else (if (t353 != false) = true then (some false) else (laws_FnChainsTogether.l0 k x1 x5 x6 x7 x11 x12 x72 x73 (wrap64 (x74 + 1))))))) else (laws_FnChainsTogether.l0 k x1 x5 x6 x7 x11 x12 x72 x73 (wrap64 (x74 + 1)))) else (some false))))) else (none)) else (none)) else ((impl_IsChain.f k x7).bind fun t356 => (if t356 = true then (if x12 = true then (laws_FnChainsTogether.j3 k x1 x7 ((wrap64 ((x11.length : Int) + (x7.length : Int))) != (wrap64 ((x5.length : Int) + (x6.length : Int))))) else (laws_FnChainsTogether.j3 k x1 x7 false)) else (laws_FnChainsTogether.j3 k x1 x7 true)))
def laws_FnChainsTogether.j3 : Nat → List Int → List Int → Bool → Option (Bool)
  | 0, _, _, _ => none
  | k + 1, x1, x7, x124 => if x124 = true then (some false) else (if 0 ≤ (wrap64 ((x7.length : Int) - 1)) then (if (wrap64 ((x7.length : Int) - 1)) < (x7.length : Int) then (if (x7.length : Int) = 0 then (none) else (if 0 ≤ ((x1.length : Int) % (x7.length : Int)) then (if ((x1.length : Int) % (x7.length : Int)) < (x7.length : Int) then ((impl_ExtendChain.f k x7 (wrap64 ((rd x7 (wrap64 ((x7.length : Int) - 1))) + (rd x7 ((x1.length : Int) % (x7.length : Int)))))).bind fun bt359 => (if bt359.2 = true then ((impl_IsChain.f k bt359.1).bind fun t363 => (if t363 = true then (if 0 ≤ (x7.length : Int) then (if (x7.length : Int) ≤ (bt359.1.length : Int) then ((laws_pSameInts.f k (bt359.1.take ((x7.length : Int) : Int).toNat) x7).bind fun t368 => (some t368)) else (none)) else (none)) else (some false))) else (some true))) else (none)) else (none))) else (none)) else (none))
end
def laws_FnChainsTogether.f (k : Nat) (l0 : List Int) (l1 : List Int) : Option (Bool) := (laws_big.f l0 l1).bind fun t322 => (if t322 = true then (some true) else ((spec_DrawUnionChains.f k l0).bind fun bt323 => ((impl_UnionChains.f k bt323.1 bt323.2).bind fun bt329 => ((spec_UnionChains.f k bt323.1 bt323.2).bind fun bt333 => (if (bt329.2 != bt333.2) = true then (laws_FnChainsTogether.j0 k l1 bt323.1 bt323.2 bt329.1 bt333.2 true) else ((laws_pSameInts.f k bt329.1 bt333.1).bind fun t337 => (laws_FnChainsTogether.j0 k l1 bt323.1 bt323.2 bt329.1 bt333.2 (!t337))))))))
theorem laws_FnChainsTogether.mono_l : ∀ k, (∀ y0 y1 y2 y3 y4 y5, LeO (laws_FnChainsTogether.j0 k y0 y1 y2 y3 y4 y5) (laws_FnChainsTogether.j0 (k + 1) y0 y1 y2 y3 y4 y5)) ∧ (∀ y0 y1 y2 y3 y4 y5 y6 y7, LeO (laws_FnChainsTogether.j1 k y0 y1 y2 y3 y4 y5 y6 y7) (laws_FnChainsTogether.j1 (k + 1) y0 y1 y2 y3 y4 y5 y6 y7)) ∧ (∀ y0 y1 y2 y3 y4 y5 y6 y7 y8, LeO (laws_FnChainsTogether.l0 k y0 y1 y2 y3 y4 y5 y6 y7 y8) (laws_FnChainsTogether.l0 (k + 1) y0 y1 y2 y3 y4 y5 y6 y7 y8)) ∧ (∀ y0 y1 y2, LeO (laws_FnChainsTogether.j3 k y0 y1 y2) (laws_FnChainsTogether.j3 (k + 1) y0 y1 y2))
  | 0 => ⟨fun _ _ _ _ _ _ r h => by simp [laws_FnChainsTogether.j0] at h, fun _ _ _ _ _ _ _ _ r h => by simp [laws_FnChainsTogether.j1] at h, fun _ _ _ _ _ _ _ _ _ r h => by simp [laws_FnChainsTogether.l0] at h, fun _ _ _ r h => by simp [laws_FnChainsTogether.j3] at h⟩
  | k + 1 => by
    obtain ⟨ih0, ih1, ih2, ih3⟩ := laws_FnChainsTogether.mono_l k
    refine ⟨?_, ?_, ?_, ?_⟩
    · intro y0 y1 y2 y3 y4 y5
      unfold laws_FnChainsTogether.j0
      repeat' first
      | (with_reducible exact ih0 _ _ _ _ _ _)
      | (with_reducible exact ih1 _ _ _ _ _ _ _ _)
      | (with_reducible exact ih2 _ _ _ _ _ _ _ _ _)
      | (with_reducible exact ih3 _ _ _)
      | (with_reducible exact impl_ExtendChain.mono _ _ _)
      | (with_reducible exact impl_IsChain.mono _ _)
      | (with_reducible exact impl_MeetChains.mono _ _ _)
      | (with_reducible exact impl_UnionChains.mono _ _ _)
      | (with_reducible exact laws_pHas.mono _ _ _)
      | (with_reducible exact laws_pSameInts.mono _ _ _)
      | (with_reducible exact spec_DrawUnionChains.mono _ _)
      | (with_reducible exact spec_MeetChains.mono _ _ _)
      | (with_reducible exact spec_UnionChains.mono _ _ _)
      | (with_reducible exact LeO.refl _)
      | (with_reducible exact LeO.none _)
      | (with_reducible refine LeO.ite ?_ ?_)
      | (with_reducible refine LeO.bind ?_ (fun _ => ?_))
      | exact ih0 _ _ _ _ _ _
      | exact ih1 _ _ _ _ _ _ _ _
      | exact ih2 _ _ _ _ _ _ _ _ _
      | exact ih3 _ _ _
      | exact impl_ExtendChain.mono _ _ _
      | exact impl_IsChain.mono _ _
      | exact impl_MeetChains.mono _ _ _
      | exact impl_UnionChains.mono _ _ _
      | exact laws_pHas.mono _ _ _
      | exact laws_pSameInts.mono _ _ _
      | exact spec_DrawUnionChains.mono _ _
      | exact spec_MeetChains.mono _ _ _
      | exact spec_UnionChains.mono _ _ _
      | exact LeO.none _
      | refine LeO.ite ?_ ?_
      | refine LeO.bind ?_ (fun _ => ?_)
    · intro y0 y1 y2 y3 y4 y5 y6 y7
      unfold laws_FnChainsTogether.j1
      repeat' first
      | (with_reducible exact ih0 _ _ _ _ _ _)
      | (with_reducible exact ih1 _ _ _ _ _ _ _ _)
      | (with_reducible exact ih2 _ _ _ _ _ _ _ _ _)
      | (with_reducible exact ih3 _ _ _)
      | (with_reducible exact impl_ExtendChain.mono _ _ _)
      | (with_reducible exact impl_IsChain.mono _ _)
      | (with_reducible exact impl_MeetChains.mono _ _ _)
      | (with_reducible exact impl_UnionChains.mono _ _ _)
      | (with_reducible exact laws_pHas.mono _ _ _)
      | (with_reducible exact laws_pSameInts.mono _ _ _)
      | (with_reducible exact spec_DrawUnionChains.mono _ _)
      | (with_reducible exact spec_MeetChains.mono _ _ _)
      | (with_reducible exact spec_UnionChains.mono _ _ _)
      | (with_reducible exact LeO.refl _)
      | (with_reducible exact LeO.none _)
      | (with_reducible refine LeO.ite ?_ ?_)
      | (with_reducible refine LeO.bind ?_ (fun _ => ?_))
      | exact ih0 _ _ _ _ _ _
      | exact ih1 _ _ _ _ _ _ _ _
      | exact ih2 _ _ _ _ _ _ _ _ _
      | exact ih3 _ _ _
      | exact impl_ExtendChain.mono _ _ _
      | exact impl_IsChain.mono _ _
      | exact impl_MeetChains.mono _ _ _
      | exact impl_UnionChains.mono _ _ _
      | exact laws_pHas.mono _ _ _
      | exact laws_pSameInts.mono _ _ _
      | exact spec_DrawUnionChains.mono _ _
      | exact spec_MeetChains.mono _ _ _
      | exact spec_UnionChains.mono _ _ _
      | exact LeO.none _
      | refine LeO.ite ?_ ?_
      | refine LeO.bind ?_ (fun _ => ?_)
    · intro y0 y1 y2 y3 y4 y5 y6 y7 y8
      unfold laws_FnChainsTogether.l0
      repeat' first
      | (with_reducible exact ih0 _ _ _ _ _ _)
      | (with_reducible exact ih1 _ _ _ _ _ _ _ _)
      | (with_reducible exact ih2 _ _ _ _ _ _ _ _ _)
      | (with_reducible exact ih3 _ _ _)
      | (with_reducible exact impl_ExtendChain.mono _ _ _)
      | (with_reducible exact impl_IsChain.mono _ _)
      | (with_reducible exact impl_MeetChains.mono _ _ _)
      | (with_reducible exact impl_UnionChains.mono _ _ _)
      | (with_reducible exact laws_pHas.mono _ _ _)
      | (with_reducible exact laws_pSameInts.mono _ _ _)
      | (with_reducible exact spec_DrawUnionChains.mono _ _)
      | (with_reducible exact spec_MeetChains.mono _ _ _)
      | (with_reducible exact spec_UnionChains.mono _ _ _)
      | (with_reducible exact LeO.refl _)
      | (with_reducible exact LeO.none _)
      | (with_reducible refine LeO.ite ?_ ?_)
      | (with_reducible refine LeO.bind ?_ (fun _ => ?_))
      | exact ih0 _ _ _ _ _ _
      | exact ih1 _ _ _ _ _ _ _ _
      | exact ih2 _ _ _ _ _ _ _ _ _
      | exact ih3 _ _ _
      | exact impl_ExtendChain.mono _ _ _
      | exact impl_IsChain.mono _ _
      | exact impl_MeetChains.mono _ _ _
      | exact impl_UnionChains.mono _ _ _
      | exact laws_pHas.mono _ _ _
      | exact laws_pSameInts.mono _ _ _
      | exact spec_DrawUnionChains.mono _ _
      | exact spec_MeetChains.mono _ _ _
      | exact spec_UnionChains.mono _ _ _
      | exact LeO.none _
      | refine LeO.ite ?_ ?_
      | refine LeO.bind ?_ (fun _ => ?_)
    · intro y0 y1 y2
      unfold laws_FnChainsTogether.j3
      repeat' first
      | (with_reducible exact ih0 _ _ _ _ _ _)
      | (with_reducible exact ih1 _ _ _ _ _ _ _ _)
      | (with_reducible exact ih2 _ _ _ _ _ _ _ _ _)
      | (with_reducible exact ih3 _ _ _)
      | (with_reducible exact impl_ExtendChain.mono _ _ _)
      | (with_reducible exact impl_IsChain.mono _ _)
      | (with_reducible exact impl_MeetChains.mono _ _ _)
      | (with_reducible exact impl_UnionChains.mono _ _ _)
      | (with_reducible exact laws_pHas.mono _ _ _)
      | (with_reducible exact laws_pSameInts.mono _ _ _)
      | (with_reducible exact spec_DrawUnionChains.mono _ _)
      | (with_reducible exact spec_MeetChains.mono _ _ _)
      | (with_reducible exact spec_UnionChains.mono _ _ _)
      | (with_reducible exact LeO.refl _)
      | (with_reducible exact LeO.none _)
      | (with_reducible refine LeO.ite ?_ ?_)
      | (with_reducible refine LeO.bind ?_ (fun _ => ?_))
      | exact ih0 _ _ _ _ _ _
      | exact ih1 _ _ _ _ _ _ _ _
      | exact ih2 _ _ _ _ _ _ _ _ _
      | exact ih3 _ _ _
      | exact impl_ExtendChain.mono _ _ _
      | exact impl_IsChain.mono _ _
      | exact impl_MeetChains.mono _ _ _
      | exact impl_UnionChains.mono _ _ _
      | exact laws_pHas.mono _ _ _
      | exact laws_pSameInts.mono _ _ _
      | exact spec_DrawUnionChains.mono _ _
      | exact spec_MeetChains.mono _ _ _
      | exact spec_UnionChains.mono _ _ _
      | exact LeO.none _
      | refine LeO.ite ?_ ?_
      | refine LeO.bind ?_ (fun _ => ?_)
theorem laws_FnChainsTogether.mono : ∀ a0 a1 k, LeO (laws_FnChainsTogether.f k a0 a1) (laws_FnChainsTogether.f (k + 1) a0 a1) := by
  intro a0 a1 k
  obtain ⟨ih0, ih1, ih2, ih3⟩ := laws_FnChainsTogether.mono_l k
  unfold laws_FnChainsTogether.f
  repeat' first
      | (with_reducible exact ih0 _ _ _ _ _ _)
      | (with_reducible exact ih1 _ _ _ _ _ _ _ _)
      | (with_reducible exact ih2 _ _ _ _ _ _ _ _ _)
      | (with_reducible exact ih3 _ _ _)
      | (with_reducible exact impl_ExtendChain.mono _ _ _)
      | (with_reducible exact impl_IsChain.mono _ _)
      | (with_reducible exact impl_MeetChains.mono _ _ _)
      | (with_reducible exact impl_UnionChains.mono _ _ _)
      | (with_reducible exact laws_pHas.mono _ _ _)
      | (with_reducible exact laws_pSameInts.mono _ _ _)
      | (with_reducible exact spec_DrawUnionChains.mono _ _)
      | (with_reducible exact spec_MeetChains.mono _ _ _)
      | (with_reducible exact spec_UnionChains.mono _ _ _)
      | (with_reducible exact LeO.refl _)
      | (with_reducible exact LeO.none _)
      | (with_reducible refine LeO.ite ?_ ?_)
      | (with_reducible refine LeO.bind ?_ (fun _ => ?_))
      | exact ih0 _ _ _ _ _ _
      | exact ih1 _ _ _ _ _ _ _ _
      | exact ih2 _ _ _ _ _ _ _ _ _
      | exact ih3 _ _ _
      | exact impl_ExtendChain.mono _ _ _
      | exact impl_IsChain.mono _ _
      | exact impl_MeetChains.mono _ _ _
      | exact impl_UnionChains.mono _ _ _
      | exact laws_pHas.mono _ _ _
      | exact laws_pSameInts.mono _ _ _
      | exact spec_DrawUnionChains.mono _ _
      | exact spec_MeetChains.mono _ _ _
      | exact spec_UnionChains.mono _ _ _
      | exact LeO.none _
      | refine LeO.ite ?_ ?_
      | refine LeO.bind ?_ (fun _ => ?_)
set_option maxHeartbeats 8000000 in
set_option maxRecDepth 100000 in
theorem laws_FnChainsTogether.calls (k : Nat) (A0 : Option Addr) (c0 : Nat) (l0 : List Int) (A1 : Option Addr) (c1 : Nat) (l1 : List Int) (r : Bool) (w : World) (hr0 : Kd.C (Kd.int .u8) w A0 l0.length l0) (hc0 : l0.length ≤ c0) (hr1 : Kd.C (Kd.int .u8) w A1 l1.length l1) (hc1 : l1.length ≤ c1) (h : laws_FnChainsTogether.f k l0 l1 = some r) :
    Calls Try.prog 4 #[.slice A0 l0.length c0, .slice A1 l1.length c1] w fun e w' => e = .returned (.bool r) ∧ Below w.heap.size w w' := by
  have HR0 := Aside0.mk hr0
  have HC0 := Aside0.mk hc0
  clear hr0 hc0
  have HR1 := Aside0.mk hr1
  have HC1 := Aside0.mk hc1
  clear hr1 hc1
  have HB := Aside0.mk (Below.refl w.heap.size w)
  have H : ((laws_big.f l0 l1).bind fun t322 => (if t322 = true then (some true) else ((spec_DrawUnionChains.f k l0).bind fun bt323 => ((impl_UnionChains.f k bt323.1 bt323.2).bind fun bt329 => ((spec_UnionChains.f k bt323.1 bt323.2).bind fun bt333 => (if (bt329.2 != bt333.2) = true then (laws_FnChainsTogether.j0 k l1 bt323.1 bt323.2 bt329.1 bt333.2 true) else ((laws_pSameInts.f k bt329.1 bt333.1).bind fun t337 => (laws_FnChainsTogether.j0 k l1 bt323.1 bt323.2 bt329.1 bt333.2 (!t337))))))))) = some r := h
  clear h
  replace H := Option.bind_eq_some_iff.mp H
  obtain ⟨t322, A30, H⟩ := H
  replace H : (if t322 = true then (some true) else ((spec_DrawUnionChains.f k l0).bind fun bt323 => ((impl_UnionChains.f k bt323.1 bt323.2).bind fun bt329 => ((spec_UnionChains.f k bt323.1 bt323.2).bind fun bt333 => (if (bt329.2 != bt333.2) = true then (laws_FnChainsTogether.j0 k l1 bt323.1 bt323.2 bt329.1 bt333.2 true) else ((laws_pSameInts.f k bt329.1 bt333.1).bind fun t337 => (laws_FnChainsTogether.j0 k l1 bt323.1 bt323.2 bt329.1 bt333.2 (!t337)))))))) = some r := H
  have A3 := Aside0.mk A30
  clear A30
  by_cases c4 : t322 = true
  · subst c4
    have H1 : (some true) = some r := by rw [if_pos rfl] at H; exact H
    clear H
    have H := H1
    clear H1
    obtain rfl := Option.some.inj H
    go_enter Try.func4, Try.ntmps4
    go_wp2_with (first | ((with_reducible refine gate_callee (f := 6) rfl ?_); refine goesL_ (some 22) rfl rfl Try.func6 (by kernel_rfl) rfl #[.slice A0 l0.length c0, .slice A1 l1.length c1] rfl (by (try simp only [List.map_toArray, List.map_cons, List.map_nil]); first | done | rfl | (simp only [List.length_drop, List.length_take]; rfl)) ?_; (with_reducible refine (laws_big.calls _ _ l0 _ _ l1 true _ ?side1 ?side2 ?side3 ?side4 A3.out).mono ?_); (case side1 => repeat (first | exact HR0.out | (with_reducible refine Kd.C_alloc ?_ _) | (with_reducible refine Kd.C_drewN ?_ _) | (with_reducible refine Kd.C_drew ?_))); (case side2 => exact HC0.out); (case side3 => repeat (first | exact HR1.out | (with_reducible refine Kd.C_alloc ?_ _) | (with_reducible refine Kd.C_drewN ?_ _) | (with_reducible refine Kd.C_drew ?_))); (case side4 => exact HC1.out); rintro e w' ⟨rfl, ⟨nd, rfl⟩⟩; refine ⟨_, rfl, ?_⟩))
    go_ret
    exact ⟨by first | rfl | (simp [errW_none, errW_some] <;> rfl) | (simp [*, errW_none, errW_some] <;> rfl), by repeat (first | (with_reducible first | exact HB.out | apply below_alloc | apply pw_below_drewN | apply below_drew1) | exact HB.out)⟩
  · replace c4 := Bool.eq_false_iff.mpr c4
    subst c4
    have H1 : ((spec_DrawUnionChains.f k l0).bind fun bt323 => ((impl_UnionChains.f k bt323.1 bt323.2).bind fun bt329 => ((spec_UnionChains.f k bt323.1 bt323.2).bind fun bt333 => (if (bt329.2 != bt333.2) = true then (laws_FnChainsTogether.j0 k l1 bt323.1 bt323.2 bt329.1 bt333.2 true) else ((laws_pSameInts.f k bt329.1 bt333.1).bind fun t337 => (laws_FnChainsTogether.j0 k l1 bt323.1 bt323.2 bt329.1 bt333.2 (!t337))))))) = some r := by rw [if_neg (show ¬ (false = true) by decide)] at H; exact H
    clear H
    have H := H1
    clear H1
    replace H := Option.bind_eq_some_iff.mp H
    obtain ⟨⟨t323, t324⟩, A50, H⟩ := H
    replace H : ((impl_UnionChains.f k t323 t324).bind fun bt329 => ((spec_UnionChains.f k t323 t324).bind fun bt333 => (if (bt329.2 != bt333.2) = true then (laws_FnChainsTogether.j0 k l1 t323 t324 bt329.1 bt333.2 true) else ((laws_pSameInts.f k bt329.1 bt333.1).bind fun t337 => (laws_FnChainsTogether.j0 k l1 t323 t324 bt329.1 bt333.2 (!t337)))))) = some r := H
    have A5 := Aside0.mk A50
    clear A50
    replace H := Option.bind_eq_some_iff.mp H
    obtain ⟨⟨t329, t330⟩, A60, H⟩ := H
    replace H : ((spec_UnionChains.f k t323 t324).bind fun bt333 => (if (t330 != bt333.2) = true then (laws_FnChainsTogether.j0 k l1 t323 t324 t329 bt333.2 true) else ((laws_pSameInts.f k t329 bt333.1).bind fun t337 => (laws_FnChainsTogether.j0 k l1 t323 t324 t329 bt333.2 (!t337))))) = some r := H
    have A6 := Aside0.mk A60
    clear A60
    replace H := Option.bind_eq_some_iff.mp H
    obtain ⟨⟨t333, t334⟩, A70, H⟩ := H
    replace H : (if (t330 != t334) = true then (laws_FnChainsTogether.j0 k l1 t323 t324 t329 t334 true) else ((laws_pSameInts.f k t329 t333).bind fun t337 => (laws_FnChainsTogether.j0 k l1 t323 t324 t329 t334 (!t337)))) = some r := H
    have A7 := Aside0.mk A70
    clear A70
    have HC8 := Aside0.mk H
    clear H
    go_enter Try.func4, Try.ntmps4
    go_upto_region 6 with (first | ((with_reducible refine gate_callee (f := 6) rfl ?_); refine goesL_ (some 22) rfl rfl Try.func6 (by kernel_rfl) rfl #[.slice A0 l0.length c0, .slice A1 l1.length c1] rfl (by (try simp only [List.map_toArray, List.map_cons, List.map_nil]); first | done | rfl | (simp only [List.length_drop, List.length_take]; rfl)) ?_; (with_reducible refine (laws_big.calls _ _ l0 _ _ l1 false _ ?side1 ?side2 ?side3 ?side4 A3.out).mono ?_); (case side1 => repeat (first | exact HR0.out | (with_reducible refine Kd.C_alloc ?_ _) | (with_reducible refine Kd.C_drewN ?_ _) | (with_reducible refine Kd.C_drew ?_))); (case side2 => exact HC0.out); (case side3 => repeat (first | exact HR1.out | (with_reducible refine Kd.C_alloc ?_ _) | (with_reducible refine Kd.C_drewN ?_ _) | (with_reducible refine Kd.C_drew ?_))); (case side4 => exact HC1.out); rintro e w' ⟨rfl, ⟨nd, rfl⟩⟩; refine ⟨_, rfl, ?_⟩) | ((with_reducible refine gate_callee (f := 19) rfl ?_); refine goesL_ (some 25) rfl rfl Try.func19 (by kernel_rfl) rfl #[.slice A0 l0.length c0] rfl (by (try simp only [List.map_toArray, List.map_cons, List.map_nil]); first | done | rfl | (simp only [List.length_drop, List.length_take]; rfl)) ?_; (with_reducible refine (spec_DrawUnionChains.calls k _ _ l0 t323 t324 _ ?side1 ?side2 A5.out).mono ?_); (case side1 => repeat (first | exact HR0.out | (with_reducible refine Kd.C_alloc ?_ _) | (with_reducible refine Kd.C_drewN ?_ _) | (with_reducible refine Kd.C_drew ?_))); (case side2 => exact HC0.out); rintro e w9 ⟨v325, v327, rfl, ho0, ho1, hb⟩; refine ⟨_, rfl, ?_⟩; have n0_ := Aside0.mk (Kd.R_lower ho0 (below_size (by repeat (first | (with_reducible first | exact HB.out | apply below_alloc | apply pw_below_drewN | apply below_drew1) | exact HB.out)))); have n1_ := Aside0.mk (Kd.R_lower ho1 (below_size (by repeat (first | (with_reducible first | exact HB.out | apply below_alloc | apply pw_below_drewN | apply below_drew1) | exact HB.out)))); have n2_ := Aside0.mk (below_step (by repeat (first | (with_reducible first | exact HB.out | apply below_alloc | apply pw_below_drewN | apply below_drew1) | exact HB.out)) hb); clear HB; have HO326 := n0_; have HO328 := n1_; have HB := n2_; clear n0_ n1_ n2_; (try clear hb); (try clear ho0); (try clear ho1); obtain ⟨Ao10, co10, eo10⟩ := Kd.R_slice HO326.out; subst eo10; obtain ⟨Ao11, co11, eo11⟩ := Kd.R_slice HO328.out; subst eo11) | ((with_reducible refine gate_callee (f := 20) rfl ?_); refine goesL_ (some 31) rfl rfl Try.func20 (by kernel_rfl) rfl #[.slice Ao10 t323.length co10, .slice Ao11 t324.length co11] rfl (by (try simp only [List.map_toArray, List.map_cons, List.map_nil]); first | done | rfl | (simp only [List.length_drop, List.length_take]; rfl)) ?_; (with_reducible refine (impl_UnionChains.calls k _ _ t323 _ _ t324 t329 t330 _ ?side1 ?side2 ?side3 ?side4 A6.out).mono ?_); (case side1 => repeat (first | exact (Kd.R_reads' HO326.out).2.2 | (with_reducible refine Kd.C_alloc ?_ _) | (with_reducible refine Kd.C_drewN ?_ _) | (with_reducible refine Kd.C_drew ?_))); (case side2 => exact (Kd.R_reads' HO326.out).2.1); (case side3 => repeat (first | exact (Kd.R_reads' HO328.out).2.2 | (with_reducible refine Kd.C_alloc ?_ _) | (with_reducible refine Kd.C_drewN ?_ _) | (with_reducible refine Kd.C_drew ?_))); (case side4 => exact (Kd.R_reads' HO328.out).2.1); rintro e w12 ⟨v331, rfl, ho0, hb⟩; refine ⟨_, rfl, ?_⟩; have n0_ := Aside0.mk (Kd.R_elder' (by (with_reducible repeat (first | apply Kd.R_alloc | apply Kd.R_drewN | apply Kd.R_drew)); exact HO326.out) (Kd.R_base ho0) hb); have n1_ := Aside0.mk (Kd.R_elder' (by (with_reducible repeat (first | apply Kd.R_alloc | apply Kd.R_drewN | apply Kd.R_drew)); exact HO328.out) (Kd.R_base ho0) hb); have n2_ := Aside0.mk (Kd.R_lower (Kd.R_new' (Kd.R_new' ho0 (Kd.R_lt (by (with_reducible repeat (first | apply Kd.R_alloc | apply Kd.R_drewN | apply Kd.R_drew)); exact HO326.out))) (Kd.R_lt (by (with_reducible repeat (first | apply Kd.R_alloc | apply Kd.R_drewN | apply Kd.R_drew)); exact HO328.out))) (below_size (by repeat (first | (with_reducible first | exact HB.out | apply below_alloc | apply pw_below_drewN | apply below_drew1) | exact HB.out)))); have n3_ := Aside0.mk (below_step (by repeat (first | (with_reducible first | exact HB.out | apply below_alloc | apply pw_below_drewN | apply below_drew1) | exact HB.out)) hb); clear HO326; clear HO328; clear HB; have HO326 := n0_; have HO328 := n1_; have HO332 := n2_; have HB := n3_; clear n0_ n1_ n2_ n3_; (try clear hb); (try clear ho0)) | ((with_reducible refine gate_callee (f := 21) rfl ?_); refine goesL_ (some 37) rfl rfl Try.func21 (by kernel_rfl) rfl #[.slice Ao10 t323.length co10, .slice Ao11 t324.length co11] rfl (by (try simp only [List.map_toArray, List.map_cons, List.map_nil]); first | done | rfl | (simp only [List.length_drop, List.length_take]; rfl)) ?_; (with_reducible refine (spec_UnionChains.calls k _ _ t323 _ _ t324 t333 t334 _ ?side1 ?side2 ?side3 ?side4 A7.out).mono ?_); (case side1 => repeat (first | exact (Kd.R_reads' HO326.out).2.2 | (with_reducible refine Kd.C_alloc ?_ _) | (with_reducible refine Kd.C_drewN ?_ _) | (with_reducible refine Kd.C_drew ?_))); (case side2 => exact (Kd.R_reads' HO326.out).2.1); (case side3 => repeat (first | exact (Kd.R_reads' HO328.out).2.2 | (with_reducible refine Kd.C_alloc ?_ _) | (with_reducible refine Kd.C_drewN ?_ _) | (with_reducible refine Kd.C_drew ?_))); (case side4 => exact (Kd.R_reads' HO328.out).2.1); rintro e w13 ⟨v335, rfl, ho0, hb⟩; refine ⟨_, rfl, ?_⟩; have n0_ := Aside0.mk (Kd.R_elder' (by (with_reducible repeat (first | apply Kd.R_alloc | apply Kd.R_drewN | apply Kd.R_drew)); exact HO326.out) (Kd.R_base ho0) hb); have n1_ := Aside0.mk (Kd.R_elder' (by (with_reducible repeat (first | apply Kd.R_alloc | apply Kd.R_drewN | apply Kd.R_drew)); exact HO328.out) (Kd.R_base ho0) hb); have n2_ := Aside0.mk (Kd.R_elder' (by (with_reducible repeat (first | apply Kd.R_alloc | apply Kd.R_drewN | apply Kd.R_drew)); exact HO332.out) (Kd.R_base ho0) hb); have n3_ := Aside0.mk (Kd.R_lower (Kd.R_new' (Kd.R_new' (Kd.R_new' ho0 (Kd.R_lt (by (with_reducible repeat (first | apply Kd.R_alloc | apply Kd.R_drewN | apply Kd.R_drew)); exact HO326.out))) (Kd.R_lt (by (with_reducible repeat (first | apply Kd.R_alloc | apply Kd.R_drewN | apply Kd.R_drew)); exact HO328.out))) (Kd.R_lt (by (with_reducible repeat (first | apply Kd.R_alloc | apply Kd.R_drewN | apply Kd.R_drew)); exact HO332.out))) (below_size (by repeat (first | (with_reducible first | exact HB.out | apply below_alloc | apply pw_below_drewN | apply below_drew1) | exact HB.out)))); have n4_ := Aside0.mk (below_step (by repeat (first | (with_reducible first | exact HB.out | apply below_alloc | apply pw_below_drewN | apply below_drew1) | exact HB.out)) hb); clear HO326; clear HO328; clear HO332; clear HB; have HO326 := n0_; have HO328 := n1_; have HO332 := n2_; have HO336 := n3_; have HB := n4_; clear n0_ n1_ n2_ n3_ n4_; (try clear hb); (try clear ho0)))
    (try simp only [Act.put, List.setIfInBounds_toArray, List.set_cons_zero, List.set_cons_succ])
    go_cut [48] (fun v48 wc => ∃ (kq : Nat) (x48_7 : Bool), v48 = .bool x48_7 ∧ Aside0 (laws_FnChainsTogether.j0 kq l1 t323 t324 t329 t334 x48_7 = some r) ∧ Aside0 (kq ≤ k) ∧ Aside0 (Kd.R (Kd.int .i64) 3 wc w.heap.size (fun k_ => some k_ ≠ ((.slice Ao11 t324.length co11) : Value).ownBlock ∧ some k_ ≠ (v331 : Value).ownBlock) (.slice Ao10 t323.length co10) t323) ∧ Aside0 (Kd.R (Kd.int .i64) 3 wc w.heap.size (fun k_ => some k_ ≠ ((.slice Ao10 t323.length co10) : Value).ownBlock ∧ some k_ ≠ (v331 : Value).ownBlock) (.slice Ao11 t324.length co11) t324) ∧ Aside0 (Kd.R (Kd.int .i64) 3 wc w.heap.size (fun k_ => some k_ ≠ ((.slice Ao10 t323.length co10) : Value).ownBlock ∧ some k_ ≠ ((.slice Ao11 t324.length co11) : Value).ownBlock) v331 t329) ∧ Aside0 (Below w.heap.size w wc))
    case first =>
      have H := HC8.out
      clear HC8
      by_cases c14 : (t330 != t334) = true
      · rw [if_pos c14] at H
        have c14b0 : (t330 != t334) = true := c14
        (try (have c14b1 : decide (t330 = t334) = false := by simpa using c14))
        (try (have c14b2 : (t330 == t334) = false := by simpa using c14))
        (try (have c14b3 : ¬ (t330 = t334) := by simpa using c14))
        clear c14
        (first | rw [c14b0] | (simp only [i64_w, i32_w]; rw [c14b0]) | skip)
        have H' := Aside0.mk H
        clear H
        go_wp2
        go_meet
        case rel => exact ⟨_, (true), (by first | rfl | (simp; done) | (simp [*]; done)), H', ⟨by first | omega | exact Nat.le_refl _⟩, ⟨by (with_reducible repeat (first | apply Kd.R_alloc | apply Kd.R_drewN | apply Kd.R_drew)); exact Kd.R_mono HO326.out (fun _ hk => ⟨hk.1.1, hk.1.2⟩)⟩, ⟨by (with_reducible repeat (first | apply Kd.R_alloc | apply Kd.R_drewN | apply Kd.R_drew)); exact Kd.R_mono HO328.out (fun _ hk => ⟨hk.1.1, hk.1.2⟩)⟩, ⟨by (with_reducible repeat (first | apply Kd.R_alloc | apply Kd.R_drewN | apply Kd.R_drew)); exact Kd.R_mono HO332.out (fun _ hk => ⟨hk.1.1.2, hk.1.2⟩)⟩, ⟨by repeat (first | (with_reducible first | exact HB.out | apply below_alloc | apply pw_below_drewN | apply below_drew1) | exact HB.out)⟩⟩
      · rw [if_neg c14] at H
        have c14b0 : (t330 != t334) = false := by simpa using c14
        (try (have c14b1 : decide (t330 = t334) = true := by simpa using c14))
        (try (have c14b2 : (t330 == t334) = true := by simpa using c14))
        clear c14
        (first | rw [c14b0] | (simp only [i64_w, i32_w]; rw [c14b0]) | skip)
        replace H := Option.bind_eq_some_iff.mp H
        obtain ⟨t337, A150, H⟩ := H
        replace H : (laws_FnChainsTogether.j0 k l1 t323 t324 t329 t334 (!t337)) = some r := H
        have A15 := Aside0.mk A150
        clear A150
        have H' := Aside0.mk H
        clear H
        obtain ⟨Ao16, co16, eo16⟩ := Kd.R_slice HO332.out
        subst eo16
        obtain ⟨Ao17, co17, eo17⟩ := Kd.R_slice HO336.out
        subst eo17
        go_wp2_with (first | (go_at_call 10; (with_reducible refine (laws_pSameInts.calls k _ _ t329 _ _ t333 t337 _ ?side1 ?side2 ?side3 ?side4 A15.out).mono ?_); (case side1 => repeat (first | exact (Kd.R_reads' HO332.out).2.2 | (with_reducible refine Kd.C_alloc ?_ _) | (with_reducible refine Kd.C_drewN ?_ _) | (with_reducible refine Kd.C_drew ?_))); (case side2 => exact (Kd.R_reads' HO332.out).2.1); (case side3 => repeat (first | exact (Kd.R_reads' HO336.out).2.2 | (with_reducible refine Kd.C_alloc ?_ _) | (with_reducible refine Kd.C_drewN ?_ _) | (with_reducible refine Kd.C_drew ?_))); (case side4 => exact (Kd.R_reads' HO336.out).2.1); rintro e w' ⟨rfl, ⟨nd, rfl⟩⟩))
        go_meet
        case rel => exact ⟨_, (!t337), (by first | rfl | (simp; done) | (simp [*]; done)), H', ⟨by first | omega | exact Nat.le_refl _⟩, ⟨by (with_reducible repeat (first | apply Kd.R_alloc | apply Kd.R_drewN | apply Kd.R_drew)); exact Kd.R_mono HO326.out (fun _ hk => ⟨hk.1.1, hk.1.2⟩)⟩, ⟨by (with_reducible repeat (first | apply Kd.R_alloc | apply Kd.R_drewN | apply Kd.R_drew)); exact Kd.R_mono HO328.out (fun _ hk => ⟨hk.1.1, hk.1.2⟩)⟩, ⟨by (with_reducible repeat (first | apply Kd.R_alloc | apply Kd.R_drewN | apply Kd.R_drew)); exact Kd.R_mono HO332.out (fun _ hk => ⟨hk.1.1.2, hk.1.2⟩)⟩, ⟨by repeat (first | (with_reducible first | exact HB.out | apply below_alloc | apply pw_below_drewN | apply below_drew1) | exact HB.out)⟩⟩
    case rest =>
      clear HC8
      try clear c1
      try clear c2
      try clear p2
      try clear c4
      try clear c6
      try clear c14
      try clear c14b0
      try clear c14b1
      try clear c14b2
      obtain ⟨kq, x48_7, rfl, HA, HJ7, HO_5, HO_6, HO_7, HB⟩ := hcut
      cases kq with
      | zero => exact absurd HA.out (by simp [laws_FnChainsTogether.j0])
      | succ kj7 =>
        have H := HA.out
        clear HA
        simp only [laws_FnChainsTogether.j0] at H
        by_cases c18 : x48_7 = true
        · subst c18
          have H1 : (some false) = some r := by rw [if_pos rfl] at H; exact H
          clear H
          have H := H1
          clear H1
          obtain rfl := Option.some.inj H
          go_wp2
          go_ret
          exact ⟨by first | rfl | (simp [errW_none, errW_some] <;> rfl) | (simp [*, errW_none, errW_some] <;> rfl), by repeat (first | (with_reducible first | exact HB.out | apply below_alloc | apply pw_below_drewN | apply below_drew1) | exact HB.out)⟩
        · replace c18 := Bool.eq_false_iff.mpr c18
          subst c18
          have H1 : ((impl_MeetChains.f kj7 t323 t324).bind fun bt338 => ((spec_MeetChains.f kj7 t323 t324).bind fun bt342 => (if (bt338.2 != bt342.2) = true then (laws_FnChainsTogether.j1 kj7 l1 t323 t324 t329 t334 bt338.1 bt338.2 true) else ((laws_pSameInts.f kj7 bt338.1 bt342.1).bind fun t346 => (laws_FnChainsTogether.j1 kj7 l1 t323 t324 t329 t334 bt338.1 bt338.2 (!t346)))))) = some r := by rw [if_neg (show ¬ (false = true) by decide)] at H; exact H
          clear H
          have H := H1
          clear H1
          replace H := Option.bind_eq_some_iff.mp H
          obtain ⟨⟨t338, t339⟩, A190, H⟩ := H
          replace H : ((spec_MeetChains.f kj7 t323 t324).bind fun bt342 => (if (t339 != bt342.2) = true then (laws_FnChainsTogether.j1 kj7 l1 t323 t324 t329 t334 t338 t339 true) else ((laws_pSameInts.f kj7 t338 bt342.1).bind fun t346 => (laws_FnChainsTogether.j1 kj7 l1 t323 t324 t329 t334 t338 t339 (!t346))))) = some r := H
          have A19 := Aside0.mk A190
          clear A190
          replace H := Option.bind_eq_some_iff.mp H
          obtain ⟨⟨t342, t343⟩, A200, H⟩ := H
          replace H : (if (t339 != t343) = true then (laws_FnChainsTogether.j1 kj7 l1 t323 t324 t329 t334 t338 t339 true) else ((laws_pSameInts.f kj7 t338 t342).bind fun t346 => (laws_FnChainsTogether.j1 kj7 l1 t323 t324 t329 t334 t338 t339 (!t346)))) = some r := H
          have A20 := Aside0.mk A200
          clear A200
          have HC21 := Aside0.mk H
          clear H
          go_upto_region 10 with (first | ((with_reducible refine gate_callee (f := 22) rfl ?_); refine goesL_ (some 52) rfl rfl Try.func22 (by kernel_rfl) rfl #[.slice Ao10 t323.length co10, .slice Ao11 t324.length co11] rfl (by (try simp only [List.map_toArray, List.map_cons, List.map_nil]); first | done | rfl | (simp only [List.length_drop, List.length_take]; rfl)) ?_; (with_reducible refine (impl_MeetChains.calls kj7 _ _ t323 _ _ t324 t338 t339 _ ?side1 ?side2 ?side3 ?side4 A19.out).mono ?_); (case side1 => repeat (first | exact (Kd.R_reads' HO_5.out).2.2 | (with_reducible refine Kd.C_alloc ?_ _) | (with_reducible refine Kd.C_drewN ?_ _) | (with_reducible refine Kd.C_drew ?_))); (case side2 => exact (Kd.R_reads' HO_5.out).2.1); (case side3 => repeat (first | exact (Kd.R_reads' HO_6.out).2.2 | (with_reducible refine Kd.C_alloc ?_ _) | (with_reducible refine Kd.C_drewN ?_ _) | (with_reducible refine Kd.C_drew ?_))); (case side4 => exact (Kd.R_reads' HO_6.out).2.1); rintro e w22 ⟨v340, rfl, ho0, hb⟩; refine ⟨_, rfl, ?_⟩; have n0_ := Aside0.mk (Kd.R_elder' (by (with_reducible repeat (first | apply Kd.R_alloc | apply Kd.R_drewN | apply Kd.R_drew)); exact HO_5.out) (Kd.R_base ho0) hb); have n1_ := Aside0.mk (Kd.R_elder' (by (with_reducible repeat (first | apply Kd.R_alloc | apply Kd.R_drewN | apply Kd.R_drew)); exact HO_6.out) (Kd.R_base ho0) hb); have n2_ := Aside0.mk (Kd.R_elder' (by (with_reducible repeat (first | apply Kd.R_alloc | apply Kd.R_drewN | apply Kd.R_drew)); exact HO_7.out) (Kd.R_base ho0) hb); have n3_ := Aside0.mk (Kd.R_lower (Kd.R_new' (Kd.R_new' (Kd.R_new' ho0 (Kd.R_lt (by (with_reducible repeat (first | apply Kd.R_alloc | apply Kd.R_drewN | apply Kd.R_drew)); exact HO_5.out))) (Kd.R_lt (by (with_reducible repeat (first | apply Kd.R_alloc | apply Kd.R_drewN | apply Kd.R_drew)); exact HO_6.out))) (Kd.R_lt (by (with_reducible repeat (first | apply Kd.R_alloc | apply Kd.R_drewN | apply Kd.R_drew)); exact HO_7.out))) (below_size (by repeat (first | (with_reducible first | exact HB.out | apply below_alloc | apply pw_below_drewN | apply below_drew1) | exact HB.out)))); have n4_ := Aside0.mk (below_step (by repeat (first | (with_reducible first | exact HB.out | apply below_alloc | apply pw_below_drewN | apply below_drew1) | exact HB.out)) hb); clear HO_5; clear HO_6; clear HO_7; clear HB; have HO_5 := n0_; have HO_6 := n1_; have HO_7 := n2_; have HO341 := n3_; have HB := n4_; clear n0_ n1_ n2_ n3_ n4_; (try clear hb); (try clear ho0)) | ((with_reducible refine gate_callee (f := 23) rfl ?_); refine goesL_ (some 58) rfl rfl Try.func23 (by kernel_rfl) rfl #[.slice Ao10 t323.length co10, .slice Ao11 t324.length co11] rfl (by (try simp only [List.map_toArray, List.map_cons, List.map_nil]); first | done | rfl | (simp only [List.length_drop, List.length_take]; rfl)) ?_; (with_reducible refine (spec_MeetChains.calls kj7 _ _ t323 _ _ t324 t342 t343 _ ?side1 ?side2 ?side3 ?side4 A20.out).mono ?_); (case side1 => repeat (first | exact (Kd.R_reads' HO_5.out).2.2 | (with_reducible refine Kd.C_alloc ?_ _) | (with_reducible refine Kd.C_drewN ?_ _) | (with_reducible refine Kd.C_drew ?_))); (case side2 => exact (Kd.R_reads' HO_5.out).2.1); (case side3 => repeat (first | exact (Kd.R_reads' HO_6.out).2.2 | (with_reducible refine Kd.C_alloc ?_ _) | (with_reducible refine Kd.C_drewN ?_ _) | (with_reducible refine Kd.C_drew ?_))); (case side4 => exact (Kd.R_reads' HO_6.out).2.1); rintro e w23 ⟨v344, rfl, ho0, hb⟩; refine ⟨_, rfl, ?_⟩; have n0_ := Aside0.mk (Kd.R_elder' (by (with_reducible repeat (first | apply Kd.R_alloc | apply Kd.R_drewN | apply Kd.R_drew)); exact HO_5.out) (Kd.R_base ho0) hb); have n1_ := Aside0.mk (Kd.R_elder' (by (with_reducible repeat (first | apply Kd.R_alloc | apply Kd.R_drewN | apply Kd.R_drew)); exact HO_6.out) (Kd.R_base ho0) hb); have n2_ := Aside0.mk (Kd.R_elder' (by (with_reducible repeat (first | apply Kd.R_alloc | apply Kd.R_drewN | apply Kd.R_drew)); exact HO_7.out) (Kd.R_base ho0) hb); have n3_ := Aside0.mk (Kd.R_elder' (by (with_reducible repeat (first | apply Kd.R_alloc | apply Kd.R_drewN | apply Kd.R_drew)); exact HO341.out) (Kd.R_base ho0) hb); have n4_ := Aside0.mk (Kd.R_lower (Kd.R_new' (Kd.R_new' (Kd.R_new' (Kd.R_new' ho0 (Kd.R_lt (by (with_reducible repeat (first | apply Kd.R_alloc | apply Kd.R_drewN | apply Kd.R_drew)); exact HO_5.out))) (Kd.R_lt (by (with_reducible repeat (first | apply Kd.R_alloc | apply Kd.R_drewN | apply Kd.R_drew)); exact HO_6.out))) (Kd.R_lt (by (with_reducible repeat (first | apply Kd.R_alloc | apply Kd.R_drewN | apply Kd.R_drew)); exact HO_7.out))) (Kd.R_lt (by (with_reducible repeat (first | apply Kd.R_alloc | apply Kd.R_drewN | apply Kd.R_drew)); exact HO341.out))) (below_size (by repeat (first | (with_reducible first | exact HB.out | apply below_alloc | apply pw_below_drewN | apply below_drew1) | exact HB.out)))); have n5_ := Aside0.mk (below_step (by repeat (first | (with_reducible first | exact HB.out | apply below_alloc | apply pw_below_drewN | apply below_drew1) | exact HB.out)) hb); clear HO_5; clear HO_6; clear HO_7; clear HO341; clear HB; have HO_5 := n0_; have HO_6 := n1_; have HO_7 := n2_; have HO341 := n3_; have HO345 := n4_; have HB := n5_; clear n0_ n1_ n2_ n3_ n4_ n5_; (try clear hb); (try clear ho0)))
          (try simp only [Act.put, List.setIfInBounds_toArray, List.set_cons_zero, List.set_cons_succ])
          go_cut [69] (fun v69 wc => ∃ (kq : Nat) (x69_20 : Bool), v69 = .bool x69_20 ∧ Aside0 (laws_FnChainsTogether.j1 kq l1 t323 t324 t329 t334 t338 t339 x69_20 = some r) ∧ Aside0 (kq ≤ kj7) ∧ Aside0 (Kd.R (Kd.int .i64) 3 wc w.heap.size (fun k_ => some k_ ≠ ((.slice Ao11 t324.length co11) : Value).ownBlock ∧ some k_ ≠ (v331 : Value).ownBlock ∧ some k_ ≠ (v340 : Value).ownBlock) (.slice Ao10 t323.length co10) t323) ∧ Aside0 (Kd.R (Kd.int .i64) 3 wc w.heap.size (fun k_ => some k_ ≠ ((.slice Ao10 t323.length co10) : Value).ownBlock ∧ some k_ ≠ (v331 : Value).ownBlock ∧ some k_ ≠ (v340 : Value).ownBlock) (.slice Ao11 t324.length co11) t324) ∧ Aside0 (Kd.R (Kd.int .i64) 3 wc w.heap.size (fun k_ => some k_ ≠ ((.slice Ao10 t323.length co10) : Value).ownBlock ∧ some k_ ≠ ((.slice Ao11 t324.length co11) : Value).ownBlock ∧ some k_ ≠ (v340 : Value).ownBlock) v331 t329) ∧ Aside0 (Kd.R (Kd.int .i64) 3 wc w.heap.size (fun k_ => some k_ ≠ ((.slice Ao10 t323.length co10) : Value).ownBlock ∧ some k_ ≠ ((.slice Ao11 t324.length co11) : Value).ownBlock ∧ some k_ ≠ (v331 : Value).ownBlock) v340 t338) ∧ Aside0 (Below w.heap.size w wc))
          case first =>
            have H := HC21.out
            clear HC21
            by_cases c24 : (t339 != t343) = true
            · rw [if_pos c24] at H
              have c24b0 : (t339 != t343) = true := c24
              (try (have c24b1 : decide (t339 = t343) = false := by simpa using c24))
              (try (have c24b2 : (t339 == t343) = false := by simpa using c24))
              (try (have c24b3 : ¬ (t339 = t343) := by simpa using c24))
              clear c24
              (first | rw [c24b0] | (simp only [i64_w, i32_w]; rw [c24b0]) | skip)
              have H' := Aside0.mk H
              clear H
              go_wp2
              go_meet
              case rel => exact ⟨_, (true), (by first | rfl | (simp; done) | (simp [*]; done)), H', ⟨by have := HJ7.out; first | omega | exact Nat.le_refl _⟩, ⟨by (with_reducible repeat (first | apply Kd.R_alloc | apply Kd.R_drewN | apply Kd.R_drew)); exact Kd.R_mono HO_5.out (fun _ hk => ⟨hk.1.1.1, ⟨hk.1.1.2, hk.1.2⟩⟩)⟩, ⟨by (with_reducible repeat (first | apply Kd.R_alloc | apply Kd.R_drewN | apply Kd.R_drew)); exact Kd.R_mono HO_6.out (fun _ hk => ⟨hk.1.1.1, ⟨hk.1.1.2, hk.1.2⟩⟩)⟩, ⟨by (with_reducible repeat (first | apply Kd.R_alloc | apply Kd.R_drewN | apply Kd.R_drew)); exact Kd.R_mono HO_7.out (fun _ hk => ⟨hk.1.1.1, ⟨hk.1.1.2, hk.1.2⟩⟩)⟩, ⟨by (with_reducible repeat (first | apply Kd.R_alloc | apply Kd.R_drewN | apply Kd.R_drew)); exact Kd.R_mono HO341.out (fun _ hk => ⟨hk.1.1.1.2, ⟨hk.1.1.2, hk.1.2⟩⟩)⟩, ⟨by repeat (first | (with_reducible first | exact HB.out | apply below_alloc | apply pw_below_drewN | apply below_drew1) | exact HB.out)⟩⟩
            · rw [if_neg c24] at H
              have c24b0 : (t339 != t343) = false := by simpa using c24
              (try (have c24b1 : decide (t339 = t343) = true := by simpa using c24))
              (try (have c24b2 : (t339 == t343) = true := by simpa using c24))
              clear c24
              (first | rw [c24b0] | (simp only [i64_w, i32_w]; rw [c24b0]) | skip)
              replace H := Option.bind_eq_some_iff.mp H
              obtain ⟨t346, A250, H⟩ := H
              replace H : (laws_FnChainsTogether.j1 kj7 l1 t323 t324 t329 t334 t338 t339 (!t346)) = some r := H
              have A25 := Aside0.mk A250
              clear A250
              have H' := Aside0.mk H
              clear H
              obtain ⟨Ao26, co26, eo26⟩ := Kd.R_slice HO341.out
              subst eo26
              obtain ⟨Ao27, co27, eo27⟩ := Kd.R_slice HO345.out
              subst eo27
              go_wp2_with (first | (go_at_call 10; (with_reducible refine (laws_pSameInts.calls kj7 _ _ t338 _ _ t342 t346 _ ?side1 ?side2 ?side3 ?side4 A25.out).mono ?_); (case side1 => repeat (first | exact (Kd.R_reads' HO341.out).2.2 | (with_reducible refine Kd.C_alloc ?_ _) | (with_reducible refine Kd.C_drewN ?_ _) | (with_reducible refine Kd.C_drew ?_))); (case side2 => exact (Kd.R_reads' HO341.out).2.1); (case side3 => repeat (first | exact (Kd.R_reads' HO345.out).2.2 | (with_reducible refine Kd.C_alloc ?_ _) | (with_reducible refine Kd.C_drewN ?_ _) | (with_reducible refine Kd.C_drew ?_))); (case side4 => exact (Kd.R_reads' HO345.out).2.1); rintro e w' ⟨rfl, ⟨nd, rfl⟩⟩))
              go_meet
              case rel => exact ⟨_, (!t346), (by first | rfl | (simp; done) | (simp [*]; done)), H', ⟨by have := HJ7.out; first | omega | exact Nat.le_refl _⟩, ⟨by (with_reducible repeat (first | apply Kd.R_alloc | apply Kd.R_drewN | apply Kd.R_drew)); exact Kd.R_mono HO_5.out (fun _ hk => ⟨hk.1.1.1, ⟨hk.1.1.2, hk.1.2⟩⟩)⟩, ⟨by (with_reducible repeat (first | apply Kd.R_alloc | apply Kd.R_drewN | apply Kd.R_drew)); exact Kd.R_mono HO_6.out (fun _ hk => ⟨hk.1.1.1, ⟨hk.1.1.2, hk.1.2⟩⟩)⟩, ⟨by (with_reducible repeat (first | apply Kd.R_alloc | apply Kd.R_drewN | apply Kd.R_drew)); exact Kd.R_mono HO_7.out (fun _ hk => ⟨hk.1.1.1, ⟨hk.1.1.2, hk.1.2⟩⟩)⟩, ⟨by (with_reducible repeat (first | apply Kd.R_alloc | apply Kd.R_drewN | apply Kd.R_drew)); exact Kd.R_mono HO341.out (fun _ hk => ⟨hk.1.1.1.2, ⟨hk.1.1.2, hk.1.2⟩⟩)⟩, ⟨by repeat (first | (with_reducible first | exact HB.out | apply below_alloc | apply pw_below_drewN | apply below_drew1) | exact HB.out)⟩⟩
          case rest =>
            clear HC21
            try clear c1
            try clear c2
            try clear p2
            try clear c4
            try clear c6
            try clear c14
            try clear c14b0
            try clear c14b1
            try clear c14b2
            try clear c18
            try clear c19
            try clear c20
            try clear c21
            try clear c22
            try clear c23
            try clear c24
            try clear c24b0
            try clear c24b1
            try clear c24b2
            try clear p2
            obtain ⟨kq, x69_20, rfl, HA, HJ20, HO_5, HO_6, HO_7, HO_11, HB⟩ := hcut
            cases kq with
            | zero => exact absurd HA.out (by simp [laws_FnChainsTogether.j1])
            | succ kj20 =>
              have H := HA.out
              clear HA
              simp only [laws_FnChainsTogether.j1] at H
              by_cases c28 : x69_20 = true
              · subst c28
                have H1 : (some false) = some r := by rw [if_pos rfl] at H; exact H
                clear H
                have H := H1
                clear H1
                obtain rfl := Option.some.inj H
                go_wp2
                go_ret
                exact ⟨by first | rfl | (simp [errW_none, errW_some] <;> rfl) | (simp [*, errW_none, errW_some] <;> rfl), by repeat (first | (with_reducible first | exact HB.out | apply below_alloc | apply pw_below_drewN | apply below_drew1) | exact HB.out)⟩
              · replace c28 := Bool.eq_false_iff.mpr c28
                subst c28
                have H1 : (if t334 = true then (laws_FnChainsTogether.l0 kj20 l1 t323 t324 t329 t338 t339 t329 (t329.length : Int) 0) else (some true)) = some r := by rw [if_neg (show ¬ (false = true) by decide)] at H; exact H
                clear H
                have H := H1
                clear H1
                by_cases c29 : t334 = true
                · subst c29
                  have H1 : (laws_FnChainsTogether.l0 kj20 l1 t323 t324 t329 t338 t339 t329 (t329.length : Int) 0) = some r := by rw [if_pos rfl] at H; exact H
                  clear H
                  have H := H1
                  clear H1
                  have H' := Aside0.mk H
                  clear H
                  obtain ⟨Ao30, co30, eo30⟩ := Kd.R_slice HO_7.out
                  subst eo30
                  go_wp2
                  go_loopg [74] kj20 (fun kq v74 w' => ∃ (x74_3 : Int), v74 = .int .i64 x74_3 ∧ Aside0 (laws_FnChainsTogether.l0 kq l1 t323 t324 t329 t338 t339 t329 (t329.length : Int) x74_3 = some r) ∧ Aside0 (kq ≤ kj20) ∧ Aside0 (Kd.R (Kd.int .i64) 3 w' w.heap.size (fun k_ => some k_ ≠ ((.slice Ao11 t324.length co11) : Value).ownBlock ∧ some k_ ≠ ((.slice Ao30 t329.length co30) : Value).ownBlock ∧ some k_ ≠ (v340 : Value).ownBlock ∧ some k_ ≠ ((.slice Ao30 t329.length co30) : Value).ownBlock) (.slice Ao10 t323.length co10) t323) ∧ Aside0 (Kd.R (Kd.int .i64) 3 w' w.heap.size (fun k_ => some k_ ≠ ((.slice Ao10 t323.length co10) : Value).ownBlock ∧ some k_ ≠ ((.slice Ao30 t329.length co30) : Value).ownBlock ∧ some k_ ≠ (v340 : Value).ownBlock ∧ some k_ ≠ ((.slice Ao30 t329.length co30) : Value).ownBlock) (.slice Ao11 t324.length co11) t324) ∧ Aside0 (Kd.R (Kd.int .i64) 3 w' w.heap.size (fun k_ => some k_ ≠ ((.slice Ao10 t323.length co10) : Value).ownBlock ∧ some k_ ≠ ((.slice Ao11 t324.length co11) : Value).ownBlock ∧ some k_ ≠ (v340 : Value).ownBlock) (.slice Ao30 t329.length co30) t329) ∧ Aside0 (Kd.R (Kd.int .i64) 3 w' w.heap.size (fun k_ => some k_ ≠ ((.slice Ao10 t323.length co10) : Value).ownBlock ∧ some k_ ≠ ((.slice Ao11 t324.length co11) : Value).ownBlock ∧ some k_ ≠ ((.slice Ao30 t329.length co30) : Value).ownBlock ∧ some k_ ≠ ((.slice Ao30 t329.length co30) : Value).ownBlock) v340 t338) ∧ Aside0 (Kd.R (Kd.int .i64) 3 w' w.heap.size (fun k_ => some k_ ≠ ((.slice Ao10 t323.length co10) : Value).ownBlock ∧ some k_ ≠ ((.slice Ao11 t324.length co11) : Value).ownBlock ∧ some k_ ≠ (v340 : Value).ownBlock) (.slice Ao30 t329.length co30) t329) ∧ Aside0 (Below w.heap.size w w'))
                  case atStart => exact ⟨(0), (by first | rfl | (simp; done) | (simp [*]; done)), H', ⟨Nat.le_refl _⟩, ⟨by (with_reducible repeat (first | apply Kd.R_alloc | apply Kd.R_drewN | apply Kd.R_drew)); exact Kd.R_mono HO_5.out (fun _ hk => ⟨hk.1, ⟨hk.2.1, ⟨hk.2.2, hk.2.1⟩⟩⟩)⟩, ⟨by (with_reducible repeat (first | apply Kd.R_alloc | apply Kd.R_drewN | apply Kd.R_drew)); exact Kd.R_mono HO_6.out (fun _ hk => ⟨hk.1, ⟨hk.2.1, ⟨hk.2.2, hk.2.1⟩⟩⟩)⟩, ⟨by (with_reducible repeat (first | apply Kd.R_alloc | apply Kd.R_drewN | apply Kd.R_drew)); exact HO_7.out⟩, ⟨by (with_reducible repeat (first | apply Kd.R_alloc | apply Kd.R_drewN | apply Kd.R_drew)); exact Kd.R_mono HO_11.out (fun _ hk => ⟨hk.1, ⟨hk.2.1, ⟨hk.2.2, hk.2.2⟩⟩⟩)⟩, ⟨by (with_reducible repeat (first | apply Kd.R_alloc | apply Kd.R_drewN | apply Kd.R_drew)); exact HO_7.out⟩, ⟨by repeat (first | (with_reducible first | exact HB.out | apply below_alloc | apply pw_below_drewN | apply below_drew1) | exact HB.out)⟩⟩
                  case round =>
                    clear H'
                    try clear c1
                    try clear c2
                    try clear p2
                    try clear c4
                    try clear c6
                    try clear c14
                    try clear c14b0
                    try clear c14b1
                    try clear c14b2
                    try clear c18
                    try clear c19
                    try clear c20
                    try clear c21
                    try clear c22
                    try clear c23
                    try clear c24
                    try clear c24b0
                    try clear c24b1
                    try clear c24b2
                    try clear c28
                    try clear c29
                    try clear p2
                    obtain ⟨x74_3, rfl, HA, HK3, HO_5, HO_6, HO_7, HO_11, HO_72, HB⟩ := hrel
                    cases gk with
                    | zero => exact absurd HA.out (by simp [laws_FnChainsTogether.l0])
                    | succ k3 =>
                      have H := HA.out
                      clear HA
                      simp only [laws_FnChainsTogether.l0] at H
                      by_cases c31 : x74_3 < (t329.length : Int)
                      · rw [if_pos c31] at H
                        have c31b0 : decide (x74_3 < (t329.length : Int)) = true := decide_eq_true c31
                        clear c31
                        by_cases c32 : 0 ≤ x74_3
                        · rw [if_pos c32] at H
                          have c32b0 : decide (0 ≤ x74_3) = true := decide_eq_true c32
                          clear c32
                          by_cases c33 : x74_3 < (t329.length : Int)
                          · rw [if_pos c33] at H
                            have c33b0 : decide (x74_3 < (t329.length : Int)) = true := decide_eq_true c33
                            clear c33
                            replace H := Option.bind_eq_some_iff.mp H
                            obtain ⟨t348, A340, H⟩ := H
                            replace H : (if t348 = true then (if t339 = true then ((laws_pHas.f k3 t338 (rd t329 x74_3)).bind fun t349 => ((laws_pHas.f k3 t323 (rd t329 x74_3)).bind fun t350 => (if t350 = true then ((laws_pHas.f k3 t324 (rd t329 x74_3)).bind fun t351 => (if (t349 != t351) = true then (some false) else (laws_FnChainsTogether.l0 k3 l1 t323 t324 t329 t338 t339 t329 (t329.length : Int) (wrap64 (x74_3 + 1))))) else (if (t349 != false) = true then (some false) else (laws_FnChainsTogether.l0 k3 l1 t323 t324 t329 t338 t339 t329 (t329.length : Int) (wrap64 (x74_3 + 1))))))) else (laws_FnChainsTogether.l0 k3 l1 t323 t324 t329 t338 t339 t329 (t329.length : Int) (wrap64 (x74_3 + 1)))) else ((laws_pHas.f k3 t324 (rd t329 x74_3)).bind fun t352 => (if t352 = true then (if t339 = true then ((laws_pHas.f k3 t338 (rd t329 x74_3)).bind fun t353 => ((laws_pHas.f k3 t323 (rd t329 x74_3)).bind fun t354 => (if t354 = true then ((laws_pHas.f k3 t324 (rd t329 x74_3)).bind fun t355 => (if (t353 != t355) = true then (some false) else (laws_FnChainsTogether.l0 k3 l1 t323 t324 t329 t338 t339 t329 (t329.length : Int) (wrap64 (x74_3 + 1))))) else (if (t353 != false) = true then (some false) else (laws_FnChainsTogether.l0 k3 l1 t323 t324 t329 t338 t339 t329 (t329.length : Int) (wrap64 (x74_3 + 1))))))) else (laws_FnChainsTogether.l0 k3 l1 t323 t324 t329 t338 t339 t329 (t329.length : Int) (wrap64 (x74_3 + 1)))) else (some false)))) = some r := H
                            have A34 := Aside0.mk A340
                            clear A340
                            by_cases c35 : t348 = true
                            · subst c35
                              have H1 : (if t339 = true then ((laws_pHas.f k3 t338 (rd t329 x74_3)).bind fun t349 => ((laws_pHas.f k3 t323 (rd t329 x74_3)).bind fun t350 => (if t350 = true then ((laws_pHas.f k3 t324 (rd t329 x74_3)).bind fun t351 => (if (t349 != t351) = true then (some false) else (laws_FnChainsTogether.l0 k3 l1 t323 t324 t329 t338 t339 t329 (t329.length : Int) (wrap64 (x74_3 + 1))))) else (if (t349 != false) = true then (some false) else (laws_FnChainsTogether.l0 k3 l1 t323 t324 t329 t338 t339 t329 (t329.length : Int) (wrap64 (x74_3 + 1))))))) else (laws_FnChainsTogether.l0 k3 l1 t323 t324 t329 t338 t339 t329 (t329.length : Int) (wrap64 (x74_3 + 1)))) = some r := by rw [if_pos rfl] at H; exact H
                              clear H
                              have H := H1
                              clear H1
                              by_cases c36 : t339 = true
                              · subst c36
                                have H1 : ((laws_pHas.f k3 t338 (rd t329 x74_3)).bind fun t349 => ((laws_pHas.f k3 t323 (rd t329 x74_3)).bind fun t350 => (if t350 = true then ((laws_pHas.f k3 t324 (rd t329 x74_3)).bind fun t351 => (if (t349 != t351) = true then (some false) else (laws_FnChainsTogether.l0 k3 l1 t323 t324 t329 t338 true t329 (t329.length : Int) (wrap64 (x74_3 + 1))))) else (if (t349 != false) = true then (some false) else (laws_FnChainsTogether.l0 k3 l1 t323 t324 t329 t338 true t329 (t329.length : Int) (wrap64 (x74_3 + 1))))))) = some r := by rw [if_pos rfl] at H; exact H
                                clear H
                                have H := H1
                                clear H1
                                replace H := Option.bind_eq_some_iff.mp H
                                obtain ⟨t349, A370, H⟩ := H
                                replace H : ((laws_pHas.f k3 t323 (rd t329 x74_3)).bind fun t350 => (if t350 = true then ((laws_pHas.f k3 t324 (rd t329 x74_3)).bind fun t351 => (if (t349 != t351) = true then (some false) else (laws_FnChainsTogether.l0 k3 l1 t323 t324 t329 t338 true t329 (t329.length : Int) (wrap64 (x74_3 + 1))))) else (if (t349 != false) = true then (some false) else (laws_FnChainsTogether.l0 k3 l1 t323 t324 t329 t338 true t329 (t329.length : Int) (wrap64 (x74_3 + 1)))))) = some r := H
                                have A37 := Aside0.mk A370
                                clear A370
                                replace H := Option.bind_eq_some_iff.mp H
                                obtain ⟨t350, A380, H⟩ := H
                                replace H : (if t350 = true then ((laws_pHas.f k3 t324 (rd t329 x74_3)).bind fun t351 => (if (t349 != t351) = true then (some false) else (laws_FnChainsTogether.l0 k3 l1 t323 t324 t329 t338 true t329 (t329.length : Int) (wrap64 (x74_3 + 1))))) else (if (t349 != false) = true then (some false) else (laws_FnChainsTogether.l0 k3 l1 t323 t324 t329 t338 true t329 (t329.length : Int) (wrap64 (x74_3 + 1))))) = some r := H
                                have A38 := Aside0.mk A380
                                clear A380
                                by_cases c39 : t350 = true
                                · subst c39
                                  have H1 : ((laws_pHas.f k3 t324 (rd t329 x74_3)).bind fun t351 => (if (t349 != t351) = true then (some false) else (laws_FnChainsTogether.l0 k3 l1 t323 t324 t329 t338 true t329 (t329.length : Int) (wrap64 (x74_3 + 1))))) = some r := by rw [if_pos rfl] at H; exact H
                                  clear H
                                  have H := H1
                                  clear H1
                                  replace H := Option.bind_eq_some_iff.mp H
                                  obtain ⟨t351, A400, H⟩ := H
                                  replace H : (if (t349 != t351) = true then (some false) else (laws_FnChainsTogether.l0 k3 l1 t323 t324 t329 t338 true t329 (t329.length : Int) (wrap64 (x74_3 + 1)))) = some r := H
                                  have A40 := Aside0.mk A400
                                  clear A400
                                  by_cases c41 : (t349 != t351) = true
                                  · rw [if_pos c41] at H
                                    have c41b0 : (t349 != t351) = true := c41
                                    (try (have c41b1 : decide (t349 = t351) = false := by simpa using c41))
                                    (try (have c41b2 : (t349 == t351) = false := by simpa using c41))
                                    (try (have c41b3 : ¬ (t349 = t351) := by simpa using c41))
                                    clear c41
                                    obtain rfl := Option.some.inj H
                                    have p347 : 0 ≤ (x74_3 : Int) := of_decide_eq_true (by first | (with_reducible assumption) | assumption)
                                    have q347 : x74_3 < (t329.length : Int) := of_decide_eq_true (by first | (with_reducible assumption) | assumption)
                                    obtain ⟨ad347, e347, hx347_0⟩ := Kd.at_int (Kd.R_reads' HO_72.out).2.2 x74_3 p347 q347
                                    cases e347
                                    replace p347 := eq_true p347
                                    replace q347 := eq_true q347
                                    go_wp2_with (first | ((with_reducible refine gate_callee (f := 11) rfl ?_); refine goesL_ (some 80) rfl rfl Try.func11 (by kernel_rfl) rfl #[.slice Ao10 t323.length co10, .int .i64 (rd t329 x74_3)] rfl (by (try simp only [List.map_toArray, List.map_cons, List.map_nil]); first | done | rfl | (simp only [List.length_drop, List.length_take]; rfl)) ?_; (with_reducible refine (laws_pHas.calls k3 _ _ t323 (rd t329 x74_3) true _ ?side1 ?side2 A34.out).mono ?_); (case side1 => repeat (first | exact (Kd.R_reads' HO_5.out).2.2 | (with_reducible refine Kd.C_alloc ?_ _) | (with_reducible refine Kd.C_drewN ?_ _) | (with_reducible refine Kd.C_drew ?_))); (case side2 => exact (Kd.R_reads' HO_5.out).2.1); rintro e w' ⟨rfl, ⟨nd, rfl⟩⟩; refine ⟨_, rfl, ?_⟩; obtain ⟨Ao42, co42, eo42⟩ := Kd.R_slice HO_11.out; subst eo42) | (go_at_call 11; (with_reducible refine (laws_pHas.calls k3 _ _ t338 (rd t329 x74_3) t349 _ ?side1 ?side2 A37.out).mono ?_); (case side1 => repeat (first | exact (Kd.R_reads' HO_11.out).2.2 | (with_reducible refine Kd.C_alloc ?_ _) | (with_reducible refine Kd.C_drewN ?_ _) | (with_reducible refine Kd.C_drew ?_))); (case side2 => exact (Kd.R_reads' HO_11.out).2.1); rintro e w' ⟨rfl, ⟨nd, rfl⟩⟩) | (go_at_call 11; (with_reducible refine (laws_pHas.calls k3 _ _ t323 (rd t329 x74_3) true _ ?side1 ?side2 A38.out).mono ?_); (case side1 => repeat (first | exact (Kd.R_reads' HO_5.out).2.2 | (with_reducible refine Kd.C_alloc ?_ _) | (with_reducible refine Kd.C_drewN ?_ _) | (with_reducible refine Kd.C_drew ?_))); (case side2 => exact (Kd.R_reads' HO_5.out).2.1); rintro e w' ⟨rfl, ⟨nd, rfl⟩⟩) | (go_at_call 11; (with_reducible refine (laws_pHas.calls k3 _ _ t324 (rd t329 x74_3) t351 _ ?side1 ?side2 A40.out).mono ?_); (case side1 => repeat (first | exact (Kd.R_reads' HO_6.out).2.2 | (with_reducible refine Kd.C_alloc ?_ _) | (with_reducible refine Kd.C_drewN ?_ _) | (with_reducible refine Kd.C_drew ?_))); (case side2 => exact (Kd.R_reads' HO_6.out).2.1); rintro e w' ⟨rfl, ⟨nd, rfl⟩⟩))
                                    go_ret
                                    exact ⟨by first | rfl | (simp [errW_none, errW_some] <;> rfl) | (simp [*, errW_none, errW_some] <;> rfl), by repeat (first | (with_reducible first | exact HB.out | apply below_alloc | apply pw_below_drewN | apply below_drew1) | exact HB.out)⟩
                                  · rw [if_neg c41] at H
                                    have c41b0 : (t349 != t351) = false := by simpa using c41
                                    (try (have c41b1 : decide (t349 = t351) = true := by simpa using c41))
                                    (try (have c41b2 : (t349 == t351) = true := by simpa using c41))
                                    clear c41
                                    have H' := Aside0.mk H
                                    clear H
                                    have p347 : 0 ≤ (x74_3 : Int) := of_decide_eq_true (by first | (with_reducible assumption) | assumption)
                                    have q347 : x74_3 < (t329.length : Int) := of_decide_eq_true (by first | (with_reducible assumption) | assumption)
                                    obtain ⟨ad347, e347, hx347_0⟩ := Kd.at_int (Kd.R_reads' HO_72.out).2.2 x74_3 p347 q347
                                    cases e347
                                    replace p347 := eq_true p347
                                    replace q347 := eq_true q347
                                    go_wp2_with (first | ((with_reducible refine gate_callee (f := 11) rfl ?_); refine goesL_ (some 80) rfl rfl Try.func11 (by kernel_rfl) rfl #[.slice Ao10 t323.length co10, .int .i64 (rd t329 x74_3)] rfl (by (try simp only [List.map_toArray, List.map_cons, List.map_nil]); first | done | rfl | (simp only [List.length_drop, List.length_take]; rfl)) ?_; (with_reducible refine (laws_pHas.calls k3 _ _ t323 (rd t329 x74_3) true _ ?side1 ?side2 A34.out).mono ?_); (case side1 => repeat (first | exact (Kd.R_reads' HO_5.out).2.2 | (with_reducible refine Kd.C_alloc ?_ _) | (with_reducible refine Kd.C_drewN ?_ _) | (with_reducible refine Kd.C_drew ?_))); (case side2 => exact (Kd.R_reads' HO_5.out).2.1); rintro e w' ⟨rfl, ⟨nd, rfl⟩⟩; refine ⟨_, rfl, ?_⟩; obtain ⟨Ao43, co43, eo43⟩ := Kd.R_slice HO_11.out; subst eo43) | (go_at_call 11; (with_reducible refine (laws_pHas.calls k3 _ _ t338 (rd t329 x74_3) t349 _ ?side1 ?side2 A37.out).mono ?_); (case side1 => repeat (first | exact (Kd.R_reads' HO_11.out).2.2 | (with_reducible refine Kd.C_alloc ?_ _) | (with_reducible refine Kd.C_drewN ?_ _) | (with_reducible refine Kd.C_drew ?_))); (case side2 => exact (Kd.R_reads' HO_11.out).2.1); rintro e w' ⟨rfl, ⟨nd, rfl⟩⟩) | (go_at_call 11; (with_reducible refine (laws_pHas.calls k3 _ _ t323 (rd t329 x74_3) true _ ?side1 ?side2 A38.out).mono ?_); (case side1 => repeat (first | exact (Kd.R_reads' HO_5.out).2.2 | (with_reducible refine Kd.C_alloc ?_ _) | (with_reducible refine Kd.C_drewN ?_ _) | (with_reducible refine Kd.C_drew ?_))); (case side2 => exact (Kd.R_reads' HO_5.out).2.1); rintro e w' ⟨rfl, ⟨nd, rfl⟩⟩) | (go_at_call 11; (with_reducible refine (laws_pHas.calls k3 _ _ t324 (rd t329 x74_3) t351 _ ?side1 ?side2 A40.out).mono ?_); (case side1 => repeat (first | exact (Kd.R_reads' HO_6.out).2.2 | (with_reducible refine Kd.C_alloc ?_ _) | (with_reducible refine Kd.C_drewN ?_ _) | (with_reducible refine Kd.C_drew ?_))); (case side2 => exact (Kd.R_reads' HO_6.out).2.1); rintro e w' ⟨rfl, ⟨nd, rfl⟩⟩))
                                    go_roundg k3
                                    case measure => have := HJ7.out; have := HJ20.out; have := HK3.out; omega
                                    case rel => exact ⟨(wrap64 (x74_3 + 1)), (by first | rfl | (simp; done) | (simp [*]; done)), H', ⟨by have := HJ7.out; have := HJ20.out; have := HK3.out; omega⟩, ⟨by (with_reducible repeat (first | apply Kd.R_alloc | apply Kd.R_drewN | apply Kd.R_drew)); exact HO_5.out⟩, ⟨by (with_reducible repeat (first | apply Kd.R_alloc | apply Kd.R_drewN | apply Kd.R_drew)); exact HO_6.out⟩, ⟨by (with_reducible repeat (first | apply Kd.R_alloc | apply Kd.R_drewN | apply Kd.R_drew)); exact HO_7.out⟩, ⟨by (with_reducible repeat (first | apply Kd.R_alloc | apply Kd.R_drewN | apply Kd.R_drew)); exact HO_11.out⟩, ⟨by (with_reducible repeat (first | apply Kd.R_alloc | apply Kd.R_drewN | apply Kd.R_drew)); exact HO_72.out⟩, ⟨by repeat (first | (with_reducible first | exact HB.out | apply below_alloc | apply pw_below_drewN | apply below_drew1) | exact HB.out)⟩⟩
                                · replace c39 := Bool.eq_false_iff.mpr c39
                                  subst c39
                                  have H1 : (if (t349 != false) = true then (some false) else (laws_FnChainsTogether.l0 k3 l1 t323 t324 t329 t338 true t329 (t329.length : Int) (wrap64 (x74_3 + 1)))) = some r := by rw [if_neg (show ¬ (false = true) by decide)] at H; exact H
                                  clear H
                                  have H := H1
                                  clear H1
                                  by_cases c44 : (t349 != false) = true
                                  · rw [if_pos c44] at H
                                    have c44b0 : (t349 != false) = true := c44
                                    (try (have c44b1 : decide (t349 = false) = false := by simpa using c44))
                                    (try (have c44b2 : (t349 == false) = false := by simpa using c44))
                                    (try (have c44b3 : ¬ (t349 = false) := by simpa using c44))
                                    clear c44
                                    obtain rfl := Option.some.inj H
                                    have p347 : 0 ≤ (x74_3 : Int) := of_decide_eq_true (by first | (with_reducible assumption) | assumption)
                                    have q347 : x74_3 < (t329.length : Int) := of_decide_eq_true (by first | (with_reducible assumption) | assumption)
                                    obtain ⟨ad347, e347, hx347_0⟩ := Kd.at_int (Kd.R_reads' HO_72.out).2.2 x74_3 p347 q347
                                    cases e347
                                    replace p347 := eq_true p347
                                    replace q347 := eq_true q347
                                    go_wp2_with (first | ((with_reducible refine gate_callee (f := 11) rfl ?_); refine goesL_ (some 80) rfl rfl Try.func11 (by kernel_rfl) rfl #[.slice Ao10 t323.length co10, .int .i64 (rd t329 x74_3)] rfl (by (try simp only [List.map_toArray, List.map_cons, List.map_nil]); first | done | rfl | (simp only [List.length_drop, List.length_take]; rfl)) ?_; (with_reducible refine (laws_pHas.calls k3 _ _ t323 (rd t329 x74_3) true _ ?side1 ?side2 A34.out).mono ?_); (case side1 => repeat (first | exact (Kd.R_reads' HO_5.out).2.2 | (with_reducible refine Kd.C_alloc ?_ _) | (with_reducible refine Kd.C_drewN ?_ _) | (with_reducible refine Kd.C_drew ?_))); (case side2 => exact (Kd.R_reads' HO_5.out).2.1); rintro e w' ⟨rfl, ⟨nd, rfl⟩⟩; refine ⟨_, rfl, ?_⟩; obtain ⟨Ao45, co45, eo45⟩ := Kd.R_slice HO_11.out; subst eo45) | (go_at_call 11; (with_reducible refine (laws_pHas.calls k3 _ _ t338 (rd t329 x74_3) t349 _ ?side1 ?side2 A37.out).mono ?_); (case side1 => repeat (first | exact (Kd.R_reads' HO_11.out).2.2 | (with_reducible refine Kd.C_alloc ?_ _) | (with_reducible refine Kd.C_drewN ?_ _) | (with_reducible refine Kd.C_drew ?_))); (case side2 => exact (Kd.R_reads' HO_11.out).2.1); rintro e w' ⟨rfl, ⟨nd, rfl⟩⟩) | (go_at_call 11; (with_reducible refine (laws_pHas.calls k3 _ _ t323 (rd t329 x74_3) false _ ?side1 ?side2 A38.out).mono ?_); (case side1 => repeat (first | exact (Kd.R_reads' HO_5.out).2.2 | (with_reducible refine Kd.C_alloc ?_ _) | (with_reducible refine Kd.C_drewN ?_ _) | (with_reducible refine Kd.C_drew ?_))); (case side2 => exact (Kd.R_reads' HO_5.out).2.1); rintro e w' ⟨rfl, ⟨nd, rfl⟩⟩))
                                    go_ret
                                    exact ⟨by first | rfl | (simp [errW_none, errW_some] <;> rfl) | (simp [*, errW_none, errW_some] <;> rfl), by repeat (first | (with_reducible first | exact HB.out | apply below_alloc | apply pw_below_drewN | apply below_drew1) | exact HB.out)⟩
                                  · rw [if_neg c44] at H
                                    have c44b0 : (t349 != false) = false := by simpa using c44
                                    (try (have c44b1 : decide (t349 = false) = true := by simpa using c44))
                                    (try (have c44b2 : (t349 == false) = true := by simpa using c44))
                                    clear c44
                                    have H' := Aside0.mk H
                                    clear H
                                    have p347 : 0 ≤ (x74_3 : Int) := of_decide_eq_true (by first | (with_reducible assumption) | assumption)
                                    have q347 : x74_3 < (t329.length : Int) := of_decide_eq_true (by first | (with_reducible assumption) | assumption)
                                    obtain ⟨ad347, e347, hx347_0⟩ := Kd.at_int (Kd.R_reads' HO_72.out).2.2 x74_3 p347 q347
                                    cases e347
                                    replace p347 := eq_true p347
                                    replace q347 := eq_true q347
                                    go_wp2_with (first | ((with_reducible refine gate_callee (f := 11) rfl ?_); refine goesL_ (some 80) rfl rfl Try.func11 (by kernel_rfl) rfl #[.slice Ao10 t323.length co10, .int .i64 (rd t329 x74_3)] rfl (by (try simp only [List.map_toArray, List.map_cons, List.map_nil]); first | done | rfl | (simp only [List.length_drop, List.length_take]; rfl)) ?_; (with_reducible refine (laws_pHas.calls k3 _ _ t323 (rd t329 x74_3) true _ ?side1 ?side2 A34.out).mono ?_); (case side1 => repeat (first | exact (Kd.R_reads' HO_5.out).2.2 | (with_reducible refine Kd.C_alloc ?_ _) | (with_reducible refine Kd.C_drewN ?_ _) | (with_reducible refine Kd.C_drew ?_))); (case side2 => exact (Kd.R_reads' HO_5.out).2.1); rintro e w' ⟨rfl, ⟨nd, rfl⟩⟩; refine ⟨_, rfl, ?_⟩; obtain ⟨Ao46, co46, eo46⟩ := Kd.R_slice HO_11.out; subst eo46) | (go_at_call 11; (with_reducible refine (laws_pHas.calls k3 _ _ t338 (rd t329 x74_3) t349 _ ?side1 ?side2 A37.out).mono ?_); (case side1 => repeat (first | exact (Kd.R_reads' HO_11.out).2.2 | (with_reducible refine Kd.C_alloc ?_ _) | (with_reducible refine Kd.C_drewN ?_ _) | (with_reducible refine Kd.C_drew ?_))); (case side2 => exact (Kd.R_reads' HO_11.out).2.1); rintro e w' ⟨rfl, ⟨nd, rfl⟩⟩) | (go_at_call 11; (with_reducible refine (laws_pHas.calls k3 _ _ t323 (rd t329 x74_3) false _ ?side1 ?side2 A38.out).mono ?_); (case side1 => repeat (first | exact (Kd.R_reads' HO_5.out).2.2 | (with_reducible refine Kd.C_alloc ?_ _) | (with_reducible refine Kd.C_drewN ?_ _) | (with_reducible refine Kd.C_drew ?_))); (case side2 => exact (Kd.R_reads' HO_5.out).2.1); rintro e w' ⟨rfl, ⟨nd, rfl⟩⟩))
                                    go_roundg k3
                                    case measure => have := HJ7.out; have := HJ20.out; have := HK3.out; omega
                                    case rel => exact ⟨(wrap64 (x74_3 + 1)), (by first | rfl | (simp; done) | (simp [*]; done)), H', ⟨by have := HJ7.out; have := HJ20.out; have := HK3.out; omega⟩, ⟨by (with_reducible repeat (first | apply Kd.R_alloc | apply Kd.R_drewN | apply Kd.R_drew)); exact HO_5.out⟩, ⟨by (with_reducible repeat (first | apply Kd.R_alloc | apply Kd.R_drewN | apply Kd.R_drew)); exact HO_6.out⟩, ⟨by (with_reducible repeat (first | apply Kd.R_alloc | apply Kd.R_drewN | apply Kd.R_drew)); exact HO_7.out⟩, ⟨by (with_reducible repeat (first | apply Kd.R_alloc | apply Kd.R_drewN | apply Kd.R_drew)); exact HO_11.out⟩, ⟨by (with_reducible repeat (first | apply Kd.R_alloc | apply Kd.R_drewN | apply Kd.R_drew)); exact HO_72.out⟩, ⟨by repeat (first | (with_reducible first | exact HB.out | apply below_alloc | apply pw_below_drewN | apply below_drew1) | exact HB.out)⟩⟩
                              · replace c36 := Bool.eq_false_iff.mpr c36
                                subst c36
                                have H1 : (laws_FnChainsTogether.l0 k3 l1 t323 t324 t329 t338 false t329 (t329.length : Int) (wrap64 (x74_3 + 1))) = some r := by rw [if_neg (show ¬ (false = true) by decide)] at H; exact H
                                clear H
                                have H := H1
                                clear H1
                                have H' := Aside0.mk H
                                clear H
                                have p347 : 0 ≤ (x74_3 : Int) := of_decide_eq_true (by first | (with_reducible assumption) | assumption)
                                have q347 : x74_3 < (t329.length : Int) := of_decide_eq_true (by first | (with_reducible assumption) | assumption)
                                obtain ⟨ad347, e347, hx347_0⟩ := Kd.at_int (Kd.R_reads' HO_72.out).2.2 x74_3 p347 q347
                                cases e347
                                replace p347 := eq_true p347
                                replace q347 := eq_true q347
                                go_wp2_with (first | ((with_reducible refine gate_callee (f := 11) rfl ?_); refine goesL_ (some 80) rfl rfl Try.func11 (by kernel_rfl) rfl #[.slice Ao10 t323.length co10, .int .i64 (rd t329 x74_3)] rfl (by (try simp only [List.map_toArray, List.map_cons, List.map_nil]); first | done | rfl | (simp only [List.length_drop, List.length_take]; rfl)) ?_; (with_reducible refine (laws_pHas.calls k3 _ _ t323 (rd t329 x74_3) true _ ?side1 ?side2 A34.out).mono ?_); (case side1 => repeat (first | exact (Kd.R_reads' HO_5.out).2.2 | (with_reducible refine Kd.C_alloc ?_ _) | (with_reducible refine Kd.C_drewN ?_ _) | (with_reducible refine Kd.C_drew ?_))); (case side2 => exact (Kd.R_reads' HO_5.out).2.1); rintro e w' ⟨rfl, ⟨nd, rfl⟩⟩; refine ⟨_, rfl, ?_⟩))
                                go_roundg k3
                                case measure => have := HJ7.out; have := HJ20.out; have := HK3.out; omega
                                case rel => exact ⟨(wrap64 (x74_3 + 1)), (by first | rfl | (simp; done) | (simp [*]; done)), H', ⟨by have := HJ7.out; have := HJ20.out; have := HK3.out; omega⟩, ⟨by (with_reducible repeat (first | apply Kd.R_alloc | apply Kd.R_drewN | apply Kd.R_drew)); exact HO_5.out⟩, ⟨by (with_reducible repeat (first | apply Kd.R_alloc | apply Kd.R_drewN | apply Kd.R_drew)); exact HO_6.out⟩, ⟨by (with_reducible repeat (first | apply Kd.R_alloc | apply Kd.R_drewN | apply Kd.R_drew)); exact HO_7.out⟩, ⟨by (with_reducible repeat (first | apply Kd.R_alloc | apply Kd.R_drewN | apply Kd.R_drew)); exact HO_11.out⟩, ⟨by (with_reducible repeat (first | apply Kd.R_alloc | apply Kd.R_drewN | apply Kd.R_drew)); exact HO_72.out⟩, ⟨by repeat (first | (with_reducible first | exact HB.out | apply below_alloc | apply pw_below_drewN | apply below_drew1) | exact HB.out)⟩⟩
                            · replace c35 := Bool.eq_false_iff.mpr c35
                              subst c35
                              have H1 : ((laws_pHas.f k3 t324 (rd t329 x74_3)).bind fun t352 => (if t352 = true then (if t339 = true then ((laws_pHas.f k3 t338 (rd t329 x74_3)).bind fun t353 => ((laws_pHas.f k3 t323 (rd t329 x74_3)).bind fun t354 => (if t354 = true then ((laws_pHas.f k3 t324 (rd t329 x74_3)).bind fun t355 => (if (t353 != t355) = true then (some false) else (laws_FnChainsTogether.l0 k3 l1 t323 t324 t329 t338 t339 t329 (t329.length : Int) (wrap64 (x74_3 + 1))))) else (if (t353 != false) = true then (some false) else (laws_FnChainsTogether.l0 k3 l1 t323 t324 t329 t338 t339 t329 (t329.length : Int) (wrap64 (x74_3 + 1))))))) else (laws_FnChainsTogether.l0 k3 l1 t323 t324 t329 t338 t339 t329 (t329.length : Int) (wrap64 (x74_3 + 1)))) else (some false))) = some r := by rw [if_neg (show ¬ (false = true) by decide)] at H; exact H
                              clear H
                              have H := H1
                              clear H1
                              replace H := Option.bind_eq_some_iff.mp H
                              obtain ⟨t352, A470, H⟩ := H
                              replace H : (if t352 = true then (if t339 = true then ((laws_pHas.f k3 t338 (rd t329 x74_3)).bind fun t353 => ((laws_pHas.f k3 t323 (rd t329 x74_3)).bind fun t354 => (if t354 = true then ((laws_pHas.f k3 t324 (rd t329 x74_3)).bind fun t355 => (if (t353 != t355) = true then (some false) else (laws_FnChainsTogether.l0 k3 l1 t323 t324 t329 t338 t339 t329 (t329.length : Int) (wrap64 (x74_3 + 1))))) else (if (t353 != false) = true then (some false) else (laws_FnChainsTogether.l0 k3 l1 t323 t324 t329 t338 t339 t329 (t329.length : Int) (wrap64 (x74_3 + 1))))))) else (laws_FnChainsTogether.l0 k3 l1 t323 t324 t329 t338 t339 t329 (t329.length : Int) (wrap64 (x74_3 + 1)))) else (some false)) = some r := H
                              have A47 := Aside0.mk A470
                              clear A470
                              by_cases c48 : t352 = true
                              · subst c48
                                have H1 : (if t339 = true then ((laws_pHas.f k3 t338 (rd t329 x74_3)).bind fun t353 => ((laws_pHas.f k3 t323 (rd t329 x74_3)).bind fun t354 => (if t354 = true then ((laws_pHas.f k3 t324 (rd t329 x74_3)).bind fun t355 => (if (t353 != t355) = true then (some false) else (laws_FnChainsTogether.l0 k3 l1 t323 t324 t329 t338 t339 t329 (t329.length : Int) (wrap64 (x74_3 + 1))))) else (if (t353 != false) = true then (some false) else (laws_FnChainsTogether.l0 k3 l1 t323 t324 t329 t338 t339 t329 (t329.length : Int) (wrap64 (x74_3 + 1))))))) else (laws_FnChainsTogether.l0 k3 l1 t323 t324 t329 t338 t339 t329 (t329.length : Int) (wrap64 (x74_3 + 1)))) = some r := by rw [if_pos rfl] at H; exact H
                                clear H
                                have H := H1
                                clear H1
                                by_cases c49 : t339 = true
                                · subst c49
                                  have H1 : ((laws_pHas.f k3 t338 (rd t329 x74_3)).bind fun t353 => ((laws_pHas.f k3 t323 (rd t329 x74_3)).bind fun t354 => (if t354 = true then ((laws_pHas.f k3 t324 (rd t329 x74_3)).bind fun t355 => (if (t353 != t355) = true then (some false) else (laws_FnChainsTogether.l0 k3 l1 t323 t324 t329 t338 true t329 (t329.length : Int) (wrap64 (x74_3 + 1))))) else (if (t353 != false) = true then (some false) else (laws_FnChainsTogether.l0 k3 l1 t323 t324 t329 t338 true t329 (t329.length : Int) (wrap64 (x74_3 + 1))))))) = some r := by rw [if_pos rfl] at H; exact H
                                  clear H
                                  have H := H1
                                  clear H1
                                  replace H := Option.bind_eq_some_iff.mp H
                                  obtain ⟨t353, A500, H⟩ := H
                                  replace H : ((laws_pHas.f k3 t323 (rd t329 x74_3)).bind fun t354 => (if t354 = true then ((laws_pHas.f k3 t324 (rd t329 x74_3)).bind fun t355 => (if (t353 != t355) = true then (some false) else (laws_FnChainsTogether.l0 k3 l1 t323 t324 t329 t338 true t329 (t329.length : Int) (wrap64 (x74_3 + 1))))) else (if (t353 != false) = true then (some false) else (laws_FnChainsTogether.l0 k3 l1 t323 t324 t329 t338 true t329 (t329.length : Int) (wrap64 (x74_3 + 1)))))) = some r := H
                                  have A50 := Aside0.mk A500
                                  clear A500
                                  replace H := Option.bind_eq_some_iff.mp H
                                  obtain ⟨t354, A510, H⟩ := H
                                  replace H : (if t354 = true then ((laws_pHas.f k3 t324 (rd t329 x74_3)).bind fun t355 => (if (t353 != t355) = true then (some false) else (laws_FnChainsTogether.l0 k3 l1 t323 t324 t329 t338 true t329 (t329.length : Int) (wrap64 (x74_3 + 1))))) else (if (t353 != false) = true then (some false) else (laws_FnChainsTogether.l0 k3 l1 t323 t324 t329 t338 true t329 (t329.length : Int) (wrap64 (x74_3 + 1))))) = some r := H
                                  have A51 := Aside0.mk A510
                                  clear A510
                                  by_cases c52 : t354 = true
                                  · subst c52
                                    have H1 : ((laws_pHas.f k3 t324 (rd t329 x74_3)).bind fun t355 => (if (t353 != t355) = true then (some false) else (laws_FnChainsTogether.l0 k3 l1 t323 t324 t329 t338 true t329 (t329.length : Int) (wrap64 (x74_3 + 1))))) = some r := by rw [if_pos rfl] at H; exact H
                                    clear H
                                    have H := H1
                                    clear H1
                                    replace H := Option.bind_eq_some_iff.mp H
                                    obtain ⟨t355, A530, H⟩ := H
                                    replace H : (if (t353 != t355) = true then (some false) else (laws_FnChainsTogether.l0 k3 l1 t323 t324 t329 t338 true t329 (t329.length : Int) (wrap64 (x74_3 + 1)))) = some r := H
                                    have A53 := Aside0.mk A530
                                    clear A530
                                    by_cases c54 : (t353 != t355) = true
                                    · rw [if_pos c54] at H
                                      have c54b0 : (t353 != t355) = true := c54
                                      (try (have c54b1 : decide (t353 = t355) = false := by simpa using c54))
                                      (try (have c54b2 : (t353 == t355) = false := by simpa using c54))
                                      (try (have c54b3 : ¬ (t353 = t355) := by simpa using c54))
                                      clear c54
                                      obtain rfl := Option.some.inj H
                                      have p347 : 0 ≤ (x74_3 : Int) := of_decide_eq_true (by first | (with_reducible assumption) | assumption)
                                      have q347 : x74_3 < (t329.length : Int) := of_decide_eq_true (by first | (with_reducible assumption) | assumption)
                                      obtain ⟨ad347, e347, hx347_0⟩ := Kd.at_int (Kd.R_reads' HO_72.out).2.2 x74_3 p347 q347
                                      cases e347
                                      replace p347 := eq_true p347
                                      replace q347 := eq_true q347
                                      go_wp2_with (first | ((with_reducible refine gate_callee (f := 11) rfl ?_); refine goesL_ (some 80) rfl rfl Try.func11 (by kernel_rfl) rfl #[.slice Ao10 t323.length co10, .int .i64 (rd t329 x74_3)] rfl (by (try simp only [List.map_toArray, List.map_cons, List.map_nil]); first | done | rfl | (simp only [List.length_drop, List.length_take]; rfl)) ?_; (with_reducible refine (laws_pHas.calls k3 _ _ t323 (rd t329 x74_3) false _ ?side1 ?side2 A34.out).mono ?_); (case side1 => repeat (first | exact (Kd.R_reads' HO_5.out).2.2 | (with_reducible refine Kd.C_alloc ?_ _) | (with_reducible refine Kd.C_drewN ?_ _) | (with_reducible refine Kd.C_drew ?_))); (case side2 => exact (Kd.R_reads' HO_5.out).2.1); rintro e w' ⟨rfl, ⟨nd, rfl⟩⟩; refine ⟨_, rfl, ?_⟩) | (go_at_call 11; (with_reducible refine (laws_pHas.calls k3 _ _ t324 (rd t329 x74_3) true _ ?side1 ?side2 A47.out).mono ?_); (case side1 => repeat (first | exact (Kd.R_reads' HO_6.out).2.2 | (with_reducible refine Kd.C_alloc ?_ _) | (with_reducible refine Kd.C_drewN ?_ _) | (with_reducible refine Kd.C_drew ?_))); (case side2 => exact (Kd.R_reads' HO_6.out).2.1); rintro e w' ⟨rfl, ⟨nd, rfl⟩⟩; obtain ⟨Ao55, co55, eo55⟩ := Kd.R_slice HO_11.out; subst eo55) | (go_at_call 11; (with_reducible refine (laws_pHas.calls k3 _ _ t338 (rd t329 x74_3) t353 _ ?side1 ?side2 A50.out).mono ?_); (case side1 => repeat (first | exact (Kd.R_reads' HO_11.out).2.2 | (with_reducible refine Kd.C_alloc ?_ _) | (with_reducible refine Kd.C_drewN ?_ _) | (with_reducible refine Kd.C_drew ?_))); (case side2 => exact (Kd.R_reads' HO_11.out).2.1); rintro e w' ⟨rfl, ⟨nd, rfl⟩⟩) | (go_at_call 11; (with_reducible refine (laws_pHas.calls k3 _ _ t323 (rd t329 x74_3) true _ ?side1 ?side2 A51.out).mono ?_); (case side1 => repeat (first | exact (Kd.R_reads' HO_5.out).2.2 | (with_reducible refine Kd.C_alloc ?_ _) | (with_reducible refine Kd.C_drewN ?_ _) | (with_reducible refine Kd.C_drew ?_))); (case side2 => exact (Kd.R_reads' HO_5.out).2.1); rintro e w' ⟨rfl, ⟨nd, rfl⟩⟩) | (go_at_call 11; (with_reducible refine (laws_pHas.calls k3 _ _ t324 (rd t329 x74_3) t355 _ ?side1 ?side2 A53.out).mono ?_); (case side1 => repeat (first | exact (Kd.R_reads' HO_6.out).2.2 | (with_reducible refine Kd.C_alloc ?_ _) | (with_reducible refine Kd.C_drewN ?_ _) | (with_reducible refine Kd.C_drew ?_))); (case side2 => exact (Kd.R_reads' HO_6.out).2.1); rintro e w' ⟨rfl, ⟨nd, rfl⟩⟩))
                                      go_ret
                                      exact ⟨by first | rfl | (simp [errW_none, errW_some] <;> rfl) | (simp [*, errW_none, errW_some] <;> rfl), by repeat (first | (with_reducible first | exact HB.out | apply below_alloc | apply pw_below_drewN | apply below_drew1) | exact HB.out)⟩
                                    · rw [if_neg c54] at H
                                      have c54b0 : (t353 != t355) = false := by simpa using c54
                                      (try (have c54b1 : decide (t353 = t355) = true := by simpa using c54))
                                      (try (have c54b2 : (t353 == t355) = true := by simpa using c54))
                                      clear c54
                                      have H' := Aside0.mk H
                                      clear H
                                      have p347 : 0 ≤ (x74_3 : Int) := of_decide_eq_true (by first | (with_reducible assumption) | assumption)
                                      have q347 : x74_3 < (t329.length : Int) := of_decide_eq_true (by first | (with_reducible assumption) | assumption)
                                      obtain ⟨ad347, e347, hx347_0⟩ := Kd.at_int (Kd.R_reads' HO_72.out).2.2 x74_3 p347 q347
                                      cases e347
                                      replace p347 := eq_true p347
                                      replace q347 := eq_true q347
                                      go_wp2_with (first | ((with_reducible refine gate_callee (f := 11) rfl ?_); refine goesL_ (some 80) rfl rfl Try.func11 (by kernel_rfl) rfl #[.slice Ao10 t323.length co10, .int .i64 (rd t329 x74_3)] rfl (by (try simp only [List.map_toArray, List.map_cons, List.map_nil]); first | done | rfl | (simp only [List.length_drop, List.length_take]; rfl)) ?_; (with_reducible refine (laws_pHas.calls k3 _ _ t323 (rd t329 x74_3) false _ ?side1 ?side2 A34.out).mono ?_); (case side1 => repeat (first | exact (Kd.R_reads' HO_5.out).2.2 | (with_reducible refine Kd.C_alloc ?_ _) | (with_reducible refine Kd.C_drewN ?_ _) | (with_reducible refine Kd.C_drew ?_))); (case side2 => exact (Kd.R_reads' HO_5.out).2.1); rintro e w' ⟨rfl, ⟨nd, rfl⟩⟩; refine ⟨_, rfl, ?_⟩) | (go_at_call 11; (with_reducible refine (laws_pHas.calls k3 _ _ t324 (rd t329 x74_3) true _ ?side1 ?side2 A47.out).mono ?_); (case side1 => repeat (first | exact (Kd.R_reads' HO_6.out).2.2 | (with_reducible refine Kd.C_alloc ?_ _) | (with_reducible refine Kd.C_drewN ?_ _) | (with_reducible refine Kd.C_drew ?_))); (case side2 => exact (Kd.R_reads' HO_6.out).2.1); rintro e w' ⟨rfl, ⟨nd, rfl⟩⟩; obtain ⟨Ao56, co56, eo56⟩ := Kd.R_slice HO_11.out; subst eo56) | (go_at_call 11; (with_reducible refine (laws_pHas.calls k3 _ _ t338 (rd t329 x74_3) t353 _ ?side1 ?side2 A50.out).mono ?_); (case side1 => repeat (first | exact (Kd.R_reads' HO_11.out).2.2 | (with_reducible refine Kd.C_alloc ?_ _) | (with_reducible refine Kd.C_drewN ?_ _) | (with_reducible refine Kd.C_drew ?_))); (case side2 => exact (Kd.R_reads' HO_11.out).2.1); rintro e w' ⟨rfl, ⟨nd, rfl⟩⟩) | (go_at_call 11; (with_reducible refine (laws_pHas.calls k3 _ _ t323 (rd t329 x74_3) true _ ?side1 ?side2 A51.out).mono ?_); (case side1 => repeat (first | exact (Kd.R_reads' HO_5.out).2.2 | (with_reducible refine Kd.C_alloc ?_ _) | (with_reducible refine Kd.C_drewN ?_ _) | (with_reducible refine Kd.C_drew ?_))); (case side2 => exact (Kd.R_reads' HO_5.out).2.1); rintro e w' ⟨rfl, ⟨nd, rfl⟩⟩) | (go_at_call 11; (with_reducible refine (laws_pHas.calls k3 _ _ t324 (rd t329 x74_3) t355 _ ?side1 ?side2 A53.out).mono ?_); (case side1 => repeat (first | exact (Kd.R_reads' HO_6.out).2.2 | (with_reducible refine Kd.C_alloc ?_ _) | (with_reducible refine Kd.C_drewN ?_ _) | (with_reducible refine Kd.C_drew ?_))); (case side2 => exact (Kd.R_reads' HO_6.out).2.1); rintro e w' ⟨rfl, ⟨nd, rfl⟩⟩))
                                      go_roundg k3
                                      case measure => have := HJ7.out; have := HJ20.out; have := HK3.out; omega
                                      case rel => exact ⟨(wrap64 (x74_3 + 1)), (by first | rfl | (simp; done) | (simp [*]; done)), H', ⟨by have := HJ7.out; have := HJ20.out; have := HK3.out; omega⟩, ⟨by (with_reducible repeat (first | apply Kd.R_alloc | apply Kd.R_drewN | apply Kd.R_drew)); exact HO_5.out⟩, ⟨by (with_reducible repeat (first | apply Kd.R_alloc | apply Kd.R_drewN | apply Kd.R_drew)); exact HO_6.out⟩, ⟨by (with_reducible repeat (first | apply Kd.R_alloc | apply Kd.R_drewN | apply Kd.R_drew)); exact HO_7.out⟩, ⟨by (with_reducible repeat (first | apply Kd.R_alloc | apply Kd.R_drewN | apply Kd.R_drew)); exact HO_11.out⟩, ⟨by (with_reducible repeat (first | apply Kd.R_alloc | apply Kd.R_drewN | apply Kd.R_drew)); exact HO_72.out⟩, ⟨by repeat (first | (with_reducible first | exact HB.out | apply below_alloc | apply pw_below_drewN | apply below_drew1) | exact HB.out)⟩⟩
                                  · replace c52 := Bool.eq_false_iff.mpr c52
                                    subst c52
                                    have H1 : (if (t353 != false) = true then (some false) else (laws_FnChainsTogether.l0 k3 l1 t323 t324 t329 t338 true t329 (t329.length : Int) (wrap64 (x74_3 + 1)))) = some r := by rw [if_neg (show ¬ (false = true) by decide)] at H; exact H
                                    clear H
                                    have H := H1
                                    clear H1
                                    by_cases c57 : (t353 != false) = true
                                    · rw [if_pos c57] at H
                                      have c57b0 : (t353 != false) = true := c57
                                      (try (have c57b1 : decide (t353 = false) = false := by simpa using c57))
                                      (try (have c57b2 : (t353 == false) = false := by simpa using c57))
                                      (try (have c57b3 : ¬ (t353 = false) := by simpa using c57))
                                      clear c57
                                      obtain rfl := Option.some.inj H
                                      have p347 : 0 ≤ (x74_3 : Int) := of_decide_eq_true (by first | (with_reducible assumption) | assumption)
                                      have q347 : x74_3 < (t329.length : Int) := of_decide_eq_true (by first | (with_reducible assumption) | assumption)
                                      obtain ⟨ad347, e347, hx347_0⟩ := Kd.at_int (Kd.R_reads' HO_72.out).2.2 x74_3 p347 q347
                                      cases e347
                                      replace p347 := eq_true p347
                                      replace q347 := eq_true q347
                                      go_wp2_with (first | ((with_reducible refine gate_callee (f := 11) rfl ?_); refine goesL_ (some 80) rfl rfl Try.func11 (by kernel_rfl) rfl #[.slice Ao10 t323.length co10, .int .i64 (rd t329 x74_3)] rfl (by (try simp only [List.map_toArray, List.map_cons, List.map_nil]); first | done | rfl | (simp only [List.length_drop, List.length_take]; rfl)) ?_; (with_reducible refine (laws_pHas.calls k3 _ _ t323 (rd t329 x74_3) false _ ?side1 ?side2 A34.out).mono ?_); (case side1 => repeat (first | exact (Kd.R_reads' HO_5.out).2.2 | (with_reducible refine Kd.C_alloc ?_ _) | (with_reducible refine Kd.C_drewN ?_ _) | (with_reducible refine Kd.C_drew ?_))); (case side2 => exact (Kd.R_reads' HO_5.out).2.1); rintro e w' ⟨rfl, ⟨nd, rfl⟩⟩; refine ⟨_, rfl, ?_⟩) | (go_at_call 11; (with_reducible refine (laws_pHas.calls k3 _ _ t324 (rd t329 x74_3) true _ ?side1 ?side2 A47.out).mono ?_); (case side1 => repeat (first | exact (Kd.R_reads' HO_6.out).2.2 | (with_reducible refine Kd.C_alloc ?_ _) | (with_reducible refine Kd.C_drewN ?_ _) | (with_reducible refine Kd.C_drew ?_))); (case side2 => exact (Kd.R_reads' HO_6.out).2.1); rintro e w' ⟨rfl, ⟨nd, rfl⟩⟩; obtain ⟨Ao58, co58, eo58⟩ := Kd.R_slice HO_11.out; subst eo58) | (go_at_call 11; (with_reducible refine (laws_pHas.calls k3 _ _ t338 (rd t329 x74_3) t353 _ ?side1 ?side2 A50.out).mono ?_); (case side1 => repeat (first | exact (Kd.R_reads' HO_11.out).2.2 | (with_reducible refine Kd.C_alloc ?_ _) | (with_reducible refine Kd.C_drewN ?_ _) | (with_reducible refine Kd.C_drew ?_))); (case side2 => exact (Kd.R_reads' HO_11.out).2.1); rintro e w' ⟨rfl, ⟨nd, rfl⟩⟩) | (go_at_call 11; (with_reducible refine (laws_pHas.calls k3 _ _ t323 (rd t329 x74_3) false _ ?side1 ?side2 A51.out).mono ?_); (case side1 => repeat (first | exact (Kd.R_reads' HO_5.out).2.2 | (with_reducible refine Kd.C_alloc ?_ _) | (with_reducible refine Kd.C_drewN ?_ _) | (with_reducible refine Kd.C_drew ?_))); (case side2 => exact (Kd.R_reads' HO_5.out).2.1); rintro e w' ⟨rfl, ⟨nd, rfl⟩⟩))
                                      go_ret
                                      exact ⟨by first | rfl | (simp [errW_none, errW_some] <;> rfl) | (simp [*, errW_none, errW_some] <;> rfl), by repeat (first | (with_reducible first | exact HB.out | apply below_alloc | apply pw_below_drewN | apply below_drew1) | exact HB.out)⟩
                                    · rw [if_neg c57] at H
                                      have c57b0 : (t353 != false) = false := by simpa using c57
                                      (try (have c57b1 : decide (t353 = false) = true := by simpa using c57))
                                      (try (have c57b2 : (t353 == false) = true := by simpa using c57))
                                      clear c57
                                      have H' := Aside0.mk H
                                      clear H
                                      have p347 : 0 ≤ (x74_3 : Int) := of_decide_eq_true (by first | (with_reducible assumption) | assumption)
                                      have q347 : x74_3 < (t329.length : Int) := of_decide_eq_true (by first | (with_reducible assumption) | assumption)
                                      obtain ⟨ad347, e347, hx347_0⟩ := Kd.at_int (Kd.R_reads' HO_72.out).2.2 x74_3 p347 q347
                                      cases e347
                                      replace p347 := eq_true p347
                                      replace q347 := eq_true q347
                                      go_wp2_with (first | ((with_reducible refine gate_callee (f := 11) rfl ?_); refine goesL_ (some 80) rfl rfl Try.func11 (by kernel_rfl) rfl #[.slice Ao10 t323.length co10, .int .i64 (rd t329 x74_3)] rfl (by (try simp only [List.map_toArray, List.map_cons, List.map_nil]); first | done | rfl | (simp only [List.length_drop, List.length_take]; rfl)) ?_; (with_reducible refine (laws_pHas.calls k3 _ _ t323 (rd t329 x74_3) false _ ?side1 ?side2 A34.out).mono ?_); (case side1 => repeat (first | exact (Kd.R_reads' HO_5.out).2.2 | (with_reducible refine Kd.C_alloc ?_ _) | (with_reducible refine Kd.C_drewN ?_ _) | (with_reducible refine Kd.C_drew ?_))); (case side2 => exact (Kd.R_reads' HO_5.out).2.1); rintro e w' ⟨rfl, ⟨nd, rfl⟩⟩; refine ⟨_, rfl, ?_⟩) | (go_at_call 11; (with_reducible refine (laws_pHas.calls k3 _ _ t324 (rd t329 x74_3) true _ ?side1 ?side2 A47.out).mono ?_); (case side1 => repeat (first | exact (Kd.R_reads' HO_6.out).2.2 | (with_reducible refine Kd.C_alloc ?_ _) | (with_reducible refine Kd.C_drewN ?_ _) | (with_reducible refine Kd.C_drew ?_))); (case side2 => exact (Kd.R_reads' HO_6.out).2.1); rintro e w' ⟨rfl, ⟨nd, rfl⟩⟩; obtain ⟨Ao59, co59, eo59⟩ := Kd.R_slice HO_11.out; subst eo59) | (go_at_call 11; (with_reducible refine (laws_pHas.calls k3 _ _ t338 (rd t329 x74_3) t353 _ ?side1 ?side2 A50.out).mono ?_); (case side1 => repeat (first | exact (Kd.R_reads' HO_11.out).2.2 | (with_reducible refine Kd.C_alloc ?_ _) | (with_reducible refine Kd.C_drewN ?_ _) | (with_reducible refine Kd.C_drew ?_))); (case side2 => exact (Kd.R_reads' HO_11.out).2.1); rintro e w' ⟨rfl, ⟨nd, rfl⟩⟩) | (go_at_call 11; (with_reducible refine (laws_pHas.calls k3 _ _ t323 (rd t329 x74_3) false _ ?side1 ?side2 A51.out).mono ?_); (case side1 => repeat (first | exact (Kd.R_reads' HO_5.out).2.2 | (with_reducible refine Kd.C_alloc ?_ _) | (with_reducible refine Kd.C_drewN ?_ _) | (with_reducible refine Kd.C_drew ?_))); (case side2 => exact (Kd.R_reads' HO_5.out).2.1); rintro e w' ⟨rfl, ⟨nd, rfl⟩⟩))
                                      go_roundg k3
                                      case measure => have := HJ7.out; have := HJ20.out; have := HK3.out; omega
                                      case rel => exact ⟨(wrap64 (x74_3 + 1)), (by first | rfl | (simp; done) | (simp [*]; done)), H', ⟨by have := HJ7.out; have := HJ20.out; have := HK3.out; omega⟩, ⟨by (with_reducible repeat (first | apply Kd.R_alloc | apply Kd.R_drewN | apply Kd.R_drew)); exact HO_5.out⟩, ⟨by (with_reducible repeat (first | apply Kd.R_alloc | apply Kd.R_drewN | apply Kd.R_drew)); exact HO_6.out⟩, ⟨by (with_reducible repeat (first | apply Kd.R_alloc | apply Kd.R_drewN | apply Kd.R_drew)); exact HO_7.out⟩, ⟨by (with_reducible repeat (first | apply Kd.R_alloc | apply Kd.R_drewN | apply Kd.R_drew)); exact HO_11.out⟩, ⟨by (with_reducible repeat (first | apply Kd.R_alloc | apply Kd.R_drewN | apply Kd.R_drew)); exact HO_72.out⟩, ⟨by repeat (first | (with_reducible first | exact HB.out | apply below_alloc | apply pw_below_drewN | apply below_drew1) | exact HB.out)⟩⟩
                                · replace c49 := Bool.eq_false_iff.mpr c49
                                  subst c49
                                  have H1 : (laws_FnChainsTogether.l0 k3 l1 t323 t324 t329 t338 false t329 (t329.length : Int) (wrap64 (x74_3 + 1))) = some r := by rw [if_neg (show ¬ (false = true) by decide)] at H; exact H
                                  clear H
                                  have H := H1
                                  clear H1
                                  have H' := Aside0.mk H
                                  clear H
                                  have p347 : 0 ≤ (x74_3 : Int) := of_decide_eq_true (by first | (with_reducible assumption) | assumption)
                                  have q347 : x74_3 < (t329.length : Int) := of_decide_eq_true (by first | (with_reducible assumption) | assumption)
                                  obtain ⟨ad347, e347, hx347_0⟩ := Kd.at_int (Kd.R_reads' HO_72.out).2.2 x74_3 p347 q347
                                  cases e347
                                  replace p347 := eq_true p347
                                  replace q347 := eq_true q347
                                  go_wp2_with (first | ((with_reducible refine gate_callee (f := 11) rfl ?_); refine goesL_ (some 80) rfl rfl Try.func11 (by kernel_rfl) rfl #[.slice Ao10 t323.length co10, .int .i64 (rd t329 x74_3)] rfl (by (try simp only [List.map_toArray, List.map_cons, List.map_nil]); first | done | rfl | (simp only [List.length_drop, List.length_take]; rfl)) ?_; (with_reducible refine (laws_pHas.calls k3 _ _ t323 (rd t329 x74_3) false _ ?side1 ?side2 A34.out).mono ?_); (case side1 => repeat (first | exact (Kd.R_reads' HO_5.out).2.2 | (with_reducible refine Kd.C_alloc ?_ _) | (with_reducible refine Kd.C_drewN ?_ _) | (with_reducible refine Kd.C_drew ?_))); (case side2 => exact (Kd.R_reads' HO_5.out).2.1); rintro e w' ⟨rfl, ⟨nd, rfl⟩⟩; refine ⟨_, rfl, ?_⟩) | (go_at_call 11; (with_reducible refine (laws_pHas.calls k3 _ _ t324 (rd t329 x74_3) true _ ?side1 ?side2 A47.out).mono ?_); (case side1 => repeat (first | exact (Kd.R_reads' HO_6.out).2.2 | (with_reducible refine Kd.C_alloc ?_ _) | (with_reducible refine Kd.C_drewN ?_ _) | (with_reducible refine Kd.C_drew ?_))); (case side2 => exact (Kd.R_reads' HO_6.out).2.1); rintro e w' ⟨rfl, ⟨nd, rfl⟩⟩))
                                  go_roundg k3
                                  case measure => have := HJ7.out; have := HJ20.out; have := HK3.out; omega
                                  case rel => exact ⟨(wrap64 (x74_3 + 1)), (by first | rfl | (simp; done) | (simp [*]; done)), H', ⟨by have := HJ7.out; have := HJ20.out; have := HK3.out; omega⟩, ⟨by (with_reducible repeat (first | apply Kd.R_alloc | apply Kd.R_drewN | apply Kd.R_drew)); exact HO_5.out⟩, ⟨by (with_reducible repeat (first | apply Kd.R_alloc | apply Kd.R_drewN | apply Kd.R_drew)); exact HO_6.out⟩, ⟨by (with_reducible repeat (first | apply Kd.R_alloc | apply Kd.R_drewN | apply Kd.R_drew)); exact HO_7.out⟩, ⟨by (with_reducible repeat (first | apply Kd.R_alloc | apply Kd.R_drewN | apply Kd.R_drew)); exact HO_11.out⟩, ⟨by (with_reducible repeat (first | apply Kd.R_alloc | apply Kd.R_drewN | apply Kd.R_drew)); exact HO_72.out⟩, ⟨by repeat (first | (with_reducible first | exact HB.out | apply below_alloc | apply pw_below_drewN | apply below_drew1) | exact HB.out)⟩⟩
                              · replace c48 := Bool.eq_false_iff.mpr c48
                                subst c48
                                have H1 : (some false) = some r := by rw [if_neg (show ¬ (false = true) by decide)] at H; exact H
                                clear H
                                have H := H1
                                clear H1
                                obtain rfl := Option.some.inj H
                                have p347 : 0 ≤ (x74_3 : Int) := of_decide_eq_true (by first | (with_reducible assumption) | assumption)
                                have q347 : x74_3 < (t329.length : Int) := of_decide_eq_true (by first | (with_reducible assumption) | assumption)
                                obtain ⟨ad347, e347, hx347_0⟩ := Kd.at_int (Kd.R_reads' HO_72.out).2.2 x74_3 p347 q347
                                cases e347
                                replace p347 := eq_true p347
                                replace q347 := eq_true q347
                                go_wp2_with (first | ((with_reducible refine gate_callee (f := 11) rfl ?_); refine goesL_ (some 80) rfl rfl Try.func11 (by kernel_rfl) rfl #[.slice Ao10 t323.length co10, .int .i64 (rd t329 x74_3)] rfl (by (try simp only [List.map_toArray, List.map_cons, List.map_nil]); first | done | rfl | (simp only [List.length_drop, List.length_take]; rfl)) ?_; (with_reducible refine (laws_pHas.calls k3 _ _ t323 (rd t329 x74_3) false _ ?side1 ?side2 A34.out).mono ?_); (case side1 => repeat (first | exact (Kd.R_reads' HO_5.out).2.2 | (with_reducible refine Kd.C_alloc ?_ _) | (with_reducible refine Kd.C_drewN ?_ _) | (with_reducible refine Kd.C_drew ?_))); (case side2 => exact (Kd.R_reads' HO_5.out).2.1); rintro e w' ⟨rfl, ⟨nd, rfl⟩⟩; refine ⟨_, rfl, ?_⟩) | (go_at_call 11; (with_reducible refine (laws_pHas.calls k3 _ _ t324 (rd t329 x74_3) false _ ?side1 ?side2 A47.out).mono ?_); (case side1 => repeat (first | exact (Kd.R_reads' HO_6.out).2.2 | (with_reducible refine Kd.C_alloc ?_ _) | (with_reducible refine Kd.C_drewN ?_ _) | (with_reducible refine Kd.C_drew ?_))); (case side2 => exact (Kd.R_reads' HO_6.out).2.1); rintro e w' ⟨rfl, ⟨nd, rfl⟩⟩))
                                go_ret
                                exact ⟨by first | rfl | (simp [errW_none, errW_some] <;> rfl) | (simp [*, errW_none, errW_some] <;> rfl), by repeat (first | (with_reducible first | exact HB.out | apply below_alloc | apply pw_below_drewN | apply below_drew1) | exact HB.out)⟩
                          · rw [if_neg c33] at H
                            exact absurd H (by simp)
                        · rw [if_neg c32] at H
                          exact absurd H (by simp)
                      · rw [if_neg c31] at H
                        have c31b0 : decide (x74_3 < (t329.length : Int)) = false := decide_eq_false c31
                        clear c31
                        have HC60 := Aside0.mk H
                        clear H
                        go_upto_region 20 with (fail)
                        go_cut [124] (fun v124 wc => ∃ (kq : Nat) (x124_59 : Bool), v124 = .bool x124_59 ∧ Aside0 (laws_FnChainsTogether.j3 kq l1 t329 x124_59 = some r) ∧ Aside0 (kq ≤ k3) ∧ Aside0 (Kd.R (Kd.int .i64) 3 wc w.heap.size (fun _ => True) (.slice Ao30 t329.length co30) t329) ∧ Aside0 (Below w.heap.size w wc))
                        case first =>
                          have H := HC60.out
                          clear HC60
                          replace H := Option.bind_eq_some_iff.mp H
                          obtain ⟨t356, A610, H⟩ := H
                          replace H : (if t356 = true then (if t339 = true then (laws_FnChainsTogether.j3 k3 l1 t329 ((wrap64 ((t338.length : Int) + (t329.length : Int))) != (wrap64 ((t323.length : Int) + (t324.length : Int))))) else (laws_FnChainsTogether.j3 k3 l1 t329 false)) else (laws_FnChainsTogether.j3 k3 l1 t329 true)) = some r := H
                          have A61 := Aside0.mk A610
                          clear A610
                          by_cases c62 : t356 = true
                          · subst c62
                            have H1 : (if t339 = true then (laws_FnChainsTogether.j3 k3 l1 t329 ((wrap64 ((t338.length : Int) + (t329.length : Int))) != (wrap64 ((t323.length : Int) + (t324.length : Int))))) else (laws_FnChainsTogether.j3 k3 l1 t329 false)) = some r := by rw [if_pos rfl] at H; exact H
                            clear H
                            have H := H1
                            clear H1
                            by_cases c63 : t339 = true
                            · subst c63
                              have H1 : (laws_FnChainsTogether.j3 k3 l1 t329 ((wrap64 ((t338.length : Int) + (t329.length : Int))) != (wrap64 ((t323.length : Int) + (t324.length : Int))))) = some r := by rw [if_pos rfl] at H; exact H
                              clear H
                              have H := H1
                              clear H1
                              have H' := Aside0.mk H
                              clear H
                              go_wp2_with (first | ((with_reducible refine gate_callee (f := 15) rfl ?_); refine goesL_ (some 107) rfl rfl Try.func15 (by kernel_rfl) rfl #[.slice Ao30 t329.length co30] rfl (by (try simp only [List.map_toArray, List.map_cons, List.map_nil]); first | done | rfl | (simp only [List.length_drop, List.length_take]; rfl)) ?_; (with_reducible refine (impl_IsChain.calls k3 _ _ t329 true _ ?side1 ?side2 A61.out).mono ?_); (case side1 => repeat (first | exact (Kd.R_reads' HO_7.out).2.2 | (with_reducible refine Kd.C_alloc ?_ _) | (with_reducible refine Kd.C_drewN ?_ _) | (with_reducible refine Kd.C_drew ?_))); (case side2 => exact (Kd.R_reads' HO_7.out).2.1); rintro e w64 ⟨rfl, hb⟩; refine ⟨_, rfl, ?_⟩; have n0_ := Aside0.mk (Kd.R_below (by (with_reducible repeat (first | apply Kd.R_alloc | apply Kd.R_drewN | apply Kd.R_drew)); exact HO_5.out) hb); have n1_ := Aside0.mk (Kd.R_below (by (with_reducible repeat (first | apply Kd.R_alloc | apply Kd.R_drewN | apply Kd.R_drew)); exact HO_6.out) hb); have n2_ := Aside0.mk (Kd.R_below (by (with_reducible repeat (first | apply Kd.R_alloc | apply Kd.R_drewN | apply Kd.R_drew)); exact HO_7.out) hb); have n3_ := Aside0.mk (Kd.R_below (by (with_reducible repeat (first | apply Kd.R_alloc | apply Kd.R_drewN | apply Kd.R_drew)); exact HO_11.out) hb); have n4_ := Aside0.mk (Kd.R_below (by (with_reducible repeat (first | apply Kd.R_alloc | apply Kd.R_drewN | apply Kd.R_drew)); exact HO_72.out) hb); have n5_ := Aside0.mk (below_step (by repeat (first | (with_reducible first | exact HB.out | apply below_alloc | apply pw_below_drewN | apply below_drew1) | exact HB.out)) hb); clear HO_5; clear HO_6; clear HO_7; clear HO_11; clear HO_72; clear HB; have HO_5 := n0_; have HO_6 := n1_; have HO_7 := n2_; have HO_11 := n3_; have HO_72 := n4_; have HB := n5_; clear n0_ n1_ n2_ n3_ n4_ n5_; (try clear hb); obtain ⟨Ao65, co65, eo65⟩ := Kd.R_slice HO_11.out; subst eo65))
                              go_meet
                              case rel => exact ⟨_, (((wrap64 ((t338.length : Int) + (t329.length : Int))) != (wrap64 ((t323.length : Int) + (t324.length : Int))))), (by first | rfl | (simp; done) | (simp [*]; done)), H', ⟨by have := HJ7.out; have := HJ20.out; have := HK3.out; first | omega | exact Nat.le_refl _⟩, ⟨by (with_reducible repeat (first | apply Kd.R_alloc | apply Kd.R_drewN | apply Kd.R_drew)); exact Kd.R_mono HO_7.out (fun _ hk => trivial)⟩, ⟨by repeat (first | (with_reducible first | exact HB.out | apply below_alloc | apply pw_below_drewN | apply below_drew1) | exact HB.out)⟩⟩
                            · replace c63 := Bool.eq_false_iff.mpr c63
                              subst c63
                              have H1 : (laws_FnChainsTogether.j3 k3 l1 t329 false) = some r := by rw [if_neg (show ¬ (false = true) by decide)] at H; exact H
                              clear H
                              have H := H1
                              clear H1
                              have H' := Aside0.mk H
                              clear H
                              go_wp2_with (first | ((with_reducible refine gate_callee (f := 15) rfl ?_); refine goesL_ (some 107) rfl rfl Try.func15 (by kernel_rfl) rfl #[.slice Ao30 t329.length co30] rfl (by (try simp only [List.map_toArray, List.map_cons, List.map_nil]); first | done | rfl | (simp only [List.length_drop, List.length_take]; rfl)) ?_; (with_reducible refine (impl_IsChain.calls k3 _ _ t329 true _ ?side1 ?side2 A61.out).mono ?_); (case side1 => repeat (first | exact (Kd.R_reads' HO_7.out).2.2 | (with_reducible refine Kd.C_alloc ?_ _) | (with_reducible refine Kd.C_drewN ?_ _) | (with_reducible refine Kd.C_drew ?_))); (case side2 => exact (Kd.R_reads' HO_7.out).2.1); rintro e w66 ⟨rfl, hb⟩; refine ⟨_, rfl, ?_⟩; have n0_ := Aside0.mk (Kd.R_below (by (with_reducible repeat (first | apply Kd.R_alloc | apply Kd.R_drewN | apply Kd.R_drew)); exact HO_5.out) hb); have n1_ := Aside0.mk (Kd.R_below (by (with_reducible repeat (first | apply Kd.R_alloc | apply Kd.R_drewN | apply Kd.R_drew)); exact HO_6.out) hb); have n2_ := Aside0.mk (Kd.R_below (by (with_reducible repeat (first | apply Kd.R_alloc | apply Kd.R_drewN | apply Kd.R_drew)); exact HO_7.out) hb); have n3_ := Aside0.mk (Kd.R_below (by (with_reducible repeat (first | apply Kd.R_alloc | apply Kd.R_drewN | apply Kd.R_drew)); exact HO_11.out) hb); have n4_ := Aside0.mk (Kd.R_below (by (with_reducible repeat (first | apply Kd.R_alloc | apply Kd.R_drewN | apply Kd.R_drew)); exact HO_72.out) hb); have n5_ := Aside0.mk (below_step (by repeat (first | (with_reducible first | exact HB.out | apply below_alloc | apply pw_below_drewN | apply below_drew1) | exact HB.out)) hb); clear HO_5; clear HO_6; clear HO_7; clear HO_11; clear HO_72; clear HB; have HO_5 := n0_; have HO_6 := n1_; have HO_7 := n2_; have HO_11 := n3_; have HO_72 := n4_; have HB := n5_; clear n0_ n1_ n2_ n3_ n4_ n5_; (try clear hb)))
                              go_meet
                              case rel => exact ⟨_, (false), (by first | rfl | (simp; done) | (simp [*]; done)), H', ⟨by have := HJ7.out; have := HJ20.out; have := HK3.out; first | omega | exact Nat.le_refl _⟩, ⟨by (with_reducible repeat (first | apply Kd.R_alloc | apply Kd.R_drewN | apply Kd.R_drew)); exact Kd.R_mono HO_7.out (fun _ hk => trivial)⟩, ⟨by repeat (first | (with_reducible first | exact HB.out | apply below_alloc | apply pw_below_drewN | apply below_drew1) | exact HB.out)⟩⟩
                          · replace c62 := Bool.eq_false_iff.mpr c62
                            subst c62
                            have H1 : (laws_FnChainsTogether.j3 k3 l1 t329 true) = some r := by rw [if_neg (show ¬ (false = true) by decide)] at H; exact H
                            clear H
                            have H := H1
                            clear H1
                            have H' := Aside0.mk H
                            clear H
                            go_wp2_with (first | ((with_reducible refine gate_callee (f := 15) rfl ?_); refine goesL_ (some 107) rfl rfl Try.func15 (by kernel_rfl) rfl #[.slice Ao30 t329.length co30] rfl (by (try simp only [List.map_toArray, List.map_cons, List.map_nil]); first | done | rfl | (simp only [List.length_drop, List.length_take]; rfl)) ?_; (with_reducible refine (impl_IsChain.calls k3 _ _ t329 false _ ?side1 ?side2 A61.out).mono ?_); (case side1 => repeat (first | exact (Kd.R_reads' HO_7.out).2.2 | (with_reducible refine Kd.C_alloc ?_ _) | (with_reducible refine Kd.C_drewN ?_ _) | (with_reducible refine Kd.C_drew ?_))); (case side2 => exact (Kd.R_reads' HO_7.out).2.1); rintro e w67 ⟨rfl, hb⟩; refine ⟨_, rfl, ?_⟩; have n0_ := Aside0.mk (Kd.R_below (by (with_reducible repeat (first | apply Kd.R_alloc | apply Kd.R_drewN | apply Kd.R_drew)); exact HO_5.out) hb); have n1_ := Aside0.mk (Kd.R_below (by (with_reducible repeat (first | apply Kd.R_alloc | apply Kd.R_drewN | apply Kd.R_drew)); exact HO_6.out) hb); have n2_ := Aside0.mk (Kd.R_below (by (with_reducible repeat (first | apply Kd.R_alloc | apply Kd.R_drewN | apply Kd.R_drew)); exact HO_7.out) hb); have n3_ := Aside0.mk (Kd.R_below (by (with_reducible repeat (first | apply Kd.R_alloc | apply Kd.R_drewN | apply Kd.R_drew)); exact HO_11.out) hb); have n4_ := Aside0.mk (Kd.R_below (by (with_reducible repeat (first | apply Kd.R_alloc | apply Kd.R_drewN | apply Kd.R_drew)); exact HO_72.out) hb); have n5_ := Aside0.mk (below_step (by repeat (first | (with_reducible first | exact HB.out | apply below_alloc | apply pw_below_drewN | apply below_drew1) | exact HB.out)) hb); clear HO_5; clear HO_6; clear HO_7; clear HO_11; clear HO_72; clear HB; have HO_5 := n0_; have HO_6 := n1_; have HO_7 := n2_; have HO_11 := n3_; have HO_72 := n4_; have HB := n5_; clear n0_ n1_ n2_ n3_ n4_ n5_; (try clear hb)))
                            go_meet
                            case rel => exact ⟨_, (true), (by first | rfl | (simp; done) | (simp [*]; done)), H', ⟨by have := HJ7.out; have := HJ20.out; have := HK3.out; first | omega | exact Nat.le_refl _⟩, ⟨by (with_reducible repeat (first | apply Kd.R_alloc | apply Kd.R_drewN | apply Kd.R_drew)); exact Kd.R_mono HO_7.out (fun _ hk => trivial)⟩, ⟨by repeat (first | (with_reducible first | exact HB.out | apply below_alloc | apply pw_below_drewN | apply below_drew1) | exact HB.out)⟩⟩
                        case rest =>
                          clear HC60
                          try clear c1
                          try clear c2
                          try clear p2
                          try clear c3
                          try clear p3
                          try clear q3
                          try clear hx3
                          try clear c4
                          try clear c5
                          try clear c6
                          try clear p6
                          try clear c11
                          try clear c14
                          try clear c14b0
                          try clear c14b1
                          try clear c14b2
                          try clear c15
                          try clear c18
                          try clear c19
                          try clear c20
                          try clear c21
                          try clear c22
                          try clear c23
                          try clear c24
                          try clear c24b0
                          try clear c24b1
                          try clear c24b2
                          try clear c28
                          try clear c29
                          try clear c31
                          try clear c31b0
                          try clear c32
                          try clear c32b0
                          try clear c33
                          try clear c33b0
                          try clear p34
                          try clear q34
                          try clear hx34
                          try clear c35
                          try clear c36
                          try clear c39
                          try clear c41
                          try clear c41b0
                          try clear c41b1
                          try clear c41b2
                          try clear c44
                          try clear c44b0
                          try clear c44b1
                          try clear c44b2
                          try clear c48
                          try clear c49
                          try clear c52
                          try clear c54
                          try clear c54b0
                          try clear c54b1
                          try clear c54b2
                          try clear c57
                          try clear c57b0
                          try clear c57b1
                          try clear c57b2
                          try clear c62
                          try clear c63
                          try clear p64
                          try clear hx347_0
                          try clear p2
                          try clear p347
                          try clear q347
                          obtain ⟨kq, x124_59, rfl, HA, HJ59, HO_7, HB⟩ := hcut
                          cases kq with
                          | zero => exact absurd HA.out (by simp [laws_FnChainsTogether.j3])
                          | succ kj59 =>
                            have H := HA.out
                            clear HA
                            simp only [laws_FnChainsTogether.j3] at H
                            by_cases c68 : x124_59 = true
                            · subst c68
                              have H1 : (some false) = some r := by rw [if_pos rfl] at H; exact H
                              clear H
                              have H := H1
                              clear H1
                              obtain rfl := Option.some.inj H
                              go_wp2
                              go_ret
                              exact ⟨by first | rfl | (simp [errW_none, errW_some] <;> rfl) | (simp [*, errW_none, errW_some] <;> rfl), by repeat (first | (with_reducible first | exact HB.out | apply below_alloc | apply pw_below_drewN | apply below_drew1) | exact HB.out)⟩
                            · replace c68 := Bool.eq_false_iff.mpr c68
                              subst c68
                              have H1 : (if 0 ≤ (wrap64 ((t329.length : Int) - 1)) then (if (wrap64 ((t329.length : Int) - 1)) < (t329.length : Int) then (if (t329.length : Int) = 0 then (none) else (if 0 ≤ ((l1.length : Int) % (t329.length : Int)) then (if ((l1.length : Int) % (t329.length : Int)) < (t329.length : Int) then ((impl_ExtendChain.f kj59 t329 (wrap64 ((rd t329 (wrap64 ((t329.length : Int) - 1))) + (rd t329 ((l1.length : Int) % (t329.length : Int)))))).bind fun bt359 => (if bt359.2 = true then ((impl_IsChain.f kj59 bt359.1).bind fun t363 => (if t363 = true then (if 0 ≤ (t329.length : Int) then (if (t329.length : Int) ≤ (bt359.1.length : Int) then ((laws_pSameInts.f kj59 (bt359.1.take ((t329.length : Int) : Int).toNat) t329).bind fun t368 => (some t368)) else (none)) else (none)) else (some false))) else (some true))) else (none)) else (none))) else (none)) else (none)) = some r := by rw [if_neg (show ¬ (false = true) by decide)] at H; exact H
                              clear H
                              have H := H1
                              clear H1
                              obtain ⟨ji69, hji69⟩ : ∃ j_ : Int, (wrap64 ((t329.length : Int) - 1)) = j_ := ⟨_, rfl⟩
                              replace H : (if 0 ≤ (ji69) then (if (ji69) < (t329.length : Int) then (if (t329.length : Int) = 0 then (none) else (if 0 ≤ ((l1.length : Int) % (t329.length : Int)) then (if ((l1.length : Int) % (t329.length : Int)) < (t329.length : Int) then ((impl_ExtendChain.f kj59 t329 (wrap64 ((rd t329 (ji69)) + (rd t329 ((l1.length : Int) % (t329.length : Int)))))).bind fun bt359 => (if bt359.2 = true then ((impl_IsChain.f kj59 bt359.1).bind fun t363 => (if t363 = true then (if 0 ≤ (t329.length : Int) then (if (t329.length : Int) ≤ (bt359.1.length : Int) then ((laws_pSameInts.f kj59 (bt359.1.take ((t329.length : Int) : Int).toNat) t329).bind fun t368 => (some t368)) else (none)) else (none)) else (some false))) else (some true))) else (none)) else (none))) else (none)) else (none)) = some r := by first | (rw [hji69] at H; exact H) | (simp only [hji69] at H ⊢; exact H)
                              have hji69w : (IntKind.i64.wrap ((t329.length : Int) - 1)) = ji69 := (i64_w _).trans hji69
                              by_cases c70 : 0 ≤ (ji69)
                              · rw [if_pos c70] at H
                                have c70b0 : decide (0 ≤ (ji69)) = true := decide_eq_true c70
                                clear c70
                                by_cases c71 : (ji69) < (t329.length : Int)
                                · rw [if_pos c71] at H
                                  have c71b0 : decide ((ji69) < (t329.length : Int)) = true := decide_eq_true c71
                                  clear c71
                                  by_cases c72 : (t329.length : Int) = 0
                                  · rw [if_pos c72] at H
                                    exact absurd H (by simp)
                                  · rw [if_neg c72] at H
                                    have c72b0 : ((t329.length : Int) == 0) = false := beq_eq_false_iff_ne.mpr c72
                                    have c72b1 : ((t329.length : Int) != 0) = true := bne_iff_ne.mpr c72
                                    have c72b2 : ¬ (t329 = []) := fun h_ => c72 (by rw [h_]; rfl)
                                    obtain ⟨ji73, hji73⟩ : ∃ j_ : Int, ((l1.length : Int) % (t329.length : Int)) = j_ := ⟨_, rfl⟩
                                    replace H : (if 0 ≤ (ji73) then (if (ji73) < (t329.length : Int) then ((impl_ExtendChain.f kj59 t329 (wrap64 ((rd t329 (ji69)) + (rd t329 (ji73))))).bind fun bt359 => (if bt359.2 = true then ((impl_IsChain.f kj59 bt359.1).bind fun t363 => (if t363 = true then (if 0 ≤ (t329.length : Int) then (if (t329.length : Int) ≤ (bt359.1.length : Int) then ((laws_pSameInts.f kj59 (bt359.1.take ((t329.length : Int) : Int).toNat) t329).bind fun t368 => (some t368)) else (none)) else (none)) else (some false))) else (some true))) else (none)) else (none)) = some r := by first | (rw [hji73] at H; exact H) | (simp only [hji73] at H ⊢; exact H)
                                    by_cases c74 : 0 ≤ (ji73)
                                    · rw [if_pos c74] at H
                                      have c74b0 : decide (0 ≤ (ji73)) = true := decide_eq_true c74
                                      clear c74
                                      by_cases c75 : (ji73) < (t329.length : Int)
                                      · rw [if_pos c75] at H
                                        have c75b0 : decide ((ji73) < (t329.length : Int)) = true := decide_eq_true c75
                                        clear c75
                                        replace H := Option.bind_eq_some_iff.mp H
                                        obtain ⟨⟨t359, t360⟩, A760, H⟩ := H
                                        replace H : (if t360 = true then ((impl_IsChain.f kj59 t359).bind fun t363 => (if t363 = true then (if 0 ≤ (t329.length : Int) then (if (t329.length : Int) ≤ (t359.length : Int) then ((laws_pSameInts.f kj59 (t359.take ((t329.length : Int) : Int).toNat) t329).bind fun t368 => (some t368)) else (none)) else (none)) else (some false))) else (some true)) = some r := H
                                        have A76 := Aside0.mk A760
                                        clear A760
                                        by_cases c77 : t360 = true
                                        · subst c77
                                          have H1 : ((impl_IsChain.f kj59 t359).bind fun t363 => (if t363 = true then (if 0 ≤ (t329.length : Int) then (if (t329.length : Int) ≤ (t359.length : Int) then ((laws_pSameInts.f kj59 (t359.take ((t329.length : Int) : Int).toNat) t329).bind fun t368 => (some t368)) else (none)) else (none)) else (some false))) = some r := by rw [if_pos rfl] at H; exact H
                                          clear H
                                          have H := H1
                                          clear H1
                                          replace H := Option.bind_eq_some_iff.mp H
                                          obtain ⟨t363, A780, H⟩ := H
                                          replace H : (if t363 = true then (if 0 ≤ (t329.length : Int) then (if (t329.length : Int) ≤ (t359.length : Int) then ((laws_pSameInts.f kj59 (t359.take ((t329.length : Int) : Int).toNat) t329).bind fun t368 => (some t368)) else (none)) else (none)) else (some false)) = some r := H
                                          have A78 := Aside0.mk A780
                                          clear A780
                                          by_cases c79 : t363 = true
                                          · subst c79
                                            have H1 : (if 0 ≤ (t329.length : Int) then (if (t329.length : Int) ≤ (t359.length : Int) then ((laws_pSameInts.f kj59 (t359.take ((t329.length : Int) : Int).toNat) t329).bind fun t368 => (some t368)) else (none)) else (none)) = some r := by rw [if_pos rfl] at H; exact H
                                            clear H
                                            have H := H1
                                            clear H1
                                            by_cases c80 : 0 ≤ (t329.length : Int)
                                            · rw [if_pos c80] at H
                                              have c80b0 := eq_true c80
                                              have c80b1 : decide (0 ≤ (t329.length : Int)) = true := decide_eq_true c80
                                              clear c80
                                              by_cases c81 : (t329.length : Int) ≤ (t359.length : Int)
                                              · rw [if_pos c81] at H
                                                have c81b0 := eq_true c81
                                                have c81b1 : decide ((t329.length : Int) ≤ (t359.length : Int)) = true := decide_eq_true c81
                                                clear c81
                                                obtain ⟨y364, hy364⟩ : ∃ y_ : List Int, y_ = (t359.take ((t329.length : Int) : Int).toNat) := ⟨_, rfl⟩
                                                replace H : ((laws_pSameInts.f kj59 y364 t329).bind fun t368 => (some t368)) = some r := by first | (rw [hy364]; with_reducible exact H) | (have H2_ := (Option.bind_some _ _).symm.trans H; rw [hy364]; with_reducible exact H2_) | (have H2_ := (Option.bind_some _ _).symm.trans H; with_reducible exact H2_) | with_reducible exact H | (rw [hy364]; exact H) | exact H
                                                have Ny364 := Aside0.mk hy364
                                                clear hy364
                                                replace H := Option.bind_eq_some_iff.mp H
                                                obtain ⟨t368, A820, H⟩ := H
                                                replace H : (some t368) = some r := H
                                                have A82 := Aside0.mk A820
                                                clear A820
                                                obtain rfl := Option.some.inj H
                                                have p357 : 0 ≤ ((ji69) : Int) := of_decide_eq_true (by first | (with_reducible assumption) | assumption)
                                                have q357 : (ji69) < (t329.length : Int) := of_decide_eq_true (by first | (with_reducible assumption) | assumption)
                                                obtain ⟨ad357, e357, hx357_0⟩ := Kd.at_int (Kd.R_reads' HO_7.out).2.2 (ji69) p357 q357
                                                cases e357
                                                replace p357 := eq_true p357
                                                replace q357 := eq_true q357
                                                have p358 : 0 ≤ ((ji73) : Int) := of_decide_eq_true (by first | (with_reducible assumption) | assumption)
                                                have q358 : (ji73) < (t329.length : Int) := of_decide_eq_true (by first | (with_reducible assumption) | assumption)
                                                obtain ⟨ad358, e358, hx358_0⟩ := Kd.at_int (Kd.R_reads' HO_7.out).2.2 (ji73) p358 q358
                                                obtain rfl : ad357 = ad358 := (by injection e358)
                                                replace p358 := eq_true p358
                                                replace q358 := eq_true q358
                                                go_wp2_with (first | ((with_reducible refine gate_callee (f := 24) rfl ?_); refine goesL_ (some 143) rfl rfl Try.func24 (by kernel_rfl) rfl #[.slice (some ad357) t329.length co30, .int .i64 (wrap64 ((rd t329 (ji69)) + (rd t329 (ji73))))] rfl (by (try simp only [List.map_toArray, List.map_cons, List.map_nil]); first | done | (simp only [hji69, hji73]; rfl) | rfl | (simp only [List.length_drop, List.length_take]; rfl)) ?_; (with_reducible refine (impl_ExtendChain.calls kj59 _ _ t329 (wrap64 ((rd t329 (ji69)) + (rd t329 (ji73)))) t359 true _ ?side1 ?side2 A76.out).mono ?_); (case side1 => repeat (first | exact (Kd.R_reads' HO_7.out).2.2 | (with_reducible refine Kd.C_alloc ?_ _) | (with_reducible refine Kd.C_drewN ?_ _) | (with_reducible refine Kd.C_drew ?_))); (case side2 => exact (Kd.R_reads' HO_7.out).2.1); rintro e w83 ⟨v361, rfl, ho0, hb⟩; refine ⟨_, rfl, ?_⟩; have n0_ := Aside0.mk (Kd.R_elder' (by (with_reducible repeat (first | apply Kd.R_alloc | apply Kd.R_drewN | apply Kd.R_drew)); exact HO_7.out) (Kd.R_base ho0) hb); have n1_ := Aside0.mk (Kd.R_lower (Kd.R_new' ho0 (Kd.R_lt (by (with_reducible repeat (first | apply Kd.R_alloc | apply Kd.R_drewN | apply Kd.R_drew)); exact HO_7.out))) (below_size (by repeat (first | (with_reducible first | exact HB.out | apply below_alloc | apply pw_below_drewN | apply below_drew1) | exact HB.out)))); have n2_ := Aside0.mk (below_step (by repeat (first | (with_reducible first | exact HB.out | apply below_alloc | apply pw_below_drewN | apply below_drew1) | exact HB.out)) hb); clear HO_7; clear HB; have HO_7 := n0_; have HO362 := n1_; have HB := n2_; clear n0_ n1_ n2_; (try clear hb); (try clear ho0); obtain ⟨Ao84, co84, eo84⟩ := Kd.R_slice HO362.out; subst eo84) | (go_at_call 15; (with_reducible refine (impl_IsChain.calls kj59 _ _ t359 true _ ?side1 ?side2 A78.out).mono ?_); (case side1 => repeat (first | exact (Kd.R_reads' HO362.out).2.2 | (with_reducible refine Kd.C_alloc ?_ _) | (with_reducible refine Kd.C_drewN ?_ _) | (with_reducible refine Kd.C_drew ?_))); (case side2 => exact (Kd.R_reads' HO362.out).2.1); rintro e w85 ⟨rfl, hb⟩; have n0_ := Aside0.mk (Kd.R_below (by (with_reducible repeat (first | apply Kd.R_alloc | apply Kd.R_drewN | apply Kd.R_drew)); exact HO_7.out) hb); have n1_ := Aside0.mk (Kd.R_below (by (with_reducible repeat (first | apply Kd.R_alloc | apply Kd.R_drewN | apply Kd.R_drew)); exact HO362.out) hb); have n2_ := Aside0.mk (below_step (by repeat (first | (with_reducible first | exact HB.out | apply below_alloc | apply pw_below_drewN | apply below_drew1) | exact HB.out)) hb); clear HO_7; clear HO362; clear HB; have HO_7 := n0_; have HO362 := n1_; have HB := n2_; clear n0_ n1_ n2_; (try clear hb); have q86 : ((t329.length : Int) : Int) ≤ ((t359.length : Int) : Int) := of_decide_eq_true (by first | (with_reducible assumption) | assumption); obtain ⟨i086, hi086, _, hsz86, _⟩ := info_parts info3; have hroom86 : t359.length ≤ co84 := (Kd.R_reads' HO362.out).2.1; have hC86 : Kd.C (Kd.int .i64) _ Ao84 t359.length t359 := (Kd.R_reads' HO362.out).2.2; have hcut86 := cut_to (P := Try.prog) 24 3 .i64 Try.underlying24 hi086 Ao84 t359.length co84 (t329.length : Int) (of_decide_eq_true (by first | (with_reducible assumption) | assumption)) q86 hroom86; have hr86 := Kd.C_take (m := ((t329.length : Int) : Int).toNat) hC86 (by omega); have hy86 : y364.length = ((t329.length : Int) : Int).toNat := (by rw [Ny364.out, List.length_take]; omega); rw [← Ny364.out] at hr86; rw [← hy86] at hcut86; have HR367 := Aside0.mk hr86; have HC367 := Aside0.mk (show y364.length ≤ co84 from by omega); clear hr86 hC86 hroom86 hi086 hsz86; have KY86 := Aside0.mk hy86; clear hy86; have KL86 := Aside0.mk (show ((t329.length : Int) : Int).toNat ≤ t359.length from by omega); replace q86 := eq_true q86) | (go_at_call 10; (with_reducible refine (laws_pSameInts.calls kj59 _ _ y364 _ _ t329 t368 _ ?side1 ?side2 ?side3 ?side4 A82.out).mono ?_); (case side1 => repeat (first | exact (by repeat (first | (with_reducible exact HR367.out) | (with_reducible refine Kd.C_alloc ?_ _) | (with_reducible refine Kd.C_drewN ?_ _) | (with_reducible refine Kd.C_drew ?_) | exact HR367.out)) | (with_reducible refine Kd.C_alloc ?_ _) | (with_reducible refine Kd.C_drewN ?_ _) | (with_reducible refine Kd.C_drew ?_))); (case side2 => exact HC367.out); (case side3 => repeat (first | exact (Kd.R_reads' HO_7.out).2.2 | (with_reducible refine Kd.C_alloc ?_ _) | (with_reducible refine Kd.C_drewN ?_ _) | (with_reducible refine Kd.C_drew ?_))); (case side4 => exact (Kd.R_reads' HO_7.out).2.1); rintro e w' ⟨rfl, ⟨nd, rfl⟩⟩))
                                                go_ret
                                                exact ⟨by first | rfl | (simp [errW_none, errW_some] <;> rfl) | (simp only [← hji69, ← hji73]; first | rfl | (simp [errW_none, errW_some] <;> rfl)) | (simp [*, errW_none, errW_some] <;> rfl), by repeat (first | (with_reducible first | exact HB.out | apply below_alloc | apply pw_below_drewN | apply below_drew1) | exact HB.out)⟩
                                              · rw [if_neg c81] at H
                                                exact absurd H (by simp)
                                            · rw [if_neg c80] at H
                                              exact absurd H (by simp)
                                          · replace c79 := Bool.eq_false_iff.mpr c79
                                            subst c79
                                            have H1 : (some false) = some r := by rw [if_neg (show ¬ (false = true) by decide)] at H; exact H
                                            clear H
                                            have H := H1
                                            clear H1
                                            obtain rfl := Option.some.inj H
                                            have p357 : 0 ≤ ((ji69) : Int) := of_decide_eq_true (by first | (with_reducible assumption) | assumption)
                                            have q357 : (ji69) < (t329.length : Int) := of_decide_eq_true (by first | (with_reducible assumption) | assumption)
                                            obtain ⟨ad357, e357, hx357_0⟩ := Kd.at_int (Kd.R_reads' HO_7.out).2.2 (ji69) p357 q357
                                            cases e357
                                            replace p357 := eq_true p357
                                            replace q357 := eq_true q357
                                            have p358 : 0 ≤ ((ji73) : Int) := of_decide_eq_true (by first | (with_reducible assumption) | assumption)
                                            have q358 : (ji73) < (t329.length : Int) := of_decide_eq_true (by first | (with_reducible assumption) | assumption)
                                            obtain ⟨ad358, e358, hx358_0⟩ := Kd.at_int (Kd.R_reads' HO_7.out).2.2 (ji73) p358 q358
                                            obtain rfl : ad357 = ad358 := (by injection e358)
                                            replace p358 := eq_true p358
                                            replace q358 := eq_true q358
                                            go_wp2_with (first | ((with_reducible refine gate_callee (f := 24) rfl ?_); refine goesL_ (some 143) rfl rfl Try.func24 (by kernel_rfl) rfl #[.slice (some ad357) t329.length co30, .int .i64 (wrap64 ((rd t329 (ji69)) + (rd t329 (ji73))))] rfl (by (try simp only [List.map_toArray, List.map_cons, List.map_nil]); first | done | (simp only [hji69, hji73]; rfl) | rfl | (simp only [List.length_drop, List.length_take]; rfl)) ?_; (with_reducible refine (impl_ExtendChain.calls kj59 _ _ t329 (wrap64 ((rd t329 (ji69)) + (rd t329 (ji73)))) t359 true _ ?side1 ?side2 A76.out).mono ?_); (case side1 => repeat (first | exact (Kd.R_reads' HO_7.out).2.2 | (with_reducible refine Kd.C_alloc ?_ _) | (with_reducible refine Kd.C_drewN ?_ _) | (with_reducible refine Kd.C_drew ?_))); (case side2 => exact (Kd.R_reads' HO_7.out).2.1); rintro e w87 ⟨v361, rfl, ho0, hb⟩; refine ⟨_, rfl, ?_⟩; have n0_ := Aside0.mk (Kd.R_elder' (by (with_reducible repeat (first | apply Kd.R_alloc | apply Kd.R_drewN | apply Kd.R_drew)); exact HO_7.out) (Kd.R_base ho0) hb); have n1_ := Aside0.mk (Kd.R_lower (Kd.R_new' ho0 (Kd.R_lt (by (with_reducible repeat (first | apply Kd.R_alloc | apply Kd.R_drewN | apply Kd.R_drew)); exact HO_7.out))) (below_size (by repeat (first | (with_reducible first | exact HB.out | apply below_alloc | apply pw_below_drewN | apply below_drew1) | exact HB.out)))); have n2_ := Aside0.mk (below_step (by repeat (first | (with_reducible first | exact HB.out | apply below_alloc | apply pw_below_drewN | apply below_drew1) | exact HB.out)) hb); clear HO_7; clear HB; have HO_7 := n0_; have HO362 := n1_; have HB := n2_; clear n0_ n1_ n2_; (try clear hb); (try clear ho0); obtain ⟨Ao88, co88, eo88⟩ := Kd.R_slice HO362.out; subst eo88) | (go_at_call 15; (with_reducible refine (impl_IsChain.calls kj59 _ _ t359 false _ ?side1 ?side2 A78.out).mono ?_); (case side1 => repeat (first | exact (Kd.R_reads' HO362.out).2.2 | (with_reducible refine Kd.C_alloc ?_ _) | (with_reducible refine Kd.C_drewN ?_ _) | (with_reducible refine Kd.C_drew ?_))); (case side2 => exact (Kd.R_reads' HO362.out).2.1); rintro e w89 ⟨rfl, hb⟩; have n0_ := Aside0.mk (Kd.R_below (by (with_reducible repeat (first | apply Kd.R_alloc | apply Kd.R_drewN | apply Kd.R_drew)); exact HO_7.out) hb); have n1_ := Aside0.mk (Kd.R_below (by (with_reducible repeat (first | apply Kd.R_alloc | apply Kd.R_drewN | apply Kd.R_drew)); exact HO362.out) hb); have n2_ := Aside0.mk (below_step (by repeat (first | (with_reducible first | exact HB.out | apply below_alloc | apply pw_below_drewN | apply below_drew1) | exact HB.out)) hb); clear HO_7; clear HO362; clear HB; have HO_7 := n0_; have HO362 := n1_; have HB := n2_; clear n0_ n1_ n2_; (try clear hb)))
                                            go_ret
                                            exact ⟨by first | rfl | (simp [errW_none, errW_some] <;> rfl) | (simp only [← hji69, ← hji73]; first | rfl | (simp [errW_none, errW_some] <;> rfl)) | (simp [*, errW_none, errW_some] <;> rfl), by repeat (first | (with_reducible first | exact HB.out | apply below_alloc | apply pw_below_drewN | apply below_drew1) | exact HB.out)⟩
                                        · replace c77 := Bool.eq_false_iff.mpr c77
                                          subst c77
                                          have H1 : (some true) = some r := by rw [if_neg (show ¬ (false = true) by decide)] at H; exact H
                                          clear H
                                          have H := H1
                                          clear H1
                                          obtain rfl := Option.some.inj H
                                          have p357 : 0 ≤ ((ji69) : Int) := of_decide_eq_true (by first | (with_reducible assumption) | assumption)
                                          have q357 : (ji69) < (t329.length : Int) := of_decide_eq_true (by first | (with_reducible assumption) | assumption)
                                          obtain ⟨ad357, e357, hx357_0⟩ := Kd.at_int (Kd.R_reads' HO_7.out).2.2 (ji69) p357 q357
                                          cases e357
                                          replace p357 := eq_true p357
                                          replace q357 := eq_true q357
                                          have p358 : 0 ≤ ((ji73) : Int) := of_decide_eq_true (by first | (with_reducible assumption) | assumption)
                                          have q358 : (ji73) < (t329.length : Int) := of_decide_eq_true (by first | (with_reducible assumption) | assumption)
                                          obtain ⟨ad358, e358, hx358_0⟩ := Kd.at_int (Kd.R_reads' HO_7.out).2.2 (ji73) p358 q358
                                          obtain rfl : ad357 = ad358 := (by injection e358)
                                          replace p358 := eq_true p358
                                          replace q358 := eq_true q358
                                          go_wp2_with (first | ((with_reducible refine gate_callee (f := 24) rfl ?_); refine goesL_ (some 143) rfl rfl Try.func24 (by kernel_rfl) rfl #[.slice (some ad357) t329.length co30, .int .i64 (wrap64 ((rd t329 (ji69)) + (rd t329 (ji73))))] rfl (by (try simp only [List.map_toArray, List.map_cons, List.map_nil]); first | done | (simp only [hji69, hji73]; rfl) | rfl | (simp only [List.length_drop, List.length_take]; rfl)) ?_; (with_reducible refine (impl_ExtendChain.calls kj59 _ _ t329 (wrap64 ((rd t329 (ji69)) + (rd t329 (ji73)))) t359 false _ ?side1 ?side2 A76.out).mono ?_); (case side1 => repeat (first | exact (Kd.R_reads' HO_7.out).2.2 | (with_reducible refine Kd.C_alloc ?_ _) | (with_reducible refine Kd.C_drewN ?_ _) | (with_reducible refine Kd.C_drew ?_))); (case side2 => exact (Kd.R_reads' HO_7.out).2.1); rintro e w90 ⟨v361, rfl, ho0, hb⟩; refine ⟨_, rfl, ?_⟩; have n0_ := Aside0.mk (Kd.R_elder' (by (with_reducible repeat (first | apply Kd.R_alloc | apply Kd.R_drewN | apply Kd.R_drew)); exact HO_7.out) (Kd.R_base ho0) hb); have n1_ := Aside0.mk (Kd.R_lower (Kd.R_new' ho0 (Kd.R_lt (by (with_reducible repeat (first | apply Kd.R_alloc | apply Kd.R_drewN | apply Kd.R_drew)); exact HO_7.out))) (below_size (by repeat (first | (with_reducible first | exact HB.out | apply below_alloc | apply pw_below_drewN | apply below_drew1) | exact HB.out)))); have n2_ := Aside0.mk (below_step (by repeat (first | (with_reducible first | exact HB.out | apply below_alloc | apply pw_below_drewN | apply below_drew1) | exact HB.out)) hb); clear HO_7; clear HB; have HO_7 := n0_; have HO362 := n1_; have HB := n2_; clear n0_ n1_ n2_; (try clear hb); (try clear ho0)))
                                          go_ret
                                          exact ⟨by first | rfl | (simp [errW_none, errW_some] <;> rfl) | (simp only [← hji69, ← hji73]; first | rfl | (simp [errW_none, errW_some] <;> rfl)) | (simp [*, errW_none, errW_some] <;> rfl), by repeat (first | (with_reducible first | exact HB.out | apply below_alloc | apply pw_below_drewN | apply below_drew1) | exact HB.out)⟩
                                      · rw [if_neg c75] at H
                                        exact absurd H (by simp)
                                    · rw [if_neg c74] at H
                                      exact absurd H (by simp)
                                · rw [if_neg c71] at H
                                  exact absurd H (by simp)
                              · rw [if_neg c70] at H
                                exact absurd H (by simp)
                · replace c29 := Bool.eq_false_iff.mpr c29
                  subst c29
                  have H1 : (some true) = some r := by rw [if_neg (show ¬ (false = true) by decide)] at H; exact H
                  clear H
                  have H := H1
                  clear H1
                  obtain rfl := Option.some.inj H
                  go_wp2
                  go_ret
                  exact ⟨by first | rfl | (simp [errW_none, errW_some] <;> rfl) | (simp [*, errW_none, errW_some] <;> rfl), by repeat (first | (with_reducible first | exact HB.out | apply below_alloc | apply pw_below_drewN | apply below_drew1) | exact HB.out)⟩

/-- THE ONE PURE STATEMENT of laws_FnChainsTogether: yours. -/
def laws_FnChainsTogether.Pure : Prop := ∀ (l0 : List Int) (l1 : List Int), l0.length ≤ maxLen → l0.length * 1 ≤ 140737488351232 → (∀ x ∈ l0, (Lit.int .u8 x).wf = true) → l1.length ≤ maxLen → l1.length * 1 ≤ 140737488351232 → (∀ x ∈ l1, (Lit.int .u8 x).wf = true) → ∃ k, laws_FnChainsTogether.f k l0 l1 = some true
theorem laws_FnChainsTogether.walk (P : laws_FnChainsTogether.Pure) (a0 : Option Addr) (len0 cap0 : Nat) (z0 : List Int) (a1 : Option Addr) (len1 cap1 : Nat) (z1 : List Int) (w : World) (w0 : (a0 = none ∧ len0 = 0 ∧ cap0 = 0 ∧ z0 = []) ∨ ∃ x, a0 = some x ∧ len0 ≤ cap0 ∧ cap0 ≤ maxLen ∧ z0.length = cap0 ∧ (∀ i, i < z0.length → w.cell? (x.add i) = some (.int .u8 (z0.getD i 0))) ∧ ∀ n ∈ z0, (Lit.int .u8 n).wf = true) (y0 : len0 * 1 ≤ 140737488351232) (w1 : (a1 = none ∧ len1 = 0 ∧ cap1 = 0 ∧ z1 = []) ∨ ∃ x, a1 = some x ∧ len1 ≤ cap1 ∧ cap1 ≤ maxLen ∧ z1.length = cap1 ∧ (∀ i, i < z1.length → w.cell? (x.add i) = some (.int .u8 (z1.getD i 0))) ∧ ∀ n ∈ z1, (Lit.int .u8 n).wf = true) (y1 : len1 * 1 ≤ 140737488351232) :
    Calls Try.prog 4 #[.slice a0 len0 cap0, .slice a1 len1 cap1] w fun e w' => e = .returned (.bool true) ∧ Below w.heap.size w w' := by
  obtain ⟨l0, rfl, hr0, hm0, hw0, hc0⟩ := ReadsInt.ofRowC w0
  obtain ⟨l1, rfl, hr1, hm1, hw1, hc1⟩ := ReadsInt.ofRowC w1
  obtain ⟨k, h⟩ := P l0 l1 hm0 y0 hw0 hm1 y1 hw1
  refine (laws_FnChainsTogether.calls k _ _ l0 _ _ l1 true w (Kd.C_of_reads (d := (0 : Int)) (h1 := fun _ => rfl) hr0) hc0 (Kd.C_of_reads (d := (0 : Int)) (h1 := fun _ => rfl) hr1) hc1 h).mono ?_
  rintro e w' ⟨rfl, hd⟩
  exact ⟨rfl, hd⟩

end Go.Proofs.Ytlefjgpkabijdaa.MFnChainsTogether
