import Derived.Test.YtlefjgpkabijdaaMFnNeededPartsx0
import Derived.Test.YtlefjgpkabijdaaMFnNeededPartsx1
import Derived.Test.YtlefjgpkabijdaaMFnNeededPartsx2
import Derived.Test.YtlefjgpkabijdaaMFnNeededPartsx3
import Derived.Test.YtlefjgpkabijdaaMFnNeededPartsx4
import Derived.Test.YtlefjgpkabijdaaMFnNeededPartsx6
import Derived.Test.YtlefjgpkabijdaaMFnNeededPartsx8
import Derived.Test.YtlefjgpkabijdaaMFnNeededPartsx11
import Derived.Test.YtlefjgpkabijdaaMFnNeededPartsx12
namespace Go.Proofs.Ytlefjgpkabijdaa.MFnNeededParts
open Go.RowKit Go.Proofs.YtlefjgpkabijdaaW.PrintWords Go.Proofs.YtlefjgpkabijdaaW.PrintLast Go.Proofs.YtlefjgpkabijdaaW.PrintMore Go.Proofs.YtlefjgpkabijdaaV Go.Proofs.YtlefjgpkabijdaaZ
attribute [local go_sem] max2_int min2_int max_two min_two max_three min_three max_four min_four   -- for this text's walks alone
set_option linter.unusedVariables false
set_option linter.unusedSimpArgs false
/-! ### laws_FnNeededParts: function 3 -/
mutual
def laws_FnNeededParts.j0 : Nat → List Int → List Int → List Int → Bool → Bool → Option (Bool)
 | 0,_,_,_,_,_=>none
 | k + 1,x1,x5,x6,x9,x47=>if x47 = true then (some false) else (if x9 = true then (laws_FnNeededParts.l0 k x1 x5 x6 x6 (x6.length : Int) 0) else (some true))
def laws_FnNeededParts.l0 : Nat → List Int → List Int → List Int → List Int → Int → Int → Option (Bool)
 | 0,_,_,_,_,_,_=>none
 | k + 1,x1,x5,x6,x50,x51,x52=>if x52 < x51 then (if 0 ≤ x52 then (if x52 < (x50.length : Int) then ((laws_pHas.f k x5 (rd x50 x52)).bind fun t484=>(if t484 = true then (laws_FnNeededParts.l0 k x1 x5 x6 x50 x51 (wrap64 (x52 + 1))) else (some false))) else (none)) else (none)) else ((impl_ChainPlan.f k x5).bind fun bt485=>((impl_TrimPlan.f k bt485.1 bt485.2.1 bt485.2.2.1).bind fun bt494=>((impl_ChainOfPlan.f k bt494.1 bt494.2.1 bt494.2.2.1).bind fun bt503=>(if bt485.2.2.2 = true then (if bt494.2.2.2 = true then (if bt503.2 = true then ((laws_pSameInts.f k bt503.1 x6).bind fun t507=>(if t507 = true then ((impl_IsChain.f k x6).bind fun t508=>(if t508 = true then (if 0 ≤ (wrap64 ((x6.length : Int) - 1)) then (if (wrap64 ((x6.length : Int) - 1)) < (x6.length : Int) then (if 0 ≤ (wrap64 ((x5.length : Int) - 1)) then (if (wrap64 ((x5.length : Int) - 1)) < (x5.length : Int) then (laws_FnNeededParts.j2 k x1 ((rd x6 (wrap64 ((x6.length : Int) - 1))) != (rd x5 (wrap64 ((x5.length : Int) - 1))))) else (none)) else (none)) else (none)) else (none)) else (laws_FnNeededParts.j2 k x1 true))) else (laws_FnNeededParts.j2 k x1 true))) else (laws_FnNeededParts.j2 k x1 true)) else (laws_FnNeededParts.j2 k x1 true)) else (laws_FnNeededParts.j2 k x1 true)))))
def laws_FnNeededParts.j2 : Nat → List Int → Bool → Option (Bool)
 | 0,_,_=>none
 | k + 1,x1,x111=>if x111 = true then (some false) else ((spec_DrawInsertNumber.f k x1).bind fun bt511=>((impl_InsertNumber.f k bt511.1 bt511.2).bind fun bt515=>((spec_InsertNumber.f k bt511.1 bt511.2).bind fun bt519=>(if (bt515.2 == bt519.2) = true then ((laws_pSameInts.f k bt515.1 bt519.1).bind fun t523=>(if t523 = true then (if bt515.2 = true then (if (bt515.1.length : Int) = (wrap64 ((bt511.1.length : Int) + 1)) then ((laws_pHas.f k bt515.1 bt511.2).bind fun t524=>(some t524)) else (some false)) else (some true)) else (some false))) else (some false)))))
end
def laws_FnNeededParts.f (k : Nat) (l0 : List Int) (l1 : List Int) : Option (Bool):=(laws_big.f l0 l1).bind fun t470=>(if t470 = true then (some true) else ((spec_DrawNeededPart.f k l0).bind fun t471=>((impl_NeededPart.f k t471).bind fun bt474=>((spec_NeededPart.f k t471).bind fun bt478=>(if (bt474.2 != bt478.2) = true then (laws_FnNeededParts.j0 k l1 t471 bt474.1 bt478.2 true) else ((laws_pSameInts.f k bt474.1 bt478.1).bind fun t482=>(laws_FnNeededParts.j0 k l1 t471 bt474.1 bt478.2 (!t482))))))))
theorem laws_FnNeededParts.mono_l : ∀ k,(∀ y0 y1 y2 y3 y4,LeO (laws_FnNeededParts.j0 k y0 y1 y2 y3 y4) (laws_FnNeededParts.j0 (k + 1) y0 y1 y2 y3 y4)) ∧ (∀ y0 y1 y2 y3 y4 y5,LeO (laws_FnNeededParts.l0 k y0 y1 y2 y3 y4 y5) (laws_FnNeededParts.l0 (k + 1) y0 y1 y2 y3 y4 y5)) ∧ (∀ y0 y1,LeO (laws_FnNeededParts.j2 k y0 y1) (laws_FnNeededParts.j2 (k + 1) y0 y1))
 | 0=>⟨fun _ _ _ _ _ r h=>by simp [laws_FnNeededParts.j0] at h,fun _ _ _ _ _ _ r h=>by simp [laws_FnNeededParts.l0] at h,fun _ _ r h=>by simp [laws_FnNeededParts.j2] at h⟩
 | k + 1=>by
  obtain ⟨ih0,ih1,ih2⟩:=laws_FnNeededParts.mono_l k
  refine ⟨?_,?_,?_⟩
  ·intro y0 y1 y2 y3 y4
   unfold laws_FnNeededParts.j0
   repeat' first
   | (with_reducible exact ih0 _ _ _ _ _)
   | (with_reducible exact ih1 _ _ _ _ _ _)
   | (with_reducible exact ih2 _ _)
   | (with_reducible exact impl_ChainOfPlan.mono _ _ _ _)
   | (with_reducible exact impl_ChainPlan.mono _ _)
   | (with_reducible exact impl_InsertNumber.mono _ _ _)
   | (with_reducible exact impl_IsChain.mono _ _)
   | (with_reducible exact impl_NeededPart.mono _ _)
   | (with_reducible exact impl_TrimPlan.mono _ _ _ _)
   | (with_reducible exact laws_pHas.mono _ _ _)
   | (with_reducible exact laws_pSameInts.mono _ _ _)
   | (with_reducible exact spec_DrawInsertNumber.mono _ _)
   | (with_reducible exact spec_DrawNeededPart.mono _ _)
   | (with_reducible exact spec_InsertNumber.mono _ _ _)
   | (with_reducible exact spec_NeededPart.mono _ _)
   | (with_reducible exact LeO.refl _)
   | (with_reducible exact LeO.none _)
   | (with_reducible refine LeO.ite ?_ ?_)
   | (with_reducible refine LeO.bind ?_ (fun _=>?_))
   | exact ih0 _ _ _ _ _
   | exact ih1 _ _ _ _ _ _
   | exact ih2 _ _
   | exact impl_ChainOfPlan.mono _ _ _ _
   | exact impl_ChainPlan.mono _ _
   | exact impl_InsertNumber.mono _ _ _
   | exact impl_IsChain.mono _ _
   | exact impl_NeededPart.mono _ _
   | exact impl_TrimPlan.mono _ _ _ _
   | exact laws_pHas.mono _ _ _
   | exact laws_pSameInts.mono _ _ _
   | exact spec_DrawInsertNumber.mono _ _
   | exact spec_DrawNeededPart.mono _ _
   | exact spec_InsertNumber.mono _ _ _
   | exact spec_NeededPart.mono _ _
   | exact LeO.none _
   | refine LeO.ite ?_ ?_
   | refine LeO.bind ?_ (fun _=>?_)
  ·intro y0 y1 y2 y3 y4 y5
   unfold laws_FnNeededParts.l0
   repeat' first
   | (with_reducible exact ih0 _ _ _ _ _)
   | (with_reducible exact ih1 _ _ _ _ _ _)
   | (with_reducible exact ih2 _ _)
   | (with_reducible exact impl_ChainOfPlan.mono _ _ _ _)
   | (with_reducible exact impl_ChainPlan.mono _ _)
   | (with_reducible exact impl_InsertNumber.mono _ _ _)
   | (with_reducible exact impl_IsChain.mono _ _)
   | (with_reducible exact impl_NeededPart.mono _ _)
   | (with_reducible exact impl_TrimPlan.mono _ _ _ _)
   | (with_reducible exact laws_pHas.mono _ _ _)
   | (with_reducible exact laws_pSameInts.mono _ _ _)
   | (with_reducible exact spec_DrawInsertNumber.mono _ _)
   | (with_reducible exact spec_DrawNeededPart.mono _ _)
   | (with_reducible exact spec_InsertNumber.mono _ _ _)
   | (with_reducible exact spec_NeededPart.mono _ _)
   | (with_reducible exact LeO.refl _)
   | (with_reducible exact LeO.none _)
   | (with_reducible refine LeO.ite ?_ ?_)
   | (with_reducible refine LeO.bind ?_ (fun _=>?_))
   | exact ih0 _ _ _ _ _
   | exact ih1 _ _ _ _ _ _
   | exact ih2 _ _
   | exact impl_ChainOfPlan.mono _ _ _ _
   | exact impl_ChainPlan.mono _ _
   | exact impl_InsertNumber.mono _ _ _
   | exact impl_IsChain.mono _ _
   | exact impl_NeededPart.mono _ _
   | exact impl_TrimPlan.mono _ _ _ _
   | exact laws_pHas.mono _ _ _
   | exact laws_pSameInts.mono _ _ _
   | exact spec_DrawInsertNumber.mono _ _
   | exact spec_DrawNeededPart.mono _ _
   | exact spec_InsertNumber.mono _ _ _
   | exact spec_NeededPart.mono _ _
   | exact LeO.none _
   | refine LeO.ite ?_ ?_
   | refine LeO.bind ?_ (fun _=>?_)
  ·intro y0 y1
   unfold laws_FnNeededParts.j2
   repeat' first
   | (with_reducible exact ih0 _ _ _ _ _)
   | (with_reducible exact ih1 _ _ _ _ _ _)
   | (with_reducible exact ih2 _ _)
   | (with_reducible exact impl_ChainOfPlan.mono _ _ _ _)
   | (with_reducible exact impl_ChainPlan.mono _ _)
   | (with_reducible exact impl_InsertNumber.mono _ _ _)
   | (with_reducible exact impl_IsChain.mono _ _)
   | (with_reducible exact impl_NeededPart.mono _ _)
   | (with_reducible exact impl_TrimPlan.mono _ _ _ _)
   | (with_reducible exact laws_pHas.mono _ _ _)
   | (with_reducible exact laws_pSameInts.mono _ _ _)
   | (with_reducible exact spec_DrawInsertNumber.mono _ _)
   | (with_reducible exact spec_DrawNeededPart.mono _ _)
   | (with_reducible exact spec_InsertNumber.mono _ _ _)
   | (with_reducible exact spec_NeededPart.mono _ _)
   | (with_reducible exact LeO.refl _)
   | (with_reducible exact LeO.none _)
   | (with_reducible refine LeO.ite ?_ ?_)
   | (with_reducible refine LeO.bind ?_ (fun _=>?_))
   | exact ih0 _ _ _ _ _
   | exact ih1 _ _ _ _ _ _
   | exact ih2 _ _
   | exact impl_ChainOfPlan.mono _ _ _ _
   | exact impl_ChainPlan.mono _ _
   | exact impl_InsertNumber.mono _ _ _
   | exact impl_IsChain.mono _ _
   | exact impl_NeededPart.mono _ _
   | exact impl_TrimPlan.mono _ _ _ _
   | exact laws_pHas.mono _ _ _
   | exact laws_pSameInts.mono _ _ _
   | exact spec_DrawInsertNumber.mono _ _
   | exact spec_DrawNeededPart.mono _ _
   | exact spec_InsertNumber.mono _ _ _
   | exact spec_NeededPart.mono _ _
   | exact LeO.none _
   | refine LeO.ite ?_ ?_
   | refine LeO.bind ?_ (fun _=>?_)
theorem laws_FnNeededParts.mono : ∀ a0 a1 k,LeO (laws_FnNeededParts.f k a0 a1) (laws_FnNeededParts.f (k + 1) a0 a1):=by
 intro a0 a1 k
 obtain ⟨ih0,ih1,ih2⟩:=laws_FnNeededParts.mono_l k
 unfold laws_FnNeededParts.f
 repeat' first
   | (with_reducible exact ih0 _ _ _ _ _)
   | (with_reducible exact ih1 _ _ _ _ _ _)
   | (with_reducible exact ih2 _ _)
   | (with_reducible exact impl_ChainOfPlan.mono _ _ _ _)
   | (with_reducible exact impl_ChainPlan.mono _ _)
   | (with_reducible exact impl_InsertNumber.mono _ _ _)
   | (with_reducible exact impl_IsChain.mono _ _)
   | (with_reducible exact impl_NeededPart.mono _ _)
   | (with_reducible exact impl_TrimPlan.mono _ _ _ _)
   | (with_reducible exact laws_pHas.mono _ _ _)
   | (with_reducible exact laws_pSameInts.mono _ _ _)
   | (with_reducible exact spec_DrawInsertNumber.mono _ _)
   | (with_reducible exact spec_DrawNeededPart.mono _ _)
   | (with_reducible exact spec_InsertNumber.mono _ _ _)
   | (with_reducible exact spec_NeededPart.mono _ _)
   | (with_reducible exact LeO.refl _)
   | (with_reducible exact LeO.none _)
   | (with_reducible refine LeO.ite ?_ ?_)
   | (with_reducible refine LeO.bind ?_ (fun _=>?_))
   | exact ih0 _ _ _ _ _
   | exact ih1 _ _ _ _ _ _
   | exact ih2 _ _
   | exact impl_ChainOfPlan.mono _ _ _ _
   | exact impl_ChainPlan.mono _ _
   | exact impl_InsertNumber.mono _ _ _
   | exact impl_IsChain.mono _ _
   | exact impl_NeededPart.mono _ _
   | exact impl_TrimPlan.mono _ _ _ _
   | exact laws_pHas.mono _ _ _
   | exact laws_pSameInts.mono _ _ _
   | exact spec_DrawInsertNumber.mono _ _
   | exact spec_DrawNeededPart.mono _ _
   | exact spec_InsertNumber.mono _ _ _
   | exact spec_NeededPart.mono _ _
   | exact LeO.none _
   | refine LeO.ite ?_ ?_
   | refine LeO.bind ?_ (fun _=>?_)
def laws_FnNeededParts.T19 : Bool × List (List Nat × List Nat):=(true,[([],[]),([0],[0]),([1],[1]),([2],[2]),([3,2],[2,3]),([2,4],[2,4]),([5,2],[5]),([6],[6]),([7,6],[6,7]),([6,8],[6,8]),([9,6],[9]),([10],[10]),([10],[10]),([11,12,10,10],[10,11,12]),([13,10],[10,13]),([10,14],[10,14]),([15,13],[15]),([16],[16]),([17,16,16],[16,17]),([18,16],[16,18]),([16,19],[16,19]),([20,18],[20]),([21],[21]),([21],[21]),([23,21],[21,23]),([24,21],[21,24]),([22,25,21],[21,22,25]),([26,21],[21,26]),([21],[21]),([21],[21]),([29,21],[21,29]),([30,21],[21,30]),([28,31,21],[21,28,31]),([32,21],[21,32]),([27,33,21],[21,27,33]),([21,34],[21,34])])
def laws_FnNeededParts.B19 : List Nat:=[0,1,3,7,15,31,63,127,255,511,1023,2047,2047,8191,16383,32767,65535,131071,262143,524287,1048575,2097151,4194303,4194303,12582911,29360127,67108863,134217727,4194303,4194303,541065215,1614807039,4030726143,8325693439,17179869183,34359738367]
theorem laws_FnNeededParts.tab19 : rtab .any (opsOf Try.f3 19) = laws_FnNeededParts.T19:=by kernel_rfl
theorem laws_FnNeededParts.bits19 : waitsOk laws_FnNeededParts.T19.2 laws_FnNeededParts.B19 = true:=by kernel_rfl
set_option maxHeartbeats 8000000 in
set_option maxRecDepth 100000 in
theorem laws_FnNeededParts.calls (k : Nat) (A0 : Option Addr) (c0 : Nat) (l0 : List Int) (A1 : Option Addr) (c1 : Nat) (l1 : List Int) (r : Bool) (w : World) (hr0 : Kd.C (Kd.int .u8) w A0 l0.length l0) (hc0 : l0.length ≤ c0) (hr1 : Kd.C (Kd.int .u8) w A1 l1.length l1) (hc1 : l1.length ≤ c1) (h : laws_FnNeededParts.f k l0 l1 = some r) :
  Calls Try.prog 3 #[.slice A0 l0.length c0,.slice A1 l1.length c1] w fun e w'=>e = .returned (.bool r) ∧ Below w.heap.size w w':=by
 have hu32:=Try.underlying32
 have HR0:=Aside0.mk hr0
 have HC0:=Aside0.mk hc0
 clear hr0 hc0
 have HR1:=Aside0.mk hr1
 have HC1:=Aside0.mk hc1
 clear hr1 hc1
 have HB:=Aside0.mk (Below.refl w.heap.size w)
 have H : ((laws_big.f l0 l1).bind fun t470=>(if t470 = true then (some true) else ((spec_DrawNeededPart.f k l0).bind fun t471=>((impl_NeededPart.f k t471).bind fun bt474=>((spec_NeededPart.f k t471).bind fun bt478=>(if (bt474.2 != bt478.2) = true then (laws_FnNeededParts.j0 k l1 t471 bt474.1 bt478.2 true) else ((laws_pSameInts.f k bt474.1 bt478.1).bind fun t482=>(laws_FnNeededParts.j0 k l1 t471 bt474.1 bt478.2 (!t482))))))))) = some r:=h
 clear h
 obtain ⟨t470,A3,H⟩:=bd H
 by_cases c4 : t470 = true
 ·subst c4
  rw [if_pos rfl] at H
  obtain rfl:=Option.some.inj H
  go_enter Try.func3,Try.ntmps3
  go_wp2_with (first|((with_reducible refine gate_callee (f:=6) rfl ?_);refine goesL_ (some 26) rfl rfl Try.func6 (by kernel_rfl) rfl #[.slice A0 l0.length c0,.slice A1 l1.length c1] rfl mz ?_;(with_reducible refine (laws_big.calls _ _ l0 _ _ l1 true _ ?side1 ?side2 ?side3 ?side4 A3.out).mono ?_);(case side1=>exact cz HR0.out);(case side2=>exact HC0.out);(case side3=>exact cz HR1.out);(case side4=>exact HC1.out);rintro e w' ⟨rfl,⟨nd,rfl⟩⟩;refine ⟨_,rfl,?_⟩))
  go_ret
  exact ⟨by first|rfl|(simp [errW_none,errW_some] <;> rfl)|(simp [*,errW_none,errW_some] <;> rfl),by repeat (first|(with_reducible first|exact HB.out|apply below_alloc|apply pw_below_drewN|apply below_drew1)|exact HB.out)⟩
 ·replace c4:=Bool.eq_false_iff.mpr c4
  subst c4
  rw [if_neg (show ¬ (false = true) by decide)] at H
  obtain ⟨t471,A5,H⟩:=bd H
  replace H:=Option.bind_eq_some_iff.mp H
  obtain ⟨⟨t474,t475⟩,A60,H⟩:=H
  replace H : ((spec_NeededPart.f k t471).bind fun bt478=>(if (t475 != bt478.2) = true then (laws_FnNeededParts.j0 k l1 t471 t474 bt478.2 true) else ((laws_pSameInts.f k t474 bt478.1).bind fun t482=>(laws_FnNeededParts.j0 k l1 t471 t474 bt478.2 (!t482))))) = some r:=H
  have A6:=Aside0.mk A60
  clear A60
  replace H:=Option.bind_eq_some_iff.mp H
  obtain ⟨⟨t478,t479⟩,A70,H⟩:=H
  replace H : (if (t475 != t479) = true then (laws_FnNeededParts.j0 k l1 t471 t474 t479 true) else ((laws_pSameInts.f k t474 t478).bind fun t482=>(laws_FnNeededParts.j0 k l1 t471 t474 t479 (!t482)))) = some r:=H
  have A7:=Aside0.mk A70
  clear A70
  have HC8:=Aside0.mk H
  clear H
  go_enter Try.func3,Try.ntmps3
  go_upto_region 6 with (first|((with_reducible refine gate_callee (f:=6) rfl ?_);refine goesL_ (some 26) rfl rfl Try.func6 (by kernel_rfl) rfl #[.slice A0 l0.length c0,.slice A1 l1.length c1] rfl mz ?_;(with_reducible refine (laws_big.calls _ _ l0 _ _ l1 false _ ?side1 ?side2 ?side3 ?side4 A3.out).mono ?_);(case side1=>exact cz HR0.out);(case side2=>exact HC0.out);(case side3=>exact cz HR1.out);(case side4=>exact HC1.out);rintro e w' ⟨rfl,⟨nd,rfl⟩⟩;refine ⟨_,rfl,?_⟩)|((with_reducible refine gate_callee (f:=7) rfl ?_);refine goesL_ (some 28) rfl rfl Try.func7 (by kernel_rfl) rfl #[.slice A0 l0.length c0] rfl mz ?_;(with_reducible refine (spec_DrawNeededPart.calls k _ _ l0 t471 _ ?side1 ?side2 A5.out).mono ?_);(case side1=>exact cz HR0.out);(case side2=>exact HC0.out);rintro e w9 ⟨v472,rfl,ho0,hb⟩;refine ⟨_,rfl,?_⟩;have n0_:=Aside0.mk (Kd.R_lower ho0 (below_size bz));have n1_:=Aside0.mk (below_step bz hb);clear HB;have HO473:=n0_;have HB:=n1_;clear n0_ n1_;(try clear hb);(try clear ho0);obtain ⟨Ao10,co10,eo10⟩:=Kd.R_slice HO473.out;subst eo10)|((with_reducible refine gate_callee (f:=8) rfl ?_);refine goesL_ (some 31) rfl rfl Try.func8 (by kernel_rfl) rfl #[.slice Ao10 t471.length co10] rfl mz ?_;(with_reducible refine (impl_NeededPart.calls k _ _ t471 t474 t475 _ ?side1 ?side2 A6.out).mono ?_);(case side1=>exact cz (Kd.R_reads' HO473.out).2.2);(case side2=>exact (Kd.R_reads' HO473.out).2.1);rintro e w11 ⟨v476,rfl,ho0,hb⟩;refine ⟨_,rfl,?_⟩;have n0_:=Aside0.mk (Kd.R_elder' (rz HO473.out) (Kd.R_base ho0) hb);have n1_:=Aside0.mk (Kd.R_lower (Kd.R_new' ho0 (Kd.R_lt (rz HO473.out))) (below_size bz));have n2_:=Aside0.mk (below_step bz hb);clear HO473 HB;have HO473:=n0_;have HO477:=n1_;have HB:=n2_;clear n0_ n1_ n2_;(try clear hb);(try clear ho0))|((with_reducible refine gate_callee (f:=9) rfl ?_);refine goesL_ (some 36) rfl rfl Try.func9 (by kernel_rfl) rfl #[.slice Ao10 t471.length co10] rfl mz ?_;(with_reducible refine (spec_NeededPart.calls k _ _ t471 t478 t479 _ ?side1 ?side2 A7.out).mono ?_);(case side1=>exact cz (Kd.R_reads' HO473.out).2.2);(case side2=>exact (Kd.R_reads' HO473.out).2.1);rintro e w12 ⟨v480,rfl,ho0,hb⟩;refine ⟨_,rfl,?_⟩;have n0_:=Aside0.mk (Kd.R_elder' (rz HO473.out) (Kd.R_base ho0) hb);have n1_:=Aside0.mk (Kd.R_elder' (rz HO477.out) (Kd.R_base ho0) hb);have n2_:=Aside0.mk (Kd.R_lower (Kd.R_new' (Kd.R_new' ho0 (Kd.R_lt (rz HO473.out))) (Kd.R_lt (rz HO477.out))) (below_size bz));have n3_:=Aside0.mk (below_step bz hb);clear HO473 HO477 HB;have HO473:=n0_;have HO477:=n1_;have HO481:=n2_;have HB:=n3_;clear n0_ n1_ n2_ n3_;(try clear hb);(try clear ho0)))
  (try simp only [Act.put,xa,xb,xc])
  go_cut [47] (fun v47 wc=>∃ (kq : Nat) (x47_7 : Bool),v47 = .bool x47_7 ∧ Aside0 (laws_FnNeededParts.j0 kq l1 t471 t474 t479 x47_7 = some r) ∧ Aside0 (kq ≤ k) ∧ Aside0 (Kd.R (Kd.int .i64) 3 wc w.heap.size (fun k_=>some k_ ≠ (v476 : Value).ownBlock) (.slice Ao10 t471.length co10) t471) ∧ Aside0 (Kd.R (Kd.int .i64) 3 wc w.heap.size (fun k_=>some k_ ≠ ((.slice Ao10 t471.length co10) : Value).ownBlock) v476 t474) ∧ Aside0 (Below w.heap.size w wc))
  case first=>
   have H:=HC8.out
   clear HC8
   by_cases c13 : (t475 != t479) = true
   ·rw [if_pos c13] at H
    have c13b0 : (t475 != t479) = true:=c13
    (try (have c13b1 : decide (t475 = t479) = false:=by simpa using c13))
    (try (have c13b2 : (t475 == t479) = false:=by simpa using c13))
    (try (have c13b3 : ¬ (t475 = t479):=by simpa using c13))
    clear c13
    (first|rw [c13b0]|(simp only [i64_w,i32_w];rw [c13b0])|skip)
    have H':=Aside0.mk H
    clear H
    go_wp2
    go_meet
    case rel=>exact ⟨_,(true),fz,H',⟨by first|omega|exact Nat.le_refl _⟩,⟨by (with_reducible repeat (first|apply Kd.R_alloc|apply Kd.R_drewN|apply Kd.R_drew));exact Kd.R_mono HO473.out (fun _ hk=>hk.1.2)⟩,⟨by (with_reducible repeat (first|apply Kd.R_alloc|apply Kd.R_drewN|apply Kd.R_drew));exact Kd.R_mono HO477.out (fun _ hk=>hk.1.2)⟩,⟨by repeat (first|(with_reducible first|exact HB.out|apply below_alloc|apply pw_below_drewN|apply below_drew1)|exact HB.out)⟩⟩
   ·rw [if_neg c13] at H
    have c13b0 : (t475 != t479) = false:=by simpa using c13
    (try (have c13b1 : decide (t475 = t479) = true:=by simpa using c13))
    (try (have c13b2 : (t475 == t479) = true:=by simpa using c13))
    clear c13
    (first|rw [c13b0]|(simp only [i64_w,i32_w];rw [c13b0])|skip)
    obtain ⟨t482,A14,H⟩:=bd H
    have H':=Aside0.mk H
    clear H
    obtain ⟨Ao15,co15,eo15⟩:=Kd.R_slice HO477.out
    subst eo15
    obtain ⟨Ao16,co16,eo16⟩:=Kd.R_slice HO481.out
    subst eo16
    go_wp2_with (first|(go_at_call 10;(with_reducible refine (laws_pSameInts.calls k _ _ t474 _ _ t478 t482 _ ?side1 ?side2 ?side3 ?side4 A14.out).mono ?_);(case side1=>exact cz (Kd.R_reads' HO477.out).2.2);(case side2=>exact (Kd.R_reads' HO477.out).2.1);(case side3=>exact cz (Kd.R_reads' HO481.out).2.2);(case side4=>exact (Kd.R_reads' HO481.out).2.1);rintro e w' ⟨rfl,⟨nd,rfl⟩⟩))
    go_meet
    case rel=>exact ⟨_,(!t482),fz,H',⟨by first|omega|exact Nat.le_refl _⟩,⟨by (with_reducible repeat (first|apply Kd.R_alloc|apply Kd.R_drewN|apply Kd.R_drew));exact Kd.R_mono HO473.out (fun _ hk=>hk.1.2)⟩,⟨by (with_reducible repeat (first|apply Kd.R_alloc|apply Kd.R_drewN|apply Kd.R_drew));exact Kd.R_mono HO477.out (fun _ hk=>hk.1.2)⟩,⟨by repeat (first|(with_reducible first|exact HB.out|apply below_alloc|apply pw_below_drewN|apply below_drew1)|exact HB.out)⟩⟩
  case rest=>
   clear HC8
   try clear c1
   try clear p2
   try clear c3
   try clear c4
   try clear c6
   try clear c7
   try clear c8
   try clear c9
   try clear c13
   try clear c13b0
   try clear c13b1
   try clear c13b2
   obtain ⟨kq,x47_7,rfl,HA,HJ7,HO_5,HO_6,HB⟩:=hcut
   cases kq with
   | zero=>exact absurd HA.out (by simp [laws_FnNeededParts.j0])
   | succ kj7=>
    have H:=HA.out
    clear HA
    simp only [laws_FnNeededParts.j0] at H
    by_cases c17 : x47_7 = true
    ·subst c17
     rw [if_pos rfl] at H
     obtain rfl:=Option.some.inj H
     go_wp2
     go_ret
     exact ⟨by first|rfl|(simp [errW_none,errW_some] <;> rfl)|(simp [*,errW_none,errW_some] <;> rfl),by repeat (first|(with_reducible first|exact HB.out|apply below_alloc|apply pw_below_drewN|apply below_drew1)|exact HB.out)⟩
    ·replace c17:=Bool.eq_false_iff.mpr c17
     subst c17
     rw [if_neg (show ¬ (false = true) by decide)] at H
     by_cases c18 : t479 = true
     ·subst c18
      rw [if_pos rfl] at H
      have H':=Aside0.mk H
      clear H
      obtain ⟨Ao19,co19,eo19⟩:=Kd.R_slice HO_6.out
      subst eo19
      go_wp2
      go_loopg [52] kj7 (fun kq v52 w'=>∃ (x52_2 : Int),v52 = .int .i64 x52_2 ∧ Aside0 (laws_FnNeededParts.l0 kq l1 t471 t474 t474 (t474.length : Int) x52_2 = some r) ∧ Aside0 (kq ≤ kj7) ∧ Aside0 (Kd.R (Kd.int .i64) 3 w' w.heap.size (fun k_=>some k_ ≠ ((.slice Ao19 t474.length co19) : Value).ownBlock ∧ some k_ ≠ ((.slice Ao19 t474.length co19) : Value).ownBlock) (.slice Ao10 t471.length co10) t471) ∧ Aside0 (Kd.R (Kd.int .i64) 3 w' w.heap.size (fun k_=>some k_ ≠ ((.slice Ao10 t471.length co10) : Value).ownBlock) (.slice Ao19 t474.length co19) t474) ∧ Aside0 (Kd.R (Kd.int .i64) 3 w' w.heap.size (fun k_=>some k_ ≠ ((.slice Ao10 t471.length co10) : Value).ownBlock) (.slice Ao19 t474.length co19) t474) ∧ Aside0 (Below w.heap.size w w'))
      case atStart=>exact ⟨(0),fz,H',⟨Nat.le_refl _⟩,⟨by (with_reducible repeat (first|apply Kd.R_alloc|apply Kd.R_drewN|apply Kd.R_drew));exact Kd.R_mono HO_5.out (fun _ hk=>⟨hk,hk⟩)⟩,⟨by (with_reducible repeat (first|apply Kd.R_alloc|apply Kd.R_drewN|apply Kd.R_drew));exact HO_6.out⟩,⟨by (with_reducible repeat (first|apply Kd.R_alloc|apply Kd.R_drewN|apply Kd.R_drew));exact HO_6.out⟩,⟨by repeat (first|(with_reducible first|exact HB.out|apply below_alloc|apply pw_below_drewN|apply below_drew1)|exact HB.out)⟩⟩
      case round=>
       clear H'
       try clear c1
       try clear p2
       try clear c3
       try clear c4
       try clear c6
       try clear c7
       try clear c8
       try clear c9
       try clear c13
       try clear c13b0
       try clear c13b1
       try clear c13b2
       try clear c17
       try clear c18
       try clear p2
       obtain ⟨x52_2,rfl,HA,HK2,HO_5,HO_6,HO_50,HB⟩:=hrel
       cases gk with
       | zero=>exact absurd HA.out (by simp [laws_FnNeededParts.l0])
       | succ k2=>
        have H:=HA.out
        clear HA
        simp only [laws_FnNeededParts.l0] at H
        by_cases c20 : x52_2 < (t474.length : Int)
        ·rw [if_pos c20] at H
         have c20b0 : decide (x52_2 < (t474.length : Int)) = true:=decide_eq_true c20
         clear c20
         by_cases c21 : 0 ≤ x52_2
         ·rw [if_pos c21] at H
          have c21b0 : decide (0 ≤ x52_2) = true:=decide_eq_true c21
          clear c21
          by_cases c22 : x52_2 < (t474.length : Int)
          ·rw [if_pos c22] at H
           have c22b0 : decide (x52_2 < (t474.length : Int)) = true:=decide_eq_true c22
           clear c22
           obtain ⟨t484,A23,H⟩:=bd H
           by_cases c24 : t484 = true
           ·subst c24
            rw [if_pos rfl] at H
            have H':=Aside0.mk H
            clear H
            have p483 : 0 ≤ (x52_2 : Int):=of_decide_eq_true az
            have q483 : x52_2 < (t474.length : Int):=of_decide_eq_true az
            obtain ⟨ad483,e483,hx483_0⟩:=Kd.at_int (Kd.R_reads' HO_50.out).2.2 x52_2 p483 q483
            cases e483
            replace p483:=eq_true p483
            replace q483:=eq_true q483
            go_wp2_with (first|((with_reducible refine gate_callee (f:=11) rfl ?_);refine goesL_ (some 58) rfl rfl Try.func11 (by kernel_rfl) rfl #[.slice Ao10 t471.length co10,.int .i64 (rd t474 x52_2)] rfl mz ?_;(with_reducible refine (laws_pHas.calls k2 _ _ t471 (rd t474 x52_2) true _ ?side1 ?side2 A23.out).mono ?_);(case side1=>exact cz (Kd.R_reads' HO_5.out).2.2);(case side2=>exact (Kd.R_reads' HO_5.out).2.1);rintro e w' ⟨rfl,⟨nd,rfl⟩⟩;refine ⟨_,rfl,?_⟩))
            go_roundg k2
            case measure=>have:=HJ7.out;have:=HK2.out;omega
            case rel=>exact ⟨(wrap64 (x52_2 + 1)),fz,H',⟨by have:=HJ7.out;have:=HK2.out;omega⟩,⟨by (with_reducible repeat (first|apply Kd.R_alloc|apply Kd.R_drewN|apply Kd.R_drew));exact HO_5.out⟩,⟨by (with_reducible repeat (first|apply Kd.R_alloc|apply Kd.R_drewN|apply Kd.R_drew));exact HO_6.out⟩,⟨by (with_reducible repeat (first|apply Kd.R_alloc|apply Kd.R_drewN|apply Kd.R_drew));exact HO_50.out⟩,⟨by repeat (first|(with_reducible first|exact HB.out|apply below_alloc|apply pw_below_drewN|apply below_drew1)|exact HB.out)⟩⟩
           ·replace c24:=Bool.eq_false_iff.mpr c24
            subst c24
            rw [if_neg (show ¬ (false = true) by decide)] at H
            obtain rfl:=Option.some.inj H
            have p483 : 0 ≤ (x52_2 : Int):=of_decide_eq_true az
            have q483 : x52_2 < (t474.length : Int):=of_decide_eq_true az
            obtain ⟨ad483,e483,hx483_0⟩:=Kd.at_int (Kd.R_reads' HO_50.out).2.2 x52_2 p483 q483
            cases e483
            replace p483:=eq_true p483
            replace q483:=eq_true q483
            go_wp2_with (first|((with_reducible refine gate_callee (f:=11) rfl ?_);refine goesL_ (some 58) rfl rfl Try.func11 (by kernel_rfl) rfl #[.slice Ao10 t471.length co10,.int .i64 (rd t474 x52_2)] rfl mz ?_;(with_reducible refine (laws_pHas.calls k2 _ _ t471 (rd t474 x52_2) false _ ?side1 ?side2 A23.out).mono ?_);(case side1=>exact cz (Kd.R_reads' HO_5.out).2.2);(case side2=>exact (Kd.R_reads' HO_5.out).2.1);rintro e w' ⟨rfl,⟨nd,rfl⟩⟩;refine ⟨_,rfl,?_⟩))
            go_ret
            exact ⟨by first|rfl|(simp [errW_none,errW_some] <;> rfl)|(simp [*,errW_none,errW_some] <;> rfl),by repeat (first|(with_reducible first|exact HB.out|apply below_alloc|apply pw_below_drewN|apply below_drew1)|exact HB.out)⟩
          ·rw [if_neg c22] at H
           exact absurd H (by simp)
         ·rw [if_neg c21] at H
          exact absurd H (by simp)
        ·rw [if_neg c20] at H
         have c20b0 : decide (x52_2 < (t474.length : Int)) = false:=decide_eq_false c20
         clear c20
         replace H:=Option.bind_eq_some_iff.mp H
         obtain ⟨⟨t485,t486,t489,t492⟩,A250,H⟩:=H
         replace H : ((impl_TrimPlan.f k2 t485 t486 t489).bind fun bt494=>((impl_ChainOfPlan.f k2 bt494.1 bt494.2.1 bt494.2.2.1).bind fun bt503=>(if t492 = true then (if bt494.2.2.2 = true then (if bt503.2 = true then ((laws_pSameInts.f k2 bt503.1 t474).bind fun t507=>(if t507 = true then ((impl_IsChain.f k2 t474).bind fun t508=>(if t508 = true then (if 0 ≤ (wrap64 ((t474.length : Int) - 1)) then (if (wrap64 ((t474.length : Int) - 1)) < (t474.length : Int) then (if 0 ≤ (wrap64 ((t471.length : Int) - 1)) then (if (wrap64 ((t471.length : Int) - 1)) < (t471.length : Int) then (laws_FnNeededParts.j2 k2 l1 ((rd t474 (wrap64 ((t474.length : Int) - 1))) != (rd t471 (wrap64 ((t471.length : Int) - 1))))) else (none)) else (none)) else (none)) else (none)) else (laws_FnNeededParts.j2 k2 l1 true))) else (laws_FnNeededParts.j2 k2 l1 true))) else (laws_FnNeededParts.j2 k2 l1 true)) else (laws_FnNeededParts.j2 k2 l1 true)) else (laws_FnNeededParts.j2 k2 l1 true)))) = some r:=H
         have A25:=Aside0.mk A250
         clear A250
         replace H:=Option.bind_eq_some_iff.mp H
         obtain ⟨⟨t494,t495,t498,t501⟩,A260,H⟩:=H
         replace H : ((impl_ChainOfPlan.f k2 t494 t495 t498).bind fun bt503=>(if t492 = true then (if t501 = true then (if bt503.2 = true then ((laws_pSameInts.f k2 bt503.1 t474).bind fun t507=>(if t507 = true then ((impl_IsChain.f k2 t474).bind fun t508=>(if t508 = true then (if 0 ≤ (wrap64 ((t474.length : Int) - 1)) then (if (wrap64 ((t474.length : Int) - 1)) < (t474.length : Int) then (if 0 ≤ (wrap64 ((t471.length : Int) - 1)) then (if (wrap64 ((t471.length : Int) - 1)) < (t471.length : Int) then (laws_FnNeededParts.j2 k2 l1 ((rd t474 (wrap64 ((t474.length : Int) - 1))) != (rd t471 (wrap64 ((t471.length : Int) - 1))))) else (none)) else (none)) else (none)) else (none)) else (laws_FnNeededParts.j2 k2 l1 true))) else (laws_FnNeededParts.j2 k2 l1 true))) else (laws_FnNeededParts.j2 k2 l1 true)) else (laws_FnNeededParts.j2 k2 l1 true)) else (laws_FnNeededParts.j2 k2 l1 true))) = some r:=H
         have A26:=Aside0.mk A260
         clear A260
         replace H:=Option.bind_eq_some_iff.mp H
         obtain ⟨⟨t503,t506⟩,A270,H⟩:=H
         replace H : (if t492 = true then (if t501 = true then (if t506 = true then ((laws_pSameInts.f k2 t503 t474).bind fun t507=>(if t507 = true then ((impl_IsChain.f k2 t474).bind fun t508=>(if t508 = true then (if 0 ≤ (wrap64 ((t474.length : Int) - 1)) then (if (wrap64 ((t474.length : Int) - 1)) < (t474.length : Int) then (if 0 ≤ (wrap64 ((t471.length : Int) - 1)) then (if (wrap64 ((t471.length : Int) - 1)) < (t471.length : Int) then (laws_FnNeededParts.j2 k2 l1 ((rd t474 (wrap64 ((t474.length : Int) - 1))) != (rd t471 (wrap64 ((t471.length : Int) - 1))))) else (none)) else (none)) else (none)) else (none)) else (laws_FnNeededParts.j2 k2 l1 true))) else (laws_FnNeededParts.j2 k2 l1 true))) else (laws_FnNeededParts.j2 k2 l1 true)) else (laws_FnNeededParts.j2 k2 l1 true)) else (laws_FnNeededParts.j2 k2 l1 true)) = some r:=H
         have A27:=Aside0.mk A270
         clear A270
         have HC28:=Aside0.mk H
         clear H
         go_upto_region 19 with (first|((with_reducible refine gate_callee (f:=12) rfl ?_);refine goesL_ (some 63) rfl rfl Try.func12 (by kernel_rfl) rfl #[.slice Ao10 t471.length co10] rfl mz ?_;(with_reducible refine (impl_ChainPlan.calls k2 _ _ t471 t485 t486 t489 t492 _ ?side1 ?side2 A25.out).mono ?_);(case side1=>exact cz (Kd.R_reads' HO_5.out).2.2);(case side2=>exact (Kd.R_reads' HO_5.out).2.1);rintro e w29 ⟨v487,v490,rfl,ho0,ho1,hb⟩;refine ⟨_,rfl,?_⟩;have n0_:=Aside0.mk (Kd.R_elder' (rz HO_5.out) (Kd.R_base ho1) hb);have n1_:=Aside0.mk (Kd.R_elder' (rz HO_6.out) (Kd.R_base ho1) hb);have n2_:=Aside0.mk (Kd.R_elder' (rz HO_50.out) (Kd.R_base ho1) hb);have n3_:=Aside0.mk (Kd.R_lower ho0 (below_size bz));have n4_:=Aside0.mk (Kd.R_lower (Kd.R_new' (Kd.R_new' (Kd.R_new' ho1 (Kd.R_lt (rz HO_5.out))) (Kd.R_lt (rz HO_6.out))) (Kd.R_lt (rz HO_50.out))) (below_size bz));have n5_:=Aside0.mk (below_step bz hb);clear HO_5 HO_6 HO_50 HB;have HO_5:=n0_;have HO_6:=n1_;have HO_50:=n2_;have HO488:=n3_;have HO491:=n4_;have HB:=n5_;clear n0_ n1_ n2_ n3_ n4_ n5_;(try clear hb);(try clear ho0);(try clear ho1))|((with_reducible refine gate_dst (N:=12) rfl ?_);(try (refine gate_guard (by rfl) ?_;dsimp only));refine box_event ?hg (N:=12) ?hd (cs:=#[.int .i64 0,.slice none 0 0,.slice none 0 0]) (t:=32) ?hr ?_;(case hd=>rfl);(case hg=>rfl);(case hr=>first|(go_simp;done)|(go_simp;rfl));intro gb493 hg w30 hbox hb;have n0_:=Aside0.mk (Kd.R_below (rz HO_5.out) hb);have n1_:=Aside0.mk (Kd.R_below (rz HO_6.out) hb);have n2_:=Aside0.mk (Kd.R_below (rz HO_50.out) hb);have n3_:=Aside0.mk (Kd.R_below (rz HO488.out) hb);have n4_:=Aside0.mk (Kd.R_below (rz HO491.out) hb);have n5_:=Aside0.mk (below_step bz hb);have n6_:=Aside0.mk (hbox);have n7_:=Aside0.mk ((by rw [hg];exact (below_size bz) : w.heap.size ≤ gb493));have n8_:=Aside0.mk ((by rw [hg];exact (below_size bz) : w.heap.size ≤ gb493));clear HO_5 HO_6 HO_50 HO488 HO491 HB;have HO_5:=n0_;have HO_6:=n1_;have HO_50:=n2_;have HO488:=n3_;have HO491:=n4_;have HB:=n5_;have BK493:=n6_;have GW493:=n7_;have GE493:=n8_;clear n0_ n1_ n2_ n3_ n4_ n5_ n6_ n7_ n8_;clear hb hbox hg;have hcz31_0 : w30.cell? ⟨gb493,0,none⟩ = some (.int .i64 0):=(blk_cell BK493.out 0).trans rfl;have hcz31_1 : w30.cell? ⟨gb493,1,none⟩ = some (.slice none 0 0):=(blk_cell BK493.out 1).trans rfl;have hcz31_2 : w30.cell? ⟨gb493,2,none⟩ = some (.slice none 0 0):=(blk_cell BK493.out 2).trans rfl;have hfz31_0:=blk_frozen BK493.out 0;have hfz31_1:=blk_frozen BK493.out 1;have hfz31_2:=blk_frozen BK493.out 2;obtain ⟨Ao32,co32,eo32⟩:=Kd.R_slice HO488.out;subst eo32;obtain ⟨Ao33,co33,eo33⟩:=Kd.R_slice HO491.out;subst eo33)|((with_reducible refine gate_callee (f:=13) rfl ?_);refine goesL_ (some 68) rfl rfl Try.func13 (by kernel_rfl) rfl #[.agg #[.int .i64 t485,.slice Ao32 t486.length co32,.slice Ao33 t489.length co33]] rfl mz ?_;(with_reducible refine (impl_TrimPlan.calls k2 t485 _ _ t486 _ _ t489 t494 t495 t498 t501 _ ?side1 ?side2 ?side3 ?side4 A26.out).mono ?_);(case side1=>refine (Kd.R_reads' (e:=56) (base:=w.heap.size) (ok:=fun k_=>True) (n:=t486.length) (c:=co32) ?_).2.2;exact (by (with_reducible repeat (first|apply Kd.R_alloc|apply Kd.R_drewN|apply Kd.R_drew));exact (Kd.R_mono (Kd.R_far (p:=⟨gb493,2,none⟩) (Kd.R_far (p:=⟨gb493,1,none⟩) (Kd.R_far (p:=⟨gb493,0,none⟩) (Kd.R_types HO488.out BK493.out (by decide)) (fun _ hk=>hk.2) (.int .i64 t485)) (fun _ hk=>hk.2) (.slice Ao32 t486.length co32)) (fun _ hk=>hk.2) (.slice Ao33 t489.length co33)) (fun _ h_=>h_.1))));(case side2=>exact (Kd.R_reads' HO488.out).2.1);(case side3=>refine (Kd.R_reads' (e:=3) (base:=w.heap.size) (ok:=fun k_=>(((True ∧ some k_ ≠ (.slice Ao10 t471.length co10 : Value).ownBlock) ∧ some k_ ≠ (.slice Ao19 t474.length co19 : Value).ownBlock) ∧ some k_ ≠ (.slice Ao19 t474.length co19 : Value).ownBlock)) (n:=t489.length) (c:=co33) ?_).2.2;exact (by (with_reducible repeat (first|apply Kd.R_alloc|apply Kd.R_drewN|apply Kd.R_drew));exact (Kd.R_mono (Kd.R_far (p:=⟨gb493,2,none⟩) (Kd.R_far (p:=⟨gb493,1,none⟩) (Kd.R_far (p:=⟨gb493,0,none⟩) (Kd.R_types HO491.out BK493.out (by decide)) (fun _ hk=>hk.2) (.int .i64 t485)) (fun _ hk=>hk.2) (.slice Ao32 t486.length co32)) (fun _ hk=>hk.2) (.slice Ao33 t489.length co33)) (fun _ h_=>h_.1))));(case side4=>exact (Kd.R_reads' HO491.out).2.1);rintro e w34 ⟨v496,v499,rfl,ho0,ho1,hb⟩;refine ⟨_,rfl,?_⟩;have n0_:=Aside0.mk (Kd.R_elder' (by (with_reducible repeat (first|apply Kd.R_alloc|apply Kd.R_drewN|apply Kd.R_drew));exact (Kd.R_mono (Kd.R_far (p:=⟨gb493,2,none⟩) (Kd.R_far (p:=⟨gb493,1,none⟩) (Kd.R_far (p:=⟨gb493,0,none⟩) (Kd.R_types HO_5.out BK493.out (by decide)) (fun _ hk=>hk.2) (.int .i64 t485)) (fun _ hk=>hk.2) (.slice Ao32 t486.length co32)) (fun _ hk=>hk.2) (.slice Ao33 t489.length co33)) (fun _ h_=>h_.1))) (Kd.R_base ho1) hb);have n1_:=Aside0.mk (Kd.R_elder' (by (with_reducible repeat (first|apply Kd.R_alloc|apply Kd.R_drewN|apply Kd.R_drew));exact (Kd.R_mono (Kd.R_far (p:=⟨gb493,2,none⟩) (Kd.R_far (p:=⟨gb493,1,none⟩) (Kd.R_far (p:=⟨gb493,0,none⟩) (Kd.R_types HO_6.out BK493.out (by decide)) (fun _ hk=>hk.2) (.int .i64 t485)) (fun _ hk=>hk.2) (.slice Ao32 t486.length co32)) (fun _ hk=>hk.2) (.slice Ao33 t489.length co33)) (fun _ h_=>h_.1))) (Kd.R_base ho1) hb);have n2_:=Aside0.mk (Kd.R_elder' (by (with_reducible repeat (first|apply Kd.R_alloc|apply Kd.R_drewN|apply Kd.R_drew));exact (Kd.R_mono (Kd.R_far (p:=⟨gb493,2,none⟩) (Kd.R_far (p:=⟨gb493,1,none⟩) (Kd.R_far (p:=⟨gb493,0,none⟩) (Kd.R_types HO_50.out BK493.out (by decide)) (fun _ hk=>hk.2) (.int .i64 t485)) (fun _ hk=>hk.2) (.slice Ao32 t486.length co32)) (fun _ hk=>hk.2) (.slice Ao33 t489.length co33)) (fun _ h_=>h_.1))) (Kd.R_base ho1) hb);have n3_:=Aside0.mk (Kd.R_elder' (by (with_reducible repeat (first|apply Kd.R_alloc|apply Kd.R_drewN|apply Kd.R_drew));exact (Kd.R_mono (Kd.R_far (p:=⟨gb493,2,none⟩) (Kd.R_far (p:=⟨gb493,1,none⟩) (Kd.R_far (p:=⟨gb493,0,none⟩) (Kd.R_types HO488.out BK493.out (by decide)) (fun _ hk=>hk.2) (.int .i64 t485)) (fun _ hk=>hk.2) (.slice Ao32 t486.length co32)) (fun _ hk=>hk.2) (.slice Ao33 t489.length co33)) (fun _ h_=>h_.1))) (Kd.R_base ho0) hb);have n4_:=Aside0.mk (Kd.R_elder' (by (with_reducible repeat (first|apply Kd.R_alloc|apply Kd.R_drewN|apply Kd.R_drew));exact (Kd.R_mono (Kd.R_far (p:=⟨gb493,2,none⟩) (Kd.R_far (p:=⟨gb493,1,none⟩) (Kd.R_far (p:=⟨gb493,0,none⟩) (Kd.R_types HO491.out BK493.out (by decide)) (fun _ hk=>hk.2) (.int .i64 t485)) (fun _ hk=>hk.2) (.slice Ao32 t486.length co32)) (fun _ hk=>hk.2) (.slice Ao33 t489.length co33)) (fun _ h_=>h_.1))) (Kd.R_base ho1) hb);have n5_:=Aside0.mk (Kd.R_lower (Kd.R_new' ho0 (Kd.R_lt (by (with_reducible repeat (first|apply Kd.R_alloc|apply Kd.R_drewN|apply Kd.R_drew));exact (Kd.R_mono (Kd.R_far (p:=⟨gb493,2,none⟩) (Kd.R_far (p:=⟨gb493,1,none⟩) (Kd.R_far (p:=⟨gb493,0,none⟩) (Kd.R_types HO488.out BK493.out (by decide)) (fun _ hk=>hk.2) (.int .i64 t485)) (fun _ hk=>hk.2) (.slice Ao32 t486.length co32)) (fun _ hk=>hk.2) (.slice Ao33 t489.length co33)) (fun _ h_=>h_.1))))) (below_size bs));have n6_:=Aside0.mk (Kd.R_lower (Kd.R_new' (Kd.R_new' (Kd.R_new' (Kd.R_new' ho1 (Kd.R_lt (by (with_reducible repeat (first|apply Kd.R_alloc|apply Kd.R_drewN|apply Kd.R_drew));exact (Kd.R_mono (Kd.R_far (p:=⟨gb493,2,none⟩) (Kd.R_far (p:=⟨gb493,1,none⟩) (Kd.R_far (p:=⟨gb493,0,none⟩) (Kd.R_types HO_5.out BK493.out (by decide)) (fun _ hk=>hk.2) (.int .i64 t485)) (fun _ hk=>hk.2) (.slice Ao32 t486.length co32)) (fun _ hk=>hk.2) (.slice Ao33 t489.length co33)) (fun _ h_=>h_.1))))) (Kd.R_lt (by (with_reducible repeat (first|apply Kd.R_alloc|apply Kd.R_drewN|apply Kd.R_drew));exact (Kd.R_mono (Kd.R_far (p:=⟨gb493,2,none⟩) (Kd.R_far (p:=⟨gb493,1,none⟩) (Kd.R_far (p:=⟨gb493,0,none⟩) (Kd.R_types HO_6.out BK493.out (by decide)) (fun _ hk=>hk.2) (.int .i64 t485)) (fun _ hk=>hk.2) (.slice Ao32 t486.length co32)) (fun _ hk=>hk.2) (.slice Ao33 t489.length co33)) (fun _ h_=>h_.1))))) (Kd.R_lt (by (with_reducible repeat (first|apply Kd.R_alloc|apply Kd.R_drewN|apply Kd.R_drew));exact (Kd.R_mono (Kd.R_far (p:=⟨gb493,2,none⟩) (Kd.R_far (p:=⟨gb493,1,none⟩) (Kd.R_far (p:=⟨gb493,0,none⟩) (Kd.R_types HO_50.out BK493.out (by decide)) (fun _ hk=>hk.2) (.int .i64 t485)) (fun _ hk=>hk.2) (.slice Ao32 t486.length co32)) (fun _ hk=>hk.2) (.slice Ao33 t489.length co33)) (fun _ h_=>h_.1))))) (Kd.R_lt (by (with_reducible repeat (first|apply Kd.R_alloc|apply Kd.R_drewN|apply Kd.R_drew));exact (Kd.R_mono (Kd.R_far (p:=⟨gb493,2,none⟩) (Kd.R_far (p:=⟨gb493,1,none⟩) (Kd.R_far (p:=⟨gb493,0,none⟩) (Kd.R_types HO491.out BK493.out (by decide)) (fun _ hk=>hk.2) (.int .i64 t485)) (fun _ hk=>hk.2) (.slice Ao32 t486.length co32)) (fun _ hk=>hk.2) (.slice Ao33 t489.length co33)) (fun _ h_=>h_.1))))) (below_size bs));have n7_:=Aside0.mk (blk_below (g:=gb493) (o:=.cells #[.int .i64 t485,.slice Ao32 t486.length co32,.slice Ao33 t489.length co33] 32 (0,0)) (by (with_reducible repeat (first|refine blk_drewN ?_ _|refine blk_drew ?_|refine blk_alloc ?_ _));refine blk_put (cs:=#[.int .i64 t485,.slice Ao32 t486.length co32,.slice none 0 0]) ?_ 2 _ rfl;(with_reducible repeat (first|refine blk_drewN ?_ _|refine blk_drew ?_|refine blk_alloc ?_ _));refine blk_put (cs:=#[.int .i64 t485,.slice none 0 0,.slice none 0 0]) ?_ 1 _ rfl;(with_reducible repeat (first|refine blk_drewN ?_ _|refine blk_drew ?_|refine blk_alloc ?_ _));refine blk_put (cs:=#[.int .i64 0,.slice none 0 0,.slice none 0 0]) ?_ 0 _ rfl;(with_reducible repeat (first|refine blk_drewN ?_ _|refine blk_drew ?_|refine blk_alloc ?_ _));exact BK493.out) hb);have n8_:=Aside0.mk (below_step bs hb);clear HO_5 HO_6 HO_50 HO488 HO491 BK493 HB;have HO_5:=n0_;have HO_6:=n1_;have HO_50:=n2_;have HO488:=n3_;have HO491:=n4_;have HO497:=n5_;have HO500:=n6_;have BK493:=n7_;have HB:=n8_;clear n0_ n1_ n2_ n3_ n4_ n5_ n6_ n7_ n8_;(try clear hb);(try clear ho0);(try clear ho1))|((with_reducible refine gate_dst (N:=14) rfl ?_);(try (refine gate_guard (by rfl) ?_;dsimp only));refine box_event ?hg (N:=14) ?hd (cs:=#[.int .i64 0,.slice none 0 0,.slice none 0 0]) (t:=32) ?hr ?_;(case hd=>rfl);(case hg=>rfl);(case hr=>first|(go_simp;done)|(go_simp;rfl));intro gb502 hg w35 hbox hb;have n0_:=Aside0.mk (Kd.R_below (rz HO_5.out) hb);have n1_:=Aside0.mk (Kd.R_below (rz HO_6.out) hb);have n2_:=Aside0.mk (Kd.R_below (rz HO_50.out) hb);have n3_:=Aside0.mk (Kd.R_below (rz HO488.out) hb);have n4_:=Aside0.mk (Kd.R_below (rz HO491.out) hb);have n5_:=Aside0.mk (Kd.R_below (rz HO497.out) hb);have n6_:=Aside0.mk (Kd.R_below (rz HO500.out) hb);have n7_:=Aside0.mk (blk_below (g:=gb493) (o:=.cells #[.int .i64 t485,.slice Ao32 t486.length co32,.slice Ao33 t489.length co33] 32 (0,0)) (kz BK493.out) hb);have n8_:=Aside0.mk (below_step bs hb);have n9_:=Aside0.mk (hbox);have n10_:=Aside0.mk ((by rw [hg];exact (below_size bs) : w.heap.size ≤ gb502));have n11_:=Aside0.mk ((by rw [hg];exact (below_size bs) : w.heap.size ≤ gb502));have n12_:=Aside0.mk ((by rw [hg];exact Nat.ne_of_lt (blk_lt (g:=gb493) (o:=.cells #[.int .i64 t485,.slice Ao32 t486.length co32,.slice Ao33 t489.length co33] 32 (0,0)) (kz BK493.out)) : gb493 ≠ gb502));have n13_:=Aside0.mk ((by rw [hg];exact Nat.ne_of_gt (blk_lt (g:=gb493) (o:=.cells #[.int .i64 t485,.slice Ao32 t486.length co32,.slice Ao33 t489.length co33] 32 (0,0)) (kz BK493.out)) : gb502 ≠ gb493));clear HO_5 HO_6 HO_50 HO488 HO491 HO497 HO500 BK493 HB;have HO_5:=n0_;have HO_6:=n1_;have HO_50:=n2_;have HO488:=n3_;have HO491:=n4_;have HO497:=n5_;have HO500:=n6_;have BK493:=n7_;have HB:=n8_;have BK502:=n9_;have GW502:=n10_;have GE502:=n11_;have NB493_502:=n12_;have NB502_493:=n13_;clear n0_ n1_ n2_ n3_ n4_ n5_ n6_ n7_ n8_ n9_ n10_ n11_ n12_ n13_;clear hb hbox hg;have hnb36:=NB502_493.out;have hnc36:=NB493_502.out;have hcz37_0 : w35.cell? ⟨gb502,0,none⟩ = some (.int .i64 0):=(blk_cell BK502.out 0).trans rfl;have hcz37_1 : w35.cell? ⟨gb502,1,none⟩ = some (.slice none 0 0):=(blk_cell BK502.out 1).trans rfl;have hcz37_2 : w35.cell? ⟨gb502,2,none⟩ = some (.slice none 0 0):=(blk_cell BK502.out 2).trans rfl;have hfz37_0:=blk_frozen BK502.out 0;have hfz37_1:=blk_frozen BK502.out 1;have hfz37_2:=blk_frozen BK502.out 2;obtain ⟨Ao38,co38,eo38⟩:=Kd.R_slice HO497.out;subst eo38;obtain ⟨Ao39,co39,eo39⟩:=Kd.R_slice HO500.out;subst eo39)|((with_reducible refine gate_callee (f:=14) rfl ?_);refine goesL_ (some 73) rfl rfl Try.func14 (by kernel_rfl) rfl #[.agg #[.int .i64 t494,.slice Ao38 t495.length co38,.slice Ao39 t498.length co39]] rfl mz ?_;(with_reducible refine (impl_ChainOfPlan.calls k2 t494 _ _ t495 _ _ t498 t503 t506 _ ?side1 ?side2 ?side3 ?side4 A27.out).mono ?_);(case side1=>refine (Kd.R_reads' (e:=56) (base:=w.heap.size) (ok:=fun k_=>(True ∧ some k_ ≠ (.slice Ao32 t486.length co32 : Value).ownBlock)) (n:=t495.length) (c:=co38) ?_).2.2;exact (by (with_reducible repeat (first|apply Kd.R_alloc|apply Kd.R_drewN|apply Kd.R_drew));exact (Kd.R_mono (Kd.R_far (p:=⟨gb502,2,none⟩) (Kd.R_far (p:=⟨gb502,1,none⟩) (Kd.R_far (p:=⟨gb502,0,none⟩) (Kd.R_types HO497.out BK502.out (by decide)) (fun _ hk=>hk.2) (.int .i64 t494)) (fun _ hk=>hk.2) (.slice Ao38 t495.length co38)) (fun _ hk=>hk.2) (.slice Ao39 t498.length co39)) (fun _ h_=>h_.1))));(case side2=>exact (Kd.R_reads' HO497.out).2.1);(case side3=>refine (Kd.R_reads' (e:=3) (base:=w.heap.size) (ok:=fun k_=>((((True ∧ some k_ ≠ (.slice Ao10 t471.length co10 : Value).ownBlock) ∧ some k_ ≠ (.slice Ao19 t474.length co19 : Value).ownBlock) ∧ some k_ ≠ (.slice Ao19 t474.length co19 : Value).ownBlock) ∧ some k_ ≠ (.slice Ao33 t489.length co33 : Value).ownBlock)) (n:=t498.length) (c:=co39) ?_).2.2;exact (by (with_reducible repeat (first|apply Kd.R_alloc|apply Kd.R_drewN|apply Kd.R_drew));exact (Kd.R_mono (Kd.R_far (p:=⟨gb502,2,none⟩) (Kd.R_far (p:=⟨gb502,1,none⟩) (Kd.R_far (p:=⟨gb502,0,none⟩) (Kd.R_types HO500.out BK502.out (by decide)) (fun _ hk=>hk.2) (.int .i64 t494)) (fun _ hk=>hk.2) (.slice Ao38 t495.length co38)) (fun _ hk=>hk.2) (.slice Ao39 t498.length co39)) (fun _ h_=>h_.1))));(case side4=>exact (Kd.R_reads' HO500.out).2.1);rintro e w40 ⟨v504,rfl,ho0,hb⟩;refine ⟨_,rfl,?_⟩;have n0_:=Aside0.mk (Kd.R_elder' (by (with_reducible repeat (first|apply Kd.R_alloc|apply Kd.R_drewN|apply Kd.R_drew));exact (Kd.R_mono (Kd.R_far (p:=⟨gb502,2,none⟩) (Kd.R_far (p:=⟨gb502,1,none⟩) (Kd.R_far (p:=⟨gb502,0,none⟩) (Kd.R_types HO_5.out BK502.out (by decide)) (fun _ hk=>hk.2) (.int .i64 t494)) (fun _ hk=>hk.2) (.slice Ao38 t495.length co38)) (fun _ hk=>hk.2) (.slice Ao39 t498.length co39)) (fun _ h_=>h_.1))) (Kd.R_base ho0) hb);have n1_:=Aside0.mk (Kd.R_elder' (by (with_reducible repeat (first|apply Kd.R_alloc|apply Kd.R_drewN|apply Kd.R_drew));exact (Kd.R_mono (Kd.R_far (p:=⟨gb502,2,none⟩) (Kd.R_far (p:=⟨gb502,1,none⟩) (Kd.R_far (p:=⟨gb502,0,none⟩) (Kd.R_types HO_6.out BK502.out (by decide)) (fun _ hk=>hk.2) (.int .i64 t494)) (fun _ hk=>hk.2) (.slice Ao38 t495.length co38)) (fun _ hk=>hk.2) (.slice Ao39 t498.length co39)) (fun _ h_=>h_.1))) (Kd.R_base ho0) hb);have n2_:=Aside0.mk (Kd.R_elder' (by (with_reducible repeat (first|apply Kd.R_alloc|apply Kd.R_drewN|apply Kd.R_drew));exact (Kd.R_mono (Kd.R_far (p:=⟨gb502,2,none⟩) (Kd.R_far (p:=⟨gb502,1,none⟩) (Kd.R_far (p:=⟨gb502,0,none⟩) (Kd.R_types HO_50.out BK502.out (by decide)) (fun _ hk=>hk.2) (.int .i64 t494)) (fun _ hk=>hk.2) (.slice Ao38 t495.length co38)) (fun _ hk=>hk.2) (.slice Ao39 t498.length co39)) (fun _ h_=>h_.1))) (Kd.R_base ho0) hb);have n3_:=Aside0.mk (Kd.R_below (by (with_reducible repeat (first|apply Kd.R_alloc|apply Kd.R_drewN|apply Kd.R_drew));exact (Kd.R_mono (Kd.R_far (p:=⟨gb502,2,none⟩) (Kd.R_far (p:=⟨gb502,1,none⟩) (Kd.R_far (p:=⟨gb502,0,none⟩) (Kd.R_types HO488.out BK502.out (by decide)) (fun _ hk=>hk.2) (.int .i64 t494)) (fun _ hk=>hk.2) (.slice Ao38 t495.length co38)) (fun _ hk=>hk.2) (.slice Ao39 t498.length co39)) (fun _ h_=>h_.1))) hb);have n4_:=Aside0.mk (Kd.R_elder' (by (with_reducible repeat (first|apply Kd.R_alloc|apply Kd.R_drewN|apply Kd.R_drew));exact (Kd.R_mono (Kd.R_far (p:=⟨gb502,2,none⟩) (Kd.R_far (p:=⟨gb502,1,none⟩) (Kd.R_far (p:=⟨gb502,0,none⟩) (Kd.R_types HO491.out BK502.out (by decide)) (fun _ hk=>hk.2) (.int .i64 t494)) (fun _ hk=>hk.2) (.slice Ao38 t495.length co38)) (fun _ hk=>hk.2) (.slice Ao39 t498.length co39)) (fun _ h_=>h_.1))) (Kd.R_base ho0) hb);have n5_:=Aside0.mk (Kd.R_below (by (with_reducible repeat (first|apply Kd.R_alloc|apply Kd.R_drewN|apply Kd.R_drew));exact (Kd.R_mono (Kd.R_far (p:=⟨gb502,2,none⟩) (Kd.R_far (p:=⟨gb502,1,none⟩) (Kd.R_far (p:=⟨gb502,0,none⟩) (Kd.R_types HO497.out BK502.out (by decide)) (fun _ hk=>hk.2) (.int .i64 t494)) (fun _ hk=>hk.2) (.slice Ao38 t495.length co38)) (fun _ hk=>hk.2) (.slice Ao39 t498.length co39)) (fun _ h_=>h_.1))) hb);have n6_:=Aside0.mk (Kd.R_elder' (by (with_reducible repeat (first|apply Kd.R_alloc|apply Kd.R_drewN|apply Kd.R_drew));exact (Kd.R_mono (Kd.R_far (p:=⟨gb502,2,none⟩) (Kd.R_far (p:=⟨gb502,1,none⟩) (Kd.R_far (p:=⟨gb502,0,none⟩) (Kd.R_types HO500.out BK502.out (by decide)) (fun _ hk=>hk.2) (.int .i64 t494)) (fun _ hk=>hk.2) (.slice Ao38 t495.length co38)) (fun _ hk=>hk.2) (.slice Ao39 t498.length co39)) (fun _ h_=>h_.1))) (Kd.R_base ho0) hb);have n7_:=Aside0.mk (Kd.R_lower (Kd.R_new' (Kd.R_new' (Kd.R_new' (Kd.R_new' (Kd.R_new' ho0 (Kd.R_lt (by (with_reducible repeat (first|apply Kd.R_alloc|apply Kd.R_drewN|apply Kd.R_drew));exact (Kd.R_mono (Kd.R_far (p:=⟨gb502,2,none⟩) (Kd.R_far (p:=⟨gb502,1,none⟩) (Kd.R_far (p:=⟨gb502,0,none⟩) (Kd.R_types HO_5.out BK502.out (by decide)) (fun _ hk=>hk.2) (.int .i64 t494)) (fun _ hk=>hk.2) (.slice Ao38 t495.length co38)) (fun _ hk=>hk.2) (.slice Ao39 t498.length co39)) (fun _ h_=>h_.1))))) (Kd.R_lt (by (with_reducible repeat (first|apply Kd.R_alloc|apply Kd.R_drewN|apply Kd.R_drew));exact (Kd.R_mono (Kd.R_far (p:=⟨gb502,2,none⟩) (Kd.R_far (p:=⟨gb502,1,none⟩) (Kd.R_far (p:=⟨gb502,0,none⟩) (Kd.R_types HO_6.out BK502.out (by decide)) (fun _ hk=>hk.2) (.int .i64 t494)) (fun _ hk=>hk.2) (.slice Ao38 t495.length co38)) (fun _ hk=>hk.2) (.slice Ao39 t498.length co39)) (fun _ h_=>h_.1))))) (Kd.R_lt (by (with_reducible repeat (first|apply Kd.R_alloc|apply Kd.R_drewN|apply Kd.R_drew));exact (Kd.R_mono (Kd.R_far (p:=⟨gb502,2,none⟩) (Kd.R_far (p:=⟨gb502,1,none⟩) (Kd.R_far (p:=⟨gb502,0,none⟩) (Kd.R_types HO_50.out BK502.out (by decide)) (fun _ hk=>hk.2) (.int .i64 t494)) (fun _ hk=>hk.2) (.slice Ao38 t495.length co38)) (fun _ hk=>hk.2) (.slice Ao39 t498.length co39)) (fun _ h_=>h_.1))))) (Kd.R_lt (by (with_reducible repeat (first|apply Kd.R_alloc|apply Kd.R_drewN|apply Kd.R_drew));exact (Kd.R_mono (Kd.R_far (p:=⟨gb502,2,none⟩) (Kd.R_far (p:=⟨gb502,1,none⟩) (Kd.R_far (p:=⟨gb502,0,none⟩) (Kd.R_types HO491.out BK502.out (by decide)) (fun _ hk=>hk.2) (.int .i64 t494)) (fun _ hk=>hk.2) (.slice Ao38 t495.length co38)) (fun _ hk=>hk.2) (.slice Ao39 t498.length co39)) (fun _ h_=>h_.1))))) (Kd.R_lt (by (with_reducible repeat (first|apply Kd.R_alloc|apply Kd.R_drewN|apply Kd.R_drew));exact (Kd.R_mono (Kd.R_far (p:=⟨gb502,2,none⟩) (Kd.R_far (p:=⟨gb502,1,none⟩) (Kd.R_far (p:=⟨gb502,0,none⟩) (Kd.R_types HO500.out BK502.out (by decide)) (fun _ hk=>hk.2) (.int .i64 t494)) (fun _ hk=>hk.2) (.slice Ao38 t495.length co38)) (fun _ hk=>hk.2) (.slice Ao39 t498.length co39)) (fun _ h_=>h_.1))))) (below_size bs));have n8_:=Aside0.mk (blk_below (g:=gb493) (o:=.cells #[.int .i64 t485,.slice Ao32 t486.length co32,.slice Ao33 t489.length co33] 32 (0,0)) (by (with_reducible repeat (first|refine blk_drewN ?_ _|refine blk_drew ?_|refine blk_alloc ?_ _));refine blk_far ?_ NB493_502.out _;(with_reducible repeat (first|refine blk_drewN ?_ _|refine blk_drew ?_|refine blk_alloc ?_ _));refine blk_far ?_ NB493_502.out _;(with_reducible repeat (first|refine blk_drewN ?_ _|refine blk_drew ?_|refine blk_alloc ?_ _));refine blk_far ?_ NB493_502.out _;(with_reducible repeat (first|refine blk_drewN ?_ _|refine blk_drew ?_|refine blk_alloc ?_ _));exact BK493.out) hb);have n9_:=Aside0.mk (blk_below (g:=gb502) (o:=.cells #[.int .i64 t494,.slice Ao38 t495.length co38,.slice Ao39 t498.length co39] 32 (0,0)) (by (with_reducible repeat (first|refine blk_drewN ?_ _|refine blk_drew ?_|refine blk_alloc ?_ _));refine blk_put (cs:=#[.int .i64 t494,.slice Ao38 t495.length co38,.slice none 0 0]) ?_ 2 _ rfl;(with_reducible repeat (first|refine blk_drewN ?_ _|refine blk_drew ?_|refine blk_alloc ?_ _));refine blk_put (cs:=#[.int .i64 t494,.slice none 0 0,.slice none 0 0]) ?_ 1 _ rfl;(with_reducible repeat (first|refine blk_drewN ?_ _|refine blk_drew ?_|refine blk_alloc ?_ _));refine blk_put (cs:=#[.int .i64 0,.slice none 0 0,.slice none 0 0]) ?_ 0 _ rfl;(with_reducible repeat (first|refine blk_drewN ?_ _|refine blk_drew ?_|refine blk_alloc ?_ _));exact BK502.out) hb);have n10_:=Aside0.mk (below_step bs hb);clear HO_5 HO_6 HO_50 HO488 HO491 HO497 HO500 BK493 BK502 HB;have HO_5:=n0_;have HO_6:=n1_;have HO_50:=n2_;have HO488:=n3_;have HO491:=n4_;have HO497:=n5_;have HO500:=n6_;have HO505:=n7_;have BK493:=n8_;have BK502:=n9_;have HB:=n10_;clear n0_ n1_ n2_ n3_ n4_ n5_ n6_ n7_ n8_ n9_ n10_;(try clear hb);(try clear ho0)))
         (try simp only [Act.put,xa,xb,xc])
         go_cut [111] (fun v111 wc=>∃ (kq : Nat) (x111_27 : Bool),v111 = .bool x111_27 ∧ Aside0 (laws_FnNeededParts.j2 kq l1 x111_27 = some r) ∧ Aside0 (kq ≤ k2) ∧ Aside0 (Kd.R k56 56 wc w.heap.size (fun k_=>some k_ ≠ ((.slice Ao38 t495.length co38) : Value).ownBlock) (.slice Ao32 t486.length co32) t486) ∧ Aside0 (Kd.R (Kd.int .i64) 3 wc w.heap.size (fun k_=>some k_ ≠ ((.slice Ao39 t498.length co39) : Value).ownBlock) (.slice Ao33 t489.length co33) t489) ∧ Aside0 (Kd.R k56 56 wc w.heap.size (fun k_=>some k_ ≠ ((.slice Ao32 t486.length co32) : Value).ownBlock) (.slice Ao38 t495.length co38) t495) ∧ Aside0 (Kd.R (Kd.int .i64) 3 wc w.heap.size (fun k_=>some k_ ≠ ((.slice Ao33 t489.length co33) : Value).ownBlock) (.slice Ao39 t498.length co39) t498) ∧ Aside0 (wc.heap[gb493]? = some (.cells #[.int .i64 t485,(.slice Ao32 t486.length co32),(.slice Ao33 t489.length co33)] 32 (0,0))) ∧ Aside0 (wc.heap[gb502]? = some (.cells #[.int .i64 t494,(.slice Ao38 t495.length co38),(.slice Ao39 t498.length co39)] 32 (0,0))) ∧ Aside0 (Below w.heap.size w wc))
         case first=>
          have H:=HC28.out
          clear HC28
          by_cases c41 : t492 = true
          ·subst c41
           rw [if_pos rfl] at H
           by_cases c42 : t501 = true
           ·subst c42
            rw [if_pos rfl] at H
            by_cases c43 : t506 = true
            ·subst c43
             rw [if_pos rfl] at H
             obtain ⟨t507,A44,H⟩:=bd H
             by_cases c45 : t507 = true
             ·subst c45
              rw [if_pos rfl] at H
              obtain ⟨t508,A46,H⟩:=bd H
              by_cases c47 : t508 = true
              ·subst c47
               rw [if_pos rfl] at H
               obtain ⟨ji48,hji48⟩ : ∃ j_ : Int,(wrap64 ((t474.length : Int) - 1)) = j_:=⟨_,rfl⟩
               replace H : (if 0 ≤ (ji48) then (if (ji48) < (t474.length : Int) then (if 0 ≤ (wrap64 ((t471.length : Int) - 1)) then (if (wrap64 ((t471.length : Int) - 1)) < (t471.length : Int) then (laws_FnNeededParts.j2 k2 l1 ((rd t474 (ji48)) != (rd t471 (wrap64 ((t471.length : Int) - 1))))) else (none)) else (none)) else (none)) else (none)) = some r:=by first|(rw [hji48] at H;exact H)|(simp only [hji48] at H ⊢;exact H)
               (try rw [hji48] at A44)
               (try rw [hji48] at A46)
               have hji48w : (IntKind.i64.wrap ((t474.length : Int) - 1)) = ji48:=(i64_w _).trans hji48
               by_cases c49 : 0 ≤ (ji48)
               ·rw [if_pos c49] at H
                have c49b0 : decide (0 ≤ (ji48)) = true:=decide_eq_true c49
                clear c49
                (first|rw [c49b0]|(simp only [i64_w,i32_w];rw [c49b0])|skip)
                by_cases c50 : (ji48) < (t474.length : Int)
                ·rw [if_pos c50] at H
                 have c50b0 : decide ((ji48) < (t474.length : Int)) = true:=decide_eq_true c50
                 clear c50
                 obtain ⟨ji51,hji51⟩ : ∃ j_ : Int,(wrap64 ((t471.length : Int) - 1)) = j_:=⟨_,rfl⟩
                 replace H : (if 0 ≤ (ji51) then (if (ji51) < (t471.length : Int) then (laws_FnNeededParts.j2 k2 l1 ((rd t474 (ji48)) != (rd t471 (ji51)))) else (none)) else (none)) = some r:=by first|(rw [hji51] at H;exact H)|(simp only [hji51] at H ⊢;exact H)
                 (try rw [hji51] at A44)
                 (try rw [hji51] at A46)
                 have hji51w : (IntKind.i64.wrap ((t471.length : Int) - 1)) = ji51:=(i64_w _).trans hji51
                 by_cases c52 : 0 ≤ (ji51)
                 ·rw [if_pos c52] at H
                  have c52b0 : decide (0 ≤ (ji51)) = true:=decide_eq_true c52
                  clear c52
                  by_cases c53 : (ji51) < (t471.length : Int)
                  ·rw [if_pos c53] at H
                   have c53b0 : decide ((ji51) < (t471.length : Int)) = true:=decide_eq_true c53
                   clear c53
                   have H':=Aside0.mk H
                   clear H
                   try go_wp2
                   have n0_:=Aside0.mk (Kd.R_drew HO_5.out)
                   have n1_:=Aside0.mk (Kd.R_drew HO_6.out)
                   have n2_:=Aside0.mk (Kd.R_drew HO_50.out)
                   have n3_:=Aside0.mk (Kd.R_drew HO488.out)
                   have n4_:=Aside0.mk (Kd.R_drew HO491.out)
                   have n5_:=Aside0.mk (Kd.R_drew HO497.out)
                   have n6_:=Aside0.mk (Kd.R_drew HO500.out)
                   have n7_:=Aside0.mk (Kd.R_drew HO505.out)
                   have n8_:=Aside0.mk (blk_drew BK493.out)
                   have n9_:=Aside0.mk (blk_drew BK502.out)
                   have n10_:=Aside0.mk (below_drew1 HB.out)
                   clear HO_5
                   clear HO_6
                   clear HO_50
                   clear HO488
                   clear HO491
                   clear HO497
                   clear HO500
                   clear HO505
                   clear BK493
                   clear BK502
                   clear HB
                   have HO_5:=n0_
                   have HO_6:=n1_
                   have HO_50:=n2_
                   have HO488:=n3_
                   have HO491:=n4_
                   have HO497:=n5_
                   have HO500:=n6_
                   have HO505:=n7_
                   have BK493:=n8_
                   have BK502:=n9_
                   have HB:=n10_
                   clear n0_ n1_ n2_ n3_ n4_ n5_ n6_ n7_ n8_ n9_ n10_
                   obtain ⟨Ao55,co55,eo55⟩:=Kd.R_slice HO505.out
                   (first|subst eo55|(injection eo55 with f1_ f2_ f3_;have f4_:=f1_.symm;have f5_:=f3_.symm;clear f1_ f2_ f3_;subst f4_;subst f5_))
                   have p509 : 0 ≤ ((ji48) : Int):=of_decide_eq_true az
                   have q509 : (ji48) < (t474.length : Int):=of_decide_eq_true az
                   obtain ⟨ad509,e509,hx509_0⟩:=Kd.at_int (Kd.R_reads' HO_6.out).2.2 (ji48) p509 q509
                   cases e509
                   replace p509:=eq_true p509
                   replace q509:=eq_true q509
                   have p510 : 0 ≤ ((ji51) : Int):=of_decide_eq_true az
                   have q510 : (ji51) < (t471.length : Int):=of_decide_eq_true az
                   obtain ⟨ad510,e510,hx510_0⟩:=Kd.at_int (Kd.R_reads' HO_5.out).2.2 (ji51) p510 q510
                   cases e510
                   replace p510:=eq_true p510
                   replace q510:=eq_true q510
                   refine start_ (n:=36) (S:=fun w'=>w'.cell? (ad509.add ((ji48)).toNat) = some (.int .i64 (rd t474 (ji48))) ∧ w'.cell? (ad510.add ((ji51)).toNat) = some (.int .i64 (rd t471 (ji51)))) (ds:=[]) #[false,false,false,false,false,false,false,false,false,false,false,false,false,false,false,false,false,false,false,false,false,false,false,false,false,false,false,false,false,false,false,false,false,false,false,false] (by kernel_rfl) rfl rfl ⟨hx509_0,hx510_0⟩ (fun hHeld=>?_);refine with_tabW laws_FnNeededParts.tab19 laws_FnNeededParts.bits19 (fun HT_ HW_=>?_)
                   generalize w40.drew = w54 at HO_5 HO_6 HO_50 HO488 HO491 HO497 HO500 HO505 BK493 BK502 HB hx509_0 hx510_0 hHeld ⊢
                   refine pure_ (i:=0) (N:=some 76) (v:=?_) (a':=?_) #[true,false,false,false,false,false,false,false,false,false,false,false,false,false,false,false,false,false,false,false,false,false,false,false,false,false,false,false,false,false,false,false,false,false,false,false] rfl rfl (any_of HT_.out (by kernel_rfl)) (fun _ _ _ h=>h) (Or.inl ⟨by rfl,?_⟩) ?_ ?_
                   rotate_left
                   ·intro w'
                    go_simp
                    with_reducible rfl
                   rotate_left
                   ·simp only [Act.put,xa,xb,xc,i64_w,i32_w]
                    rfl
                   refine pure_ (i:=1) (N:=some 77) (v:=?_) (a':=?_) #[true,true,false,false,false,false,false,false,false,false,false,false,false,false,false,false,false,false,false,false,false,false,false,false,false,false,false,false,false,false,false,false,false,false,false,false] rfl rfl (any_of HT_.out (by kernel_rfl)) (fun _ _ _ h=>h) (Or.inl ⟨by rfl,?_⟩) ?_ ?_
                   rotate_left
                   ·intro w'
                    go_simp
                    with_reducible rfl
                   rotate_left
                   ·simp only [Act.put,xa,xb,xc,i64_w,i32_w]
                    rfl
                   refine pure_ (i:=2) (N:=some 78) (v:=?_) (a':=?_) #[true,true,true,false,false,false,false,false,false,false,false,false,false,false,false,false,false,false,false,false,false,false,false,false,false,false,false,false,false,false,false,false,false,false,false,false] rfl rfl (any_of HT_.out (by kernel_rfl)) (fun _ _ _ h=>h) (Or.inl ⟨by rfl,?_⟩) ?_ ?_
                   rotate_left
                   ·intro w'
                    go_simp
                    with_reducible rfl
                   rotate_left
                   ·simp only [Act.put,xa,xb,xc,i64_w,i32_w]
                    rfl
                   refine pure_ (i:=3) (N:=some 79) (v:=?_) (a':=?_) #[true,true,true,true,false,false,false,false,false,false,false,false,false,false,false,false,false,false,false,false,false,false,false,false,false,false,false,false,false,false,false,false,false,false,false,false] rfl rfl (any_of HT_.out (by kernel_rfl)) (fun _ _ _ h=>h) (Or.inl ⟨by rfl,?_⟩) ?_ ?_
                   rotate_left
                   ·intro w'
                    go_simp
                    with_reducible rfl
                   rotate_left
                   ·simp only [Act.put,xa,xb,xc,i64_w,i32_w]
                    rfl
                   refine pure_ (i:=4) (N:=some 80) (v:=?_) (a':=?_) #[true,true,true,true,true,false,false,false,false,false,false,false,false,false,false,false,false,false,false,false,false,false,false,false,false,false,false,false,false,false,false,false,false,false,false,false] rfl rfl (any_of HT_.out (by kernel_rfl)) (fun _ _ _ h=>h) (Or.inl ⟨by rfl,?_⟩) ?_ ?_
                   rotate_left
                   ·intro w'
                    go_simp
                    with_reducible rfl
                   rotate_left
                   ·simp only [Act.put,xa,xb,xc,i64_w,i32_w]
                    rfl
                   refine pure_ (i:=5) (N:=some 81) (v:=?_) (a':=?_) #[true,true,true,true,true,true,false,false,false,false,false,false,false,false,false,false,false,false,false,false,false,false,false,false,false,false,false,false,false,false,false,false,false,false,false,false] rfl rfl (any_of HT_.out (by kernel_rfl)) (fun _ _ _ h=>h) (Or.inl ⟨by rfl,?_⟩) ?_ ?_
                   rotate_left
                   ·intro w'
                    go_simp
                    with_reducible rfl
                   rotate_left
                   ·simp only [Act.put,xa,xb,xc,i64_w,i32_w]
                    rfl
                   refine pure_ (i:=6) (N:=some 82) (v:=?_) (a':=?_) #[true,true,true,true,true,true,true,false,false,false,false,false,false,false,false,false,false,false,false,false,false,false,false,false,false,false,false,false,false,false,false,false,false,false,false,false] rfl rfl (any_of HT_.out (by kernel_rfl)) (fun _ _ _ h=>h) (Or.inl ⟨by rfl,?_⟩) ?_ ?_
                   rotate_left
                   ·intro w'
                    go_simp
                    with_reducible rfl
                   rotate_left
                   ·simp only [Act.put,xa,xb,xc,i64_w,i32_w]
                    rfl
                   refine pure_ (i:=7) (N:=some 83) (v:=?_) (a':=?_) #[true,true,true,true,true,true,true,true,false,false,false,false,false,false,false,false,false,false,false,false,false,false,false,false,false,false,false,false,false,false,false,false,false,false,false,false] rfl rfl (any_of HT_.out (by kernel_rfl)) (fun _ _ _ h=>h) (Or.inl ⟨by rfl,?_⟩) ?_ ?_
                   rotate_left
                   ·intro w'
                    go_simp
                    with_reducible rfl
                   rotate_left
                   ·simp only [Act.put,xa,xb,xc,i64_w,i32_w]
                    rfl
                   refine pure_ (i:=8) (N:=some 84) (v:=?_) (a':=?_) #[true,true,true,true,true,true,true,true,true,false,false,false,false,false,false,false,false,false,false,false,false,false,false,false,false,false,false,false,false,false,false,false,false,false,false,false] rfl rfl (any_of HT_.out (by kernel_rfl)) (fun _ _ _ h=>h) (Or.inl ⟨by rfl,?_⟩) ?_ ?_
                   rotate_left
                   ·intro w'
                    go_simp
                    with_reducible rfl
                   rotate_left
                   ·simp only [Act.put,xa,xb,xc,i64_w,i32_w]
                    rfl
                   refine pure_ (i:=9) (N:=some 85) (v:=?_) (a':=?_) #[true,true,true,true,true,true,true,true,true,true,false,false,false,false,false,false,false,false,false,false,false,false,false,false,false,false,false,false,false,false,false,false,false,false,false,false] rfl rfl (any_of HT_.out (by kernel_rfl)) (fun _ _ _ h=>h) (Or.inl ⟨by rfl,?_⟩) ?_ ?_
                   rotate_left
                   ·intro w'
                    go_simp
                    with_reducible rfl
                   rotate_left
                   ·simp only [Act.put,xa,xb,xc,i64_w,i32_w]
                    rfl
                   refine pure_ (i:=10) (N:=some 86) (v:=?_) (a':=?_) #[true,true,true,true,true,true,true,true,true,true,true,false,false,false,false,false,false,false,false,false,false,false,false,false,false,false,false,false,false,false,false,false,false,false,false,false] rfl rfl (any_of HT_.out (by kernel_rfl)) (fun _ _ _ h=>h) (Or.inl ⟨by rfl,?_⟩) ?_ ?_
                   rotate_left
                   ·intro w'
                    go_simp
                    with_reducible rfl
                   rotate_left
                   ·simp only [Act.put,xa,xb,xc,i64_w,i32_w]
                    rfl
                   refine pure_ (i:=11) (N:=some 87) (v:=?_) (a':=?_) #[true,true,true,true,true,true,true,true,true,true,true,true,false,false,false,false,false,false,false,false,false,false,false,false,false,false,false,false,false,false,false,false,false,false,false,false] rfl rfl (any_of HT_.out (by kernel_rfl)) (fun _ _ _ h=>h) (Or.inl ⟨by rfl,?_⟩) ?_ ?_
                   rotate_left
                   ·intro w'
                    go_simp
                    with_reducible rfl
                   rotate_left
                   ·simp only [Act.put,xa,xb,xc,i64_w,i32_w]
                    rfl
                   refine pure_ (i:=12) (N:=some 88) (v:=?_) (a':=?_) #[true,true,true,true,true,true,true,true,true,true,true,true,true,false,false,false,false,false,false,false,false,false,false,false,false,false,false,false,false,false,false,false,false,false,false,false] rfl rfl (any_of HT_.out (by kernel_rfl)) (fun _ _ _ h=>h) (Or.inl ⟨by rfl,?_⟩) ?_ ?_
                   rotate_left
                   ·intro w'
                    go_simp
                    with_reducible rfl
                   rotate_left
                   ·simp only [Act.put,xa,xb,xc,i64_w,i32_w]
                    rfl
                   refine one_ (i:=13) (N:=some 89) #[true,true,true,true,true,true,true,true,true,true,true,true,true,true,false,false,false,false,false,false,false,false,false,false,false,false,false,false,false,false,false,false,false,false,false,false] rfl rfl (one_of HT_.out (by kernel_rfl)) (by decide) (fun K hK=>?_)
                   refine goes_ Try.func10 (by kernel_rfl) rfl #[.slice Ao55 t503.length co55,.slice (some ad509) t474.length co19] (by rfl) rfl rfl mz ?_
                   with_reducible refine (laws_pSameInts.calls k2 _ _ t503 _ _ t474 true _ ?side1 ?side2 ?side3 ?side4 A44.out).mono ?_
                   (case side1=>exact cz (Kd.R_reads' HO505.out).2.2)
                   (case side2=>exact (Kd.R_reads' HO505.out).2.1)
                   (case side3=>exact cz (Kd.R_reads' HO_6.out).2.2)
                   (case side4=>exact (Kd.R_reads' HO_6.out).2.1)
                   rintro e w' ⟨rfl,⟨nd,rfl⟩⟩
                   refine ⟨_,rfl,?_⟩
                   refine hK.out _ _ ⟨hHeld.1,hHeld.2⟩ (fun hHeld=>?_)
                   clear hK K
                   refine norm_ (a':=?_) ?_ ?_
                   rotate_left
                   ·show Act.put _ (some 89) _ = _
                    simp only [Act.put,xa,xb,xc,i64_w,i32_w]
                    rfl
                   refine pure_ (i:=14) (N:=some 90) (v:=?_) (a':=?_) #[true,true,true,true,true,true,true,true,true,true,true,true,true,true,true,false,false,false,false,false,false,false,false,false,false,false,false,false,false,false,false,false,false,false,false,false] rfl rfl (any_of HT_.out (by kernel_rfl)) (fun _ _ _ h=>h) (Or.inl ⟨by rfl,?_⟩) ?_ ?_
                   rotate_left
                   ·intro w'
                    go_simp
                    with_reducible rfl
                   rotate_left
                   ·simp only [Act.put,xa,xb,xc,i64_w,i32_w]
                    rfl
                   refine pure_ (i:=15) (N:=some 91) (v:=?_) (a':=?_) #[true,true,true,true,true,true,true,true,true,true,true,true,true,true,true,true,false,false,false,false,false,false,false,false,false,false,false,false,false,false,false,false,false,false,false,false] rfl rfl (any_of HT_.out (by kernel_rfl)) (fun _ _ _ h=>h) (Or.inl ⟨by rfl,?_⟩) ?_ ?_
                   rotate_left
                   ·intro w'
                    go_simp
                    with_reducible rfl
                   rotate_left
                   ·simp only [Act.put,xa,xb,xc,i64_w,i32_w]
                    rfl
                   refine pure_ (i:=16) (N:=some 92) (v:=?_) (a':=?_) #[true,true,true,true,true,true,true,true,true,true,true,true,true,true,true,true,true,false,false,false,false,false,false,false,false,false,false,false,false,false,false,false,false,false,false,false] rfl rfl (any_of HT_.out (by kernel_rfl)) (fun _ _ _ h=>h) (Or.inl ⟨by rfl,?_⟩) ?_ ?_
                   rotate_left
                   ·intro w'
                    go_simp
                    with_reducible rfl
                   rotate_left
                   ·simp only [Act.put,xa,xb,xc,i64_w,i32_w]
                    rfl
                   refine pure_ (i:=17) (N:=some 93) (v:=?_) (a':=?_) #[true,true,true,true,true,true,true,true,true,true,true,true,true,true,true,true,true,true,false,false,false,false,false,false,false,false,false,false,false,false,false,false,false,false,false,false] rfl rfl (any_of HT_.out (by kernel_rfl)) (fun _ _ _ h=>h) (Or.inl ⟨by rfl,?_⟩) ?_ ?_
                   rotate_left
                   ·intro w'
                    go_simp
                    with_reducible rfl
                   rotate_left
                   ·simp only [Act.put,xa,xb,xc,i64_w,i32_w]
                    rfl
                   refine one_ (i:=18) (N:=some 94) #[true,true,true,true,true,true,true,true,true,true,true,true,true,true,true,true,true,true,true,false,false,false,false,false,false,false,false,false,false,false,false,false,false,false,false,false] rfl rfl (one_of HT_.out (by kernel_rfl)) (by decide) (fun K hK=>?_)
                   refine goes_ Try.func15 (by kernel_rfl) rfl #[.slice (some ad509) t474.length co19] (by rfl) rfl rfl mz ?_
                   with_reducible refine (impl_IsChain.calls k2 _ _ t474 true _ ?side1 ?side2 A46.out).mono ?_
                   (case side1=>exact cz (Kd.R_reads' HO_6.out).2.2)
                   (case side2=>exact (Kd.R_reads' HO_6.out).2.1)
                   rintro e w56 ⟨rfl,hb⟩
                   have HS0_:=(hb.cell (World.block_lt_of_cell? _ _ (hHeld.1))).trans (hHeld.1)
                   have HS1_:=(hb.cell (World.block_lt_of_cell? _ _ (hHeld.2))).trans (hHeld.2)
                   refine ⟨_,rfl,?_⟩
                   have n0_:=Aside0.mk (Kd.R_below (rz HO_5.out) hb)
                   have n1_:=Aside0.mk (Kd.R_below (rz HO_6.out) hb)
                   have n2_:=Aside0.mk (Kd.R_below (rz HO_50.out) hb)
                   have n3_:=Aside0.mk (Kd.R_below (rz HO488.out) hb)
                   have n4_:=Aside0.mk (Kd.R_below (rz HO491.out) hb)
                   have n5_:=Aside0.mk (Kd.R_below (rz HO497.out) hb)
                   have n6_:=Aside0.mk (Kd.R_below (rz HO500.out) hb)
                   have n7_:=Aside0.mk (Kd.R_below (rz HO505.out) hb)
                   have n8_:=Aside0.mk (blk_below (g:=gb493) (o:=.cells #[.int .i64 t485,.slice Ao32 t486.length co32,.slice Ao33 t489.length co33] 32 (0,0)) (kz BK493.out) hb)
                   have n9_:=Aside0.mk (blk_below (g:=gb502) (o:=.cells #[.int .i64 t494,.slice Ao38 t495.length co38,.slice Ao39 t498.length co39] 32 (0,0)) (kz BK502.out) hb)
                   have n10_:=Aside0.mk (below_step bs hb)
                   clear HO_5
                   clear HO_6
                   clear HO_50
                   clear HO488
                   clear HO491
                   clear HO497
                   clear HO500
                   clear HO505
                   clear BK493
                   clear BK502
                   clear HB
                   have HO_5:=n0_
                   have HO_6:=n1_
                   have HO_50:=n2_
                   have HO488:=n3_
                   have HO491:=n4_
                   have HO497:=n5_
                   have HO500:=n6_
                   have HO505:=n7_
                   have BK493:=n8_
                   have BK502:=n9_
                   have HB:=n10_
                   clear n0_ n1_ n2_ n3_ n4_ n5_ n6_ n7_ n8_ n9_ n10_
                   (try clear hb)
                   refine hK.out _ _ ⟨HS0_,HS1_⟩ (fun hHeld=>?_)
                   clear hK K
                   refine norm_ (a':=?_) ?_ ?_
                   rotate_left
                   ·show Act.put _ (some 94) _ = _
                    simp only [Act.put,xa,xb,xc,i64_w,i32_w]
                    rfl
                   refine pure_ (i:=19) (N:=some 95) (v:=?_) (a':=?_) #[true,true,true,true,true,true,true,true,true,true,true,true,true,true,true,true,true,true,true,true,false,false,false,false,false,false,false,false,false,false,false,false,false,false,false,false] rfl rfl (any_of HT_.out (by kernel_rfl)) (fun _ _ _ h=>h) (Or.inl ⟨by rfl,?_⟩) ?_ ?_
                   rotate_left
                   ·intro w'
                    go_simp
                    with_reducible rfl
                   rotate_left
                   ·simp only [Act.put,xa,xb,xc,i64_w,i32_w]
                    rfl
                   refine pure_ (i:=20) (N:=some 96) (v:=?_) (a':=?_) #[true,true,true,true,true,true,true,true,true,true,true,true,true,true,true,true,true,true,true,true,true,false,false,false,false,false,false,false,false,false,false,false,false,false,false,false] rfl rfl (any_of HT_.out (by kernel_rfl)) (fun _ _ _ h=>h) (Or.inl ⟨by rfl,?_⟩) ?_ ?_
                   rotate_left
                   ·intro w'
                    go_simp
                    with_reducible rfl
                   rotate_left
                   ·simp only [Act.put,xa,xb,xc,i64_w,i32_w]
                    rfl
                   refine pure_ (i:=21) (N:=some 97) (v:=?_) (a':=?_) #[true,true,true,true,true,true,true,true,true,true,true,true,true,true,true,true,true,true,true,true,true,true,false,false,false,false,false,false,false,false,false,false,false,false,false,false] rfl rfl (any_of HT_.out (by kernel_rfl)) (fun _ _ _ h=>h) (Or.inl ⟨by rfl,?_⟩) ?_ ?_
                   rotate_left
                   ·intro w'
                    go_simp
                    with_reducible rfl
                   rotate_left
                   ·simp only [Act.put,xa,xb,xc,i64_w,i32_w]
                    rfl
                   refine pure_ (i:=22) (N:=some 98) (v:=?_) (a':=?_) #[true,true,true,true,true,true,true,true,true,true,true,true,true,true,true,true,true,true,true,true,true,true,true,false,false,false,false,false,false,false,false,false,false,false,false,false] rfl rfl (any_of HT_.out (by kernel_rfl)) (fun _ _ _ h=>h) (Or.inl ⟨by rfl,?_⟩) ?_ ?_
                   rotate_left
                   ·intro w'
                    go_simp
                    with_reducible rfl
                   rotate_left
                   ·simp only [Act.put,xa,xb,xc,i64_w,i32_w]
                    rfl
                   refine pure_ (i:=23) (N:=some 99) (v:=?_) (a':=?_) #[true,true,true,true,true,true,true,true,true,true,true,true,true,true,true,true,true,true,true,true,true,true,true,true,false,false,false,false,false,false,false,false,false,false,false,false] rfl rfl (any_of HT_.out (by kernel_rfl)) (fun _ _ _ h=>h) (Or.inl ⟨by rfl,?_⟩) ?_ ?_
                   rotate_left
                   ·intro w'
                    go_simp
                    with_reducible rfl
                   rotate_left
                   ·simp only [Act.put,xa,xb,xc,i64_w,i32_w]
                    rfl
                   refine pure_ (i:=24) (N:=some 100) (v:=?_) (a':=?_) #[true,true,true,true,true,true,true,true,true,true,true,true,true,true,true,true,true,true,true,true,true,true,true,true,true,false,false,false,false,false,false,false,false,false,false,false] rfl rfl (any_of HT_.out (by kernel_rfl)) (fun _ _ _ h=>h) (Or.inl ⟨by rfl,?_⟩) ?_ ?_
                   rotate_left
                   ·intro w'
                    go_simp
                    with_reducible rfl
                   rotate_left
                   ·simp only [Act.put,xa,xb,xc,i64_w,i32_w]
                    rfl
                   refine pure_ (i:=25) (N:=some 101) (v:=?_) (a':=?_) #[true,true,true,true,true,true,true,true,true,true,true,true,true,true,true,true,true,true,true,true,true,true,true,true,true,true,false,false,false,false,false,false,false,false,false,false] rfl rfl (any_of HT_.out (by kernel_rfl)) (fun _ _ _ h=>h) (Or.inl ⟨by rfl,?_⟩) ?_ ?_
                   rotate_left
                   ·intro w'
                    go_simp
                    with_reducible rfl
                   rotate_left
                   ·simp only [Act.put,xa,xb,xc,i64_w,i32_w]
                    rfl
                   refine pure_ (i:=26) (N:=some 102) (v:=?_) (a':=?_) #[true,true,true,true,true,true,true,true,true,true,true,true,true,true,true,true,true,true,true,true,true,true,true,true,true,true,true,false,false,false,false,false,false,false,false,false] rfl rfl (any_of HT_.out (by kernel_rfl)) (fun _ _ _ h=>h) (Or.inl ⟨by rfl,?_⟩) ?_ ?_
                   rotate_left
                   ·intro w'
                    go_simp
                    with_reducible rfl
                   rotate_left
                   ·simp only [Act.put,xa,xb,xc,i64_w,i32_w]
                    rfl
                   refine pure_ (i:=28) (N:=some 104) (v:=?_) (a':=?_) #[true,true,true,true,true,true,true,true,true,true,true,true,true,true,true,true,true,true,true,true,true,true,true,true,true,true,true,false,true,false,false,false,false,false,false,false] rfl rfl (any_of HT_.out (by kernel_rfl)) (fun _ _ _ h=>h) (Or.inl ⟨by rfl,?_⟩) ?_ ?_
                   rotate_left
                   ·intro w'
                    go_simp
                    with_reducible rfl
                   rotate_left
                   ·simp only [Act.put,xa,xb,xc,i64_w,i32_w]
                    rfl
                   refine pure_ (i:=29) (N:=some 105) (v:=?_) (a':=?_) #[true,true,true,true,true,true,true,true,true,true,true,true,true,true,true,true,true,true,true,true,true,true,true,true,true,true,true,false,true,true,false,false,false,false,false,false] rfl rfl (any_of HT_.out (by kernel_rfl)) (fun _ _ _ h=>h) (Or.inl ⟨by rfl,?_⟩) ?_ ?_
                   rotate_left
                   ·intro w'
                    go_simp
                    with_reducible rfl
                   rotate_left
                   ·simp only [Act.put,xa,xb,xc,i64_w,i32_w]
                    rfl
                   refine pure_ (i:=30) (N:=some 106) (v:=?_) (a':=?_) #[true,true,true,true,true,true,true,true,true,true,true,true,true,true,true,true,true,true,true,true,true,true,true,true,true,true,true,false,true,true,true,false,false,false,false,false] rfl rfl (any_of HT_.out (by kernel_rfl)) (fun _ _ _ h=>h) (Or.inl ⟨by rfl,?_⟩) ?_ ?_
                   rotate_left
                   ·intro w'
                    go_simp
                    with_reducible rfl
                   rotate_left
                   ·simp only [Act.put,xa,xb,xc,i64_w,i32_w]
                    rfl
                   refine pure_ (i:=31) (N:=some 107) (v:=?_) (a':=?_) #[true,true,true,true,true,true,true,true,true,true,true,true,true,true,true,true,true,true,true,true,true,true,true,true,true,true,true,false,true,true,true,true,false,false,false,false] rfl rfl (any_of HT_.out (by kernel_rfl)) (fun _ _ _ h=>h) (Or.inl ⟨by rfl,?_⟩) ?_ ?_
                   rotate_left
                   ·intro w'
                    go_simp
                    with_reducible rfl
                   rotate_left
                   ·simp only [Act.put,xa,xb,xc,i64_w,i32_w]
                    rfl
                   refine pure_ (i:=32) (N:=some 108) (v:=?_) (a':=?_) #[true,true,true,true,true,true,true,true,true,true,true,true,true,true,true,true,true,true,true,true,true,true,true,true,true,true,true,false,true,true,true,true,true,false,false,false] rfl rfl (any_of HT_.out (by kernel_rfl)) (fun _ _ _ h=>h) (Or.inl ⟨by rfl,?_⟩) ?_ ?_
                   rotate_left
                   ·intro w'
                    go_simp
                    with_reducible rfl
                   rotate_left
                   ·simp only [Act.put,xa,xb,xc,i64_w,i32_w]
                    rfl
                   refine take_ (i:=27) (N:=some 103) (v:=?_) (a':=?_) #[true,true,true,true,true,true,true,true,true,true,true,true,true,true,true,true,true,true,true,true,true,true,true,true,true,true,true,true,true,true,true,true,true,false,false,false] rfl rfl (take_ofW HT_.out HW_.out (by kernel_rfl)) (fun _ _ _ h=>h) (Or.inl ⟨by rfl,?_⟩) hHeld ?_ ?_
                   rotate_left
                   ·rintro w' ⟨s0,s1⟩
                    go_simp
                    with_reducible rfl
                   rotate_left
                   ·simp only [Act.put,xa,xb,xc,i64_w,i32_w]
                    rfl
                   refine take_ (i:=33) (N:=some 109) (v:=?_) (a':=?_) #[true,true,true,true,true,true,true,true,true,true,true,true,true,true,true,true,true,true,true,true,true,true,true,true,true,true,true,true,true,true,true,true,true,true,false,false] rfl rfl (take_ofW HT_.out HW_.out (by kernel_rfl)) (fun _ _ _ h=>h) (Or.inl ⟨by rfl,?_⟩) hHeld ?_ ?_
                   rotate_left
                   ·rintro w' ⟨s0,s1⟩
                    go_simp
                    with_reducible rfl
                   rotate_left
                   ·simp only [Act.put,xa,xb,xc,i64_w,i32_w]
                    rfl
                   refine pure_ (i:=34) (N:=some 110) (v:=?_) (a':=?_) #[true,true,true,true,true,true,true,true,true,true,true,true,true,true,true,true,true,true,true,true,true,true,true,true,true,true,true,true,true,true,true,true,true,true,true,false] rfl rfl (any_of HT_.out (by kernel_rfl)) (fun _ _ _ h=>h) (Or.inl ⟨by rfl,?_⟩) ?_ ?_
                   rotate_left
                   ·intro w'
                    go_simp
                    with_reducible rfl
                   rotate_left
                   ·simp only [Act.put,xa,xb,xc,i64_w,i32_w]
                    rfl
                   refine pure_ (i:=35) (N:=some 111) (v:=?_) (a':=?_) #[true,true,true,true,true,true,true,true,true,true,true,true,true,true,true,true,true,true,true,true,true,true,true,true,true,true,true,true,true,true,true,true,true,true,true,true] rfl rfl (any_of HT_.out (by kernel_rfl)) (fun _ _ _ h=>h) (Or.inl ⟨by rfl,?_⟩) ?_ ?_
                   rotate_left
                   ·intro w'
                    go_simp
                    with_reducible rfl
                   rotate_left
                   ·simp only [Act.put,xa,xb,xc,i64_w,i32_w]
                    rfl
                   refine done_ (done_of HT_.out (by kernel_rfl)) ?_
                   try go_wp2
                   go_meet
                   case rel=>exact ⟨_,(((rd t474 (ji48)) != (rd t471 (ji51)))),(by first|rfl|(simp;done)|(simp only [← hji48,← hji51] <;> (first|rfl|simp))|(simp [*];done)),H',⟨by have:=HJ7.out;have:=HK2.out;first|omega|exact Nat.le_refl _⟩,⟨by (with_reducible repeat (first|apply Kd.R_alloc|apply Kd.R_drewN|apply Kd.R_drew));exact Kd.R_mono HO488.out (fun _ hk=>hk.2)⟩,⟨by (with_reducible repeat (first|apply Kd.R_alloc|apply Kd.R_drewN|apply Kd.R_drew));exact Kd.R_mono HO491.out (fun _ hk=>hk.1.2)⟩,⟨by (with_reducible repeat (first|apply Kd.R_alloc|apply Kd.R_drewN|apply Kd.R_drew));exact Kd.R_mono HO497.out (fun _ hk=>hk.2)⟩,⟨by (with_reducible repeat (first|apply Kd.R_alloc|apply Kd.R_drewN|apply Kd.R_drew));exact Kd.R_mono HO500.out (fun _ hk=>hk.1.2)⟩,⟨by (with_reducible repeat (first|refine blk_drewN ?_ _|refine blk_drew ?_|refine blk_alloc ?_ _));exact BK493.out⟩,⟨by (with_reducible repeat (first|refine blk_drewN ?_ _|refine blk_drew ?_|refine blk_alloc ?_ _));exact BK502.out⟩,⟨by repeat (first|(with_reducible first|exact HB.out|apply below_alloc|apply pw_below_drewN|apply below_drew1|refine below_set ?_ GE493.out|refine below_set ?_ GE502.out)|exact HB.out)⟩⟩
                  ·rw [if_neg c53] at H
                   exact absurd H (by simp)
                 ·rw [if_neg c52] at H
                  exact absurd H (by simp)
                ·rw [if_neg c50] at H
                 exact absurd H (by simp)
               ·rw [if_neg c49] at H
                exact absurd H (by simp)
              ·replace c47:=Bool.eq_false_iff.mpr c47
               subst c47
               rw [if_neg (show ¬ (false = true) by decide)] at H
               have H':=Aside0.mk H
               clear H
               try go_wp2
               have n0_:=Aside0.mk (Kd.R_drew HO_5.out)
               have n1_:=Aside0.mk (Kd.R_drew HO_6.out)
               have n2_:=Aside0.mk (Kd.R_drew HO_50.out)
               have n3_:=Aside0.mk (Kd.R_drew HO488.out)
               have n4_:=Aside0.mk (Kd.R_drew HO491.out)
               have n5_:=Aside0.mk (Kd.R_drew HO497.out)
               have n6_:=Aside0.mk (Kd.R_drew HO500.out)
               have n7_:=Aside0.mk (Kd.R_drew HO505.out)
               have n8_:=Aside0.mk (blk_drew BK493.out)
               have n9_:=Aside0.mk (blk_drew BK502.out)
               have n10_:=Aside0.mk (below_drew1 HB.out)
               clear HO_5
               clear HO_6
               clear HO_50
               clear HO488
               clear HO491
               clear HO497
               clear HO500
               clear HO505
               clear BK493
               clear BK502
               clear HB
               have HO_5:=n0_
               have HO_6:=n1_
               have HO_50:=n2_
               have HO488:=n3_
               have HO491:=n4_
               have HO497:=n5_
               have HO500:=n6_
               have HO505:=n7_
               have BK493:=n8_
               have BK502:=n9_
               have HB:=n10_
               clear n0_ n1_ n2_ n3_ n4_ n5_ n6_ n7_ n8_ n9_ n10_
               obtain ⟨Ao58,co58,eo58⟩:=Kd.R_slice HO505.out
               (first|subst eo58|(injection eo58 with f1_ f2_ f3_;have f4_:=f1_.symm;have f5_:=f3_.symm;clear f1_ f2_ f3_;subst f4_;subst f5_))
               refine start_ (n:=36) (S:=fun w'=>True) (ds:=[]) #[false,false,false,false,false,false,false,false,false,false,false,false,false,false,false,false,false,false,false,false,false,false,false,false,false,false,false,false,false,false,false,false,false,false,false,false] (by kernel_rfl) rfl rfl trivial (fun hHeld=>?_);refine with_tabW laws_FnNeededParts.tab19 laws_FnNeededParts.bits19 (fun HT_ HW_=>?_)
               generalize w40.drew = w57 at HO_5 HO_6 HO_50 HO488 HO491 HO497 HO500 HO505 BK493 BK502 HB hHeld ⊢
               refine pure_ (i:=0) (N:=some 76) (v:=?_) (a':=?_) #[true,false,false,false,false,false,false,false,false,false,false,false,false,false,false,false,false,false,false,false,false,false,false,false,false,false,false,false,false,false,false,false,false,false,false,false] rfl rfl (any_of HT_.out (by kernel_rfl)) (fun _ _ _ h=>h) (Or.inl ⟨by rfl,?_⟩) ?_ ?_
               rotate_left
               ·intro w'
                go_simp
                with_reducible rfl
               rotate_left
               ·simp only [Act.put,xa,xb,xc,i64_w,i32_w]
                rfl
               refine pure_ (i:=1) (N:=some 77) (v:=?_) (a':=?_) #[true,true,false,false,false,false,false,false,false,false,false,false,false,false,false,false,false,false,false,false,false,false,false,false,false,false,false,false,false,false,false,false,false,false,false,false] rfl rfl (any_of HT_.out (by kernel_rfl)) (fun _ _ _ h=>h) (Or.inl ⟨by rfl,?_⟩) ?_ ?_
               rotate_left
               ·intro w'
                go_simp
                with_reducible rfl
               rotate_left
               ·simp only [Act.put,xa,xb,xc,i64_w,i32_w]
                rfl
               refine pure_ (i:=2) (N:=some 78) (v:=?_) (a':=?_) #[true,true,true,false,false,false,false,false,false,false,false,false,false,false,false,false,false,false,false,false,false,false,false,false,false,false,false,false,false,false,false,false,false,false,false,false] rfl rfl (any_of HT_.out (by kernel_rfl)) (fun _ _ _ h=>h) (Or.inl ⟨by rfl,?_⟩) ?_ ?_
               rotate_left
               ·intro w'
                go_simp
                with_reducible rfl
               rotate_left
               ·simp only [Act.put,xa,xb,xc,i64_w,i32_w]
                rfl
               refine pure_ (i:=3) (N:=some 79) (v:=?_) (a':=?_) #[true,true,true,true,false,false,false,false,false,false,false,false,false,false,false,false,false,false,false,false,false,false,false,false,false,false,false,false,false,false,false,false,false,false,false,false] rfl rfl (any_of HT_.out (by kernel_rfl)) (fun _ _ _ h=>h) (Or.inl ⟨by rfl,?_⟩) ?_ ?_
               rotate_left
               ·intro w'
                go_simp
                with_reducible rfl
               rotate_left
               ·simp only [Act.put,xa,xb,xc,i64_w,i32_w]
                rfl
               refine pure_ (i:=4) (N:=some 80) (v:=?_) (a':=?_) #[true,true,true,true,true,false,false,false,false,false,false,false,false,false,false,false,false,false,false,false,false,false,false,false,false,false,false,false,false,false,false,false,false,false,false,false] rfl rfl (any_of HT_.out (by kernel_rfl)) (fun _ _ _ h=>h) (Or.inl ⟨by rfl,?_⟩) ?_ ?_
               rotate_left
               ·intro w'
                go_simp
                with_reducible rfl
               rotate_left
               ·simp only [Act.put,xa,xb,xc,i64_w,i32_w]
                rfl
               refine pure_ (i:=5) (N:=some 81) (v:=?_) (a':=?_) #[true,true,true,true,true,true,false,false,false,false,false,false,false,false,false,false,false,false,false,false,false,false,false,false,false,false,false,false,false,false,false,false,false,false,false,false] rfl rfl (any_of HT_.out (by kernel_rfl)) (fun _ _ _ h=>h) (Or.inl ⟨by rfl,?_⟩) ?_ ?_
               rotate_left
               ·intro w'
                go_simp
                with_reducible rfl
               rotate_left
               ·simp only [Act.put,xa,xb,xc,i64_w,i32_w]
                rfl
               refine pure_ (i:=6) (N:=some 82) (v:=?_) (a':=?_) #[true,true,true,true,true,true,true,false,false,false,false,false,false,false,false,false,false,false,false,false,false,false,false,false,false,false,false,false,false,false,false,false,false,false,false,false] rfl rfl (any_of HT_.out (by kernel_rfl)) (fun _ _ _ h=>h) (Or.inl ⟨by rfl,?_⟩) ?_ ?_
               rotate_left
               ·intro w'
                go_simp
                with_reducible rfl
               rotate_left
               ·simp only [Act.put,xa,xb,xc,i64_w,i32_w]
                rfl
               refine pure_ (i:=7) (N:=some 83) (v:=?_) (a':=?_) #[true,true,true,true,true,true,true,true,false,false,false,false,false,false,false,false,false,false,false,false,false,false,false,false,false,false,false,false,false,false,false,false,false,false,false,false] rfl rfl (any_of HT_.out (by kernel_rfl)) (fun _ _ _ h=>h) (Or.inl ⟨by rfl,?_⟩) ?_ ?_
               rotate_left
               ·intro w'
                go_simp
                with_reducible rfl
               rotate_left
               ·simp only [Act.put,xa,xb,xc,i64_w,i32_w]
                rfl
               refine pure_ (i:=8) (N:=some 84) (v:=?_) (a':=?_) #[true,true,true,true,true,true,true,true,true,false,false,false,false,false,false,false,false,false,false,false,false,false,false,false,false,false,false,false,false,false,false,false,false,false,false,false] rfl rfl (any_of HT_.out (by kernel_rfl)) (fun _ _ _ h=>h) (Or.inl ⟨by rfl,?_⟩) ?_ ?_
               rotate_left
               ·intro w'
                go_simp
                with_reducible rfl
               rotate_left
               ·simp only [Act.put,xa,xb,xc,i64_w,i32_w]
                rfl
               refine pure_ (i:=9) (N:=some 85) (v:=?_) (a':=?_) #[true,true,true,true,true,true,true,true,true,true,false,false,false,false,false,false,false,false,false,false,false,false,false,false,false,false,false,false,false,false,false,false,false,false,false,false] rfl rfl (any_of HT_.out (by kernel_rfl)) (fun _ _ _ h=>h) (Or.inl ⟨by rfl,?_⟩) ?_ ?_
               rotate_left
               ·intro w'
                go_simp
                with_reducible rfl
               rotate_left
               ·simp only [Act.put,xa,xb,xc,i64_w,i32_w]
                rfl
               refine pure_ (i:=10) (N:=some 86) (v:=?_) (a':=?_) #[true,true,true,true,true,true,true,true,true,true,true,false,false,false,false,false,false,false,false,false,false,false,false,false,false,false,false,false,false,false,false,false,false,false,false,false] rfl rfl (any_of HT_.out (by kernel_rfl)) (fun _ _ _ h=>h) (Or.inl ⟨by rfl,?_⟩) ?_ ?_
               rotate_left
               ·intro w'
                go_simp
                with_reducible rfl
               rotate_left
               ·simp only [Act.put,xa,xb,xc,i64_w,i32_w]
                rfl
               refine pure_ (i:=11) (N:=some 87) (v:=?_) (a':=?_) #[true,true,true,true,true,true,true,true,true,true,true,true,false,false,false,false,false,false,false,false,false,false,false,false,false,false,false,false,false,false,false,false,false,false,false,false] rfl rfl (any_of HT_.out (by kernel_rfl)) (fun _ _ _ h=>h) (Or.inl ⟨by rfl,?_⟩) ?_ ?_
               rotate_left
               ·intro w'
                go_simp
                with_reducible rfl
               rotate_left
               ·simp only [Act.put,xa,xb,xc,i64_w,i32_w]
                rfl
               refine pure_ (i:=12) (N:=some 88) (v:=?_) (a':=?_) #[true,true,true,true,true,true,true,true,true,true,true,true,true,false,false,false,false,false,false,false,false,false,false,false,false,false,false,false,false,false,false,false,false,false,false,false] rfl rfl (any_of HT_.out (by kernel_rfl)) (fun _ _ _ h=>h) (Or.inl ⟨by rfl,?_⟩) ?_ ?_
               rotate_left
               ·intro w'
                go_simp
                with_reducible rfl
               rotate_left
               ·simp only [Act.put,xa,xb,xc,i64_w,i32_w]
                rfl
               refine one_ (i:=13) (N:=some 89) #[true,true,true,true,true,true,true,true,true,true,true,true,true,true,false,false,false,false,false,false,false,false,false,false,false,false,false,false,false,false,false,false,false,false,false,false] rfl rfl (one_of HT_.out (by kernel_rfl)) (by decide) (fun K hK=>?_)
               refine goes_ Try.func10 (by kernel_rfl) rfl #[.slice Ao58 t503.length co58,.slice Ao19 t474.length co19] (by rfl) rfl rfl mz ?_
               with_reducible refine (laws_pSameInts.calls k2 _ _ t503 _ _ t474 true _ ?side1 ?side2 ?side3 ?side4 A44.out).mono ?_
               (case side1=>exact cz (Kd.R_reads' HO505.out).2.2)
               (case side2=>exact (Kd.R_reads' HO505.out).2.1)
               (case side3=>exact cz (Kd.R_reads' HO_6.out).2.2)
               (case side4=>exact (Kd.R_reads' HO_6.out).2.1)
               rintro e w' ⟨rfl,⟨nd,rfl⟩⟩
               refine ⟨_,rfl,?_⟩
               refine hK.out _ _ trivial (fun hHeld=>?_)
               clear hK K
               refine norm_ (a':=?_) ?_ ?_
               rotate_left
               ·show Act.put _ (some 89) _ = _
                simp only [Act.put,xa,xb,xc,i64_w,i32_w]
                rfl
               refine pure_ (i:=14) (N:=some 90) (v:=?_) (a':=?_) #[true,true,true,true,true,true,true,true,true,true,true,true,true,true,true,false,false,false,false,false,false,false,false,false,false,false,false,false,false,false,false,false,false,false,false,false] rfl rfl (any_of HT_.out (by kernel_rfl)) (fun _ _ _ h=>h) (Or.inl ⟨by rfl,?_⟩) ?_ ?_
               rotate_left
               ·intro w'
                go_simp
                with_reducible rfl
               rotate_left
               ·simp only [Act.put,xa,xb,xc,i64_w,i32_w]
                rfl
               refine pure_ (i:=15) (N:=some 91) (v:=?_) (a':=?_) #[true,true,true,true,true,true,true,true,true,true,true,true,true,true,true,true,false,false,false,false,false,false,false,false,false,false,false,false,false,false,false,false,false,false,false,false] rfl rfl (any_of HT_.out (by kernel_rfl)) (fun _ _ _ h=>h) (Or.inl ⟨by rfl,?_⟩) ?_ ?_
               rotate_left
               ·intro w'
                go_simp
                with_reducible rfl
               rotate_left
               ·simp only [Act.put,xa,xb,xc,i64_w,i32_w]
                rfl
               refine pure_ (i:=16) (N:=some 92) (v:=?_) (a':=?_) #[true,true,true,true,true,true,true,true,true,true,true,true,true,true,true,true,true,false,false,false,false,false,false,false,false,false,false,false,false,false,false,false,false,false,false,false] rfl rfl (any_of HT_.out (by kernel_rfl)) (fun _ _ _ h=>h) (Or.inl ⟨by rfl,?_⟩) ?_ ?_
               rotate_left
               ·intro w'
                go_simp
                with_reducible rfl
               rotate_left
               ·simp only [Act.put,xa,xb,xc,i64_w,i32_w]
                rfl
               refine pure_ (i:=17) (N:=some 93) (v:=?_) (a':=?_) #[true,true,true,true,true,true,true,true,true,true,true,true,true,true,true,true,true,true,false,false,false,false,false,false,false,false,false,false,false,false,false,false,false,false,false,false] rfl rfl (any_of HT_.out (by kernel_rfl)) (fun _ _ _ h=>h) (Or.inl ⟨by rfl,?_⟩) ?_ ?_
               rotate_left
               ·intro w'
                go_simp
                with_reducible rfl
               rotate_left
               ·simp only [Act.put,xa,xb,xc,i64_w,i32_w]
                rfl
               refine one_ (i:=18) (N:=some 94) #[true,true,true,true,true,true,true,true,true,true,true,true,true,true,true,true,true,true,true,false,false,false,false,false,false,false,false,false,false,false,false,false,false,false,false,false] rfl rfl (one_of HT_.out (by kernel_rfl)) (by decide) (fun K hK=>?_)
               refine goes_ Try.func15 (by kernel_rfl) rfl #[.slice Ao19 t474.length co19] (by rfl) rfl rfl mz ?_
               with_reducible refine (impl_IsChain.calls k2 _ _ t474 false _ ?side1 ?side2 A46.out).mono ?_
               (case side1=>exact cz (Kd.R_reads' HO_6.out).2.2)
               (case side2=>exact (Kd.R_reads' HO_6.out).2.1)
               rintro e w59 ⟨rfl,hb⟩
               refine ⟨_,rfl,?_⟩
               have n0_:=Aside0.mk (Kd.R_below (rz HO_5.out) hb)
               have n1_:=Aside0.mk (Kd.R_below (rz HO_6.out) hb)
               have n2_:=Aside0.mk (Kd.R_below (rz HO_50.out) hb)
               have n3_:=Aside0.mk (Kd.R_below (rz HO488.out) hb)
               have n4_:=Aside0.mk (Kd.R_below (rz HO491.out) hb)
               have n5_:=Aside0.mk (Kd.R_below (rz HO497.out) hb)
               have n6_:=Aside0.mk (Kd.R_below (rz HO500.out) hb)
               have n7_:=Aside0.mk (Kd.R_below (rz HO505.out) hb)
               have n8_:=Aside0.mk (blk_below (g:=gb493) (o:=.cells #[.int .i64 t485,.slice Ao32 t486.length co32,.slice Ao33 t489.length co33] 32 (0,0)) (kz BK493.out) hb)
               have n9_:=Aside0.mk (blk_below (g:=gb502) (o:=.cells #[.int .i64 t494,.slice Ao38 t495.length co38,.slice Ao39 t498.length co39] 32 (0,0)) (kz BK502.out) hb)
               have n10_:=Aside0.mk (below_step bs hb)
               clear HO_5
               clear HO_6
               clear HO_50
               clear HO488
               clear HO491
               clear HO497
               clear HO500
               clear HO505
               clear BK493
               clear BK502
               clear HB
               have HO_5:=n0_
               have HO_6:=n1_
               have HO_50:=n2_
               have HO488:=n3_
               have HO491:=n4_
               have HO497:=n5_
               have HO500:=n6_
               have HO505:=n7_
               have BK493:=n8_
               have BK502:=n9_
               have HB:=n10_
               clear n0_ n1_ n2_ n3_ n4_ n5_ n6_ n7_ n8_ n9_ n10_
               (try clear hb)
               refine hK.out _ _ trivial (fun hHeld=>?_)
               clear hK K
               refine norm_ (a':=?_) ?_ ?_
               rotate_left
               ·show Act.put _ (some 94) _ = _
                simp only [Act.put,xa,xb,xc,i64_w,i32_w]
                rfl
               refine pure_ (i:=19) (N:=some 95) (v:=?_) (a':=?_) #[true,true,true,true,true,true,true,true,true,true,true,true,true,true,true,true,true,true,true,true,false,false,false,false,false,false,false,false,false,false,false,false,false,false,false,false] rfl rfl (any_of HT_.out (by kernel_rfl)) (fun _ _ _ h=>h) (Or.inl ⟨by rfl,?_⟩) ?_ ?_
               rotate_left
               ·intro w'
                go_simp
                with_reducible rfl
               rotate_left
               ·simp only [Act.put,xa,xb,xc,i64_w,i32_w]
                rfl
               refine pure_ (i:=20) (N:=some 96) (v:=?_) (a':=?_) #[true,true,true,true,true,true,true,true,true,true,true,true,true,true,true,true,true,true,true,true,true,false,false,false,false,false,false,false,false,false,false,false,false,false,false,false] rfl rfl (any_of HT_.out (by kernel_rfl)) (fun _ _ _ h=>h) (Or.inl ⟨by rfl,?_⟩) ?_ ?_
               rotate_left
               ·intro w'
                go_simp
                with_reducible rfl
               rotate_left
               ·simp only [Act.put,xa,xb,xc,i64_w,i32_w]
                rfl
               refine pure_ (i:=21) (N:=some 97) (v:=?_) (a':=?_) #[true,true,true,true,true,true,true,true,true,true,true,true,true,true,true,true,true,true,true,true,true,true,false,false,false,false,false,false,false,false,false,false,false,false,false,false] rfl rfl (any_of HT_.out (by kernel_rfl)) (fun _ _ _ h=>h) (Or.inl ⟨by rfl,?_⟩) ?_ ?_
               rotate_left
               ·intro w'
                go_simp
                with_reducible rfl
               rotate_left
               ·simp only [Act.put,xa,xb,xc,i64_w,i32_w]
                rfl
               refine pure_ (i:=22) (N:=some 98) (v:=undef) (a':=?_) #[true,true,true,true,true,true,true,true,true,true,true,true,true,true,true,true,true,true,true,true,true,true,true,false,false,false,false,false,false,false,false,false,false,false,false,false] rfl rfl (any_of HT_.out (by kernel_rfl)) (fun _ _ _ h=>h) (Or.inr ⟨by rfl,rfl⟩) ?_ ?_
               rotate_left
               ·simp only [Act.put,xa,xb,xc,i64_w,i32_w]
                rfl
               refine pure_ (i:=23) (N:=some 99) (v:=undef) (a':=?_) #[true,true,true,true,true,true,true,true,true,true,true,true,true,true,true,true,true,true,true,true,true,true,true,true,false,false,false,false,false,false,false,false,false,false,false,false] rfl rfl (any_of HT_.out (by kernel_rfl)) (fun _ _ _ h=>h) (Or.inr ⟨by rfl,rfl⟩) ?_ ?_
               rotate_left
               ·simp only [Act.put,xa,xb,xc,i64_w,i32_w]
                rfl
               refine pure_ (i:=24) (N:=some 100) (v:=undef) (a':=?_) #[true,true,true,true,true,true,true,true,true,true,true,true,true,true,true,true,true,true,true,true,true,true,true,true,true,false,false,false,false,false,false,false,false,false,false,false] rfl rfl (any_of HT_.out (by kernel_rfl)) (fun _ _ _ h=>h) (Or.inr ⟨by rfl,rfl⟩) ?_ ?_
               rotate_left
               ·simp only [Act.put,xa,xb,xc,i64_w,i32_w]
                rfl
               refine pure_ (i:=25) (N:=some 101) (v:=undef) (a':=?_) #[true,true,true,true,true,true,true,true,true,true,true,true,true,true,true,true,true,true,true,true,true,true,true,true,true,true,false,false,false,false,false,false,false,false,false,false] rfl rfl (any_of HT_.out (by kernel_rfl)) (fun _ _ _ h=>h) (Or.inr ⟨by rfl,rfl⟩) ?_ ?_
               rotate_left
               ·simp only [Act.put,xa,xb,xc,i64_w,i32_w]
                rfl
               refine pure_ (i:=26) (N:=some 102) (v:=undef) (a':=?_) #[true,true,true,true,true,true,true,true,true,true,true,true,true,true,true,true,true,true,true,true,true,true,true,true,true,true,true,false,false,false,false,false,false,false,false,false] rfl rfl (any_of HT_.out (by kernel_rfl)) (fun _ _ _ h=>h) (Or.inr ⟨by rfl,rfl⟩) ?_ ?_
               rotate_left
               ·simp only [Act.put,xa,xb,xc,i64_w,i32_w]
                rfl
               refine pure_ (i:=27) (N:=some 103) (v:=undef) (a':=?_) #[true,true,true,true,true,true,true,true,true,true,true,true,true,true,true,true,true,true,true,true,true,true,true,true,true,true,true,true,false,false,false,false,false,false,false,false] rfl rfl (any_of HT_.out (by kernel_rfl)) (fun _ _ _ h=>h) (Or.inr ⟨by rfl,rfl⟩) ?_ ?_
               rotate_left
               ·simp only [Act.put,xa,xb,xc,i64_w,i32_w]
                rfl
               refine pure_ (i:=28) (N:=some 104) (v:=undef) (a':=?_) #[true,true,true,true,true,true,true,true,true,true,true,true,true,true,true,true,true,true,true,true,true,true,true,true,true,true,true,true,true,false,false,false,false,false,false,false] rfl rfl (any_of HT_.out (by kernel_rfl)) (fun _ _ _ h=>h) (Or.inr ⟨by rfl,rfl⟩) ?_ ?_
               rotate_left
               ·simp only [Act.put,xa,xb,xc,i64_w,i32_w]
                rfl
               refine pure_ (i:=29) (N:=some 105) (v:=undef) (a':=?_) #[true,true,true,true,true,true,true,true,true,true,true,true,true,true,true,true,true,true,true,true,true,true,true,true,true,true,true,true,true,true,false,false,false,false,false,false] rfl rfl (any_of HT_.out (by kernel_rfl)) (fun _ _ _ h=>h) (Or.inr ⟨by rfl,rfl⟩) ?_ ?_
               rotate_left
               ·simp only [Act.put,xa,xb,xc,i64_w,i32_w]
                rfl
               refine pure_ (i:=30) (N:=some 106) (v:=undef) (a':=?_) #[true,true,true,true,true,true,true,true,true,true,true,true,true,true,true,true,true,true,true,true,true,true,true,true,true,true,true,true,true,true,true,false,false,false,false,false] rfl rfl (any_of HT_.out (by kernel_rfl)) (fun _ _ _ h=>h) (Or.inr ⟨by rfl,rfl⟩) ?_ ?_
               rotate_left
               ·simp only [Act.put,xa,xb,xc,i64_w,i32_w]
                rfl
               refine pure_ (i:=31) (N:=some 107) (v:=undef) (a':=?_) #[true,true,true,true,true,true,true,true,true,true,true,true,true,true,true,true,true,true,true,true,true,true,true,true,true,true,true,true,true,true,true,true,false,false,false,false] rfl rfl (any_of HT_.out (by kernel_rfl)) (fun _ _ _ h=>h) (Or.inr ⟨by rfl,rfl⟩) ?_ ?_
               rotate_left
               ·simp only [Act.put,xa,xb,xc,i64_w,i32_w]
                rfl
               refine pure_ (i:=32) (N:=some 108) (v:=undef) (a':=?_) #[true,true,true,true,true,true,true,true,true,true,true,true,true,true,true,true,true,true,true,true,true,true,true,true,true,true,true,true,true,true,true,true,true,false,false,false] rfl rfl (any_of HT_.out (by kernel_rfl)) (fun _ _ _ h=>h) (Or.inr ⟨by rfl,rfl⟩) ?_ ?_
               rotate_left
               ·simp only [Act.put,xa,xb,xc,i64_w,i32_w]
                rfl
               refine pure_ (i:=33) (N:=some 109) (v:=undef) (a':=?_) #[true,true,true,true,true,true,true,true,true,true,true,true,true,true,true,true,true,true,true,true,true,true,true,true,true,true,true,true,true,true,true,true,true,true,false,false] rfl rfl (any_of HT_.out (by kernel_rfl)) (fun _ _ _ h=>h) (Or.inr ⟨by rfl,rfl⟩) ?_ ?_
               rotate_left
               ·simp only [Act.put,xa,xb,xc,i64_w,i32_w]
                rfl
               refine pure_ (i:=34) (N:=some 110) (v:=undef) (a':=?_) #[true,true,true,true,true,true,true,true,true,true,true,true,true,true,true,true,true,true,true,true,true,true,true,true,true,true,true,true,true,true,true,true,true,true,true,false] rfl rfl (any_of HT_.out (by kernel_rfl)) (fun _ _ _ h=>h) (Or.inr ⟨by rfl,rfl⟩) ?_ ?_
               rotate_left
               ·simp only [Act.put,xa,xb,xc,i64_w,i32_w]
                rfl
               refine pure_ (i:=35) (N:=some 111) (v:=?_) (a':=?_) #[true,true,true,true,true,true,true,true,true,true,true,true,true,true,true,true,true,true,true,true,true,true,true,true,true,true,true,true,true,true,true,true,true,true,true,true] rfl rfl (any_of HT_.out (by kernel_rfl)) (fun _ _ _ h=>h) (Or.inl ⟨by rfl,?_⟩) ?_ ?_
               rotate_left
               ·intro w'
                go_simp
                with_reducible rfl
               rotate_left
               ·simp only [Act.put,xa,xb,xc,i64_w,i32_w]
                rfl
               refine done_ (done_of HT_.out (by kernel_rfl)) ?_
               try go_wp2
               go_meet
               case rel=>exact ⟨_,(true),fz,H',⟨by have:=HJ7.out;have:=HK2.out;first|omega|exact Nat.le_refl _⟩,⟨by (with_reducible repeat (first|apply Kd.R_alloc|apply Kd.R_drewN|apply Kd.R_drew));exact Kd.R_mono HO488.out (fun _ hk=>hk.2)⟩,⟨by (with_reducible repeat (first|apply Kd.R_alloc|apply Kd.R_drewN|apply Kd.R_drew));exact Kd.R_mono HO491.out (fun _ hk=>hk.1.2)⟩,⟨by (with_reducible repeat (first|apply Kd.R_alloc|apply Kd.R_drewN|apply Kd.R_drew));exact Kd.R_mono HO497.out (fun _ hk=>hk.2)⟩,⟨by (with_reducible repeat (first|apply Kd.R_alloc|apply Kd.R_drewN|apply Kd.R_drew));exact Kd.R_mono HO500.out (fun _ hk=>hk.1.2)⟩,⟨by (with_reducible repeat (first|refine blk_drewN ?_ _|refine blk_drew ?_|refine blk_alloc ?_ _));exact BK493.out⟩,⟨by (with_reducible repeat (first|refine blk_drewN ?_ _|refine blk_drew ?_|refine blk_alloc ?_ _));exact BK502.out⟩,⟨by repeat (first|(with_reducible first|exact HB.out|apply below_alloc|apply pw_below_drewN|apply below_drew1|refine below_set ?_ GE493.out|refine below_set ?_ GE502.out)|exact HB.out)⟩⟩
             ·replace c45:=Bool.eq_false_iff.mpr c45
              subst c45
              rw [if_neg (show ¬ (false = true) by decide)] at H
              have H':=Aside0.mk H
              clear H
              try go_wp2
              have n0_:=Aside0.mk (Kd.R_drew HO_5.out)
              have n1_:=Aside0.mk (Kd.R_drew HO_6.out)
              have n2_:=Aside0.mk (Kd.R_drew HO_50.out)
              have n3_:=Aside0.mk (Kd.R_drew HO488.out)
              have n4_:=Aside0.mk (Kd.R_drew HO491.out)
              have n5_:=Aside0.mk (Kd.R_drew HO497.out)
              have n6_:=Aside0.mk (Kd.R_drew HO500.out)
              have n7_:=Aside0.mk (Kd.R_drew HO505.out)
              have n8_:=Aside0.mk (blk_drew BK493.out)
              have n9_:=Aside0.mk (blk_drew BK502.out)
              have n10_:=Aside0.mk (below_drew1 HB.out)
              clear HO_5
              clear HO_6
              clear HO_50
              clear HO488
              clear HO491
              clear HO497
              clear HO500
              clear HO505
              clear BK493
              clear BK502
              clear HB
              have HO_5:=n0_
              have HO_6:=n1_
              have HO_50:=n2_
              have HO488:=n3_
              have HO491:=n4_
              have HO497:=n5_
              have HO500:=n6_
              have HO505:=n7_
              have BK493:=n8_
              have BK502:=n9_
              have HB:=n10_
              clear n0_ n1_ n2_ n3_ n4_ n5_ n6_ n7_ n8_ n9_ n10_
              obtain ⟨Ao61,co61,eo61⟩:=Kd.R_slice HO505.out
              (first|subst eo61|(injection eo61 with f1_ f2_ f3_;have f4_:=f1_.symm;have f5_:=f3_.symm;clear f1_ f2_ f3_;subst f4_;subst f5_))
              refine start_ (n:=36) (S:=fun w'=>True) (ds:=[]) #[false,false,false,false,false,false,false,false,false,false,false,false,false,false,false,false,false,false,false,false,false,false,false,false,false,false,false,false,false,false,false,false,false,false,false,false] (by kernel_rfl) rfl rfl trivial (fun hHeld=>?_);refine with_tabW laws_FnNeededParts.tab19 laws_FnNeededParts.bits19 (fun HT_ HW_=>?_)
              generalize w40.drew = w60 at HO_5 HO_6 HO_50 HO488 HO491 HO497 HO500 HO505 BK493 BK502 HB hHeld ⊢
              refine pure_ (i:=0) (N:=some 76) (v:=?_) (a':=?_) #[true,false,false,false,false,false,false,false,false,false,false,false,false,false,false,false,false,false,false,false,false,false,false,false,false,false,false,false,false,false,false,false,false,false,false,false] rfl rfl (any_of HT_.out (by kernel_rfl)) (fun _ _ _ h=>h) (Or.inl ⟨by rfl,?_⟩) ?_ ?_
              rotate_left
              ·intro w'
               go_simp
               with_reducible rfl
              rotate_left
              ·simp only [Act.put,xa,xb,xc,i64_w,i32_w]
               rfl
              refine pure_ (i:=1) (N:=some 77) (v:=?_) (a':=?_) #[true,true,false,false,false,false,false,false,false,false,false,false,false,false,false,false,false,false,false,false,false,false,false,false,false,false,false,false,false,false,false,false,false,false,false,false] rfl rfl (any_of HT_.out (by kernel_rfl)) (fun _ _ _ h=>h) (Or.inl ⟨by rfl,?_⟩) ?_ ?_
              rotate_left
              ·intro w'
               go_simp
               with_reducible rfl
              rotate_left
              ·simp only [Act.put,xa,xb,xc,i64_w,i32_w]
               rfl
              refine pure_ (i:=2) (N:=some 78) (v:=?_) (a':=?_) #[true,true,true,false,false,false,false,false,false,false,false,false,false,false,false,false,false,false,false,false,false,false,false,false,false,false,false,false,false,false,false,false,false,false,false,false] rfl rfl (any_of HT_.out (by kernel_rfl)) (fun _ _ _ h=>h) (Or.inl ⟨by rfl,?_⟩) ?_ ?_
              rotate_left
              ·intro w'
               go_simp
               with_reducible rfl
              rotate_left
              ·simp only [Act.put,xa,xb,xc,i64_w,i32_w]
               rfl
              refine pure_ (i:=3) (N:=some 79) (v:=?_) (a':=?_) #[true,true,true,true,false,false,false,false,false,false,false,false,false,false,false,false,false,false,false,false,false,false,false,false,false,false,false,false,false,false,false,false,false,false,false,false] rfl rfl (any_of HT_.out (by kernel_rfl)) (fun _ _ _ h=>h) (Or.inl ⟨by rfl,?_⟩) ?_ ?_
              rotate_left
              ·intro w'
               go_simp
               with_reducible rfl
              rotate_left
              ·simp only [Act.put,xa,xb,xc,i64_w,i32_w]
               rfl
              refine pure_ (i:=4) (N:=some 80) (v:=?_) (a':=?_) #[true,true,true,true,true,false,false,false,false,false,false,false,false,false,false,false,false,false,false,false,false,false,false,false,false,false,false,false,false,false,false,false,false,false,false,false] rfl rfl (any_of HT_.out (by kernel_rfl)) (fun _ _ _ h=>h) (Or.inl ⟨by rfl,?_⟩) ?_ ?_
              rotate_left
              ·intro w'
               go_simp
               with_reducible rfl
              rotate_left
              ·simp only [Act.put,xa,xb,xc,i64_w,i32_w]
               rfl
              refine pure_ (i:=5) (N:=some 81) (v:=?_) (a':=?_) #[true,true,true,true,true,true,false,false,false,false,false,false,false,false,false,false,false,false,false,false,false,false,false,false,false,false,false,false,false,false,false,false,false,false,false,false] rfl rfl (any_of HT_.out (by kernel_rfl)) (fun _ _ _ h=>h) (Or.inl ⟨by rfl,?_⟩) ?_ ?_
              rotate_left
              ·intro w'
               go_simp
               with_reducible rfl
              rotate_left
              ·simp only [Act.put,xa,xb,xc,i64_w,i32_w]
               rfl
              refine pure_ (i:=6) (N:=some 82) (v:=?_) (a':=?_) #[true,true,true,true,true,true,true,false,false,false,false,false,false,false,false,false,false,false,false,false,false,false,false,false,false,false,false,false,false,false,false,false,false,false,false,false] rfl rfl (any_of HT_.out (by kernel_rfl)) (fun _ _ _ h=>h) (Or.inl ⟨by rfl,?_⟩) ?_ ?_
              rotate_left
              ·intro w'
               go_simp
               with_reducible rfl
              rotate_left
              ·simp only [Act.put,xa,xb,xc,i64_w,i32_w]
               rfl
              refine pure_ (i:=7) (N:=some 83) (v:=?_) (a':=?_) #[true,true,true,true,true,true,true,true,false,false,false,false,false,false,false,false,false,false,false,false,false,false,false,false,false,false,false,false,false,false,false,false,false,false,false,false] rfl rfl (any_of HT_.out (by kernel_rfl)) (fun _ _ _ h=>h) (Or.inl ⟨by rfl,?_⟩) ?_ ?_
              rotate_left
              ·intro w'
               go_simp
               with_reducible rfl
              rotate_left
              ·simp only [Act.put,xa,xb,xc,i64_w,i32_w]
               rfl
              refine pure_ (i:=8) (N:=some 84) (v:=?_) (a':=?_) #[true,true,true,true,true,true,true,true,true,false,false,false,false,false,false,false,false,false,false,false,false,false,false,false,false,false,false,false,false,false,false,false,false,false,false,false] rfl rfl (any_of HT_.out (by kernel_rfl)) (fun _ _ _ h=>h) (Or.inl ⟨by rfl,?_⟩) ?_ ?_
              rotate_left
              ·intro w'
               go_simp
               with_reducible rfl
              rotate_left
              ·simp only [Act.put,xa,xb,xc,i64_w,i32_w]
               rfl
              refine pure_ (i:=9) (N:=some 85) (v:=?_) (a':=?_) #[true,true,true,true,true,true,true,true,true,true,false,false,false,false,false,false,false,false,false,false,false,false,false,false,false,false,false,false,false,false,false,false,false,false,false,false] rfl rfl (any_of HT_.out (by kernel_rfl)) (fun _ _ _ h=>h) (Or.inl ⟨by rfl,?_⟩) ?_ ?_
              rotate_left
              ·intro w'
               go_simp
               with_reducible rfl
              rotate_left
              ·simp only [Act.put,xa,xb,xc,i64_w,i32_w]
               rfl
              refine pure_ (i:=10) (N:=some 86) (v:=?_) (a':=?_) #[true,true,true,true,true,true,true,true,true,true,true,false,false,false,false,false,false,false,false,false,false,false,false,false,false,false,false,false,false,false,false,false,false,false,false,false] rfl rfl (any_of HT_.out (by kernel_rfl)) (fun _ _ _ h=>h) (Or.inl ⟨by rfl,?_⟩) ?_ ?_
              rotate_left
              ·intro w'
               go_simp
               with_reducible rfl
              rotate_left
              ·simp only [Act.put,xa,xb,xc,i64_w,i32_w]
               rfl
              refine pure_ (i:=11) (N:=some 87) (v:=?_) (a':=?_) #[true,true,true,true,true,true,true,true,true,true,true,true,false,false,false,false,false,false,false,false,false,false,false,false,false,false,false,false,false,false,false,false,false,false,false,false] rfl rfl (any_of HT_.out (by kernel_rfl)) (fun _ _ _ h=>h) (Or.inl ⟨by rfl,?_⟩) ?_ ?_
              rotate_left
              ·intro w'
               go_simp
               with_reducible rfl
              rotate_left
              ·simp only [Act.put,xa,xb,xc,i64_w,i32_w]
               rfl
              refine pure_ (i:=12) (N:=some 88) (v:=?_) (a':=?_) #[true,true,true,true,true,true,true,true,true,true,true,true,true,false,false,false,false,false,false,false,false,false,false,false,false,false,false,false,false,false,false,false,false,false,false,false] rfl rfl (any_of HT_.out (by kernel_rfl)) (fun _ _ _ h=>h) (Or.inl ⟨by rfl,?_⟩) ?_ ?_
              rotate_left
              ·intro w'
               go_simp
               with_reducible rfl
              rotate_left
              ·simp only [Act.put,xa,xb,xc,i64_w,i32_w]
               rfl
              refine one_ (i:=13) (N:=some 89) #[true,true,true,true,true,true,true,true,true,true,true,true,true,true,false,false,false,false,false,false,false,false,false,false,false,false,false,false,false,false,false,false,false,false,false,false] rfl rfl (one_of HT_.out (by kernel_rfl)) (by decide) (fun K hK=>?_)
              refine goes_ Try.func10 (by kernel_rfl) rfl #[.slice Ao61 t503.length co61,.slice Ao19 t474.length co19] (by rfl) rfl rfl mz ?_
              with_reducible refine (laws_pSameInts.calls k2 _ _ t503 _ _ t474 false _ ?side1 ?side2 ?side3 ?side4 A44.out).mono ?_
              (case side1=>exact cz (Kd.R_reads' HO505.out).2.2)
              (case side2=>exact (Kd.R_reads' HO505.out).2.1)
              (case side3=>exact cz (Kd.R_reads' HO_6.out).2.2)
              (case side4=>exact (Kd.R_reads' HO_6.out).2.1)
              rintro e w' ⟨rfl,⟨nd,rfl⟩⟩
              refine ⟨_,rfl,?_⟩
              refine hK.out _ _ trivial (fun hHeld=>?_)
              clear hK K
              refine norm_ (a':=?_) ?_ ?_
              rotate_left
              ·show Act.put _ (some 89) _ = _
               simp only [Act.put,xa,xb,xc,i64_w,i32_w]
               rfl
              refine pure_ (i:=14) (N:=some 90) (v:=?_) (a':=?_) #[true,true,true,true,true,true,true,true,true,true,true,true,true,true,true,false,false,false,false,false,false,false,false,false,false,false,false,false,false,false,false,false,false,false,false,false] rfl rfl (any_of HT_.out (by kernel_rfl)) (fun _ _ _ h=>h) (Or.inl ⟨by rfl,?_⟩) ?_ ?_
              rotate_left
              ·intro w'
               go_simp
               with_reducible rfl
              rotate_left
              ·simp only [Act.put,xa,xb,xc,i64_w,i32_w]
               rfl
              refine pure_ (i:=15) (N:=some 91) (v:=?_) (a':=?_) #[true,true,true,true,true,true,true,true,true,true,true,true,true,true,true,true,false,false,false,false,false,false,false,false,false,false,false,false,false,false,false,false,false,false,false,false] rfl rfl (any_of HT_.out (by kernel_rfl)) (fun _ _ _ h=>h) (Or.inl ⟨by rfl,?_⟩) ?_ ?_
              rotate_left
              ·intro w'
               go_simp
               with_reducible rfl
              rotate_left
              ·simp only [Act.put,xa,xb,xc,i64_w,i32_w]
               rfl
              refine pure_ (i:=16) (N:=some 92) (v:=?_) (a':=?_) #[true,true,true,true,true,true,true,true,true,true,true,true,true,true,true,true,true,false,false,false,false,false,false,false,false,false,false,false,false,false,false,false,false,false,false,false] rfl rfl (any_of HT_.out (by kernel_rfl)) (fun _ _ _ h=>h) (Or.inl ⟨by rfl,?_⟩) ?_ ?_
              rotate_left
              ·intro w'
               go_simp
               with_reducible rfl
              rotate_left
              ·simp only [Act.put,xa,xb,xc,i64_w,i32_w]
               rfl
              refine pure_ (i:=17) (N:=some 93) (v:=undef) (a':=?_) #[true,true,true,true,true,true,true,true,true,true,true,true,true,true,true,true,true,true,false,false,false,false,false,false,false,false,false,false,false,false,false,false,false,false,false,false] rfl rfl (any_of HT_.out (by kernel_rfl)) (fun _ _ _ h=>h) (Or.inr ⟨by rfl,rfl⟩) ?_ ?_
              rotate_left
              ·simp only [Act.put,xa,xb,xc,i64_w,i32_w]
               rfl
              refine pure_ (i:=18) (N:=some 94) (v:=undef) (a':=?_) #[true,true,true,true,true,true,true,true,true,true,true,true,true,true,true,true,true,true,true,false,false,false,false,false,false,false,false,false,false,false,false,false,false,false,false,false] rfl rfl (any_of HT_.out (by kernel_rfl)) (fun _ _ _ h=>h) (Or.inr ⟨by rfl,rfl⟩) ?_ ?_
              rotate_left
              ·simp only [Act.put,xa,xb,xc,i64_w,i32_w]
               rfl
              refine pure_ (i:=19) (N:=some 95) (v:=undef) (a':=?_) #[true,true,true,true,true,true,true,true,true,true,true,true,true,true,true,true,true,true,true,true,false,false,false,false,false,false,false,false,false,false,false,false,false,false,false,false] rfl rfl (any_of HT_.out (by kernel_rfl)) (fun _ _ _ h=>h) (Or.inr ⟨by rfl,rfl⟩) ?_ ?_
              rotate_left
              ·simp only [Act.put,xa,xb,xc,i64_w,i32_w]
               rfl
              refine pure_ (i:=20) (N:=some 96) (v:=?_) (a':=?_) #[true,true,true,true,true,true,true,true,true,true,true,true,true,true,true,true,true,true,true,true,true,false,false,false,false,false,false,false,false,false,false,false,false,false,false,false] rfl rfl (any_of HT_.out (by kernel_rfl)) (fun _ _ _ h=>h) (Or.inl ⟨by rfl,?_⟩) ?_ ?_
              rotate_left
              ·intro w'
               go_simp
               with_reducible rfl
              rotate_left
              ·simp only [Act.put,xa,xb,xc,i64_w,i32_w]
               rfl
              refine pure_ (i:=21) (N:=some 97) (v:=?_) (a':=?_) #[true,true,true,true,true,true,true,true,true,true,true,true,true,true,true,true,true,true,true,true,true,true,false,false,false,false,false,false,false,false,false,false,false,false,false,false] rfl rfl (any_of HT_.out (by kernel_rfl)) (fun _ _ _ h=>h) (Or.inl ⟨by rfl,?_⟩) ?_ ?_
              rotate_left
              ·intro w'
               go_simp
               with_reducible rfl
              rotate_left
              ·simp only [Act.put,xa,xb,xc,i64_w,i32_w]
               rfl
              refine pure_ (i:=22) (N:=some 98) (v:=undef) (a':=?_) #[true,true,true,true,true,true,true,true,true,true,true,true,true,true,true,true,true,true,true,true,true,true,true,false,false,false,false,false,false,false,false,false,false,false,false,false] rfl rfl (any_of HT_.out (by kernel_rfl)) (fun _ _ _ h=>h) (Or.inr ⟨by rfl,rfl⟩) ?_ ?_
              rotate_left
              ·simp only [Act.put,xa,xb,xc,i64_w,i32_w]
               rfl
              refine pure_ (i:=23) (N:=some 99) (v:=undef) (a':=?_) #[true,true,true,true,true,true,true,true,true,true,true,true,true,true,true,true,true,true,true,true,true,true,true,true,false,false,false,false,false,false,false,false,false,false,false,false] rfl rfl (any_of HT_.out (by kernel_rfl)) (fun _ _ _ h=>h) (Or.inr ⟨by rfl,rfl⟩) ?_ ?_
              rotate_left
              ·simp only [Act.put,xa,xb,xc,i64_w,i32_w]
               rfl
              refine pure_ (i:=24) (N:=some 100) (v:=undef) (a':=?_) #[true,true,true,true,true,true,true,true,true,true,true,true,true,true,true,true,true,true,true,true,true,true,true,true,true,false,false,false,false,false,false,false,false,false,false,false] rfl rfl (any_of HT_.out (by kernel_rfl)) (fun _ _ _ h=>h) (Or.inr ⟨by rfl,rfl⟩) ?_ ?_
              rotate_left
              ·simp only [Act.put,xa,xb,xc,i64_w,i32_w]
               rfl
              refine pure_ (i:=25) (N:=some 101) (v:=undef) (a':=?_) #[true,true,true,true,true,true,true,true,true,true,true,true,true,true,true,true,true,true,true,true,true,true,true,true,true,true,false,false,false,false,false,false,false,false,false,false] rfl rfl (any_of HT_.out (by kernel_rfl)) (fun _ _ _ h=>h) (Or.inr ⟨by rfl,rfl⟩) ?_ ?_
              rotate_left
              ·simp only [Act.put,xa,xb,xc,i64_w,i32_w]
               rfl
              refine pure_ (i:=26) (N:=some 102) (v:=undef) (a':=?_) #[true,true,true,true,true,true,true,true,true,true,true,true,true,true,true,true,true,true,true,true,true,true,true,true,true,true,true,false,false,false,false,false,false,false,false,false] rfl rfl (any_of HT_.out (by kernel_rfl)) (fun _ _ _ h=>h) (Or.inr ⟨by rfl,rfl⟩) ?_ ?_
              rotate_left
              ·simp only [Act.put,xa,xb,xc,i64_w,i32_w]
               rfl
              refine pure_ (i:=27) (N:=some 103) (v:=undef) (a':=?_) #[true,true,true,true,true,true,true,true,true,true,true,true,true,true,true,true,true,true,true,true,true,true,true,true,true,true,true,true,false,false,false,false,false,false,false,false] rfl rfl (any_of HT_.out (by kernel_rfl)) (fun _ _ _ h=>h) (Or.inr ⟨by rfl,rfl⟩) ?_ ?_
              rotate_left
              ·simp only [Act.put,xa,xb,xc,i64_w,i32_w]
               rfl
              refine pure_ (i:=28) (N:=some 104) (v:=undef) (a':=?_) #[true,true,true,true,true,true,true,true,true,true,true,true,true,true,true,true,true,true,true,true,true,true,true,true,true,true,true,true,true,false,false,false,false,false,false,false] rfl rfl (any_of HT_.out (by kernel_rfl)) (fun _ _ _ h=>h) (Or.inr ⟨by rfl,rfl⟩) ?_ ?_
              rotate_left
              ·simp only [Act.put,xa,xb,xc,i64_w,i32_w]
               rfl
              refine pure_ (i:=29) (N:=some 105) (v:=undef) (a':=?_) #[true,true,true,true,true,true,true,true,true,true,true,true,true,true,true,true,true,true,true,true,true,true,true,true,true,true,true,true,true,true,false,false,false,false,false,false] rfl rfl (any_of HT_.out (by kernel_rfl)) (fun _ _ _ h=>h) (Or.inr ⟨by rfl,rfl⟩) ?_ ?_
              rotate_left
              ·simp only [Act.put,xa,xb,xc,i64_w,i32_w]
               rfl
              refine pure_ (i:=30) (N:=some 106) (v:=undef) (a':=?_) #[true,true,true,true,true,true,true,true,true,true,true,true,true,true,true,true,true,true,true,true,true,true,true,true,true,true,true,true,true,true,true,false,false,false,false,false] rfl rfl (any_of HT_.out (by kernel_rfl)) (fun _ _ _ h=>h) (Or.inr ⟨by rfl,rfl⟩) ?_ ?_
              rotate_left
              ·simp only [Act.put,xa,xb,xc,i64_w,i32_w]
               rfl
              refine pure_ (i:=31) (N:=some 107) (v:=undef) (a':=?_) #[true,true,true,true,true,true,true,true,true,true,true,true,true,true,true,true,true,true,true,true,true,true,true,true,true,true,true,true,true,true,true,true,false,false,false,false] rfl rfl (any_of HT_.out (by kernel_rfl)) (fun _ _ _ h=>h) (Or.inr ⟨by rfl,rfl⟩) ?_ ?_
              rotate_left
              ·simp only [Act.put,xa,xb,xc,i64_w,i32_w]
               rfl
              refine pure_ (i:=32) (N:=some 108) (v:=undef) (a':=?_) #[true,true,true,true,true,true,true,true,true,true,true,true,true,true,true,true,true,true,true,true,true,true,true,true,true,true,true,true,true,true,true,true,true,false,false,false] rfl rfl (any_of HT_.out (by kernel_rfl)) (fun _ _ _ h=>h) (Or.inr ⟨by rfl,rfl⟩) ?_ ?_
              rotate_left
              ·simp only [Act.put,xa,xb,xc,i64_w,i32_w]
               rfl
              refine pure_ (i:=33) (N:=some 109) (v:=undef) (a':=?_) #[true,true,true,true,true,true,true,true,true,true,true,true,true,true,true,true,true,true,true,true,true,true,true,true,true,true,true,true,true,true,true,true,true,true,false,false] rfl rfl (any_of HT_.out (by kernel_rfl)) (fun _ _ _ h=>h) (Or.inr ⟨by rfl,rfl⟩) ?_ ?_
              rotate_left
              ·simp only [Act.put,xa,xb,xc,i64_w,i32_w]
               rfl
              refine pure_ (i:=34) (N:=some 110) (v:=undef) (a':=?_) #[true,true,true,true,true,true,true,true,true,true,true,true,true,true,true,true,true,true,true,true,true,true,true,true,true,true,true,true,true,true,true,true,true,true,true,false] rfl rfl (any_of HT_.out (by kernel_rfl)) (fun _ _ _ h=>h) (Or.inr ⟨by rfl,rfl⟩) ?_ ?_
              rotate_left
              ·simp only [Act.put,xa,xb,xc,i64_w,i32_w]
               rfl
              refine pure_ (i:=35) (N:=some 111) (v:=?_) (a':=?_) #[true,true,true,true,true,true,true,true,true,true,true,true,true,true,true,true,true,true,true,true,true,true,true,true,true,true,true,true,true,true,true,true,true,true,true,true] rfl rfl (any_of HT_.out (by kernel_rfl)) (fun _ _ _ h=>h) (Or.inl ⟨by rfl,?_⟩) ?_ ?_
              rotate_left
              ·intro w'
               go_simp
               with_reducible rfl
              rotate_left
              ·simp only [Act.put,xa,xb,xc,i64_w,i32_w]
               rfl
              refine done_ (done_of HT_.out (by kernel_rfl)) ?_
              try go_wp2
              go_meet
              case rel=>exact ⟨_,(true),fz,H',⟨by have:=HJ7.out;have:=HK2.out;first|omega|exact Nat.le_refl _⟩,⟨by (with_reducible repeat (first|apply Kd.R_alloc|apply Kd.R_drewN|apply Kd.R_drew));exact Kd.R_mono HO488.out (fun _ hk=>hk.2)⟩,⟨by (with_reducible repeat (first|apply Kd.R_alloc|apply Kd.R_drewN|apply Kd.R_drew));exact Kd.R_mono HO491.out (fun _ hk=>hk.1.2)⟩,⟨by (with_reducible repeat (first|apply Kd.R_alloc|apply Kd.R_drewN|apply Kd.R_drew));exact Kd.R_mono HO497.out (fun _ hk=>hk.2)⟩,⟨by (with_reducible repeat (first|apply Kd.R_alloc|apply Kd.R_drewN|apply Kd.R_drew));exact Kd.R_mono HO500.out (fun _ hk=>hk.1.2)⟩,⟨by (with_reducible repeat (first|refine blk_drewN ?_ _|refine blk_drew ?_|refine blk_alloc ?_ _));exact BK493.out⟩,⟨by (with_reducible repeat (first|refine blk_drewN ?_ _|refine blk_drew ?_|refine blk_alloc ?_ _));exact BK502.out⟩,⟨by repeat (first|(with_reducible first|exact HB.out|apply below_alloc|apply pw_below_drewN|apply below_drew1|refine below_set ?_ GE493.out|refine below_set ?_ GE502.out)|exact HB.out)⟩⟩
            ·replace c43:=Bool.eq_false_iff.mpr c43
             subst c43
             rw [if_neg (show ¬ (false = true) by decide)] at H
             have H':=Aside0.mk H
             clear H
             try go_wp2
             have n0_:=Aside0.mk (Kd.R_drew HO_5.out)
             have n1_:=Aside0.mk (Kd.R_drew HO_6.out)
             have n2_:=Aside0.mk (Kd.R_drew HO_50.out)
             have n3_:=Aside0.mk (Kd.R_drew HO488.out)
             have n4_:=Aside0.mk (Kd.R_drew HO491.out)
             have n5_:=Aside0.mk (Kd.R_drew HO497.out)
             have n6_:=Aside0.mk (Kd.R_drew HO500.out)
             have n7_:=Aside0.mk (Kd.R_drew HO505.out)
             have n8_:=Aside0.mk (blk_drew BK493.out)
             have n9_:=Aside0.mk (blk_drew BK502.out)
             have n10_:=Aside0.mk (below_drew1 HB.out)
             clear HO_5
             clear HO_6
             clear HO_50
             clear HO488
             clear HO491
             clear HO497
             clear HO500
             clear HO505
             clear BK493
             clear BK502
             clear HB
             have HO_5:=n0_
             have HO_6:=n1_
             have HO_50:=n2_
             have HO488:=n3_
             have HO491:=n4_
             have HO497:=n5_
             have HO500:=n6_
             have HO505:=n7_
             have BK493:=n8_
             have BK502:=n9_
             have HB:=n10_
             clear n0_ n1_ n2_ n3_ n4_ n5_ n6_ n7_ n8_ n9_ n10_
             refine start_ (n:=36) (S:=fun w'=>True) (ds:=[]) #[false,false,false,false,false,false,false,false,false,false,false,false,false,false,false,false,false,false,false,false,false,false,false,false,false,false,false,false,false,false,false,false,false,false,false,false] (by kernel_rfl) rfl rfl trivial (fun hHeld=>?_);refine with_tabW laws_FnNeededParts.tab19 laws_FnNeededParts.bits19 (fun HT_ HW_=>?_)
             generalize w40.drew = w62 at HO_5 HO_6 HO_50 HO488 HO491 HO497 HO500 HO505 BK493 BK502 HB hHeld ⊢
             refine pure_ (i:=0) (N:=some 76) (v:=?_) (a':=?_) #[true,false,false,false,false,false,false,false,false,false,false,false,false,false,false,false,false,false,false,false,false,false,false,false,false,false,false,false,false,false,false,false,false,false,false,false] rfl rfl (any_of HT_.out (by kernel_rfl)) (fun _ _ _ h=>h) (Or.inl ⟨by rfl,?_⟩) ?_ ?_
             rotate_left
             ·intro w'
              go_simp
              with_reducible rfl
             rotate_left
             ·simp only [Act.put,xa,xb,xc,i64_w,i32_w]
              rfl
             refine pure_ (i:=1) (N:=some 77) (v:=?_) (a':=?_) #[true,true,false,false,false,false,false,false,false,false,false,false,false,false,false,false,false,false,false,false,false,false,false,false,false,false,false,false,false,false,false,false,false,false,false,false] rfl rfl (any_of HT_.out (by kernel_rfl)) (fun _ _ _ h=>h) (Or.inl ⟨by rfl,?_⟩) ?_ ?_
             rotate_left
             ·intro w'
              go_simp
              with_reducible rfl
             rotate_left
             ·simp only [Act.put,xa,xb,xc,i64_w,i32_w]
              rfl
             refine pure_ (i:=2) (N:=some 78) (v:=?_) (a':=?_) #[true,true,true,false,false,false,false,false,false,false,false,false,false,false,false,false,false,false,false,false,false,false,false,false,false,false,false,false,false,false,false,false,false,false,false,false] rfl rfl (any_of HT_.out (by kernel_rfl)) (fun _ _ _ h=>h) (Or.inl ⟨by rfl,?_⟩) ?_ ?_
             rotate_left
             ·intro w'
              go_simp
              with_reducible rfl
             rotate_left
             ·simp only [Act.put,xa,xb,xc,i64_w,i32_w]
              rfl
             refine pure_ (i:=3) (N:=some 79) (v:=?_) (a':=?_) #[true,true,true,true,false,false,false,false,false,false,false,false,false,false,false,false,false,false,false,false,false,false,false,false,false,false,false,false,false,false,false,false,false,false,false,false] rfl rfl (any_of HT_.out (by kernel_rfl)) (fun _ _ _ h=>h) (Or.inl ⟨by rfl,?_⟩) ?_ ?_
             rotate_left
             ·intro w'
              go_simp
              with_reducible rfl
             rotate_left
             ·simp only [Act.put,xa,xb,xc,i64_w,i32_w]
              rfl
             refine pure_ (i:=4) (N:=some 80) (v:=?_) (a':=?_) #[true,true,true,true,true,false,false,false,false,false,false,false,false,false,false,false,false,false,false,false,false,false,false,false,false,false,false,false,false,false,false,false,false,false,false,false] rfl rfl (any_of HT_.out (by kernel_rfl)) (fun _ _ _ h=>h) (Or.inl ⟨by rfl,?_⟩) ?_ ?_
             rotate_left
             ·intro w'
              go_simp
              with_reducible rfl
             rotate_left
             ·simp only [Act.put,xa,xb,xc,i64_w,i32_w]
              rfl
             refine pure_ (i:=5) (N:=some 81) (v:=?_) (a':=?_) #[true,true,true,true,true,true,false,false,false,false,false,false,false,false,false,false,false,false,false,false,false,false,false,false,false,false,false,false,false,false,false,false,false,false,false,false] rfl rfl (any_of HT_.out (by kernel_rfl)) (fun _ _ _ h=>h) (Or.inl ⟨by rfl,?_⟩) ?_ ?_
             rotate_left
             ·intro w'
              go_simp
              with_reducible rfl
             rotate_left
             ·simp only [Act.put,xa,xb,xc,i64_w,i32_w]
              rfl
             refine pure_ (i:=6) (N:=some 82) (v:=?_) (a':=?_) #[true,true,true,true,true,true,true,false,false,false,false,false,false,false,false,false,false,false,false,false,false,false,false,false,false,false,false,false,false,false,false,false,false,false,false,false] rfl rfl (any_of HT_.out (by kernel_rfl)) (fun _ _ _ h=>h) (Or.inl ⟨by rfl,?_⟩) ?_ ?_
             rotate_left
             ·intro w'
              go_simp
              with_reducible rfl
             rotate_left
             ·simp only [Act.put,xa,xb,xc,i64_w,i32_w]
              rfl
             refine pure_ (i:=7) (N:=some 83) (v:=?_) (a':=?_) #[true,true,true,true,true,true,true,true,false,false,false,false,false,false,false,false,false,false,false,false,false,false,false,false,false,false,false,false,false,false,false,false,false,false,false,false] rfl rfl (any_of HT_.out (by kernel_rfl)) (fun _ _ _ h=>h) (Or.inl ⟨by rfl,?_⟩) ?_ ?_
             rotate_left
             ·intro w'
              go_simp
              with_reducible rfl
             rotate_left
             ·simp only [Act.put,xa,xb,xc,i64_w,i32_w]
              rfl
             refine pure_ (i:=8) (N:=some 84) (v:=?_) (a':=?_) #[true,true,true,true,true,true,true,true,true,false,false,false,false,false,false,false,false,false,false,false,false,false,false,false,false,false,false,false,false,false,false,false,false,false,false,false] rfl rfl (any_of HT_.out (by kernel_rfl)) (fun _ _ _ h=>h) (Or.inl ⟨by rfl,?_⟩) ?_ ?_
             rotate_left
             ·intro w'
              go_simp
              with_reducible rfl
             rotate_left
             ·simp only [Act.put,xa,xb,xc,i64_w,i32_w]
              rfl
             refine pure_ (i:=9) (N:=some 85) (v:=?_) (a':=?_) #[true,true,true,true,true,true,true,true,true,true,false,false,false,false,false,false,false,false,false,false,false,false,false,false,false,false,false,false,false,false,false,false,false,false,false,false] rfl rfl (any_of HT_.out (by kernel_rfl)) (fun _ _ _ h=>h) (Or.inl ⟨by rfl,?_⟩) ?_ ?_
             rotate_left
             ·intro w'
              go_simp
              with_reducible rfl
             rotate_left
             ·simp only [Act.put,xa,xb,xc,i64_w,i32_w]
              rfl
             refine pure_ (i:=10) (N:=some 86) (v:=?_) (a':=?_) #[true,true,true,true,true,true,true,true,true,true,true,false,false,false,false,false,false,false,false,false,false,false,false,false,false,false,false,false,false,false,false,false,false,false,false,false] rfl rfl (any_of HT_.out (by kernel_rfl)) (fun _ _ _ h=>h) (Or.inl ⟨by rfl,?_⟩) ?_ ?_
             rotate_left
             ·intro w'
              go_simp
              with_reducible rfl
             rotate_left
             ·simp only [Act.put,xa,xb,xc,i64_w,i32_w]
              rfl
             refine pure_ (i:=11) (N:=some 87) (v:=undef) (a':=?_) #[true,true,true,true,true,true,true,true,true,true,true,true,false,false,false,false,false,false,false,false,false,false,false,false,false,false,false,false,false,false,false,false,false,false,false,false] rfl rfl (any_of HT_.out (by kernel_rfl)) (fun _ _ _ h=>h) (Or.inr ⟨by rfl,rfl⟩) ?_ ?_
             rotate_left
             ·simp only [Act.put,xa,xb,xc,i64_w,i32_w]
              rfl
             refine pure_ (i:=12) (N:=some 88) (v:=undef) (a':=?_) #[true,true,true,true,true,true,true,true,true,true,true,true,true,false,false,false,false,false,false,false,false,false,false,false,false,false,false,false,false,false,false,false,false,false,false,false] rfl rfl (any_of HT_.out (by kernel_rfl)) (fun _ _ _ h=>h) (Or.inr ⟨by rfl,rfl⟩) ?_ ?_
             rotate_left
             ·simp only [Act.put,xa,xb,xc,i64_w,i32_w]
              rfl
             refine pure_ (i:=13) (N:=some 89) (v:=undef) (a':=?_) #[true,true,true,true,true,true,true,true,true,true,true,true,true,true,false,false,false,false,false,false,false,false,false,false,false,false,false,false,false,false,false,false,false,false,false,false] rfl rfl (any_of HT_.out (by kernel_rfl)) (fun _ _ _ h=>h) (Or.inr ⟨by rfl,rfl⟩) ?_ ?_
             rotate_left
             ·simp only [Act.put,xa,xb,xc,i64_w,i32_w]
              rfl
             refine pure_ (i:=14) (N:=some 90) (v:=undef) (a':=?_) #[true,true,true,true,true,true,true,true,true,true,true,true,true,true,true,false,false,false,false,false,false,false,false,false,false,false,false,false,false,false,false,false,false,false,false,false] rfl rfl (any_of HT_.out (by kernel_rfl)) (fun _ _ _ h=>h) (Or.inr ⟨by rfl,rfl⟩) ?_ ?_
             rotate_left
             ·simp only [Act.put,xa,xb,xc,i64_w,i32_w]
              rfl
             refine pure_ (i:=15) (N:=some 91) (v:=?_) (a':=?_) #[true,true,true,true,true,true,true,true,true,true,true,true,true,true,true,true,false,false,false,false,false,false,false,false,false,false,false,false,false,false,false,false,false,false,false,false] rfl rfl (any_of HT_.out (by kernel_rfl)) (fun _ _ _ h=>h) (Or.inl ⟨by rfl,?_⟩) ?_ ?_
             rotate_left
             ·intro w'
              go_simp
              with_reducible rfl
             rotate_left
             ·simp only [Act.put,xa,xb,xc,i64_w,i32_w]
              rfl
             refine pure_ (i:=16) (N:=some 92) (v:=?_) (a':=?_) #[true,true,true,true,true,true,true,true,true,true,true,true,true,true,true,true,true,false,false,false,false,false,false,false,false,false,false,false,false,false,false,false,false,false,false,false] rfl rfl (any_of HT_.out (by kernel_rfl)) (fun _ _ _ h=>h) (Or.inl ⟨by rfl,?_⟩) ?_ ?_
             rotate_left
             ·intro w'
              go_simp
              with_reducible rfl
             rotate_left
             ·simp only [Act.put,xa,xb,xc,i64_w,i32_w]
              rfl
             refine pure_ (i:=17) (N:=some 93) (v:=undef) (a':=?_) #[true,true,true,true,true,true,true,true,true,true,true,true,true,true,true,true,true,true,false,false,false,false,false,false,false,false,false,false,false,false,false,false,false,false,false,false] rfl rfl (any_of HT_.out (by kernel_rfl)) (fun _ _ _ h=>h) (Or.inr ⟨by rfl,rfl⟩) ?_ ?_
             rotate_left
             ·simp only [Act.put,xa,xb,xc,i64_w,i32_w]
              rfl
             refine pure_ (i:=18) (N:=some 94) (v:=undef) (a':=?_) #[true,true,true,true,true,true,true,true,true,true,true,true,true,true,true,true,true,true,true,false,false,false,false,false,false,false,false,false,false,false,false,false,false,false,false,false] rfl rfl (any_of HT_.out (by kernel_rfl)) (fun _ _ _ h=>h) (Or.inr ⟨by rfl,rfl⟩) ?_ ?_
             rotate_left
             ·simp only [Act.put,xa,xb,xc,i64_w,i32_w]
              rfl
             refine pure_ (i:=19) (N:=some 95) (v:=undef) (a':=?_) #[true,true,true,true,true,true,true,true,true,true,true,true,true,true,true,true,true,true,true,true,false,false,false,false,false,false,false,false,false,false,false,false,false,false,false,false] rfl rfl (any_of HT_.out (by kernel_rfl)) (fun _ _ _ h=>h) (Or.inr ⟨by rfl,rfl⟩) ?_ ?_
             rotate_left
             ·simp only [Act.put,xa,xb,xc,i64_w,i32_w]
              rfl
             refine pure_ (i:=20) (N:=some 96) (v:=?_) (a':=?_) #[true,true,true,true,true,true,true,true,true,true,true,true,true,true,true,true,true,true,true,true,true,false,false,false,false,false,false,false,false,false,false,false,false,false,false,false] rfl rfl (any_of HT_.out (by kernel_rfl)) (fun _ _ _ h=>h) (Or.inl ⟨by rfl,?_⟩) ?_ ?_
             rotate_left
             ·intro w'
              go_simp
              with_reducible rfl
             rotate_left
             ·simp only [Act.put,xa,xb,xc,i64_w,i32_w]
              rfl
             refine pure_ (i:=21) (N:=some 97) (v:=?_) (a':=?_) #[true,true,true,true,true,true,true,true,true,true,true,true,true,true,true,true,true,true,true,true,true,true,false,false,false,false,false,false,false,false,false,false,false,false,false,false] rfl rfl (any_of HT_.out (by kernel_rfl)) (fun _ _ _ h=>h) (Or.inl ⟨by rfl,?_⟩) ?_ ?_
             rotate_left
             ·intro w'
              go_simp
              with_reducible rfl
             rotate_left
             ·simp only [Act.put,xa,xb,xc,i64_w,i32_w]
              rfl
             refine pure_ (i:=22) (N:=some 98) (v:=undef) (a':=?_) #[true,true,true,true,true,true,true,true,true,true,true,true,true,true,true,true,true,true,true,true,true,true,true,false,false,false,false,false,false,false,false,false,false,false,false,false] rfl rfl (any_of HT_.out (by kernel_rfl)) (fun _ _ _ h=>h) (Or.inr ⟨by rfl,rfl⟩) ?_ ?_
             rotate_left
             ·simp only [Act.put,xa,xb,xc,i64_w,i32_w]
              rfl
             refine pure_ (i:=23) (N:=some 99) (v:=undef) (a':=?_) #[true,true,true,true,true,true,true,true,true,true,true,true,true,true,true,true,true,true,true,true,true,true,true,true,false,false,false,false,false,false,false,false,false,false,false,false] rfl rfl (any_of HT_.out (by kernel_rfl)) (fun _ _ _ h=>h) (Or.inr ⟨by rfl,rfl⟩) ?_ ?_
             rotate_left
             ·simp only [Act.put,xa,xb,xc,i64_w,i32_w]
              rfl
             refine pure_ (i:=24) (N:=some 100) (v:=undef) (a':=?_) #[true,true,true,true,true,true,true,true,true,true,true,true,true,true,true,true,true,true,true,true,true,true,true,true,true,false,false,false,false,false,false,false,false,false,false,false] rfl rfl (any_of HT_.out (by kernel_rfl)) (fun _ _ _ h=>h) (Or.inr ⟨by rfl,rfl⟩) ?_ ?_
             rotate_left
             ·simp only [Act.put,xa,xb,xc,i64_w,i32_w]
              rfl
             refine pure_ (i:=25) (N:=some 101) (v:=undef) (a':=?_) #[true,true,true,true,true,true,true,true,true,true,true,true,true,true,true,true,true,true,true,true,true,true,true,true,true,true,false,false,false,false,false,false,false,false,false,false] rfl rfl (any_of HT_.out (by kernel_rfl)) (fun _ _ _ h=>h) (Or.inr ⟨by rfl,rfl⟩) ?_ ?_
             rotate_left
             ·simp only [Act.put,xa,xb,xc,i64_w,i32_w]
              rfl
             refine pure_ (i:=26) (N:=some 102) (v:=undef) (a':=?_) #[true,true,true,true,true,true,true,true,true,true,true,true,true,true,true,true,true,true,true,true,true,true,true,true,true,true,true,false,false,false,false,false,false,false,false,false] rfl rfl (any_of HT_.out (by kernel_rfl)) (fun _ _ _ h=>h) (Or.inr ⟨by rfl,rfl⟩) ?_ ?_
             rotate_left
             ·simp only [Act.put,xa,xb,xc,i64_w,i32_w]
              rfl
             refine pure_ (i:=27) (N:=some 103) (v:=undef) (a':=?_) #[true,true,true,true,true,true,true,true,true,true,true,true,true,true,true,true,true,true,true,true,true,true,true,true,true,true,true,true,false,false,false,false,false,false,false,false] rfl rfl (any_of HT_.out (by kernel_rfl)) (fun _ _ _ h=>h) (Or.inr ⟨by rfl,rfl⟩) ?_ ?_
             rotate_left
             ·simp only [Act.put,xa,xb,xc,i64_w,i32_w]
              rfl
             refine pure_ (i:=28) (N:=some 104) (v:=undef) (a':=?_) #[true,true,true,true,true,true,true,true,true,true,true,true,true,true,true,true,true,true,true,true,true,true,true,true,true,true,true,true,true,false,false,false,false,false,false,false] rfl rfl (any_of HT_.out (by kernel_rfl)) (fun _ _ _ h=>h) (Or.inr ⟨by rfl,rfl⟩) ?_ ?_
             rotate_left
             ·simp only [Act.put,xa,xb,xc,i64_w,i32_w]
              rfl
             refine pure_ (i:=29) (N:=some 105) (v:=undef) (a':=?_) #[true,true,true,true,true,true,true,true,true,true,true,true,true,true,true,true,true,true,true,true,true,true,true,true,true,true,true,true,true,true,false,false,false,false,false,false] rfl rfl (any_of HT_.out (by kernel_rfl)) (fun _ _ _ h=>h) (Or.inr ⟨by rfl,rfl⟩) ?_ ?_
             rotate_left
             ·simp only [Act.put,xa,xb,xc,i64_w,i32_w]
              rfl
             refine pure_ (i:=30) (N:=some 106) (v:=undef) (a':=?_) #[true,true,true,true,true,true,true,true,true,true,true,true,true,true,true,true,true,true,true,true,true,true,true,true,true,true,true,true,true,true,true,false,false,false,false,false] rfl rfl (any_of HT_.out (by kernel_rfl)) (fun _ _ _ h=>h) (Or.inr ⟨by rfl,rfl⟩) ?_ ?_
             rotate_left
             ·simp only [Act.put,xa,xb,xc,i64_w,i32_w]
              rfl
             refine pure_ (i:=31) (N:=some 107) (v:=undef) (a':=?_) #[true,true,true,true,true,true,true,true,true,true,true,true,true,true,true,true,true,true,true,true,true,true,true,true,true,true,true,true,true,true,true,true,false,false,false,false] rfl rfl (any_of HT_.out (by kernel_rfl)) (fun _ _ _ h=>h) (Or.inr ⟨by rfl,rfl⟩) ?_ ?_
             rotate_left
             ·simp only [Act.put,xa,xb,xc,i64_w,i32_w]
              rfl
             refine pure_ (i:=32) (N:=some 108) (v:=undef) (a':=?_) #[true,true,true,true,true,true,true,true,true,true,true,true,true,true,true,true,true,true,true,true,true,true,true,true,true,true,true,true,true,true,true,true,true,false,false,false] rfl rfl (any_of HT_.out (by kernel_rfl)) (fun _ _ _ h=>h) (Or.inr ⟨by rfl,rfl⟩) ?_ ?_
             rotate_left
             ·simp only [Act.put,xa,xb,xc,i64_w,i32_w]
              rfl
             refine pure_ (i:=33) (N:=some 109) (v:=undef) (a':=?_) #[true,true,true,true,true,true,true,true,true,true,true,true,true,true,true,true,true,true,true,true,true,true,true,true,true,true,true,true,true,true,true,true,true,true,false,false] rfl rfl (any_of HT_.out (by kernel_rfl)) (fun _ _ _ h=>h) (Or.inr ⟨by rfl,rfl⟩) ?_ ?_
             rotate_left
             ·simp only [Act.put,xa,xb,xc,i64_w,i32_w]
              rfl
             refine pure_ (i:=34) (N:=some 110) (v:=undef) (a':=?_) #[true,true,true,true,true,true,true,true,true,true,true,true,true,true,true,true,true,true,true,true,true,true,true,true,true,true,true,true,true,true,true,true,true,true,true,false] rfl rfl (any_of HT_.out (by kernel_rfl)) (fun _ _ _ h=>h) (Or.inr ⟨by rfl,rfl⟩) ?_ ?_
             rotate_left
             ·simp only [Act.put,xa,xb,xc,i64_w,i32_w]
              rfl
             refine pure_ (i:=35) (N:=some 111) (v:=?_) (a':=?_) #[true,true,true,true,true,true,true,true,true,true,true,true,true,true,true,true,true,true,true,true,true,true,true,true,true,true,true,true,true,true,true,true,true,true,true,true] rfl rfl (any_of HT_.out (by kernel_rfl)) (fun _ _ _ h=>h) (Or.inl ⟨by rfl,?_⟩) ?_ ?_
             rotate_left
             ·intro w'
              go_simp
              with_reducible rfl
             rotate_left
             ·simp only [Act.put,xa,xb,xc,i64_w,i32_w]
              rfl
             refine done_ (done_of HT_.out (by kernel_rfl)) ?_
             try go_wp2
             go_meet
             case rel=>exact ⟨_,(true),fz,H',⟨by have:=HJ7.out;have:=HK2.out;first|omega|exact Nat.le_refl _⟩,⟨by (with_reducible repeat (first|apply Kd.R_alloc|apply Kd.R_drewN|apply Kd.R_drew));exact Kd.R_mono HO488.out (fun _ hk=>hk.2)⟩,⟨by (with_reducible repeat (first|apply Kd.R_alloc|apply Kd.R_drewN|apply Kd.R_drew));exact Kd.R_mono HO491.out (fun _ hk=>hk.1.2)⟩,⟨by (with_reducible repeat (first|apply Kd.R_alloc|apply Kd.R_drewN|apply Kd.R_drew));exact Kd.R_mono HO497.out (fun _ hk=>hk.2)⟩,⟨by (with_reducible repeat (first|apply Kd.R_alloc|apply Kd.R_drewN|apply Kd.R_drew));exact Kd.R_mono HO500.out (fun _ hk=>hk.1.2)⟩,⟨by (with_reducible repeat (first|refine blk_drewN ?_ _|refine blk_drew ?_|refine blk_alloc ?_ _));exact BK493.out⟩,⟨by (with_reducible repeat (first|refine blk_drewN ?_ _|refine blk_drew ?_|refine blk_alloc ?_ _));exact BK502.out⟩,⟨by repeat (first|(with_reducible first|exact HB.out|apply below_alloc|apply pw_below_drewN|apply below_drew1|refine below_set ?_ GE493.out|refine below_set ?_ GE502.out)|exact HB.out)⟩⟩
           ·replace c42:=Bool.eq_false_iff.mpr c42
            subst c42
            rw [if_neg (show ¬ (false = true) by decide)] at H
            have H':=Aside0.mk H
            clear H
            try go_wp2
            have n0_:=Aside0.mk (Kd.R_drew HO_5.out)
            have n1_:=Aside0.mk (Kd.R_drew HO_6.out)
            have n2_:=Aside0.mk (Kd.R_drew HO_50.out)
            have n3_:=Aside0.mk (Kd.R_drew HO488.out)
            have n4_:=Aside0.mk (Kd.R_drew HO491.out)
            have n5_:=Aside0.mk (Kd.R_drew HO497.out)
            have n6_:=Aside0.mk (Kd.R_drew HO500.out)
            have n7_:=Aside0.mk (Kd.R_drew HO505.out)
            have n8_:=Aside0.mk (blk_drew BK493.out)
            have n9_:=Aside0.mk (blk_drew BK502.out)
            have n10_:=Aside0.mk (below_drew1 HB.out)
            clear HO_5
            clear HO_6
            clear HO_50
            clear HO488
            clear HO491
            clear HO497
            clear HO500
            clear HO505
            clear BK493
            clear BK502
            clear HB
            have HO_5:=n0_
            have HO_6:=n1_
            have HO_50:=n2_
            have HO488:=n3_
            have HO491:=n4_
            have HO497:=n5_
            have HO500:=n6_
            have HO505:=n7_
            have BK493:=n8_
            have BK502:=n9_
            have HB:=n10_
            clear n0_ n1_ n2_ n3_ n4_ n5_ n6_ n7_ n8_ n9_ n10_
            refine start_ (n:=36) (S:=fun w'=>True) (ds:=[]) #[false,false,false,false,false,false,false,false,false,false,false,false,false,false,false,false,false,false,false,false,false,false,false,false,false,false,false,false,false,false,false,false,false,false,false,false] (by kernel_rfl) rfl rfl trivial (fun hHeld=>?_);refine with_tabW laws_FnNeededParts.tab19 laws_FnNeededParts.bits19 (fun HT_ HW_=>?_)
            generalize w40.drew = w63 at HO_5 HO_6 HO_50 HO488 HO491 HO497 HO500 HO505 BK493 BK502 HB hHeld ⊢
            refine pure_ (i:=0) (N:=some 76) (v:=?_) (a':=?_) #[true,false,false,false,false,false,false,false,false,false,false,false,false,false,false,false,false,false,false,false,false,false,false,false,false,false,false,false,false,false,false,false,false,false,false,false] rfl rfl (any_of HT_.out (by kernel_rfl)) (fun _ _ _ h=>h) (Or.inl ⟨by rfl,?_⟩) ?_ ?_
            rotate_left
            ·intro w'
             go_simp
             with_reducible rfl
            rotate_left
            ·simp only [Act.put,xa,xb,xc,i64_w,i32_w]
             rfl
            refine pure_ (i:=1) (N:=some 77) (v:=?_) (a':=?_) #[true,true,false,false,false,false,false,false,false,false,false,false,false,false,false,false,false,false,false,false,false,false,false,false,false,false,false,false,false,false,false,false,false,false,false,false] rfl rfl (any_of HT_.out (by kernel_rfl)) (fun _ _ _ h=>h) (Or.inl ⟨by rfl,?_⟩) ?_ ?_
            rotate_left
            ·intro w'
             go_simp
             with_reducible rfl
            rotate_left
            ·simp only [Act.put,xa,xb,xc,i64_w,i32_w]
             rfl
            refine pure_ (i:=2) (N:=some 78) (v:=?_) (a':=?_) #[true,true,true,false,false,false,false,false,false,false,false,false,false,false,false,false,false,false,false,false,false,false,false,false,false,false,false,false,false,false,false,false,false,false,false,false] rfl rfl (any_of HT_.out (by kernel_rfl)) (fun _ _ _ h=>h) (Or.inl ⟨by rfl,?_⟩) ?_ ?_
            rotate_left
            ·intro w'
             go_simp
             with_reducible rfl
            rotate_left
            ·simp only [Act.put,xa,xb,xc,i64_w,i32_w]
             rfl
            refine pure_ (i:=3) (N:=some 79) (v:=?_) (a':=?_) #[true,true,true,true,false,false,false,false,false,false,false,false,false,false,false,false,false,false,false,false,false,false,false,false,false,false,false,false,false,false,false,false,false,false,false,false] rfl rfl (any_of HT_.out (by kernel_rfl)) (fun _ _ _ h=>h) (Or.inl ⟨by rfl,?_⟩) ?_ ?_
            rotate_left
            ·intro w'
             go_simp
             with_reducible rfl
            rotate_left
            ·simp only [Act.put,xa,xb,xc,i64_w,i32_w]
             rfl
            refine pure_ (i:=4) (N:=some 80) (v:=?_) (a':=?_) #[true,true,true,true,true,false,false,false,false,false,false,false,false,false,false,false,false,false,false,false,false,false,false,false,false,false,false,false,false,false,false,false,false,false,false,false] rfl rfl (any_of HT_.out (by kernel_rfl)) (fun _ _ _ h=>h) (Or.inl ⟨by rfl,?_⟩) ?_ ?_
            rotate_left
            ·intro w'
             go_simp
             with_reducible rfl
            rotate_left
            ·simp only [Act.put,xa,xb,xc,i64_w,i32_w]
             rfl
            refine pure_ (i:=5) (N:=some 81) (v:=?_) (a':=?_) #[true,true,true,true,true,true,false,false,false,false,false,false,false,false,false,false,false,false,false,false,false,false,false,false,false,false,false,false,false,false,false,false,false,false,false,false] rfl rfl (any_of HT_.out (by kernel_rfl)) (fun _ _ _ h=>h) (Or.inl ⟨by rfl,?_⟩) ?_ ?_
            rotate_left
            ·intro w'
             go_simp
             with_reducible rfl
            rotate_left
            ·simp only [Act.put,xa,xb,xc,i64_w,i32_w]
             rfl
            refine pure_ (i:=6) (N:=some 82) (v:=?_) (a':=?_) #[true,true,true,true,true,true,true,false,false,false,false,false,false,false,false,false,false,false,false,false,false,false,false,false,false,false,false,false,false,false,false,false,false,false,false,false] rfl rfl (any_of HT_.out (by kernel_rfl)) (fun _ _ _ h=>h) (Or.inl ⟨by rfl,?_⟩) ?_ ?_
            rotate_left
            ·intro w'
             go_simp
             with_reducible rfl
            rotate_left
            ·simp only [Act.put,xa,xb,xc,i64_w,i32_w]
             rfl
            refine pure_ (i:=7) (N:=some 83) (v:=undef) (a':=?_) #[true,true,true,true,true,true,true,true,false,false,false,false,false,false,false,false,false,false,false,false,false,false,false,false,false,false,false,false,false,false,false,false,false,false,false,false] rfl rfl (any_of HT_.out (by kernel_rfl)) (fun _ _ _ h=>h) (Or.inr ⟨by rfl,rfl⟩) ?_ ?_
            rotate_left
            ·simp only [Act.put,xa,xb,xc,i64_w,i32_w]
             rfl
            refine pure_ (i:=8) (N:=some 84) (v:=undef) (a':=?_) #[true,true,true,true,true,true,true,true,true,false,false,false,false,false,false,false,false,false,false,false,false,false,false,false,false,false,false,false,false,false,false,false,false,false,false,false] rfl rfl (any_of HT_.out (by kernel_rfl)) (fun _ _ _ h=>h) (Or.inr ⟨by rfl,rfl⟩) ?_ ?_
            rotate_left
            ·simp only [Act.put,xa,xb,xc,i64_w,i32_w]
             rfl
            refine pure_ (i:=9) (N:=some 85) (v:=?_) (a':=?_) #[true,true,true,true,true,true,true,true,true,true,false,false,false,false,false,false,false,false,false,false,false,false,false,false,false,false,false,false,false,false,false,false,false,false,false,false] rfl rfl (any_of HT_.out (by kernel_rfl)) (fun _ _ _ h=>h) (Or.inl ⟨by rfl,?_⟩) ?_ ?_
            rotate_left
            ·intro w'
             go_simp
             with_reducible rfl
            rotate_left
            ·simp only [Act.put,xa,xb,xc,i64_w,i32_w]
             rfl
            refine pure_ (i:=10) (N:=some 86) (v:=?_) (a':=?_) #[true,true,true,true,true,true,true,true,true,true,true,false,false,false,false,false,false,false,false,false,false,false,false,false,false,false,false,false,false,false,false,false,false,false,false,false] rfl rfl (any_of HT_.out (by kernel_rfl)) (fun _ _ _ h=>h) (Or.inl ⟨by rfl,?_⟩) ?_ ?_
            rotate_left
            ·intro w'
             go_simp
             with_reducible rfl
            rotate_left
            ·simp only [Act.put,xa,xb,xc,i64_w,i32_w]
             rfl
            refine pure_ (i:=11) (N:=some 87) (v:=undef) (a':=?_) #[true,true,true,true,true,true,true,true,true,true,true,true,false,false,false,false,false,false,false,false,false,false,false,false,false,false,false,false,false,false,false,false,false,false,false,false] rfl rfl (any_of HT_.out (by kernel_rfl)) (fun _ _ _ h=>h) (Or.inr ⟨by rfl,rfl⟩) ?_ ?_
            rotate_left
            ·simp only [Act.put,xa,xb,xc,i64_w,i32_w]
             rfl
            refine pure_ (i:=12) (N:=some 88) (v:=undef) (a':=?_) #[true,true,true,true,true,true,true,true,true,true,true,true,true,false,false,false,false,false,false,false,false,false,false,false,false,false,false,false,false,false,false,false,false,false,false,false] rfl rfl (any_of HT_.out (by kernel_rfl)) (fun _ _ _ h=>h) (Or.inr ⟨by rfl,rfl⟩) ?_ ?_
            rotate_left
            ·simp only [Act.put,xa,xb,xc,i64_w,i32_w]
             rfl
            refine pure_ (i:=13) (N:=some 89) (v:=undef) (a':=?_) #[true,true,true,true,true,true,true,true,true,true,true,true,true,true,false,false,false,false,false,false,false,false,false,false,false,false,false,false,false,false,false,false,false,false,false,false] rfl rfl (any_of HT_.out (by kernel_rfl)) (fun _ _ _ h=>h) (Or.inr ⟨by rfl,rfl⟩) ?_ ?_
            rotate_left
            ·simp only [Act.put,xa,xb,xc,i64_w,i32_w]
             rfl
            refine pure_ (i:=14) (N:=some 90) (v:=undef) (a':=?_) #[true,true,true,true,true,true,true,true,true,true,true,true,true,true,true,false,false,false,false,false,false,false,false,false,false,false,false,false,false,false,false,false,false,false,false,false] rfl rfl (any_of HT_.out (by kernel_rfl)) (fun _ _ _ h=>h) (Or.inr ⟨by rfl,rfl⟩) ?_ ?_
            rotate_left
            ·simp only [Act.put,xa,xb,xc,i64_w,i32_w]
             rfl
            refine pure_ (i:=15) (N:=some 91) (v:=?_) (a':=?_) #[true,true,true,true,true,true,true,true,true,true,true,true,true,true,true,true,false,false,false,false,false,false,false,false,false,false,false,false,false,false,false,false,false,false,false,false] rfl rfl (any_of HT_.out (by kernel_rfl)) (fun _ _ _ h=>h) (Or.inl ⟨by rfl,?_⟩) ?_ ?_
            rotate_left
            ·intro w'
             go_simp
             with_reducible rfl
            rotate_left
            ·simp only [Act.put,xa,xb,xc,i64_w,i32_w]
             rfl
            refine pure_ (i:=16) (N:=some 92) (v:=?_) (a':=?_) #[true,true,true,true,true,true,true,true,true,true,true,true,true,true,true,true,true,false,false,false,false,false,false,false,false,false,false,false,false,false,false,false,false,false,false,false] rfl rfl (any_of HT_.out (by kernel_rfl)) (fun _ _ _ h=>h) (Or.inl ⟨by rfl,?_⟩) ?_ ?_
            rotate_left
            ·intro w'
             go_simp
             with_reducible rfl
            rotate_left
            ·simp only [Act.put,xa,xb,xc,i64_w,i32_w]
             rfl
            refine pure_ (i:=17) (N:=some 93) (v:=undef) (a':=?_) #[true,true,true,true,true,true,true,true,true,true,true,true,true,true,true,true,true,true,false,false,false,false,false,false,false,false,false,false,false,false,false,false,false,false,false,false] rfl rfl (any_of HT_.out (by kernel_rfl)) (fun _ _ _ h=>h) (Or.inr ⟨by rfl,rfl⟩) ?_ ?_
            rotate_left
            ·simp only [Act.put,xa,xb,xc,i64_w,i32_w]
             rfl
            refine pure_ (i:=18) (N:=some 94) (v:=undef) (a':=?_) #[true,true,true,true,true,true,true,true,true,true,true,true,true,true,true,true,true,true,true,false,false,false,false,false,false,false,false,false,false,false,false,false,false,false,false,false] rfl rfl (any_of HT_.out (by kernel_rfl)) (fun _ _ _ h=>h) (Or.inr ⟨by rfl,rfl⟩) ?_ ?_
            rotate_left
            ·simp only [Act.put,xa,xb,xc,i64_w,i32_w]
             rfl
            refine pure_ (i:=19) (N:=some 95) (v:=undef) (a':=?_) #[true,true,true,true,true,true,true,true,true,true,true,true,true,true,true,true,true,true,true,true,false,false,false,false,false,false,false,false,false,false,false,false,false,false,false,false] rfl rfl (any_of HT_.out (by kernel_rfl)) (fun _ _ _ h=>h) (Or.inr ⟨by rfl,rfl⟩) ?_ ?_
            rotate_left
            ·simp only [Act.put,xa,xb,xc,i64_w,i32_w]
             rfl
            refine pure_ (i:=20) (N:=some 96) (v:=?_) (a':=?_) #[true,true,true,true,true,true,true,true,true,true,true,true,true,true,true,true,true,true,true,true,true,false,false,false,false,false,false,false,false,false,false,false,false,false,false,false] rfl rfl (any_of HT_.out (by kernel_rfl)) (fun _ _ _ h=>h) (Or.inl ⟨by rfl,?_⟩) ?_ ?_
            rotate_left
            ·intro w'
             go_simp
             with_reducible rfl
            rotate_left
            ·simp only [Act.put,xa,xb,xc,i64_w,i32_w]
             rfl
            refine pure_ (i:=21) (N:=some 97) (v:=?_) (a':=?_) #[true,true,true,true,true,true,true,true,true,true,true,true,true,true,true,true,true,true,true,true,true,true,false,false,false,false,false,false,false,false,false,false,false,false,false,false] rfl rfl (any_of HT_.out (by kernel_rfl)) (fun _ _ _ h=>h) (Or.inl ⟨by rfl,?_⟩) ?_ ?_
            rotate_left
            ·intro w'
             go_simp
             with_reducible rfl
            rotate_left
            ·simp only [Act.put,xa,xb,xc,i64_w,i32_w]
             rfl
            refine pure_ (i:=22) (N:=some 98) (v:=undef) (a':=?_) #[true,true,true,true,true,true,true,true,true,true,true,true,true,true,true,true,true,true,true,true,true,true,true,false,false,false,false,false,false,false,false,false,false,false,false,false] rfl rfl (any_of HT_.out (by kernel_rfl)) (fun _ _ _ h=>h) (Or.inr ⟨by rfl,rfl⟩) ?_ ?_
            rotate_left
            ·simp only [Act.put,xa,xb,xc,i64_w,i32_w]
             rfl
            refine pure_ (i:=23) (N:=some 99) (v:=undef) (a':=?_) #[true,true,true,true,true,true,true,true,true,true,true,true,true,true,true,true,true,true,true,true,true,true,true,true,false,false,false,false,false,false,false,false,false,false,false,false] rfl rfl (any_of HT_.out (by kernel_rfl)) (fun _ _ _ h=>h) (Or.inr ⟨by rfl,rfl⟩) ?_ ?_
            rotate_left
            ·simp only [Act.put,xa,xb,xc,i64_w,i32_w]
             rfl
            refine pure_ (i:=24) (N:=some 100) (v:=undef) (a':=?_) #[true,true,true,true,true,true,true,true,true,true,true,true,true,true,true,true,true,true,true,true,true,true,true,true,true,false,false,false,false,false,false,false,false,false,false,false] rfl rfl (any_of HT_.out (by kernel_rfl)) (fun _ _ _ h=>h) (Or.inr ⟨by rfl,rfl⟩) ?_ ?_
            rotate_left
            ·simp only [Act.put,xa,xb,xc,i64_w,i32_w]
             rfl
            refine pure_ (i:=25) (N:=some 101) (v:=undef) (a':=?_) #[true,true,true,true,true,true,true,true,true,true,true,true,true,true,true,true,true,true,true,true,true,true,true,true,true,true,false,false,false,false,false,false,false,false,false,false] rfl rfl (any_of HT_.out (by kernel_rfl)) (fun _ _ _ h=>h) (Or.inr ⟨by rfl,rfl⟩) ?_ ?_
            rotate_left
            ·simp only [Act.put,xa,xb,xc,i64_w,i32_w]
             rfl
            refine pure_ (i:=26) (N:=some 102) (v:=undef) (a':=?_) #[true,true,true,true,true,true,true,true,true,true,true,true,true,true,true,true,true,true,true,true,true,true,true,true,true,true,true,false,false,false,false,false,false,false,false,false] rfl rfl (any_of HT_.out (by kernel_rfl)) (fun _ _ _ h=>h) (Or.inr ⟨by rfl,rfl⟩) ?_ ?_
            rotate_left
            ·simp only [Act.put,xa,xb,xc,i64_w,i32_w]
             rfl
            refine pure_ (i:=27) (N:=some 103) (v:=undef) (a':=?_) #[true,true,true,true,true,true,true,true,true,true,true,true,true,true,true,true,true,true,true,true,true,true,true,true,true,true,true,true,false,false,false,false,false,false,false,false] rfl rfl (any_of HT_.out (by kernel_rfl)) (fun _ _ _ h=>h) (Or.inr ⟨by rfl,rfl⟩) ?_ ?_
            rotate_left
            ·simp only [Act.put,xa,xb,xc,i64_w,i32_w]
             rfl
            refine pure_ (i:=28) (N:=some 104) (v:=undef) (a':=?_) #[true,true,true,true,true,true,true,true,true,true,true,true,true,true,true,true,true,true,true,true,true,true,true,true,true,true,true,true,true,false,false,false,false,false,false,false] rfl rfl (any_of HT_.out (by kernel_rfl)) (fun _ _ _ h=>h) (Or.inr ⟨by rfl,rfl⟩) ?_ ?_
            rotate_left
            ·simp only [Act.put,xa,xb,xc,i64_w,i32_w]
             rfl
            refine pure_ (i:=29) (N:=some 105) (v:=undef) (a':=?_) #[true,true,true,true,true,true,true,true,true,true,true,true,true,true,true,true,true,true,true,true,true,true,true,true,true,true,true,true,true,true,false,false,false,false,false,false] rfl rfl (any_of HT_.out (by kernel_rfl)) (fun _ _ _ h=>h) (Or.inr ⟨by rfl,rfl⟩) ?_ ?_
            rotate_left
            ·simp only [Act.put,xa,xb,xc,i64_w,i32_w]
             rfl
            refine pure_ (i:=30) (N:=some 106) (v:=undef) (a':=?_) #[true,true,true,true,true,true,true,true,true,true,true,true,true,true,true,true,true,true,true,true,true,true,true,true,true,true,true,true,true,true,true,false,false,false,false,false] rfl rfl (any_of HT_.out (by kernel_rfl)) (fun _ _ _ h=>h) (Or.inr ⟨by rfl,rfl⟩) ?_ ?_
            rotate_left
            ·simp only [Act.put,xa,xb,xc,i64_w,i32_w]
             rfl
            refine pure_ (i:=31) (N:=some 107) (v:=undef) (a':=?_) #[true,true,true,true,true,true,true,true,true,true,true,true,true,true,true,true,true,true,true,true,true,true,true,true,true,true,true,true,true,true,true,true,false,false,false,false] rfl rfl (any_of HT_.out (by kernel_rfl)) (fun _ _ _ h=>h) (Or.inr ⟨by rfl,rfl⟩) ?_ ?_
            rotate_left
            ·simp only [Act.put,xa,xb,xc,i64_w,i32_w]
             rfl
            refine pure_ (i:=32) (N:=some 108) (v:=undef) (a':=?_) #[true,true,true,true,true,true,true,true,true,true,true,true,true,true,true,true,true,true,true,true,true,true,true,true,true,true,true,true,true,true,true,true,true,false,false,false] rfl rfl (any_of HT_.out (by kernel_rfl)) (fun _ _ _ h=>h) (Or.inr ⟨by rfl,rfl⟩) ?_ ?_
            rotate_left
            ·simp only [Act.put,xa,xb,xc,i64_w,i32_w]
             rfl
            refine pure_ (i:=33) (N:=some 109) (v:=undef) (a':=?_) #[true,true,true,true,true,true,true,true,true,true,true,true,true,true,true,true,true,true,true,true,true,true,true,true,true,true,true,true,true,true,true,true,true,true,false,false] rfl rfl (any_of HT_.out (by kernel_rfl)) (fun _ _ _ h=>h) (Or.inr ⟨by rfl,rfl⟩) ?_ ?_
            rotate_left
            ·simp only [Act.put,xa,xb,xc,i64_w,i32_w]
             rfl
            refine pure_ (i:=34) (N:=some 110) (v:=undef) (a':=?_) #[true,true,true,true,true,true,true,true,true,true,true,true,true,true,true,true,true,true,true,true,true,true,true,true,true,true,true,true,true,true,true,true,true,true,true,false] rfl rfl (any_of HT_.out (by kernel_rfl)) (fun _ _ _ h=>h) (Or.inr ⟨by rfl,rfl⟩) ?_ ?_
            rotate_left
            ·simp only [Act.put,xa,xb,xc,i64_w,i32_w]
             rfl
            refine pure_ (i:=35) (N:=some 111) (v:=?_) (a':=?_) #[true,true,true,true,true,true,true,true,true,true,true,true,true,true,true,true,true,true,true,true,true,true,true,true,true,true,true,true,true,true,true,true,true,true,true,true] rfl rfl (any_of HT_.out (by kernel_rfl)) (fun _ _ _ h=>h) (Or.inl ⟨by rfl,?_⟩) ?_ ?_
            rotate_left
            ·intro w'
             go_simp
             with_reducible rfl
            rotate_left
            ·simp only [Act.put,xa,xb,xc,i64_w,i32_w]
             rfl
            refine done_ (done_of HT_.out (by kernel_rfl)) ?_
            try go_wp2
            go_meet
            case rel=>exact ⟨_,(true),fz,H',⟨by have:=HJ7.out;have:=HK2.out;first|omega|exact Nat.le_refl _⟩,⟨by (with_reducible repeat (first|apply Kd.R_alloc|apply Kd.R_drewN|apply Kd.R_drew));exact Kd.R_mono HO488.out (fun _ hk=>hk.2)⟩,⟨by (with_reducible repeat (first|apply Kd.R_alloc|apply Kd.R_drewN|apply Kd.R_drew));exact Kd.R_mono HO491.out (fun _ hk=>hk.1.2)⟩,⟨by (with_reducible repeat (first|apply Kd.R_alloc|apply Kd.R_drewN|apply Kd.R_drew));exact Kd.R_mono HO497.out (fun _ hk=>hk.2)⟩,⟨by (with_reducible repeat (first|apply Kd.R_alloc|apply Kd.R_drewN|apply Kd.R_drew));exact Kd.R_mono HO500.out (fun _ hk=>hk.1.2)⟩,⟨by (with_reducible repeat (first|refine blk_drewN ?_ _|refine blk_drew ?_|refine blk_alloc ?_ _));exact BK493.out⟩,⟨by (with_reducible repeat (first|refine blk_drewN ?_ _|refine blk_drew ?_|refine blk_alloc ?_ _));exact BK502.out⟩,⟨by repeat (first|(with_reducible first|exact HB.out|apply below_alloc|apply pw_below_drewN|apply below_drew1|refine below_set ?_ GE493.out|refine below_set ?_ GE502.out)|exact HB.out)⟩⟩
          ·replace c41:=Bool.eq_false_iff.mpr c41
           subst c41
           rw [if_neg (show ¬ (false = true) by decide)] at H
           have H':=Aside0.mk H
           clear H
           try go_wp2
           have n0_:=Aside0.mk (Kd.R_drew HO_5.out)
           have n1_:=Aside0.mk (Kd.R_drew HO_6.out)
           have n2_:=Aside0.mk (Kd.R_drew HO_50.out)
           have n3_:=Aside0.mk (Kd.R_drew HO488.out)
           have n4_:=Aside0.mk (Kd.R_drew HO491.out)
           have n5_:=Aside0.mk (Kd.R_drew HO497.out)
           have n6_:=Aside0.mk (Kd.R_drew HO500.out)
           have n7_:=Aside0.mk (Kd.R_drew HO505.out)
           have n8_:=Aside0.mk (blk_drew BK493.out)
           have n9_:=Aside0.mk (blk_drew BK502.out)
           have n10_:=Aside0.mk (below_drew1 HB.out)
           clear HO_5
           clear HO_6
           clear HO_50
           clear HO488
           clear HO491
           clear HO497
           clear HO500
           clear HO505
           clear BK493
           clear BK502
           clear HB
           have HO_5:=n0_
           have HO_6:=n1_
           have HO_50:=n2_
           have HO488:=n3_
           have HO491:=n4_
           have HO497:=n5_
           have HO500:=n6_
           have HO505:=n7_
           have BK493:=n8_
           have BK502:=n9_
           have HB:=n10_
           clear n0_ n1_ n2_ n3_ n4_ n5_ n6_ n7_ n8_ n9_ n10_
           refine start_ (n:=36) (S:=fun w'=>True) (ds:=[]) #[false,false,false,false,false,false,false,false,false,false,false,false,false,false,false,false,false,false,false,false,false,false,false,false,false,false,false,false,false,false,false,false,false,false,false,false] (by kernel_rfl) rfl rfl trivial (fun hHeld=>?_);refine with_tabW laws_FnNeededParts.tab19 laws_FnNeededParts.bits19 (fun HT_ HW_=>?_)
           generalize w40.drew = w64 at HO_5 HO_6 HO_50 HO488 HO491 HO497 HO500 HO505 BK493 BK502 HB hHeld ⊢
           refine pure_ (i:=0) (N:=some 76) (v:=?_) (a':=?_) #[true,false,false,false,false,false,false,false,false,false,false,false,false,false,false,false,false,false,false,false,false,false,false,false,false,false,false,false,false,false,false,false,false,false,false,false] rfl rfl (any_of HT_.out (by kernel_rfl)) (fun _ _ _ h=>h) (Or.inl ⟨by rfl,?_⟩) ?_ ?_
           rotate_left
           ·intro w'
            go_simp
            with_reducible rfl
           rotate_left
           ·simp only [Act.put,xa,xb,xc,i64_w,i32_w]
            rfl
           refine pure_ (i:=1) (N:=some 77) (v:=?_) (a':=?_) #[true,true,false,false,false,false,false,false,false,false,false,false,false,false,false,false,false,false,false,false,false,false,false,false,false,false,false,false,false,false,false,false,false,false,false,false] rfl rfl (any_of HT_.out (by kernel_rfl)) (fun _ _ _ h=>h) (Or.inl ⟨by rfl,?_⟩) ?_ ?_
           rotate_left
           ·intro w'
            go_simp
            with_reducible rfl
           rotate_left
           ·simp only [Act.put,xa,xb,xc,i64_w,i32_w]
            rfl
           refine pure_ (i:=2) (N:=some 78) (v:=?_) (a':=?_) #[true,true,true,false,false,false,false,false,false,false,false,false,false,false,false,false,false,false,false,false,false,false,false,false,false,false,false,false,false,false,false,false,false,false,false,false] rfl rfl (any_of HT_.out (by kernel_rfl)) (fun _ _ _ h=>h) (Or.inl ⟨by rfl,?_⟩) ?_ ?_
           rotate_left
           ·intro w'
            go_simp
            with_reducible rfl
           rotate_left
           ·simp only [Act.put,xa,xb,xc,i64_w,i32_w]
            rfl
           refine pure_ (i:=3) (N:=some 79) (v:=undef) (a':=?_) #[true,true,true,true,false,false,false,false,false,false,false,false,false,false,false,false,false,false,false,false,false,false,false,false,false,false,false,false,false,false,false,false,false,false,false,false] rfl rfl (any_of HT_.out (by kernel_rfl)) (fun _ _ _ h=>h) (Or.inr ⟨by rfl,rfl⟩) ?_ ?_
           rotate_left
           ·simp only [Act.put,xa,xb,xc,i64_w,i32_w]
            rfl
           refine pure_ (i:=4) (N:=some 80) (v:=undef) (a':=?_) #[true,true,true,true,true,false,false,false,false,false,false,false,false,false,false,false,false,false,false,false,false,false,false,false,false,false,false,false,false,false,false,false,false,false,false,false] rfl rfl (any_of HT_.out (by kernel_rfl)) (fun _ _ _ h=>h) (Or.inr ⟨by rfl,rfl⟩) ?_ ?_
           rotate_left
           ·simp only [Act.put,xa,xb,xc,i64_w,i32_w]
            rfl
           refine pure_ (i:=5) (N:=some 81) (v:=?_) (a':=?_) #[true,true,true,true,true,true,false,false,false,false,false,false,false,false,false,false,false,false,false,false,false,false,false,false,false,false,false,false,false,false,false,false,false,false,false,false] rfl rfl (any_of HT_.out (by kernel_rfl)) (fun _ _ _ h=>h) (Or.inl ⟨by rfl,?_⟩) ?_ ?_
           rotate_left
           ·intro w'
            go_simp
            with_reducible rfl
           rotate_left
           ·simp only [Act.put,xa,xb,xc,i64_w,i32_w]
            rfl
           refine pure_ (i:=6) (N:=some 82) (v:=?_) (a':=?_) #[true,true,true,true,true,true,true,false,false,false,false,false,false,false,false,false,false,false,false,false,false,false,false,false,false,false,false,false,false,false,false,false,false,false,false,false] rfl rfl (any_of HT_.out (by kernel_rfl)) (fun _ _ _ h=>h) (Or.inl ⟨by rfl,?_⟩) ?_ ?_
           rotate_left
           ·intro w'
            go_simp
            with_reducible rfl
           rotate_left
           ·simp only [Act.put,xa,xb,xc,i64_w,i32_w]
            rfl
           refine pure_ (i:=7) (N:=some 83) (v:=undef) (a':=?_) #[true,true,true,true,true,true,true,true,false,false,false,false,false,false,false,false,false,false,false,false,false,false,false,false,false,false,false,false,false,false,false,false,false,false,false,false] rfl rfl (any_of HT_.out (by kernel_rfl)) (fun _ _ _ h=>h) (Or.inr ⟨by rfl,rfl⟩) ?_ ?_
           rotate_left
           ·simp only [Act.put,xa,xb,xc,i64_w,i32_w]
            rfl
           refine pure_ (i:=8) (N:=some 84) (v:=undef) (a':=?_) #[true,true,true,true,true,true,true,true,true,false,false,false,false,false,false,false,false,false,false,false,false,false,false,false,false,false,false,false,false,false,false,false,false,false,false,false] rfl rfl (any_of HT_.out (by kernel_rfl)) (fun _ _ _ h=>h) (Or.inr ⟨by rfl,rfl⟩) ?_ ?_
           rotate_left
           ·simp only [Act.put,xa,xb,xc,i64_w,i32_w]
            rfl
           refine pure_ (i:=9) (N:=some 85) (v:=?_) (a':=?_) #[true,true,true,true,true,true,true,true,true,true,false,false,false,false,false,false,false,false,false,false,false,false,false,false,false,false,false,false,false,false,false,false,false,false,false,false] rfl rfl (any_of HT_.out (by kernel_rfl)) (fun _ _ _ h=>h) (Or.inl ⟨by rfl,?_⟩) ?_ ?_
           rotate_left
           ·intro w'
            go_simp
            with_reducible rfl
           rotate_left
           ·simp only [Act.put,xa,xb,xc,i64_w,i32_w]
            rfl
           refine pure_ (i:=10) (N:=some 86) (v:=?_) (a':=?_) #[true,true,true,true,true,true,true,true,true,true,true,false,false,false,false,false,false,false,false,false,false,false,false,false,false,false,false,false,false,false,false,false,false,false,false,false] rfl rfl (any_of HT_.out (by kernel_rfl)) (fun _ _ _ h=>h) (Or.inl ⟨by rfl,?_⟩) ?_ ?_
           rotate_left
           ·intro w'
            go_simp
            with_reducible rfl
           rotate_left
           ·simp only [Act.put,xa,xb,xc,i64_w,i32_w]
            rfl
           refine pure_ (i:=11) (N:=some 87) (v:=undef) (a':=?_) #[true,true,true,true,true,true,true,true,true,true,true,true,false,false,false,false,false,false,false,false,false,false,false,false,false,false,false,false,false,false,false,false,false,false,false,false] rfl rfl (any_of HT_.out (by kernel_rfl)) (fun _ _ _ h=>h) (Or.inr ⟨by rfl,rfl⟩) ?_ ?_
           rotate_left
           ·simp only [Act.put,xa,xb,xc,i64_w,i32_w]
            rfl
           refine pure_ (i:=12) (N:=some 88) (v:=undef) (a':=?_) #[true,true,true,true,true,true,true,true,true,true,true,true,true,false,false,false,false,false,false,false,false,false,false,false,false,false,false,false,false,false,false,false,false,false,false,false] rfl rfl (any_of HT_.out (by kernel_rfl)) (fun _ _ _ h=>h) (Or.inr ⟨by rfl,rfl⟩) ?_ ?_
           rotate_left
           ·simp only [Act.put,xa,xb,xc,i64_w,i32_w]
            rfl
           refine pure_ (i:=13) (N:=some 89) (v:=undef) (a':=?_) #[true,true,true,true,true,true,true,true,true,true,true,true,true,true,false,false,false,false,false,false,false,false,false,false,false,false,false,false,false,false,false,false,false,false,false,false] rfl rfl (any_of HT_.out (by kernel_rfl)) (fun _ _ _ h=>h) (Or.inr ⟨by rfl,rfl⟩) ?_ ?_
           rotate_left
           ·simp only [Act.put,xa,xb,xc,i64_w,i32_w]
            rfl
           refine pure_ (i:=14) (N:=some 90) (v:=undef) (a':=?_) #[true,true,true,true,true,true,true,true,true,true,true,true,true,true,true,false,false,false,false,false,false,false,false,false,false,false,false,false,false,false,false,false,false,false,false,false] rfl rfl (any_of HT_.out (by kernel_rfl)) (fun _ _ _ h=>h) (Or.inr ⟨by rfl,rfl⟩) ?_ ?_
           rotate_left
           ·simp only [Act.put,xa,xb,xc,i64_w,i32_w]
            rfl
           refine pure_ (i:=15) (N:=some 91) (v:=?_) (a':=?_) #[true,true,true,true,true,true,true,true,true,true,true,true,true,true,true,true,false,false,false,false,false,false,false,false,false,false,false,false,false,false,false,false,false,false,false,false] rfl rfl (any_of HT_.out (by kernel_rfl)) (fun _ _ _ h=>h) (Or.inl ⟨by rfl,?_⟩) ?_ ?_
           rotate_left
           ·intro w'
            go_simp
            with_reducible rfl
           rotate_left
           ·simp only [Act.put,xa,xb,xc,i64_w,i32_w]
            rfl
           refine pure_ (i:=16) (N:=some 92) (v:=?_) (a':=?_) #[true,true,true,true,true,true,true,true,true,true,true,true,true,true,true,true,true,false,false,false,false,false,false,false,false,false,false,false,false,false,false,false,false,false,false,false] rfl rfl (any_of HT_.out (by kernel_rfl)) (fun _ _ _ h=>h) (Or.inl ⟨by rfl,?_⟩) ?_ ?_
           rotate_left
           ·intro w'
            go_simp
            with_reducible rfl
           rotate_left
           ·simp only [Act.put,xa,xb,xc,i64_w,i32_w]
            rfl
           refine pure_ (i:=17) (N:=some 93) (v:=undef) (a':=?_) #[true,true,true,true,true,true,true,true,true,true,true,true,true,true,true,true,true,true,false,false,false,false,false,false,false,false,false,false,false,false,false,false,false,false,false,false] rfl rfl (any_of HT_.out (by kernel_rfl)) (fun _ _ _ h=>h) (Or.inr ⟨by rfl,rfl⟩) ?_ ?_
           rotate_left
           ·simp only [Act.put,xa,xb,xc,i64_w,i32_w]
            rfl
           refine pure_ (i:=18) (N:=some 94) (v:=undef) (a':=?_) #[true,true,true,true,true,true,true,true,true,true,true,true,true,true,true,true,true,true,true,false,false,false,false,false,false,false,false,false,false,false,false,false,false,false,false,false] rfl rfl (any_of HT_.out (by kernel_rfl)) (fun _ _ _ h=>h) (Or.inr ⟨by rfl,rfl⟩) ?_ ?_
           rotate_left
           ·simp only [Act.put,xa,xb,xc,i64_w,i32_w]
            rfl
           refine pure_ (i:=19) (N:=some 95) (v:=undef) (a':=?_) #[true,true,true,true,true,true,true,true,true,true,true,true,true,true,true,true,true,true,true,true,false,false,false,false,false,false,false,false,false,false,false,false,false,false,false,false] rfl rfl (any_of HT_.out (by kernel_rfl)) (fun _ _ _ h=>h) (Or.inr ⟨by rfl,rfl⟩) ?_ ?_
           rotate_left
           ·simp only [Act.put,xa,xb,xc,i64_w,i32_w]
            rfl
           refine pure_ (i:=20) (N:=some 96) (v:=?_) (a':=?_) #[true,true,true,true,true,true,true,true,true,true,true,true,true,true,true,true,true,true,true,true,true,false,false,false,false,false,false,false,false,false,false,false,false,false,false,false] rfl rfl (any_of HT_.out (by kernel_rfl)) (fun _ _ _ h=>h) (Or.inl ⟨by rfl,?_⟩) ?_ ?_
           rotate_left
           ·intro w'
            go_simp
            with_reducible rfl
           rotate_left
           ·simp only [Act.put,xa,xb,xc,i64_w,i32_w]
            rfl
           refine pure_ (i:=21) (N:=some 97) (v:=?_) (a':=?_) #[true,true,true,true,true,true,true,true,true,true,true,true,true,true,true,true,true,true,true,true,true,true,false,false,false,false,false,false,false,false,false,false,false,false,false,false] rfl rfl (any_of HT_.out (by kernel_rfl)) (fun _ _ _ h=>h) (Or.inl ⟨by rfl,?_⟩) ?_ ?_
           rotate_left
           ·intro w'
            go_simp
            with_reducible rfl
           rotate_left
           ·simp only [Act.put,xa,xb,xc,i64_w,i32_w]
            rfl
           refine pure_ (i:=22) (N:=some 98) (v:=undef) (a':=?_) #[true,true,true,true,true,true,true,true,true,true,true,true,true,true,true,true,true,true,true,true,true,true,true,false,false,false,false,false,false,false,false,false,false,false,false,false] rfl rfl (any_of HT_.out (by kernel_rfl)) (fun _ _ _ h=>h) (Or.inr ⟨by rfl,rfl⟩) ?_ ?_
           rotate_left
           ·simp only [Act.put,xa,xb,xc,i64_w,i32_w]
            rfl
           refine pure_ (i:=23) (N:=some 99) (v:=undef) (a':=?_) #[true,true,true,true,true,true,true,true,true,true,true,true,true,true,true,true,true,true,true,true,true,true,true,true,false,false,false,false,false,false,false,false,false,false,false,false] rfl rfl (any_of HT_.out (by kernel_rfl)) (fun _ _ _ h=>h) (Or.inr ⟨by rfl,rfl⟩) ?_ ?_
           rotate_left
           ·simp only [Act.put,xa,xb,xc,i64_w,i32_w]
            rfl
           refine pure_ (i:=24) (N:=some 100) (v:=undef) (a':=?_) #[true,true,true,true,true,true,true,true,true,true,true,true,true,true,true,true,true,true,true,true,true,true,true,true,true,false,false,false,false,false,false,false,false,false,false,false] rfl rfl (any_of HT_.out (by kernel_rfl)) (fun _ _ _ h=>h) (Or.inr ⟨by rfl,rfl⟩) ?_ ?_
           rotate_left
           ·simp only [Act.put,xa,xb,xc,i64_w,i32_w]
            rfl
           refine pure_ (i:=25) (N:=some 101) (v:=undef) (a':=?_) #[true,true,true,true,true,true,true,true,true,true,true,true,true,true,true,true,true,true,true,true,true,true,true,true,true,true,false,false,false,false,false,false,false,false,false,false] rfl rfl (any_of HT_.out (by kernel_rfl)) (fun _ _ _ h=>h) (Or.inr ⟨by rfl,rfl⟩) ?_ ?_
           rotate_left
           ·simp only [Act.put,xa,xb,xc,i64_w,i32_w]
            rfl
           refine pure_ (i:=26) (N:=some 102) (v:=undef) (a':=?_) #[true,true,true,true,true,true,true,true,true,true,true,true,true,true,true,true,true,true,true,true,true,true,true,true,true,true,true,false,false,false,false,false,false,false,false,false] rfl rfl (any_of HT_.out (by kernel_rfl)) (fun _ _ _ h=>h) (Or.inr ⟨by rfl,rfl⟩) ?_ ?_
           rotate_left
           ·simp only [Act.put,xa,xb,xc,i64_w,i32_w]
            rfl
           refine pure_ (i:=27) (N:=some 103) (v:=undef) (a':=?_) #[true,true,true,true,true,true,true,true,true,true,true,true,true,true,true,true,true,true,true,true,true,true,true,true,true,true,true,true,false,false,false,false,false,false,false,false] rfl rfl (any_of HT_.out (by kernel_rfl)) (fun _ _ _ h=>h) (Or.inr ⟨by rfl,rfl⟩) ?_ ?_
           rotate_left
           ·simp only [Act.put,xa,xb,xc,i64_w,i32_w]
            rfl
           refine pure_ (i:=28) (N:=some 104) (v:=undef) (a':=?_) #[true,true,true,true,true,true,true,true,true,true,true,true,true,true,true,true,true,true,true,true,true,true,true,true,true,true,true,true,true,false,false,false,false,false,false,false] rfl rfl (any_of HT_.out (by kernel_rfl)) (fun _ _ _ h=>h) (Or.inr ⟨by rfl,rfl⟩) ?_ ?_
           rotate_left
           ·simp only [Act.put,xa,xb,xc,i64_w,i32_w]
            rfl
           refine pure_ (i:=29) (N:=some 105) (v:=undef) (a':=?_) #[true,true,true,true,true,true,true,true,true,true,true,true,true,true,true,true,true,true,true,true,true,true,true,true,true,true,true,true,true,true,false,false,false,false,false,false] rfl rfl (any_of HT_.out (by kernel_rfl)) (fun _ _ _ h=>h) (Or.inr ⟨by rfl,rfl⟩) ?_ ?_
           rotate_left
           ·simp only [Act.put,xa,xb,xc,i64_w,i32_w]
            rfl
           refine pure_ (i:=30) (N:=some 106) (v:=undef) (a':=?_) #[true,true,true,true,true,true,true,true,true,true,true,true,true,true,true,true,true,true,true,true,true,true,true,true,true,true,true,true,true,true,true,false,false,false,false,false] rfl rfl (any_of HT_.out (by kernel_rfl)) (fun _ _ _ h=>h) (Or.inr ⟨by rfl,rfl⟩) ?_ ?_
           rotate_left
           ·simp only [Act.put,xa,xb,xc,i64_w,i32_w]
            rfl
           refine pure_ (i:=31) (N:=some 107) (v:=undef) (a':=?_) #[true,true,true,true,true,true,true,true,true,true,true,true,true,true,true,true,true,true,true,true,true,true,true,true,true,true,true,true,true,true,true,true,false,false,false,false] rfl rfl (any_of HT_.out (by kernel_rfl)) (fun _ _ _ h=>h) (Or.inr ⟨by rfl,rfl⟩) ?_ ?_
           rotate_left
           ·simp only [Act.put,xa,xb,xc,i64_w,i32_w]
            rfl
           refine pure_ (i:=32) (N:=some 108) (v:=undef) (a':=?_) #[true,true,true,true,true,true,true,true,true,true,true,true,true,true,true,true,true,true,true,true,true,true,true,true,true,true,true,true,true,true,true,true,true,false,false,false] rfl rfl (any_of HT_.out (by kernel_rfl)) (fun _ _ _ h=>h) (Or.inr ⟨by rfl,rfl⟩) ?_ ?_
           rotate_left
           ·simp only [Act.put,xa,xb,xc,i64_w,i32_w]
            rfl
           refine pure_ (i:=33) (N:=some 109) (v:=undef) (a':=?_) #[true,true,true,true,true,true,true,true,true,true,true,true,true,true,true,true,true,true,true,true,true,true,true,true,true,true,true,true,true,true,true,true,true,true,false,false] rfl rfl (any_of HT_.out (by kernel_rfl)) (fun _ _ _ h=>h) (Or.inr ⟨by rfl,rfl⟩) ?_ ?_
           rotate_left
           ·simp only [Act.put,xa,xb,xc,i64_w,i32_w]
            rfl
           refine pure_ (i:=34) (N:=some 110) (v:=undef) (a':=?_) #[true,true,true,true,true,true,true,true,true,true,true,true,true,true,true,true,true,true,true,true,true,true,true,true,true,true,true,true,true,true,true,true,true,true,true,false] rfl rfl (any_of HT_.out (by kernel_rfl)) (fun _ _ _ h=>h) (Or.inr ⟨by rfl,rfl⟩) ?_ ?_
           rotate_left
           ·simp only [Act.put,xa,xb,xc,i64_w,i32_w]
            rfl
           refine pure_ (i:=35) (N:=some 111) (v:=?_) (a':=?_) #[true,true,true,true,true,true,true,true,true,true,true,true,true,true,true,true,true,true,true,true,true,true,true,true,true,true,true,true,true,true,true,true,true,true,true,true] rfl rfl (any_of HT_.out (by kernel_rfl)) (fun _ _ _ h=>h) (Or.inl ⟨by rfl,?_⟩) ?_ ?_
           rotate_left
           ·intro w'
            go_simp
            with_reducible rfl
           rotate_left
           ·simp only [Act.put,xa,xb,xc,i64_w,i32_w]
            rfl
           refine done_ (done_of HT_.out (by kernel_rfl)) ?_
           try go_wp2
           go_meet
           case rel=>exact ⟨_,(true),fz,H',⟨by have:=HJ7.out;have:=HK2.out;first|omega|exact Nat.le_refl _⟩,⟨by (with_reducible repeat (first|apply Kd.R_alloc|apply Kd.R_drewN|apply Kd.R_drew));exact Kd.R_mono HO488.out (fun _ hk=>hk.2)⟩,⟨by (with_reducible repeat (first|apply Kd.R_alloc|apply Kd.R_drewN|apply Kd.R_drew));exact Kd.R_mono HO491.out (fun _ hk=>hk.1.2)⟩,⟨by (with_reducible repeat (first|apply Kd.R_alloc|apply Kd.R_drewN|apply Kd.R_drew));exact Kd.R_mono HO497.out (fun _ hk=>hk.2)⟩,⟨by (with_reducible repeat (first|apply Kd.R_alloc|apply Kd.R_drewN|apply Kd.R_drew));exact Kd.R_mono HO500.out (fun _ hk=>hk.1.2)⟩,⟨by (with_reducible repeat (first|refine blk_drewN ?_ _|refine blk_drew ?_|refine blk_alloc ?_ _));exact BK493.out⟩,⟨by (with_reducible repeat (first|refine blk_drewN ?_ _|refine blk_drew ?_|refine blk_alloc ?_ _));exact BK502.out⟩,⟨by repeat (first|(with_reducible first|exact HB.out|apply below_alloc|apply pw_below_drewN|apply below_drew1|refine below_set ?_ GE493.out|refine below_set ?_ GE502.out)|exact HB.out)⟩⟩
         case rest=>
          clear HC28
          try clear p2
          try clear c4
          try clear c41
          try clear c42
          obtain ⟨kq,x111_27,rfl,HA,HJ27,HO_494001,HO_494002,HO_503001,HO_503002,BK493,BK502,HB⟩:=hcut
          cases kq with
          | zero=>exact absurd HA.out (by simp [laws_FnNeededParts.j2])
          | succ kj27=>
           have H:=HA.out
           clear HA
           simp only [laws_FnNeededParts.j2] at H
           by_cases c65 : x111_27 = true
           ·subst c65
            rw [if_pos rfl] at H
            obtain rfl:=Option.some.inj H
            go_wp2
            go_ret
            exact ⟨by first|rfl|(simp [errW_none,errW_some] <;> rfl)|(simp [*,errW_none,errW_some] <;> rfl),by repeat (first|(with_reducible first|exact HB.out|apply below_alloc|apply pw_below_drewN|apply below_drew1|refine below_set ?_ GE493.out|refine below_set ?_ GE502.out)|exact HB.out)⟩
           ·replace c65:=Bool.eq_false_iff.mpr c65
            subst c65
            rw [if_neg (show ¬ (false = true) by decide)] at H
            replace H:=Option.bind_eq_some_iff.mp H
            obtain ⟨⟨t511,t512⟩,A660,H⟩:=H
            replace H : ((impl_InsertNumber.f kj27 t511 t512).bind fun bt515=>((spec_InsertNumber.f kj27 t511 t512).bind fun bt519=>(if (bt515.2 == bt519.2) = true then ((laws_pSameInts.f kj27 bt515.1 bt519.1).bind fun t523=>(if t523 = true then (if bt515.2 = true then (if (bt515.1.length : Int) = (wrap64 ((t511.length : Int) + 1)) then ((laws_pHas.f kj27 bt515.1 t512).bind fun t524=>(some t524)) else (some false)) else (some true)) else (some false))) else (some false)))) = some r:=H
            have A66:=Aside0.mk A660
            clear A660
            replace H:=Option.bind_eq_some_iff.mp H
            obtain ⟨⟨t515,t516⟩,A670,H⟩:=H
            replace H : ((spec_InsertNumber.f kj27 t511 t512).bind fun bt519=>(if (t516 == bt519.2) = true then ((laws_pSameInts.f kj27 t515 bt519.1).bind fun t523=>(if t523 = true then (if t516 = true then (if (t515.length : Int) = (wrap64 ((t511.length : Int) + 1)) then ((laws_pHas.f kj27 t515 t512).bind fun t524=>(some t524)) else (some false)) else (some true)) else (some false))) else (some false))) = some r:=H
            have A67:=Aside0.mk A670
            clear A670
            replace H:=Option.bind_eq_some_iff.mp H
            obtain ⟨⟨t519,t522⟩,A680,H⟩:=H
            replace H : (if (t516 == t522) = true then ((laws_pSameInts.f kj27 t515 t519).bind fun t523=>(if t523 = true then (if t516 = true then (if (t515.length : Int) = (wrap64 ((t511.length : Int) + 1)) then ((laws_pHas.f kj27 t515 t512).bind fun t524=>(some t524)) else (some false)) else (some true)) else (some false))) else (some false)) = some r:=H
            have A68:=Aside0.mk A680
            clear A680
            by_cases c69 : (t516 == t522) = true
            ·rw [if_pos c69] at H
             have c69b0 : (t516 == t522) = true:=c69
             (try (have c69b1 : decide (t516 = t522) = true:=by simpa using c69))
             (try (have c69b2 : (t516 == t522) = true:=by simpa using c69))
             clear c69
             obtain ⟨t523,A70,H⟩:=bd H
             by_cases c71 : t523 = true
             ·subst c71
              rw [if_pos rfl] at H
              by_cases c72 : t516 = true
              ·subst c72
               rw [if_pos rfl] at H
               by_cases c73 : (t515.length : Int) = (wrap64 ((t511.length : Int) + 1))
               ·rw [if_pos c73] at H
                have c73b0 : ((t515.length : Int) == (wrap64 ((t511.length : Int) + 1))) = true:=beq_iff_eq.mpr c73
                have c73b1 : ((t515.length : Int) != (wrap64 ((t511.length : Int) + 1))) = false:=bne_eq_false_iff_eq.mpr c73
                clear c73
                obtain ⟨t524,A74,H⟩:=bd H
                obtain rfl:=Option.some.inj H
                go_wp2_with (first|((with_reducible refine gate_callee (f:=16) rfl ?_);refine goesL_ (some 114) rfl rfl Try.func16 (by kernel_rfl) rfl #[.slice A1 l1.length c1] rfl mz ?_;(with_reducible refine (spec_DrawInsertNumber.calls kj27 _ _ l1 t511 t512 _ ?side1 ?side2 A66.out).mono ?_);(case side1=>exact cz (Kd.C_below HR1.out HB.out));(case side2=>exact HC1.out);rintro e w75 ⟨v513,rfl,ho0,hb⟩;refine ⟨_,rfl,?_⟩;have n0_:=Aside0.mk (Kd.R_below (rz HO_494001.out) hb);have n1_:=Aside0.mk (Kd.R_elder' (rz HO_494002.out) (Kd.R_base ho0) hb);have n2_:=Aside0.mk (Kd.R_below (rz HO_503001.out) hb);have n3_:=Aside0.mk (Kd.R_elder' (rz HO_503002.out) (Kd.R_base ho0) hb);have n4_:=Aside0.mk (Kd.R_lower (Kd.R_new' (Kd.R_new' ho0 (Kd.R_lt (rz HO_494002.out))) (Kd.R_lt (rz HO_503002.out))) (below_size bs));have n5_:=Aside0.mk (blk_below (g:=gb493) (o:=.cells #[.int .i64 t485,.slice Ao32 t486.length co32,.slice Ao33 t489.length co33] 32 (0,0)) (kz BK493.out) hb);have n6_:=Aside0.mk (blk_below (g:=gb502) (o:=.cells #[.int .i64 t494,.slice Ao38 t495.length co38,.slice Ao39 t498.length co39] 32 (0,0)) (kz BK502.out) hb);have n7_:=Aside0.mk (below_step bs hb);clear HO_494001 HO_494002 HO_503001 HO_503002 BK493 BK502 HB;have HO_494001:=n0_;have HO_494002:=n1_;have HO_503001:=n2_;have HO_503002:=n3_;have HO514:=n4_;have BK493:=n5_;have BK502:=n6_;have HB:=n7_;clear n0_ n1_ n2_ n3_ n4_ n5_ n6_ n7_;(try clear hb);(try clear ho0);obtain ⟨Ao76,co76,eo76⟩:=Kd.R_slice HO514.out;subst eo76)|((with_reducible refine gate_callee (f:=17) rfl ?_);refine goesL_ (some 120) rfl rfl Try.func17 (by kernel_rfl) rfl #[.slice Ao76 t511.length co76,.int .i64 t512] rfl mz ?_;(with_reducible refine (impl_InsertNumber.calls kj27 _ _ t511 t512 t515 true _ ?side1 ?side2 A67.out).mono ?_);(case side1=>exact cz (Kd.R_reads' HO514.out).2.2);(case side2=>exact (Kd.R_reads' HO514.out).2.1);rintro e w77 ⟨v517,rfl,ho0,hb⟩;refine ⟨_,rfl,?_⟩;have n0_:=Aside0.mk (Kd.R_below (rz HO_494001.out) hb);have n1_:=Aside0.mk (Kd.R_elder' (rz HO_494002.out) (Kd.R_base ho0) hb);have n2_:=Aside0.mk (Kd.R_below (rz HO_503001.out) hb);have n3_:=Aside0.mk (Kd.R_elder' (rz HO_503002.out) (Kd.R_base ho0) hb);have n4_:=Aside0.mk (Kd.R_elder' (rz HO514.out) (Kd.R_base ho0) hb);have n5_:=Aside0.mk (Kd.R_lower (Kd.R_new' (Kd.R_new' (Kd.R_new' ho0 (Kd.R_lt (rz HO_494002.out))) (Kd.R_lt (rz HO_503002.out))) (Kd.R_lt (rz HO514.out))) (below_size bs));have n6_:=Aside0.mk (blk_below (g:=gb493) (o:=.cells #[.int .i64 t485,.slice Ao32 t486.length co32,.slice Ao33 t489.length co33] 32 (0,0)) (kz BK493.out) hb);have n7_:=Aside0.mk (blk_below (g:=gb502) (o:=.cells #[.int .i64 t494,.slice Ao38 t495.length co38,.slice Ao39 t498.length co39] 32 (0,0)) (kz BK502.out) hb);have n8_:=Aside0.mk (below_step bs hb);clear HO_494001 HO_494002 HO_503001 HO_503002 HO514 BK493 BK502 HB;have HO_494001:=n0_;have HO_494002:=n1_;have HO_503001:=n2_;have HO_503002:=n3_;have HO514:=n4_;have HO518:=n5_;have BK493:=n6_;have BK502:=n7_;have HB:=n8_;clear n0_ n1_ n2_ n3_ n4_ n5_ n6_ n7_ n8_;(try clear hb);(try clear ho0))|((with_reducible refine gate_callee (f:=18) rfl ?_);refine goesL_ (some 126) rfl rfl Try.func18 (by kernel_rfl) rfl #[.slice Ao76 t511.length co76,.int .i64 t512] rfl mz ?_;(with_reducible refine (spec_InsertNumber.calls kj27 (fun k_=>some k_ = (.slice Ao76 t511.length co76 : Value).ownBlock) (.slice Ao76 t511.length co76) t511 t512 t519 t522 w _ ?side1 ?side2 A68.out).mono ?_);(case side1=>repeat (first|(with_reducible first|exact HB.out|apply below_alloc|apply pw_below_drewN|apply below_drew1|refine below_set ?_ GE493.out|refine below_set ?_ GE502.out)|exact HB.out));(case side2=>exact Kd.R_tight rfl HO514.out);rintro e w78 ⟨v520,rfl,ho0,hb,hkp⟩;refine ⟨_,rfl,?_⟩;have n0_:=Aside0.mk (Kd.R_mono (ok':=fun k_=>some k_ ≠ (.slice Ao38 t495.length co38 : Value).ownBlock) (Kd.R_keptB ((Kd.R_apart' HO_494001.out (Kd.R_typed HO514.out) (by decide))) hkp (fun k_ hk_ hs_=>(hk_.2) hs_)) (fun k_ hk_=>hk_.1.1));have n1_:=Aside0.mk (Kd.R_mono (ok':=fun k_=>some k_ ≠ (.slice Ao39 t498.length co39 : Value).ownBlock ∧ some k_ ≠ (v517 : Value).ownBlock ∧ some k_ ≠ (v520 : Value).ownBlock) (Kd.R_keptB (HO_494002.out) hkp (fun k_ hk_ hs_=>(hk_.1.2) hs_)) (fun k_ hk_=>⟨hk_.1.1.1,hk_.1.2,fun e_=>Or.elim (ho0.1 k_ e_.symm) (fun hs_=>hk_.2.1 hs_) (fun hn_=>Nat.not_le.2 hk_.2.2 hn_)⟩));have n2_:=Aside0.mk (Kd.R_mono (ok':=fun k_=>some k_ ≠ (.slice Ao32 t486.length co32 : Value).ownBlock) (Kd.R_keptB ((Kd.R_apart' HO_503001.out (Kd.R_typed HO514.out) (by decide))) hkp (fun k_ hk_ hs_=>(hk_.2) hs_)) (fun k_ hk_=>hk_.1.1));have n3_:=Aside0.mk (Kd.R_mono (ok':=fun k_=>some k_ ≠ (.slice Ao33 t489.length co33 : Value).ownBlock ∧ some k_ ≠ (v517 : Value).ownBlock ∧ some k_ ≠ (v520 : Value).ownBlock) (Kd.R_keptB (HO_503002.out) hkp (fun k_ hk_ hs_=>(hk_.1.2) hs_)) (fun k_ hk_=>⟨hk_.1.1.1,hk_.1.2,fun e_=>Or.elim (ho0.1 k_ e_.symm) (fun hs_=>hk_.2.1 hs_) (fun hn_=>Nat.not_le.2 hk_.2.2 hn_)⟩));have n4_:=Aside0.mk (blk_kept (kz BK493.out) hkp (fun hs_=>(fun e_=>(Kd.R_ne HO514.out BK493.out (by decide)) e_) hs_));have n5_:=Aside0.mk (blk_kept (kz BK502.out) hkp (fun hs_=>(fun e_=>(Kd.R_ne HO514.out BK502.out (by decide)) e_) hs_));have n6_:=Aside0.mk (Kd.R_mono (ok':=fun k_=>some k_ ≠ (.slice Ao33 t489.length co33 : Value).ownBlock ∧ some k_ ≠ (.slice Ao39 t498.length co39 : Value).ownBlock ∧ some k_ ≠ (v520 : Value).ownBlock) (Kd.R_keptB (HO518.out) hkp (fun k_ hk_ hs_=>(hk_.2) hs_)) (fun k_ hk_=>⟨hk_.1.1.1.2,hk_.1.1.2,fun e_=>Or.elim (ho0.1 k_ e_.symm) (fun hs_=>hk_.2.1 hs_) (fun hn_=>Nat.not_le.2 hk_.2.2 hn_)⟩));have n7_:=Aside0.mk (Kd.R_mono (ok':=fun k_=>some k_ ≠ (.slice Ao33 t489.length co33 : Value).ownBlock ∧ some k_ ≠ (.slice Ao39 t498.length co39 : Value).ownBlock ∧ some k_ ≠ (v517 : Value).ownBlock) ho0 (fun k_ hk_=>⟨Or.elim hk_ (fun hs_=>fun e_=>(((HO_494002.out).1 k_ e_.symm).1.2) hs_) (fun hn_=>(Kd.fresh' (Kd.R_lt (rz HO_494002.out)) k_ hn_)),Or.elim hk_ (fun hs_=>fun e_=>(((HO_503002.out).1 k_ e_.symm).1.2) hs_) (fun hn_=>(Kd.fresh' (Kd.R_lt (rz HO_503002.out)) k_ hn_)),Or.elim hk_ (fun hs_=>fun e_=>(((HO518.out).1 k_ e_.symm).2) hs_) (fun hn_=>(Kd.fresh' (Kd.R_lt (rz HO518.out)) k_ hn_))⟩));have n8_:=Aside0.mk (hb);clear HO_494001 HO_494002 HO_503001 HO_503002 BK493 BK502 HO518 HB HO514;have HO_494001:=n0_;have HO_494002:=n1_;have HO_503001:=n2_;have HO_503002:=n3_;have BK493:=n4_;have BK502:=n5_;have HO518:=n6_;have HO521:=n7_;have HB:=n8_;clear n0_ n1_ n2_ n3_ n4_ n5_ n6_ n7_ n8_;(try clear hb);(try clear hkp);(try clear ho0);obtain ⟨Ao79,co79,eo79⟩:=Kd.R_slice HO518.out;subst eo79;obtain ⟨Ao80,co80,eo80⟩:=Kd.R_slice HO521.out;subst eo80)|(go_at_call 10;(with_reducible refine (laws_pSameInts.calls kj27 _ _ t515 _ _ t519 true _ ?side1 ?side2 ?side3 ?side4 A70.out).mono ?_);(case side1=>exact cz (Kd.R_reads' HO518.out).2.2);(case side2=>exact (Kd.R_reads' HO518.out).2.1);(case side3=>exact cz (Kd.R_reads' HO521.out).2.2);(case side4=>exact (Kd.R_reads' HO521.out).2.1);rintro e w' ⟨rfl,⟨nd,rfl⟩⟩)|(go_at_call 11;(with_reducible refine (laws_pHas.calls kj27 _ _ t515 t512 t524 _ ?side1 ?side2 A74.out).mono ?_);(case side1=>exact cz (Kd.R_reads' HO518.out).2.2);(case side2=>exact (Kd.R_reads' HO518.out).2.1);rintro e w' ⟨rfl,⟨nd,rfl⟩⟩))
                go_ret
                exact ⟨by first|rfl|(simp [errW_none,errW_some] <;> rfl)|(simp [*,errW_none,errW_some] <;> rfl),by repeat (first|(with_reducible first|exact HB.out|apply below_alloc|apply pw_below_drewN|apply below_drew1|refine below_set ?_ GE493.out|refine below_set ?_ GE502.out)|exact HB.out)⟩
               ·rw [if_neg c73] at H
                have c73b0 : ((t515.length : Int) == (wrap64 ((t511.length : Int) + 1))) = false:=beq_eq_false_iff_ne.mpr c73
                have c73b1 : ((t515.length : Int) != (wrap64 ((t511.length : Int) + 1))) = true:=bne_iff_ne.mpr c73
                obtain rfl:=Option.some.inj H
                go_wp2_with (first|((with_reducible refine gate_callee (f:=16) rfl ?_);refine goesL_ (some 114) rfl rfl Try.func16 (by kernel_rfl) rfl #[.slice A1 l1.length c1] rfl mz ?_;(with_reducible refine (spec_DrawInsertNumber.calls kj27 _ _ l1 t511 t512 _ ?side1 ?side2 A66.out).mono ?_);(case side1=>exact cz (Kd.C_below HR1.out HB.out));(case side2=>exact HC1.out);rintro e w81 ⟨v513,rfl,ho0,hb⟩;refine ⟨_,rfl,?_⟩;have n0_:=Aside0.mk (Kd.R_below (rz HO_494001.out) hb);have n1_:=Aside0.mk (Kd.R_elder' (rz HO_494002.out) (Kd.R_base ho0) hb);have n2_:=Aside0.mk (Kd.R_below (rz HO_503001.out) hb);have n3_:=Aside0.mk (Kd.R_elder' (rz HO_503002.out) (Kd.R_base ho0) hb);have n4_:=Aside0.mk (Kd.R_lower (Kd.R_new' (Kd.R_new' ho0 (Kd.R_lt (rz HO_494002.out))) (Kd.R_lt (rz HO_503002.out))) (below_size bs));have n5_:=Aside0.mk (blk_below (g:=gb493) (o:=.cells #[.int .i64 t485,.slice Ao32 t486.length co32,.slice Ao33 t489.length co33] 32 (0,0)) (kz BK493.out) hb);have n6_:=Aside0.mk (blk_below (g:=gb502) (o:=.cells #[.int .i64 t494,.slice Ao38 t495.length co38,.slice Ao39 t498.length co39] 32 (0,0)) (kz BK502.out) hb);have n7_:=Aside0.mk (below_step bs hb);clear HO_494001 HO_494002 HO_503001 HO_503002 BK493 BK502 HB;have HO_494001:=n0_;have HO_494002:=n1_;have HO_503001:=n2_;have HO_503002:=n3_;have HO514:=n4_;have BK493:=n5_;have BK502:=n6_;have HB:=n7_;clear n0_ n1_ n2_ n3_ n4_ n5_ n6_ n7_;(try clear hb);(try clear ho0);obtain ⟨Ao82,co82,eo82⟩:=Kd.R_slice HO514.out;subst eo82)|((with_reducible refine gate_callee (f:=17) rfl ?_);refine goesL_ (some 120) rfl rfl Try.func17 (by kernel_rfl) rfl #[.slice Ao82 t511.length co82,.int .i64 t512] rfl mz ?_;(with_reducible refine (impl_InsertNumber.calls kj27 _ _ t511 t512 t515 true _ ?side1 ?side2 A67.out).mono ?_);(case side1=>exact cz (Kd.R_reads' HO514.out).2.2);(case side2=>exact (Kd.R_reads' HO514.out).2.1);rintro e w83 ⟨v517,rfl,ho0,hb⟩;refine ⟨_,rfl,?_⟩;have n0_:=Aside0.mk (Kd.R_below (rz HO_494001.out) hb);have n1_:=Aside0.mk (Kd.R_elder' (rz HO_494002.out) (Kd.R_base ho0) hb);have n2_:=Aside0.mk (Kd.R_below (rz HO_503001.out) hb);have n3_:=Aside0.mk (Kd.R_elder' (rz HO_503002.out) (Kd.R_base ho0) hb);have n4_:=Aside0.mk (Kd.R_elder' (rz HO514.out) (Kd.R_base ho0) hb);have n5_:=Aside0.mk (Kd.R_lower (Kd.R_new' (Kd.R_new' (Kd.R_new' ho0 (Kd.R_lt (rz HO_494002.out))) (Kd.R_lt (rz HO_503002.out))) (Kd.R_lt (rz HO514.out))) (below_size bs));have n6_:=Aside0.mk (blk_below (g:=gb493) (o:=.cells #[.int .i64 t485,.slice Ao32 t486.length co32,.slice Ao33 t489.length co33] 32 (0,0)) (kz BK493.out) hb);have n7_:=Aside0.mk (blk_below (g:=gb502) (o:=.cells #[.int .i64 t494,.slice Ao38 t495.length co38,.slice Ao39 t498.length co39] 32 (0,0)) (kz BK502.out) hb);have n8_:=Aside0.mk (below_step bs hb);clear HO_494001 HO_494002 HO_503001 HO_503002 HO514 BK493 BK502 HB;have HO_494001:=n0_;have HO_494002:=n1_;have HO_503001:=n2_;have HO_503002:=n3_;have HO514:=n4_;have HO518:=n5_;have BK493:=n6_;have BK502:=n7_;have HB:=n8_;clear n0_ n1_ n2_ n3_ n4_ n5_ n6_ n7_ n8_;(try clear hb);(try clear ho0))|((with_reducible refine gate_callee (f:=18) rfl ?_);refine goesL_ (some 126) rfl rfl Try.func18 (by kernel_rfl) rfl #[.slice Ao82 t511.length co82,.int .i64 t512] rfl mz ?_;(with_reducible refine (spec_InsertNumber.calls kj27 (fun k_=>some k_ = (.slice Ao82 t511.length co82 : Value).ownBlock) (.slice Ao82 t511.length co82) t511 t512 t519 t522 w _ ?side1 ?side2 A68.out).mono ?_);(case side1=>repeat (first|(with_reducible first|exact HB.out|apply below_alloc|apply pw_below_drewN|apply below_drew1|refine below_set ?_ GE493.out|refine below_set ?_ GE502.out)|exact HB.out));(case side2=>exact Kd.R_tight rfl HO514.out);rintro e w84 ⟨v520,rfl,ho0,hb,hkp⟩;refine ⟨_,rfl,?_⟩;have n0_:=Aside0.mk (Kd.R_mono (ok':=fun k_=>some k_ ≠ (.slice Ao38 t495.length co38 : Value).ownBlock) (Kd.R_keptB ((Kd.R_apart' HO_494001.out (Kd.R_typed HO514.out) (by decide))) hkp (fun k_ hk_ hs_=>(hk_.2) hs_)) (fun k_ hk_=>hk_.1.1));have n1_:=Aside0.mk (Kd.R_mono (ok':=fun k_=>some k_ ≠ (.slice Ao39 t498.length co39 : Value).ownBlock ∧ some k_ ≠ (v517 : Value).ownBlock ∧ some k_ ≠ (v520 : Value).ownBlock) (Kd.R_keptB (HO_494002.out) hkp (fun k_ hk_ hs_=>(hk_.1.2) hs_)) (fun k_ hk_=>⟨hk_.1.1.1,hk_.1.2,fun e_=>Or.elim (ho0.1 k_ e_.symm) (fun hs_=>hk_.2.1 hs_) (fun hn_=>Nat.not_le.2 hk_.2.2 hn_)⟩));have n2_:=Aside0.mk (Kd.R_mono (ok':=fun k_=>some k_ ≠ (.slice Ao32 t486.length co32 : Value).ownBlock) (Kd.R_keptB ((Kd.R_apart' HO_503001.out (Kd.R_typed HO514.out) (by decide))) hkp (fun k_ hk_ hs_=>(hk_.2) hs_)) (fun k_ hk_=>hk_.1.1));have n3_:=Aside0.mk (Kd.R_mono (ok':=fun k_=>some k_ ≠ (.slice Ao33 t489.length co33 : Value).ownBlock ∧ some k_ ≠ (v517 : Value).ownBlock ∧ some k_ ≠ (v520 : Value).ownBlock) (Kd.R_keptB (HO_503002.out) hkp (fun k_ hk_ hs_=>(hk_.1.2) hs_)) (fun k_ hk_=>⟨hk_.1.1.1,hk_.1.2,fun e_=>Or.elim (ho0.1 k_ e_.symm) (fun hs_=>hk_.2.1 hs_) (fun hn_=>Nat.not_le.2 hk_.2.2 hn_)⟩));have n4_:=Aside0.mk (blk_kept (kz BK493.out) hkp (fun hs_=>(fun e_=>(Kd.R_ne HO514.out BK493.out (by decide)) e_) hs_));have n5_:=Aside0.mk (blk_kept (kz BK502.out) hkp (fun hs_=>(fun e_=>(Kd.R_ne HO514.out BK502.out (by decide)) e_) hs_));have n6_:=Aside0.mk (Kd.R_mono (ok':=fun k_=>some k_ ≠ (.slice Ao33 t489.length co33 : Value).ownBlock ∧ some k_ ≠ (.slice Ao39 t498.length co39 : Value).ownBlock ∧ some k_ ≠ (v520 : Value).ownBlock) (Kd.R_keptB (HO518.out) hkp (fun k_ hk_ hs_=>(hk_.2) hs_)) (fun k_ hk_=>⟨hk_.1.1.1.2,hk_.1.1.2,fun e_=>Or.elim (ho0.1 k_ e_.symm) (fun hs_=>hk_.2.1 hs_) (fun hn_=>Nat.not_le.2 hk_.2.2 hn_)⟩));have n7_:=Aside0.mk (Kd.R_mono (ok':=fun k_=>some k_ ≠ (.slice Ao33 t489.length co33 : Value).ownBlock ∧ some k_ ≠ (.slice Ao39 t498.length co39 : Value).ownBlock ∧ some k_ ≠ (v517 : Value).ownBlock) ho0 (fun k_ hk_=>⟨Or.elim hk_ (fun hs_=>fun e_=>(((HO_494002.out).1 k_ e_.symm).1.2) hs_) (fun hn_=>(Kd.fresh' (Kd.R_lt (rz HO_494002.out)) k_ hn_)),Or.elim hk_ (fun hs_=>fun e_=>(((HO_503002.out).1 k_ e_.symm).1.2) hs_) (fun hn_=>(Kd.fresh' (Kd.R_lt (rz HO_503002.out)) k_ hn_)),Or.elim hk_ (fun hs_=>fun e_=>(((HO518.out).1 k_ e_.symm).2) hs_) (fun hn_=>(Kd.fresh' (Kd.R_lt (rz HO518.out)) k_ hn_))⟩));have n8_:=Aside0.mk (hb);clear HO_494001 HO_494002 HO_503001 HO_503002 BK493 BK502 HO518 HB HO514;have HO_494001:=n0_;have HO_494002:=n1_;have HO_503001:=n2_;have HO_503002:=n3_;have BK493:=n4_;have BK502:=n5_;have HO518:=n6_;have HO521:=n7_;have HB:=n8_;clear n0_ n1_ n2_ n3_ n4_ n5_ n6_ n7_ n8_;(try clear hb);(try clear hkp);(try clear ho0);obtain ⟨Ao85,co85,eo85⟩:=Kd.R_slice HO518.out;subst eo85;obtain ⟨Ao86,co86,eo86⟩:=Kd.R_slice HO521.out;subst eo86)|(go_at_call 10;(with_reducible refine (laws_pSameInts.calls kj27 _ _ t515 _ _ t519 true _ ?side1 ?side2 ?side3 ?side4 A70.out).mono ?_);(case side1=>exact cz (Kd.R_reads' HO518.out).2.2);(case side2=>exact (Kd.R_reads' HO518.out).2.1);(case side3=>exact cz (Kd.R_reads' HO521.out).2.2);(case side4=>exact (Kd.R_reads' HO521.out).2.1);rintro e w' ⟨rfl,⟨nd,rfl⟩⟩))
                go_ret
                exact ⟨by first|rfl|(simp [errW_none,errW_some] <;> rfl)|(simp [*,errW_none,errW_some] <;> rfl),by repeat (first|(with_reducible first|exact HB.out|apply below_alloc|apply pw_below_drewN|apply below_drew1|refine below_set ?_ GE493.out|refine below_set ?_ GE502.out)|exact HB.out)⟩
              ·replace c72:=Bool.eq_false_iff.mpr c72
               subst c72
               rw [if_neg (show ¬ (false = true) by decide)] at H
               obtain rfl:=Option.some.inj H
               go_wp2_with (first|((with_reducible refine gate_callee (f:=16) rfl ?_);refine goesL_ (some 114) rfl rfl Try.func16 (by kernel_rfl) rfl #[.slice A1 l1.length c1] rfl mz ?_;(with_reducible refine (spec_DrawInsertNumber.calls kj27 _ _ l1 t511 t512 _ ?side1 ?side2 A66.out).mono ?_);(case side1=>exact cz (Kd.C_below HR1.out HB.out));(case side2=>exact HC1.out);rintro e w87 ⟨v513,rfl,ho0,hb⟩;refine ⟨_,rfl,?_⟩;have n0_:=Aside0.mk (Kd.R_below (rz HO_494001.out) hb);have n1_:=Aside0.mk (Kd.R_elder' (rz HO_494002.out) (Kd.R_base ho0) hb);have n2_:=Aside0.mk (Kd.R_below (rz HO_503001.out) hb);have n3_:=Aside0.mk (Kd.R_elder' (rz HO_503002.out) (Kd.R_base ho0) hb);have n4_:=Aside0.mk (Kd.R_lower (Kd.R_new' (Kd.R_new' ho0 (Kd.R_lt (rz HO_494002.out))) (Kd.R_lt (rz HO_503002.out))) (below_size bs));have n5_:=Aside0.mk (blk_below (g:=gb493) (o:=.cells #[.int .i64 t485,.slice Ao32 t486.length co32,.slice Ao33 t489.length co33] 32 (0,0)) (kz BK493.out) hb);have n6_:=Aside0.mk (blk_below (g:=gb502) (o:=.cells #[.int .i64 t494,.slice Ao38 t495.length co38,.slice Ao39 t498.length co39] 32 (0,0)) (kz BK502.out) hb);have n7_:=Aside0.mk (below_step bs hb);clear HO_494001 HO_494002 HO_503001 HO_503002 BK493 BK502 HB;have HO_494001:=n0_;have HO_494002:=n1_;have HO_503001:=n2_;have HO_503002:=n3_;have HO514:=n4_;have BK493:=n5_;have BK502:=n6_;have HB:=n7_;clear n0_ n1_ n2_ n3_ n4_ n5_ n6_ n7_;(try clear hb);(try clear ho0);obtain ⟨Ao88,co88,eo88⟩:=Kd.R_slice HO514.out;subst eo88)|((with_reducible refine gate_callee (f:=17) rfl ?_);refine goesL_ (some 120) rfl rfl Try.func17 (by kernel_rfl) rfl #[.slice Ao88 t511.length co88,.int .i64 t512] rfl mz ?_;(with_reducible refine (impl_InsertNumber.calls kj27 _ _ t511 t512 t515 false _ ?side1 ?side2 A67.out).mono ?_);(case side1=>exact cz (Kd.R_reads' HO514.out).2.2);(case side2=>exact (Kd.R_reads' HO514.out).2.1);rintro e w89 ⟨v517,rfl,ho0,hb⟩;refine ⟨_,rfl,?_⟩;have n0_:=Aside0.mk (Kd.R_below (rz HO_494001.out) hb);have n1_:=Aside0.mk (Kd.R_elder' (rz HO_494002.out) (Kd.R_base ho0) hb);have n2_:=Aside0.mk (Kd.R_below (rz HO_503001.out) hb);have n3_:=Aside0.mk (Kd.R_elder' (rz HO_503002.out) (Kd.R_base ho0) hb);have n4_:=Aside0.mk (Kd.R_elder' (rz HO514.out) (Kd.R_base ho0) hb);have n5_:=Aside0.mk (Kd.R_lower (Kd.R_new' (Kd.R_new' (Kd.R_new' ho0 (Kd.R_lt (rz HO_494002.out))) (Kd.R_lt (rz HO_503002.out))) (Kd.R_lt (rz HO514.out))) (below_size bs));have n6_:=Aside0.mk (blk_below (g:=gb493) (o:=.cells #[.int .i64 t485,.slice Ao32 t486.length co32,.slice Ao33 t489.length co33] 32 (0,0)) (kz BK493.out) hb);have n7_:=Aside0.mk (blk_below (g:=gb502) (o:=.cells #[.int .i64 t494,.slice Ao38 t495.length co38,.slice Ao39 t498.length co39] 32 (0,0)) (kz BK502.out) hb);have n8_:=Aside0.mk (below_step bs hb);clear HO_494001 HO_494002 HO_503001 HO_503002 HO514 BK493 BK502 HB;have HO_494001:=n0_;have HO_494002:=n1_;have HO_503001:=n2_;have HO_503002:=n3_;have HO514:=n4_;have HO518:=n5_;have BK493:=n6_;have BK502:=n7_;have HB:=n8_;clear n0_ n1_ n2_ n3_ n4_ n5_ n6_ n7_ n8_;(try clear hb);(try clear ho0))|((with_reducible refine gate_callee (f:=18) rfl ?_);refine goesL_ (some 126) rfl rfl Try.func18 (by kernel_rfl) rfl #[.slice Ao88 t511.length co88,.int .i64 t512] rfl mz ?_;(with_reducible refine (spec_InsertNumber.calls kj27 (fun k_=>some k_ = (.slice Ao88 t511.length co88 : Value).ownBlock) (.slice Ao88 t511.length co88) t511 t512 t519 t522 w _ ?side1 ?side2 A68.out).mono ?_);(case side1=>repeat (first|(with_reducible first|exact HB.out|apply below_alloc|apply pw_below_drewN|apply below_drew1|refine below_set ?_ GE493.out|refine below_set ?_ GE502.out)|exact HB.out));(case side2=>exact Kd.R_tight rfl HO514.out);rintro e w90 ⟨v520,rfl,ho0,hb,hkp⟩;refine ⟨_,rfl,?_⟩;have n0_:=Aside0.mk (Kd.R_mono (ok':=fun k_=>some k_ ≠ (.slice Ao38 t495.length co38 : Value).ownBlock) (Kd.R_keptB ((Kd.R_apart' HO_494001.out (Kd.R_typed HO514.out) (by decide))) hkp (fun k_ hk_ hs_=>(hk_.2) hs_)) (fun k_ hk_=>hk_.1.1));have n1_:=Aside0.mk (Kd.R_mono (ok':=fun k_=>some k_ ≠ (.slice Ao39 t498.length co39 : Value).ownBlock ∧ some k_ ≠ (v517 : Value).ownBlock ∧ some k_ ≠ (v520 : Value).ownBlock) (Kd.R_keptB (HO_494002.out) hkp (fun k_ hk_ hs_=>(hk_.1.2) hs_)) (fun k_ hk_=>⟨hk_.1.1.1,hk_.1.2,fun e_=>Or.elim (ho0.1 k_ e_.symm) (fun hs_=>hk_.2.1 hs_) (fun hn_=>Nat.not_le.2 hk_.2.2 hn_)⟩));have n2_:=Aside0.mk (Kd.R_mono (ok':=fun k_=>some k_ ≠ (.slice Ao32 t486.length co32 : Value).ownBlock) (Kd.R_keptB ((Kd.R_apart' HO_503001.out (Kd.R_typed HO514.out) (by decide))) hkp (fun k_ hk_ hs_=>(hk_.2) hs_)) (fun k_ hk_=>hk_.1.1));have n3_:=Aside0.mk (Kd.R_mono (ok':=fun k_=>some k_ ≠ (.slice Ao33 t489.length co33 : Value).ownBlock ∧ some k_ ≠ (v517 : Value).ownBlock ∧ some k_ ≠ (v520 : Value).ownBlock) (Kd.R_keptB (HO_503002.out) hkp (fun k_ hk_ hs_=>(hk_.1.2) hs_)) (fun k_ hk_=>⟨hk_.1.1.1,hk_.1.2,fun e_=>Or.elim (ho0.1 k_ e_.symm) (fun hs_=>hk_.2.1 hs_) (fun hn_=>Nat.not_le.2 hk_.2.2 hn_)⟩));have n4_:=Aside0.mk (blk_kept (kz BK493.out) hkp (fun hs_=>(fun e_=>(Kd.R_ne HO514.out BK493.out (by decide)) e_) hs_));have n5_:=Aside0.mk (blk_kept (kz BK502.out) hkp (fun hs_=>(fun e_=>(Kd.R_ne HO514.out BK502.out (by decide)) e_) hs_));have n6_:=Aside0.mk (Kd.R_mono (ok':=fun k_=>some k_ ≠ (.slice Ao33 t489.length co33 : Value).ownBlock ∧ some k_ ≠ (.slice Ao39 t498.length co39 : Value).ownBlock ∧ some k_ ≠ (v520 : Value).ownBlock) (Kd.R_keptB (HO518.out) hkp (fun k_ hk_ hs_=>(hk_.2) hs_)) (fun k_ hk_=>⟨hk_.1.1.1.2,hk_.1.1.2,fun e_=>Or.elim (ho0.1 k_ e_.symm) (fun hs_=>hk_.2.1 hs_) (fun hn_=>Nat.not_le.2 hk_.2.2 hn_)⟩));have n7_:=Aside0.mk (Kd.R_mono (ok':=fun k_=>some k_ ≠ (.slice Ao33 t489.length co33 : Value).ownBlock ∧ some k_ ≠ (.slice Ao39 t498.length co39 : Value).ownBlock ∧ some k_ ≠ (v517 : Value).ownBlock) ho0 (fun k_ hk_=>⟨Or.elim hk_ (fun hs_=>fun e_=>(((HO_494002.out).1 k_ e_.symm).1.2) hs_) (fun hn_=>(Kd.fresh' (Kd.R_lt (rz HO_494002.out)) k_ hn_)),Or.elim hk_ (fun hs_=>fun e_=>(((HO_503002.out).1 k_ e_.symm).1.2) hs_) (fun hn_=>(Kd.fresh' (Kd.R_lt (rz HO_503002.out)) k_ hn_)),Or.elim hk_ (fun hs_=>fun e_=>(((HO518.out).1 k_ e_.symm).2) hs_) (fun hn_=>(Kd.fresh' (Kd.R_lt (rz HO518.out)) k_ hn_))⟩));have n8_:=Aside0.mk (hb);clear HO_494001 HO_494002 HO_503001 HO_503002 BK493 BK502 HO518 HB HO514;have HO_494001:=n0_;have HO_494002:=n1_;have HO_503001:=n2_;have HO_503002:=n3_;have BK493:=n4_;have BK502:=n5_;have HO518:=n6_;have HO521:=n7_;have HB:=n8_;clear n0_ n1_ n2_ n3_ n4_ n5_ n6_ n7_ n8_;(try clear hb);(try clear hkp);(try clear ho0);obtain ⟨Ao91,co91,eo91⟩:=Kd.R_slice HO518.out;subst eo91;obtain ⟨Ao92,co92,eo92⟩:=Kd.R_slice HO521.out;subst eo92)|(go_at_call 10;(with_reducible refine (laws_pSameInts.calls kj27 _ _ t515 _ _ t519 true _ ?side1 ?side2 ?side3 ?side4 A70.out).mono ?_);(case side1=>exact cz (Kd.R_reads' HO518.out).2.2);(case side2=>exact (Kd.R_reads' HO518.out).2.1);(case side3=>exact cz (Kd.R_reads' HO521.out).2.2);(case side4=>exact (Kd.R_reads' HO521.out).2.1);rintro e w' ⟨rfl,⟨nd,rfl⟩⟩))
               go_ret
               exact ⟨by first|rfl|(simp [errW_none,errW_some] <;> rfl)|(simp [*,errW_none,errW_some] <;> rfl),by repeat (first|(with_reducible first|exact HB.out|apply below_alloc|apply pw_below_drewN|apply below_drew1|refine below_set ?_ GE493.out|refine below_set ?_ GE502.out)|exact HB.out)⟩
             ·replace c71:=Bool.eq_false_iff.mpr c71
              subst c71
              rw [if_neg (show ¬ (false = true) by decide)] at H
              obtain rfl:=Option.some.inj H
              go_wp2_with (first|((with_reducible refine gate_callee (f:=16) rfl ?_);refine goesL_ (some 114) rfl rfl Try.func16 (by kernel_rfl) rfl #[.slice A1 l1.length c1] rfl mz ?_;(with_reducible refine (spec_DrawInsertNumber.calls kj27 _ _ l1 t511 t512 _ ?side1 ?side2 A66.out).mono ?_);(case side1=>exact cz (Kd.C_below HR1.out HB.out));(case side2=>exact HC1.out);rintro e w93 ⟨v513,rfl,ho0,hb⟩;refine ⟨_,rfl,?_⟩;have n0_:=Aside0.mk (Kd.R_below (rz HO_494001.out) hb);have n1_:=Aside0.mk (Kd.R_elder' (rz HO_494002.out) (Kd.R_base ho0) hb);have n2_:=Aside0.mk (Kd.R_below (rz HO_503001.out) hb);have n3_:=Aside0.mk (Kd.R_elder' (rz HO_503002.out) (Kd.R_base ho0) hb);have n4_:=Aside0.mk (Kd.R_lower (Kd.R_new' (Kd.R_new' ho0 (Kd.R_lt (rz HO_494002.out))) (Kd.R_lt (rz HO_503002.out))) (below_size bs));have n5_:=Aside0.mk (blk_below (g:=gb493) (o:=.cells #[.int .i64 t485,.slice Ao32 t486.length co32,.slice Ao33 t489.length co33] 32 (0,0)) (kz BK493.out) hb);have n6_:=Aside0.mk (blk_below (g:=gb502) (o:=.cells #[.int .i64 t494,.slice Ao38 t495.length co38,.slice Ao39 t498.length co39] 32 (0,0)) (kz BK502.out) hb);have n7_:=Aside0.mk (below_step bs hb);clear HO_494001 HO_494002 HO_503001 HO_503002 BK493 BK502 HB;have HO_494001:=n0_;have HO_494002:=n1_;have HO_503001:=n2_;have HO_503002:=n3_;have HO514:=n4_;have BK493:=n5_;have BK502:=n6_;have HB:=n7_;clear n0_ n1_ n2_ n3_ n4_ n5_ n6_ n7_;(try clear hb);(try clear ho0);obtain ⟨Ao94,co94,eo94⟩:=Kd.R_slice HO514.out;subst eo94)|((with_reducible refine gate_callee (f:=17) rfl ?_);refine goesL_ (some 120) rfl rfl Try.func17 (by kernel_rfl) rfl #[.slice Ao94 t511.length co94,.int .i64 t512] rfl mz ?_;(with_reducible refine (impl_InsertNumber.calls kj27 _ _ t511 t512 t515 t516 _ ?side1 ?side2 A67.out).mono ?_);(case side1=>exact cz (Kd.R_reads' HO514.out).2.2);(case side2=>exact (Kd.R_reads' HO514.out).2.1);rintro e w95 ⟨v517,rfl,ho0,hb⟩;refine ⟨_,rfl,?_⟩;have n0_:=Aside0.mk (Kd.R_below (rz HO_494001.out) hb);have n1_:=Aside0.mk (Kd.R_elder' (rz HO_494002.out) (Kd.R_base ho0) hb);have n2_:=Aside0.mk (Kd.R_below (rz HO_503001.out) hb);have n3_:=Aside0.mk (Kd.R_elder' (rz HO_503002.out) (Kd.R_base ho0) hb);have n4_:=Aside0.mk (Kd.R_elder' (rz HO514.out) (Kd.R_base ho0) hb);have n5_:=Aside0.mk (Kd.R_lower (Kd.R_new' (Kd.R_new' (Kd.R_new' ho0 (Kd.R_lt (rz HO_494002.out))) (Kd.R_lt (rz HO_503002.out))) (Kd.R_lt (rz HO514.out))) (below_size bs));have n6_:=Aside0.mk (blk_below (g:=gb493) (o:=.cells #[.int .i64 t485,.slice Ao32 t486.length co32,.slice Ao33 t489.length co33] 32 (0,0)) (kz BK493.out) hb);have n7_:=Aside0.mk (blk_below (g:=gb502) (o:=.cells #[.int .i64 t494,.slice Ao38 t495.length co38,.slice Ao39 t498.length co39] 32 (0,0)) (kz BK502.out) hb);have n8_:=Aside0.mk (below_step bs hb);clear HO_494001 HO_494002 HO_503001 HO_503002 HO514 BK493 BK502 HB;have HO_494001:=n0_;have HO_494002:=n1_;have HO_503001:=n2_;have HO_503002:=n3_;have HO514:=n4_;have HO518:=n5_;have BK493:=n6_;have BK502:=n7_;have HB:=n8_;clear n0_ n1_ n2_ n3_ n4_ n5_ n6_ n7_ n8_;(try clear hb);(try clear ho0))|((with_reducible refine gate_callee (f:=18) rfl ?_);refine goesL_ (some 126) rfl rfl Try.func18 (by kernel_rfl) rfl #[.slice Ao94 t511.length co94,.int .i64 t512] rfl mz ?_;(with_reducible refine (spec_InsertNumber.calls kj27 (fun k_=>some k_ = (.slice Ao94 t511.length co94 : Value).ownBlock) (.slice Ao94 t511.length co94) t511 t512 t519 t522 w _ ?side1 ?side2 A68.out).mono ?_);(case side1=>repeat (first|(with_reducible first|exact HB.out|apply below_alloc|apply pw_below_drewN|apply below_drew1|refine below_set ?_ GE493.out|refine below_set ?_ GE502.out)|exact HB.out));(case side2=>exact Kd.R_tight rfl HO514.out);rintro e w96 ⟨v520,rfl,ho0,hb,hkp⟩;refine ⟨_,rfl,?_⟩;have n0_:=Aside0.mk (Kd.R_mono (ok':=fun k_=>some k_ ≠ (.slice Ao38 t495.length co38 : Value).ownBlock) (Kd.R_keptB ((Kd.R_apart' HO_494001.out (Kd.R_typed HO514.out) (by decide))) hkp (fun k_ hk_ hs_=>(hk_.2) hs_)) (fun k_ hk_=>hk_.1.1));have n1_:=Aside0.mk (Kd.R_mono (ok':=fun k_=>some k_ ≠ (.slice Ao39 t498.length co39 : Value).ownBlock ∧ some k_ ≠ (v517 : Value).ownBlock ∧ some k_ ≠ (v520 : Value).ownBlock) (Kd.R_keptB (HO_494002.out) hkp (fun k_ hk_ hs_=>(hk_.1.2) hs_)) (fun k_ hk_=>⟨hk_.1.1.1,hk_.1.2,fun e_=>Or.elim (ho0.1 k_ e_.symm) (fun hs_=>hk_.2.1 hs_) (fun hn_=>Nat.not_le.2 hk_.2.2 hn_)⟩));have n2_:=Aside0.mk (Kd.R_mono (ok':=fun k_=>some k_ ≠ (.slice Ao32 t486.length co32 : Value).ownBlock) (Kd.R_keptB ((Kd.R_apart' HO_503001.out (Kd.R_typed HO514.out) (by decide))) hkp (fun k_ hk_ hs_=>(hk_.2) hs_)) (fun k_ hk_=>hk_.1.1));have n3_:=Aside0.mk (Kd.R_mono (ok':=fun k_=>some k_ ≠ (.slice Ao33 t489.length co33 : Value).ownBlock ∧ some k_ ≠ (v517 : Value).ownBlock ∧ some k_ ≠ (v520 : Value).ownBlock) (Kd.R_keptB (HO_503002.out) hkp (fun k_ hk_ hs_=>(hk_.1.2) hs_)) (fun k_ hk_=>⟨hk_.1.1.1,hk_.1.2,fun e_=>Or.elim (ho0.1 k_ e_.symm) (fun hs_=>hk_.2.1 hs_) (fun hn_=>Nat.not_le.2 hk_.2.2 hn_)⟩));have n4_:=Aside0.mk (blk_kept (kz BK493.out) hkp (fun hs_=>(fun e_=>(Kd.R_ne HO514.out BK493.out (by decide)) e_) hs_));have n5_:=Aside0.mk (blk_kept (kz BK502.out) hkp (fun hs_=>(fun e_=>(Kd.R_ne HO514.out BK502.out (by decide)) e_) hs_));have n6_:=Aside0.mk (Kd.R_mono (ok':=fun k_=>some k_ ≠ (.slice Ao33 t489.length co33 : Value).ownBlock ∧ some k_ ≠ (.slice Ao39 t498.length co39 : Value).ownBlock ∧ some k_ ≠ (v520 : Value).ownBlock) (Kd.R_keptB (HO518.out) hkp (fun k_ hk_ hs_=>(hk_.2) hs_)) (fun k_ hk_=>⟨hk_.1.1.1.2,hk_.1.1.2,fun e_=>Or.elim (ho0.1 k_ e_.symm) (fun hs_=>hk_.2.1 hs_) (fun hn_=>Nat.not_le.2 hk_.2.2 hn_)⟩));have n7_:=Aside0.mk (Kd.R_mono (ok':=fun k_=>some k_ ≠ (.slice Ao33 t489.length co33 : Value).ownBlock ∧ some k_ ≠ (.slice Ao39 t498.length co39 : Value).ownBlock ∧ some k_ ≠ (v517 : Value).ownBlock) ho0 (fun k_ hk_=>⟨Or.elim hk_ (fun hs_=>fun e_=>(((HO_494002.out).1 k_ e_.symm).1.2) hs_) (fun hn_=>(Kd.fresh' (Kd.R_lt (rz HO_494002.out)) k_ hn_)),Or.elim hk_ (fun hs_=>fun e_=>(((HO_503002.out).1 k_ e_.symm).1.2) hs_) (fun hn_=>(Kd.fresh' (Kd.R_lt (rz HO_503002.out)) k_ hn_)),Or.elim hk_ (fun hs_=>fun e_=>(((HO518.out).1 k_ e_.symm).2) hs_) (fun hn_=>(Kd.fresh' (Kd.R_lt (rz HO518.out)) k_ hn_))⟩));have n8_:=Aside0.mk (hb);clear HO_494001 HO_494002 HO_503001 HO_503002 BK493 BK502 HO518 HB HO514;have HO_494001:=n0_;have HO_494002:=n1_;have HO_503001:=n2_;have HO_503002:=n3_;have BK493:=n4_;have BK502:=n5_;have HO518:=n6_;have HO521:=n7_;have HB:=n8_;clear n0_ n1_ n2_ n3_ n4_ n5_ n6_ n7_ n8_;(try clear hb);(try clear hkp);(try clear ho0);obtain ⟨Ao97,co97,eo97⟩:=Kd.R_slice HO518.out;subst eo97;obtain ⟨Ao98,co98,eo98⟩:=Kd.R_slice HO521.out;subst eo98)|(go_at_call 10;(with_reducible refine (laws_pSameInts.calls kj27 _ _ t515 _ _ t519 false _ ?side1 ?side2 ?side3 ?side4 A70.out).mono ?_);(case side1=>exact cz (Kd.R_reads' HO518.out).2.2);(case side2=>exact (Kd.R_reads' HO518.out).2.1);(case side3=>exact cz (Kd.R_reads' HO521.out).2.2);(case side4=>exact (Kd.R_reads' HO521.out).2.1);rintro e w' ⟨rfl,⟨nd,rfl⟩⟩))
              go_ret
              exact ⟨by first|rfl|(simp [errW_none,errW_some] <;> rfl)|(simp [*,errW_none,errW_some] <;> rfl),by repeat (first|(with_reducible first|exact HB.out|apply below_alloc|apply pw_below_drewN|apply below_drew1|refine below_set ?_ GE493.out|refine below_set ?_ GE502.out)|exact HB.out)⟩
            ·rw [if_neg c69] at H
             have c69b0 : (t516 == t522) = false:=by simpa using c69
             (try (have c69b1 : decide (t516 = t522) = false:=by simpa using c69))
             (try (have c69b2 : (t516 == t522) = false:=by simpa using c69))
             (try (have c69b3 : ¬ (t516 = t522):=by simpa using c69))
             clear c69
             obtain rfl:=Option.some.inj H
             go_wp2_with (first|((with_reducible refine gate_callee (f:=16) rfl ?_);refine goesL_ (some 114) rfl rfl Try.func16 (by kernel_rfl) rfl #[.slice A1 l1.length c1] rfl mz ?_;(with_reducible refine (spec_DrawInsertNumber.calls kj27 _ _ l1 t511 t512 _ ?side1 ?side2 A66.out).mono ?_);(case side1=>exact cz (Kd.C_below HR1.out HB.out));(case side2=>exact HC1.out);rintro e w99 ⟨v513,rfl,ho0,hb⟩;refine ⟨_,rfl,?_⟩;have n0_:=Aside0.mk (Kd.R_below (rz HO_494001.out) hb);have n1_:=Aside0.mk (Kd.R_elder' (rz HO_494002.out) (Kd.R_base ho0) hb);have n2_:=Aside0.mk (Kd.R_below (rz HO_503001.out) hb);have n3_:=Aside0.mk (Kd.R_elder' (rz HO_503002.out) (Kd.R_base ho0) hb);have n4_:=Aside0.mk (Kd.R_lower (Kd.R_new' (Kd.R_new' ho0 (Kd.R_lt (rz HO_494002.out))) (Kd.R_lt (rz HO_503002.out))) (below_size bs));have n5_:=Aside0.mk (blk_below (g:=gb493) (o:=.cells #[.int .i64 t485,.slice Ao32 t486.length co32,.slice Ao33 t489.length co33] 32 (0,0)) (kz BK493.out) hb);have n6_:=Aside0.mk (blk_below (g:=gb502) (o:=.cells #[.int .i64 t494,.slice Ao38 t495.length co38,.slice Ao39 t498.length co39] 32 (0,0)) (kz BK502.out) hb);have n7_:=Aside0.mk (below_step bs hb);clear HO_494001 HO_494002 HO_503001 HO_503002 BK493 BK502 HB;have HO_494001:=n0_;have HO_494002:=n1_;have HO_503001:=n2_;have HO_503002:=n3_;have HO514:=n4_;have BK493:=n5_;have BK502:=n6_;have HB:=n7_;clear n0_ n1_ n2_ n3_ n4_ n5_ n6_ n7_;(try clear hb);(try clear ho0);obtain ⟨Ao100,co100,eo100⟩:=Kd.R_slice HO514.out;subst eo100)|((with_reducible refine gate_callee (f:=17) rfl ?_);refine goesL_ (some 120) rfl rfl Try.func17 (by kernel_rfl) rfl #[.slice Ao100 t511.length co100,.int .i64 t512] rfl mz ?_;(with_reducible refine (impl_InsertNumber.calls kj27 _ _ t511 t512 t515 t516 _ ?side1 ?side2 A67.out).mono ?_);(case side1=>exact cz (Kd.R_reads' HO514.out).2.2);(case side2=>exact (Kd.R_reads' HO514.out).2.1);rintro e w101 ⟨v517,rfl,ho0,hb⟩;refine ⟨_,rfl,?_⟩;have n0_:=Aside0.mk (Kd.R_below (rz HO_494001.out) hb);have n1_:=Aside0.mk (Kd.R_elder' (rz HO_494002.out) (Kd.R_base ho0) hb);have n2_:=Aside0.mk (Kd.R_below (rz HO_503001.out) hb);have n3_:=Aside0.mk (Kd.R_elder' (rz HO_503002.out) (Kd.R_base ho0) hb);have n4_:=Aside0.mk (Kd.R_elder' (rz HO514.out) (Kd.R_base ho0) hb);have n5_:=Aside0.mk (Kd.R_lower (Kd.R_new' (Kd.R_new' (Kd.R_new' ho0 (Kd.R_lt (rz HO_494002.out))) (Kd.R_lt (rz HO_503002.out))) (Kd.R_lt (rz HO514.out))) (below_size bs));have n6_:=Aside0.mk (blk_below (g:=gb493) (o:=.cells #[.int .i64 t485,.slice Ao32 t486.length co32,.slice Ao33 t489.length co33] 32 (0,0)) (kz BK493.out) hb);have n7_:=Aside0.mk (blk_below (g:=gb502) (o:=.cells #[.int .i64 t494,.slice Ao38 t495.length co38,.slice Ao39 t498.length co39] 32 (0,0)) (kz BK502.out) hb);have n8_:=Aside0.mk (below_step bs hb);clear HO_494001 HO_494002 HO_503001 HO_503002 HO514 BK493 BK502 HB;have HO_494001:=n0_;have HO_494002:=n1_;have HO_503001:=n2_;have HO_503002:=n3_;have HO514:=n4_;have HO518:=n5_;have BK493:=n6_;have BK502:=n7_;have HB:=n8_;clear n0_ n1_ n2_ n3_ n4_ n5_ n6_ n7_ n8_;(try clear hb);(try clear ho0))|((with_reducible refine gate_callee (f:=18) rfl ?_);refine goesL_ (some 126) rfl rfl Try.func18 (by kernel_rfl) rfl #[.slice Ao100 t511.length co100,.int .i64 t512] rfl mz ?_;(with_reducible refine (spec_InsertNumber.calls kj27 (fun k_=>some k_ = (.slice Ao100 t511.length co100 : Value).ownBlock) (.slice Ao100 t511.length co100) t511 t512 t519 t522 w _ ?side1 ?side2 A68.out).mono ?_);(case side1=>repeat (first|(with_reducible first|exact HB.out|apply below_alloc|apply pw_below_drewN|apply below_drew1|refine below_set ?_ GE493.out|refine below_set ?_ GE502.out)|exact HB.out));(case side2=>exact Kd.R_tight rfl HO514.out);rintro e w102 ⟨v520,rfl,ho0,hb,hkp⟩;refine ⟨_,rfl,?_⟩;have n0_:=Aside0.mk (Kd.R_mono (ok':=fun k_=>some k_ ≠ (.slice Ao38 t495.length co38 : Value).ownBlock) (Kd.R_keptB ((Kd.R_apart' HO_494001.out (Kd.R_typed HO514.out) (by decide))) hkp (fun k_ hk_ hs_=>(hk_.2) hs_)) (fun k_ hk_=>hk_.1.1));have n1_:=Aside0.mk (Kd.R_mono (ok':=fun k_=>some k_ ≠ (.slice Ao39 t498.length co39 : Value).ownBlock ∧ some k_ ≠ (v517 : Value).ownBlock ∧ some k_ ≠ (v520 : Value).ownBlock) (Kd.R_keptB (HO_494002.out) hkp (fun k_ hk_ hs_=>(hk_.1.2) hs_)) (fun k_ hk_=>⟨hk_.1.1.1,hk_.1.2,fun e_=>Or.elim (ho0.1 k_ e_.symm) (fun hs_=>hk_.2.1 hs_) (fun hn_=>Nat.not_le.2 hk_.2.2 hn_)⟩));have n2_:=Aside0.mk (Kd.R_mono (ok':=fun k_=>some k_ ≠ (.slice Ao32 t486.length co32 : Value).ownBlock) (Kd.R_keptB ((Kd.R_apart' HO_503001.out (Kd.R_typed HO514.out) (by decide))) hkp (fun k_ hk_ hs_=>(hk_.2) hs_)) (fun k_ hk_=>hk_.1.1));have n3_:=Aside0.mk (Kd.R_mono (ok':=fun k_=>some k_ ≠ (.slice Ao33 t489.length co33 : Value).ownBlock ∧ some k_ ≠ (v517 : Value).ownBlock ∧ some k_ ≠ (v520 : Value).ownBlock) (Kd.R_keptB (HO_503002.out) hkp (fun k_ hk_ hs_=>(hk_.1.2) hs_)) (fun k_ hk_=>⟨hk_.1.1.1,hk_.1.2,fun e_=>Or.elim (ho0.1 k_ e_.symm) (fun hs_=>hk_.2.1 hs_) (fun hn_=>Nat.not_le.2 hk_.2.2 hn_)⟩));have n4_:=Aside0.mk (blk_kept (kz BK493.out) hkp (fun hs_=>(fun e_=>(Kd.R_ne HO514.out BK493.out (by decide)) e_) hs_));have n5_:=Aside0.mk (blk_kept (kz BK502.out) hkp (fun hs_=>(fun e_=>(Kd.R_ne HO514.out BK502.out (by decide)) e_) hs_));have n6_:=Aside0.mk (Kd.R_mono (ok':=fun k_=>some k_ ≠ (.slice Ao33 t489.length co33 : Value).ownBlock ∧ some k_ ≠ (.slice Ao39 t498.length co39 : Value).ownBlock ∧ some k_ ≠ (v520 : Value).ownBlock) (Kd.R_keptB (HO518.out) hkp (fun k_ hk_ hs_=>(hk_.2) hs_)) (fun k_ hk_=>⟨hk_.1.1.1.2,hk_.1.1.2,fun e_=>Or.elim (ho0.1 k_ e_.symm) (fun hs_=>hk_.2.1 hs_) (fun hn_=>Nat.not_le.2 hk_.2.2 hn_)⟩));have n7_:=Aside0.mk (Kd.R_mono (ok':=fun k_=>some k_ ≠ (.slice Ao33 t489.length co33 : Value).ownBlock ∧ some k_ ≠ (.slice Ao39 t498.length co39 : Value).ownBlock ∧ some k_ ≠ (v517 : Value).ownBlock) ho0 (fun k_ hk_=>⟨Or.elim hk_ (fun hs_=>fun e_=>(((HO_494002.out).1 k_ e_.symm).1.2) hs_) (fun hn_=>(Kd.fresh' (Kd.R_lt (rz HO_494002.out)) k_ hn_)),Or.elim hk_ (fun hs_=>fun e_=>(((HO_503002.out).1 k_ e_.symm).1.2) hs_) (fun hn_=>(Kd.fresh' (Kd.R_lt (rz HO_503002.out)) k_ hn_)),Or.elim hk_ (fun hs_=>fun e_=>(((HO518.out).1 k_ e_.symm).2) hs_) (fun hn_=>(Kd.fresh' (Kd.R_lt (rz HO518.out)) k_ hn_))⟩));have n8_:=Aside0.mk (hb);clear HO_494001 HO_494002 HO_503001 HO_503002 BK493 BK502 HO518 HB HO514;have HO_494001:=n0_;have HO_494002:=n1_;have HO_503001:=n2_;have HO_503002:=n3_;have BK493:=n4_;have BK502:=n5_;have HO518:=n6_;have HO521:=n7_;have HB:=n8_;clear n0_ n1_ n2_ n3_ n4_ n5_ n6_ n7_ n8_;(try clear hb);(try clear hkp);(try clear ho0)))
             go_ret
             exact ⟨by first|rfl|(simp [errW_none,errW_some] <;> rfl)|(simp [*,errW_none,errW_some] <;> rfl),by repeat (first|(with_reducible first|exact HB.out|apply below_alloc|apply pw_below_drewN|apply below_drew1|refine below_set ?_ GE493.out|refine below_set ?_ GE502.out)|exact HB.out)⟩
     ·replace c18:=Bool.eq_false_iff.mpr c18
      subst c18
      rw [if_neg (show ¬ (false = true) by decide)] at H
      obtain rfl:=Option.some.inj H
      go_wp2
      go_ret
      exact ⟨by first|rfl|(simp [errW_none,errW_some] <;> rfl)|(simp [*,errW_none,errW_some] <;> rfl),by repeat (first|(with_reducible first|exact HB.out|apply below_alloc|apply pw_below_drewN|apply below_drew1)|exact HB.out)⟩
/-- THE ONE PURE STATEMENT of laws_FnNeededParts: yours. -/
def laws_FnNeededParts.Pure : Prop:=∀ (l0 : List Int) (l1 : List Int),l0.length ≤ maxLen → l0.length * 1 ≤ 140737488351232 → (∀ x ∈ l0,(Lit.int .u8 x).wf = true) → l1.length ≤ maxLen → l1.length * 1 ≤ 140737488351232 → (∀ x ∈ l1,(Lit.int .u8 x).wf = true) → ∃ k,laws_FnNeededParts.f k l0 l1 = some true
theorem laws_FnNeededParts.walk (P : laws_FnNeededParts.Pure) (a0 : Option Addr) (len0 cap0 : Nat) (z0 : List Int) (a1 : Option Addr) (len1 cap1 : Nat) (z1 : List Int) (w : World) (w0 : (a0 = none ∧ len0 = 0 ∧ cap0 = 0 ∧ z0 = []) ∨ ∃ x,a0 = some x ∧ len0 ≤ cap0 ∧ cap0 ≤ maxLen ∧ z0.length = cap0 ∧ (∀ i,i < z0.length → w.cell? (x.add i) = some (.int .u8 (z0.getD i 0))) ∧ ∀ n ∈ z0,(Lit.int .u8 n).wf = true) (y0 : len0 * 1 ≤ 140737488351232) (w1 : (a1 = none ∧ len1 = 0 ∧ cap1 = 0 ∧ z1 = []) ∨ ∃ x,a1 = some x ∧ len1 ≤ cap1 ∧ cap1 ≤ maxLen ∧ z1.length = cap1 ∧ (∀ i,i < z1.length → w.cell? (x.add i) = some (.int .u8 (z1.getD i 0))) ∧ ∀ n ∈ z1,(Lit.int .u8 n).wf = true) (y1 : len1 * 1 ≤ 140737488351232) :
  Calls Try.prog 3 #[.slice a0 len0 cap0,.slice a1 len1 cap1] w fun e w'=>e = .returned (.bool true) ∧ Below w.heap.size w w':=by
 obtain ⟨l0,rfl,hr0,hm0,hw0,hc0⟩:=ReadsInt.ofRowC w0
 obtain ⟨l1,rfl,hr1,hm1,hw1,hc1⟩:=ReadsInt.ofRowC w1
 obtain ⟨k,h⟩:=P l0 l1 hm0 y0 hw0 hm1 y1 hw1
 refine (laws_FnNeededParts.calls k _ _ l0 _ _ l1 true w (Kd.C_of_reads (d:=(0 : Int)) (h1:=fun _=>rfl) hr0) hc0 (Kd.C_of_reads (d:=(0 : Int)) (h1:=fun _=>rfl) hr1) hc1 h).mono ?_
 rintro e w' ⟨rfl,hd⟩
 exact ⟨rfl,hd⟩
end Go.Proofs.Ytlefjgpkabijdaa.MFnNeededParts
--sq
