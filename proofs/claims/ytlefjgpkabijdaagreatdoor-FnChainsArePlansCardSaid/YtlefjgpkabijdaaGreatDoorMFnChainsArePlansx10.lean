import Derived.Test.YtlefjgpkabijdaaGreatDoorMFnChainsArePlansx0
import Derived.Test.YtlefjgpkabijdaaGreatDoorMFnChainsArePlansx2
import Derived.Test.YtlefjgpkabijdaaGreatDoorMFnChainsArePlansx3
import Derived.Test.YtlefjgpkabijdaaGreatDoorMFnChainsArePlansx4
import Derived.Test.YtlefjgpkabijdaaGreatDoorMFnChainsArePlansx6
import Derived.Test.YtlefjgpkabijdaaGreatDoorMFnChainsArePlansx7
import Derived.Test.YtlefjgpkabijdaaGreatDoorMFnChainsArePlansx8
import Derived.Test.YtlefjgpkabijdaaGreatDoorMFnChainsArePlansx9
namespace Go.Proofs.YtlefjgpkabijdaaGreatDoor.MFnChainsArePlans
open Go.RowKit Go.Proofs.YtlefjgpkabijdaaGreatDoorW.PrintWords Go.Proofs.YtlefjgpkabijdaaGreatDoorW.PrintLast Go.Proofs.YtlefjgpkabijdaaGreatDoorW.PrintMore Go.Proofs.YtlefjgpkabijdaaGreatDoorV Go.Proofs.YtlefjgpkabijdaaGreatDoorZ
attribute [local go_sem] max2_int min2_int max_two min_two max_three min_three max_four min_four   -- for this text's walks alone
set_option linter.unusedVariables false
set_option linter.unusedSimpArgs false
/-! ### laws_FnChainsArePlans: function 3 -/
def laws_FnChainsArePlans.l0 : Nat → List Int → List (S41) → Int → Int → Option (Bool)
 | 0,_,_,_,_=>none
 | k + 1,x5,x101,x102,x103=>if x103 < x102 then (if 0 ≤ x103 then (if x103 < (x101.length : Int) then (if 0 ≤ ((rd_T41 x101 x103).f0) then (if ((rd_T41 x101 x103).f0) < (x5.length : Int) then (if 0 ≤ ((rd_T41 x101 x103).f1) then (if ((rd_T41 x101 x103).f1) < (x5.length : Int) then (if 0 ≤ (wrap64 (x103 + 1)) then (if (wrap64 (x103 + 1)) < (x5.length : Int) then (if (wrap64 ((rd x5 ((rd_T41 x101 x103).f0)) + (rd x5 ((rd_T41 x101 x103).f1)))) = (rd x5 (wrap64 (x103 + 1))) then (laws_FnChainsArePlans.l0 k x5 x101 x102 (wrap64 (x103 + 1))) else (none)) else (none)) else (none)) else (none)) else (none)) else (none)) else (none)) else (none)) else (none)) else ((impl_ChainText.f k x5).bind fun bt430=>((impl_ParseChain.f k bt430.1).bind fun bt432=>(if bt430.2 = true then (if bt432.2 = true then ((laws_pSameInts.f k bt432.1 x5).bind fun t436=>(some t436)) else (none)) else (none))))
def laws_FnChainsArePlans.f (k : Nat) (l0 : List Int) (l1 : List Int) : Option (Bool):=(laws_big.f l0 l1).bind fun t389=>(if t389 = true then (some true) else ((spec_DrawChainPlan.f k l0).bind fun t390=>((impl_ChainPlan.f k t390).bind fun bt393=>((spec_ChainPlan.f k t390).bind fun bt402=>(if (bt393.2.2.2 != bt402.2.2.2) = true then (none) else ((laws_pSamePlan.f k bt393.1 bt393.2.1 bt393.2.2.1 bt402.1 bt402.2.1 bt402.2.2.1).bind fun t411=>(if t411 = true then ((impl_IsChain.f k t390).bind fun t412=>(if (bt393.2.2.2 != t412) = true then (none) else (if bt402.2.2.2 = true then ((impl_ChainOfPlan.f k bt393.1 bt393.2.1 bt393.2.2.1).bind fun bt413=>((impl_ChainSteps.f k t390).bind fun bt417=>(if bt413.2 = true then (if bt417.2 = true then ((laws_pSameInts.f k bt413.1 t390).bind fun t421=>(if t421 = true then ((laws_pSameSteps.f k bt417.1 bt393.2.1).bind fun t422=>(if t422 = true then (if 0 ≤ (wrap64 ((t390.length : Int) - 1)) then (if (wrap64 ((t390.length : Int) - 1)) < (t390.length : Int) then ((laws_pEnds.f k bt393.1 bt393.2.1 bt393.2.2.1 (rd t390 (wrap64 ((t390.length : Int) - 1)))).bind fun t424=>(if t424 = true then (if (bt393.2.1.length : Int) = (wrap64 ((t390.length : Int) - 1)) then (laws_FnChainsArePlans.l0 k t390 bt417.1 (bt417.1.length : Int) 0) else (none)) else (none))) else (none)) else (none)) else (none))) else (none))) else (none)) else (none)))) else (some true)))) else (none))))))))
theorem laws_FnChainsArePlans.mono_l : ∀ k,(∀ y0 y1 y2 y3,LeO (laws_FnChainsArePlans.l0 k y0 y1 y2 y3) (laws_FnChainsArePlans.l0 (k + 1) y0 y1 y2 y3))
 | 0=>fun _ _ _ _ r h=>by simp [laws_FnChainsArePlans.l0] at h
 | k + 1=>by
  have ih0:=laws_FnChainsArePlans.mono_l k
  ·intro y0 y1 y2 y3
   unfold laws_FnChainsArePlans.l0
   repeat' first
   | (with_reducible exact ih0 _ _ _ _)
   | (with_reducible exact impl_ChainOfPlan.mono _ _ _ _)
   | (with_reducible exact impl_ChainPlan.mono _ _)
   | (with_reducible exact impl_ChainSteps.mono _ _)
   | (with_reducible exact impl_ChainText.mono _ _)
   | (with_reducible exact impl_IsChain.mono _ _)
   | (with_reducible exact impl_ParseChain.mono _ _)
   | (with_reducible exact laws_pEnds.mono _ _ _ _ _)
   | (with_reducible exact laws_pSameInts.mono _ _ _)
   | (with_reducible exact laws_pSamePlan.mono _ _ _ _ _ _ _)
   | (with_reducible exact laws_pSameSteps.mono _ _ _)
   | (with_reducible exact spec_ChainPlan.mono _ _)
   | (with_reducible exact spec_DrawChainPlan.mono _ _)
   | (with_reducible exact LeO.refl _)
   | (with_reducible exact LeO.none _)
   | (with_reducible refine LeO.ite ?_ ?_)
   | (with_reducible refine LeO.bind ?_ (fun _=>?_))
   | exact ih0 _ _ _ _
   | exact impl_ChainOfPlan.mono _ _ _ _
   | exact impl_ChainPlan.mono _ _
   | exact impl_ChainSteps.mono _ _
   | exact impl_ChainText.mono _ _
   | exact impl_IsChain.mono _ _
   | exact impl_ParseChain.mono _ _
   | exact laws_pEnds.mono _ _ _ _ _
   | exact laws_pSameInts.mono _ _ _
   | exact laws_pSamePlan.mono _ _ _ _ _ _ _
   | exact laws_pSameSteps.mono _ _ _
   | exact spec_ChainPlan.mono _ _
   | exact spec_DrawChainPlan.mono _ _
   | exact LeO.none _
   | refine LeO.ite ?_ ?_
   | refine LeO.bind ?_ (fun _=>?_)
theorem laws_FnChainsArePlans.mono : ∀ a0 a1 k,LeO (laws_FnChainsArePlans.f k a0 a1) (laws_FnChainsArePlans.f (k + 1) a0 a1):=by
 intro a0 a1 k
 have ih0:=laws_FnChainsArePlans.mono_l k
 unfold laws_FnChainsArePlans.f
 repeat' first
   | (with_reducible exact ih0 _ _ _ _)
   | (with_reducible exact impl_ChainOfPlan.mono _ _ _ _)
   | (with_reducible exact impl_ChainPlan.mono _ _)
   | (with_reducible exact impl_ChainSteps.mono _ _)
   | (with_reducible exact impl_ChainText.mono _ _)
   | (with_reducible exact impl_IsChain.mono _ _)
   | (with_reducible exact impl_ParseChain.mono _ _)
   | (with_reducible exact laws_pEnds.mono _ _ _ _ _)
   | (with_reducible exact laws_pSameInts.mono _ _ _)
   | (with_reducible exact laws_pSamePlan.mono _ _ _ _ _ _ _)
   | (with_reducible exact laws_pSameSteps.mono _ _ _)
   | (with_reducible exact spec_ChainPlan.mono _ _)
   | (with_reducible exact spec_DrawChainPlan.mono _ _)
   | (with_reducible exact LeO.refl _)
   | (with_reducible exact LeO.none _)
   | (with_reducible refine LeO.ite ?_ ?_)
   | (with_reducible refine LeO.bind ?_ (fun _=>?_))
   | exact ih0 _ _ _ _
   | exact impl_ChainOfPlan.mono _ _ _ _
   | exact impl_ChainPlan.mono _ _
   | exact impl_ChainSteps.mono _ _
   | exact impl_ChainText.mono _ _
   | exact impl_IsChain.mono _ _
   | exact impl_ParseChain.mono _ _
   | exact laws_pEnds.mono _ _ _ _ _
   | exact laws_pSameInts.mono _ _ _
   | exact laws_pSamePlan.mono _ _ _ _ _ _ _
   | exact laws_pSameSteps.mono _ _ _
   | exact spec_ChainPlan.mono _ _
   | exact spec_DrawChainPlan.mono _ _
   | exact LeO.none _
   | refine LeO.ite ?_ ?_
   | refine LeO.bind ?_ (fun _=>?_)
def laws_FnChainsArePlans.T12 : Bool × List (List Nat × List Nat):=(true,[([],[]),([0],[0]),([1],[1]),([2],[2]),([3,2],[2,3]),([2,4],[2,4]),([5,2],[5]),([6],[6]),([6],[6]),([7,8,6,6],[6,7,8]),([9,6],[6,9]),([6,10],[6,10]),([11,9],[11]),([12],[12]),([12],[12]),([14,12],[12,14]),([13,15,12,12],[12,13,15]),([16,12],[12,16]),([12,17],[12,17]),([18,16],[18]),([19],[19]),([19],[19]),([19],[19]),([22,19],[19,22]),([23,19],[19,23]),([21,24,19],[19,21,24]),([25,19],[19,25]),([20,26,19,19],[19,20,26]),([27,19],[19,27]),([19,28],[19,28]),([29,27],[29]),([30],[30]),([31,30],[30,31]),([32,30],[30,32]),([30],[30]),([34,30],[30,34]),([35,30],[30,35]),([33,36,30],[30,33,36]),([30,37],[30,37])])
def laws_FnChainsArePlans.B12 : List Nat:=[0,1,3,7,15,31,63,127,127,511,1023,2047,4095,8191,8191,24575,65535,131071,262143,524287,1048575,1048575,1048575,5242879,13631487,32505855,66060287,134217727,268435455,536870911,1073741823,2147483647,4294967295,8589934591,2147483647,19327352831,53687091199,137438953471,274877906943]
theorem laws_FnChainsArePlans.tab12 : rtab .any (opsOf Tryz.f3 12) = laws_FnChainsArePlans.T12:=by kernel_rfl
theorem laws_FnChainsArePlans.bits12 : waitsOk laws_FnChainsArePlans.T12.2 laws_FnChainsArePlans.B12 = true:=by kernel_rfl
def laws_FnChainsArePlans.T17 : Bool × List (List Nat × List Nat):=(true,[([],[]),([],[]),([1],[1]),([0,2],[0,2]),([3],[3]),([],[]),([],[]),([6],[6]),([5,7],[5,7]),([8],[8]),([4,9],[4,9]),([],[]),([],[]),([12],[12]),([11,13],[11,13]),([14],[14]),([10,15],[10,15])])
def laws_FnChainsArePlans.B17 : List Nat:=[0,0,2,7,15,0,0,64,224,480,1023,0,0,4096,14336,30720,65535]
theorem laws_FnChainsArePlans.tab17 : rtab .any (opsOf Tryz.f3 17) = laws_FnChainsArePlans.T17:=by kernel_rfl
theorem laws_FnChainsArePlans.bits17 : waitsOk laws_FnChainsArePlans.T17.2 laws_FnChainsArePlans.B17 = true:=by kernel_rfl
set_option maxHeartbeats 8000000 in
set_option maxRecDepth 100000 in
theorem laws_FnChainsArePlans.calls (k : Nat) (A0 : Option Addr) (c0 : Nat) (l0 : List Int) (A1 : Option Addr) (c1 : Nat) (l1 : List Int) (r : Bool) (w : World) (hr0 : Kd.C (Kd.int .u8) w A0 l0.length l0) (hc0 : l0.length ≤ c0) (hr1 : Kd.C (Kd.int .u8) w A1 l1.length l1) (hc1 : l1.length ≤ c1) (h : laws_FnChainsArePlans.f k l0 l1 = some r) (hv : Go.Proofs.YtlefjgpkabijdaaGreatDoor.CW.LibOk w) :
  Calls Tryz.prog 3 #[.slice A0 l0.length c0,.slice A1 l1.length c1] w fun e w'=>e = .returned (.bool r) ∧ Below w.heap.size w w':=by
 have HV:=Aside0.mk hv
 clear hv
 have hu28:=Tryz.underlying28
 have hu41:=Tryz.underlying41
 have HR0:=Aside0.mk hr0
 have HC0:=Aside0.mk hc0
 clear hr0 hc0
 have HR1:=Aside0.mk hr1
 have HC1:=Aside0.mk hc1
 clear hr1 hc1
 have HB:=Aside0.mk (Below.refl w.heap.size w)
 have H : ((laws_big.f l0 l1).bind fun t389=>(if t389 = true then (some true) else ((spec_DrawChainPlan.f k l0).bind fun t390=>((impl_ChainPlan.f k t390).bind fun bt393=>((spec_ChainPlan.f k t390).bind fun bt402=>(if (bt393.2.2.2 != bt402.2.2.2) = true then (none) else ((laws_pSamePlan.f k bt393.1 bt393.2.1 bt393.2.2.1 bt402.1 bt402.2.1 bt402.2.2.1).bind fun t411=>(if t411 = true then ((impl_IsChain.f k t390).bind fun t412=>(if (bt393.2.2.2 != t412) = true then (none) else (if bt402.2.2.2 = true then ((impl_ChainOfPlan.f k bt393.1 bt393.2.1 bt393.2.2.1).bind fun bt413=>((impl_ChainSteps.f k t390).bind fun bt417=>(if bt413.2 = true then (if bt417.2 = true then ((laws_pSameInts.f k bt413.1 t390).bind fun t421=>(if t421 = true then ((laws_pSameSteps.f k bt417.1 bt393.2.1).bind fun t422=>(if t422 = true then (if 0 ≤ (wrap64 ((t390.length : Int) - 1)) then (if (wrap64 ((t390.length : Int) - 1)) < (t390.length : Int) then ((laws_pEnds.f k bt393.1 bt393.2.1 bt393.2.2.1 (rd t390 (wrap64 ((t390.length : Int) - 1)))).bind fun t424=>(if t424 = true then (if (bt393.2.1.length : Int) = (wrap64 ((t390.length : Int) - 1)) then (laws_FnChainsArePlans.l0 k t390 bt417.1 (bt417.1.length : Int) 0) else (none)) else (none))) else (none)) else (none)) else (none))) else (none))) else (none)) else (none)))) else (some true)))) else (none))))))))) = some r:=h
 clear h
 obtain ⟨t389,A3,H⟩:=bd H
 by_cases c4 : t389 = true
 ·subst c4
  rw [if_pos rfl] at H
  obtain rfl:=Option.some.inj H
  go_enter Tryz.func3,Tryz.ntmps3
  go_wp2_with (first|((with_reducible refine gate_callee (f:=4) rfl ?_);refine goesL_ (some 22) rfl rfl Tryz.func4 (by kernel_rfl) rfl #[.slice A0 l0.length c0,.slice A1 l1.length c1] rfl mz ?_;(with_reducible refine (laws_big.calls _ _ l0 _ _ l1 true _ ?side1 ?side2 ?side3 ?side4 A3.out).mono ?_);(case side1=>exact cz HR0.out);(case side2=>exact HC0.out);(case side3=>exact cz HR1.out);(case side4=>exact HC1.out);rintro e w' ⟨rfl,⟨nd,rfl⟩⟩;refine ⟨_,rfl,?_⟩))
  go_ret
  exact ⟨by first|rfl|(simp [errW_none,errW_some] <;> rfl)|(simp [*,errW_none,errW_some] <;> rfl),by repeat (first|(with_reducible first|exact HB.out|apply below_alloc|apply pw_below_drewN|apply below_drew1)|exact HB.out)⟩
 ·replace c4:=Bool.eq_false_iff.mpr c4
  subst c4
  rw [if_neg (show ¬ (false = true) by decide)] at H
  obtain ⟨t390,A5,H⟩:=bd H
  obtain ⟨⟨t393,t394,t397,t400⟩,A6,H⟩:=bd H
  try dsimp only at H
  obtain ⟨⟨t402,t403,t406,t409⟩,A7,H⟩:=bd H
  try dsimp only at H
  by_cases c8 : (t400 != t409) = true
  ·rw [if_pos c8] at H
   exact absurd H (by simp)
  ·rw [if_neg c8] at H
   have c8b0 : (t400 != t409) = false:=by simpa using c8
   (try (have c8b1 : decide (t400 = t409) = true:=by simpa using c8))
   (try (have c8b2 : (t400 == t409) = true:=by simpa using c8))
   clear c8
   obtain ⟨t411,A9,H⟩:=bd H
   by_cases c10 : t411 = true
   ·subst c10
    rw [if_pos rfl] at H
    obtain ⟨t412,A11,H⟩:=bd H
    by_cases c12 : (t400 != t412) = true
    ·rw [if_pos c12] at H
     exact absurd H (by simp)
    ·rw [if_neg c12] at H
     have c12b0 : (t400 != t412) = false:=by simpa using c12
     (try (have c12b1 : decide (t400 = t412) = true:=by simpa using c12))
     (try (have c12b2 : (t400 == t412) = true:=by simpa using c12))
     clear c12
     by_cases c13 : t409 = true
     ·subst c13
      rw [if_pos rfl] at H
      obtain ⟨⟨t413,t416⟩,A14,H⟩:=bd H
      try dsimp only at H
      obtain ⟨⟨t417,t418⟩,A15,H⟩:=bd H
      try dsimp only at H
      by_cases c16 : t416 = true
      ·subst c16
       rw [if_pos rfl] at H
       by_cases c17 : t418 = true
       ·subst c17
        rw [if_pos rfl] at H
        obtain ⟨t421,A18,H⟩:=bd H
        by_cases c19 : t421 = true
        ·subst c19
         rw [if_pos rfl] at H
         obtain ⟨t422,A20,H⟩:=bd H
         by_cases c21 : t422 = true
         ·subst c21
          rw [if_pos rfl] at H
          obtain ⟨ji22,hji22⟩ : ∃ j_ : Int,(wrap64 ((t390.length : Int) - 1)) = j_:=⟨_,rfl⟩
          replace H : (if 0 ≤ (ji22) then (if (ji22) < (t390.length : Int) then ((laws_pEnds.f k t393 t394 t397 (rd t390 (ji22))).bind fun t424=>(if t424 = true then (if (t394.length : Int) = (ji22) then (laws_FnChainsArePlans.l0 k t390 t417 (t417.length : Int) 0) else (none)) else (none))) else (none)) else (none)) = some r:=by first|(rw [hji22] at H;exact H)|(simp only [hji22] at H ⊢;exact H)
          (try rw [hji22] at A3)
          (try rw [hji22] at A5)
          (try rw [hji22] at A6)
          (try rw [hji22] at A7)
          (try rw [hji22] at A9)
          (try rw [hji22] at A11)
          (try rw [hji22] at A14)
          (try rw [hji22] at A15)
          (try rw [hji22] at A18)
          (try rw [hji22] at A20)
          have hji22w : (IntKind.i64.wrap ((t390.length : Int) - 1)) = ji22:=(i64_w _).trans hji22
          by_cases c23 : 0 ≤ (ji22)
          ·rw [if_pos c23] at H
           have c23b0 : decide (0 ≤ (ji22)) = true:=decide_eq_true c23
           clear c23
           by_cases c24 : (ji22) < (t390.length : Int)
           ·rw [if_pos c24] at H
            have c24b0 : decide ((ji22) < (t390.length : Int)) = true:=decide_eq_true c24
            clear c24
            obtain ⟨t424,A25,H⟩:=bd H
            by_cases c26 : t424 = true
            ·subst c26
             rw [if_pos rfl] at H
             by_cases c27 : (t394.length : Int) = (ji22)
             ·rw [if_pos c27] at H
              have c27b0 : ((t394.length : Int) == (ji22)) = true:=beq_iff_eq.mpr c27
              have c27b1 : ((t394.length : Int) != (ji22)) = false:=bne_eq_false_iff_eq.mpr c27
              clear c27
              have H':=Aside0.mk H
              clear H
              go_enter Tryz.func3,Tryz.ntmps3
              try go_wp2_with (first|((with_reducible refine gate_callee (f:=4) rfl ?_);refine goesL_ (some 22) rfl rfl Tryz.func4 (by kernel_rfl) rfl #[.slice A0 l0.length c0,.slice A1 l1.length c1] rfl mz ?_;(with_reducible refine (laws_big.calls _ _ l0 _ _ l1 false _ ?side1 ?side2 ?side3 ?side4 A3.out).mono ?_);(case side1=>exact cz HR0.out);(case side2=>exact HC0.out);(case side3=>exact cz HR1.out);(case side4=>exact HC1.out);rintro e w' ⟨rfl,⟨nd,rfl⟩⟩;refine ⟨_,rfl,?_⟩)|((with_reducible refine gate_callee (f:=5) rfl ?_);refine goesL_ (some 24) rfl rfl Tryz.func5 (by kernel_rfl) rfl #[.slice A0 l0.length c0] rfl mz ?_;(with_reducible refine (spec_DrawChainPlan.calls k _ _ l0 t390 _ ?side1 ?side2 A5.out).mono ?_);(case side1=>exact cz HR0.out);(case side2=>exact HC0.out);rintro e w28 ⟨v391,rfl,ho0,hb⟩;refine ⟨_,rfl,?_⟩;have n0_:=Aside0.mk (Kd.R_lower ho0 (below_size bz));have n1_:=Aside0.mk (below_step bz hb);clear HB;have HO392:=n0_;have HB:=n1_;clear n0_ n1_;(try clear hb);(try clear ho0);obtain ⟨Ao29,co29,eo29⟩:=Kd.R_slice HO392.out;subst eo29)|((with_reducible refine gate_callee (f:=6) rfl ?_);refine goesL_ (some 27) rfl rfl Tryz.func6 (by kernel_rfl) rfl #[.slice Ao29 t390.length co29] rfl mz ?_;(with_reducible refine (impl_ChainPlan.calls k _ _ t390 t393 t394 t397 t400 _ ?side1 ?side2 A6.out).mono ?_);(case side1=>exact cz (Kd.R_reads' HO392.out).2.2);(case side2=>exact (Kd.R_reads' HO392.out).2.1);rintro e w30 ⟨v395,v398,rfl,ho0,ho1,hb⟩;refine ⟨_,rfl,?_⟩;have n0_:=Aside0.mk (Kd.R_elder' (rz HO392.out) (Kd.R_base ho1) hb);have n1_:=Aside0.mk (Kd.R_lower ho0 (below_size bz));have n2_:=Aside0.mk (Kd.R_lower (Kd.R_new' ho1 (Kd.R_lt (rz HO392.out))) (below_size bz));have n3_:=Aside0.mk (below_step bz hb);clear HO392 HB;have HO392:=n0_;have HO396:=n1_;have HO399:=n2_;have HB:=n3_;clear n0_ n1_ n2_ n3_;(try clear hb);(try clear ho0);(try clear ho1))|((with_reducible refine gate_dst (N:=6) rfl ?_);(try (refine gate_guard (by rfl) ?_;dsimp only));refine box_event ?hg (N:=6) ?hd (cs:=#[.int .i64 0,.slice none 0 0,.slice none 0 0]) (t:=28) ?hr ?_;(case hd=>rfl);(case hg=>rfl);(case hr=>first|(go_simp;done)|(go_simp;rfl));intro gb401 hg w31 hbox hb;have n0_:=Aside0.mk (Kd.R_below (rz HO392.out) hb);have n1_:=Aside0.mk (Kd.R_below (rz HO396.out) hb);have n2_:=Aside0.mk (Kd.R_below (rz HO399.out) hb);have n3_:=Aside0.mk (below_step bz hb);have n4_:=Aside0.mk (hbox);have n5_:=Aside0.mk ((by rw [hg];exact (below_size bz) : w.heap.size ≤ gb401));have n6_:=Aside0.mk ((by rw [hg];exact (below_size bz) : w.heap.size ≤ gb401));clear HO392 HO396 HO399 HB;have HO392:=n0_;have HO396:=n1_;have HO399:=n2_;have HB:=n3_;have BK401:=n4_;have GW401:=n5_;have GE401:=n6_;clear n0_ n1_ n2_ n3_ n4_ n5_ n6_;clear hb hbox hg;have hcz32_0 : w31.cell? ⟨gb401,0,none⟩ = some (.int .i64 0):=(blk_cell BK401.out 0).trans rfl;have hcz32_1 : w31.cell? ⟨gb401,1,none⟩ = some (.slice none 0 0):=(blk_cell BK401.out 1).trans rfl;have hcz32_2 : w31.cell? ⟨gb401,2,none⟩ = some (.slice none 0 0):=(blk_cell BK401.out 2).trans rfl;have hfz32_0:=blk_frozen BK401.out 0;have hfz32_1:=blk_frozen BK401.out 1;have hfz32_2:=blk_frozen BK401.out 2;obtain ⟨Ao33,co33,eo33⟩:=Kd.R_slice HO396.out;subst eo33;obtain ⟨Ao34,co34,eo34⟩:=Kd.R_slice HO399.out;subst eo34)|((with_reducible refine gate_callee (f:=7) rfl ?_);refine goesL_ (some 32) rfl rfl Tryz.func7 (by kernel_rfl) rfl #[.slice Ao29 t390.length co29] rfl mz ?_;(with_reducible refine (spec_ChainPlan.calls k _ _ t390 t402 t403 t406 true _ ?side1 ?side2 A7.out).mono ?_);(case side1=>refine (Kd.R_reads' (e:=3) (base:=w.heap.size) (ok:=fun k_=>(True ∧ some k_ ≠ (.slice Ao34 t397.length co34 : Value).ownBlock)) (n:=t390.length) (c:=co29) ?_).2.2;exact (by (with_reducible repeat (first|apply Kd.R_alloc|apply Kd.R_drewN|apply Kd.R_drew));exact (Kd.R_mono (Kd.R_far (p:=⟨gb401,2,none⟩) (Kd.R_far (p:=⟨gb401,1,none⟩) (Kd.R_far (p:=⟨gb401,0,none⟩) (Kd.R_types HO392.out BK401.out (by decide)) (fun _ hk=>hk.2) (.int .i64 t393)) (fun _ hk=>hk.2) (.slice Ao33 t394.length co33)) (fun _ hk=>hk.2) (.slice Ao34 t397.length co34)) (fun _ h_=>h_.1))));(case side2=>exact (Kd.R_reads' HO392.out).2.1);rintro e w35 ⟨v404,v407,rfl,ho0,ho1,hb⟩;refine ⟨_,rfl,?_⟩;have n0_:=Aside0.mk (Kd.R_elder' (by (with_reducible repeat (first|apply Kd.R_alloc|apply Kd.R_drewN|apply Kd.R_drew));exact (Kd.R_mono (Kd.R_far (p:=⟨gb401,2,none⟩) (Kd.R_far (p:=⟨gb401,1,none⟩) (Kd.R_far (p:=⟨gb401,0,none⟩) (Kd.R_types HO392.out BK401.out (by decide)) (fun _ hk=>hk.2) (.int .i64 t393)) (fun _ hk=>hk.2) (.slice Ao33 t394.length co33)) (fun _ hk=>hk.2) (.slice Ao34 t397.length co34)) (fun _ h_=>h_.1))) (Kd.R_base ho1) hb);have n1_:=Aside0.mk (Kd.R_elder' (by (with_reducible repeat (first|apply Kd.R_alloc|apply Kd.R_drewN|apply Kd.R_drew));exact (Kd.R_mono (Kd.R_far (p:=⟨gb401,2,none⟩) (Kd.R_far (p:=⟨gb401,1,none⟩) (Kd.R_far (p:=⟨gb401,0,none⟩) (Kd.R_types HO396.out BK401.out (by decide)) (fun _ hk=>hk.2) (.int .i64 t393)) (fun _ hk=>hk.2) (.slice Ao33 t394.length co33)) (fun _ hk=>hk.2) (.slice Ao34 t397.length co34)) (fun _ h_=>h_.1))) (Kd.R_base ho0) hb);have n2_:=Aside0.mk (Kd.R_elder' (by (with_reducible repeat (first|apply Kd.R_alloc|apply Kd.R_drewN|apply Kd.R_drew));exact (Kd.R_mono (Kd.R_far (p:=⟨gb401,2,none⟩) (Kd.R_far (p:=⟨gb401,1,none⟩) (Kd.R_far (p:=⟨gb401,0,none⟩) (Kd.R_types HO399.out BK401.out (by decide)) (fun _ hk=>hk.2) (.int .i64 t393)) (fun _ hk=>hk.2) (.slice Ao33 t394.length co33)) (fun _ hk=>hk.2) (.slice Ao34 t397.length co34)) (fun _ h_=>h_.1))) (Kd.R_base ho1) hb);have n3_:=Aside0.mk (Kd.R_lower (Kd.R_new' ho0 (Kd.R_lt (by (with_reducible repeat (first|apply Kd.R_alloc|apply Kd.R_drewN|apply Kd.R_drew));exact (Kd.R_mono (Kd.R_far (p:=⟨gb401,2,none⟩) (Kd.R_far (p:=⟨gb401,1,none⟩) (Kd.R_far (p:=⟨gb401,0,none⟩) (Kd.R_types HO396.out BK401.out (by decide)) (fun _ hk=>hk.2) (.int .i64 t393)) (fun _ hk=>hk.2) (.slice Ao33 t394.length co33)) (fun _ hk=>hk.2) (.slice Ao34 t397.length co34)) (fun _ h_=>h_.1))))) (below_size bs));have n4_:=Aside0.mk (Kd.R_lower (Kd.R_new' (Kd.R_new' ho1 (Kd.R_lt (by (with_reducible repeat (first|apply Kd.R_alloc|apply Kd.R_drewN|apply Kd.R_drew));exact (Kd.R_mono (Kd.R_far (p:=⟨gb401,2,none⟩) (Kd.R_far (p:=⟨gb401,1,none⟩) (Kd.R_far (p:=⟨gb401,0,none⟩) (Kd.R_types HO392.out BK401.out (by decide)) (fun _ hk=>hk.2) (.int .i64 t393)) (fun _ hk=>hk.2) (.slice Ao33 t394.length co33)) (fun _ hk=>hk.2) (.slice Ao34 t397.length co34)) (fun _ h_=>h_.1))))) (Kd.R_lt (by (with_reducible repeat (first|apply Kd.R_alloc|apply Kd.R_drewN|apply Kd.R_drew));exact (Kd.R_mono (Kd.R_far (p:=⟨gb401,2,none⟩) (Kd.R_far (p:=⟨gb401,1,none⟩) (Kd.R_far (p:=⟨gb401,0,none⟩) (Kd.R_types HO399.out BK401.out (by decide)) (fun _ hk=>hk.2) (.int .i64 t393)) (fun _ hk=>hk.2) (.slice Ao33 t394.length co33)) (fun _ hk=>hk.2) (.slice Ao34 t397.length co34)) (fun _ h_=>h_.1))))) (below_size bs));have n5_:=Aside0.mk (blk_below (g:=gb401) (o:=.cells #[.int .i64 t393,.slice Ao33 t394.length co33,.slice Ao34 t397.length co34] 28 (0,0)) (by (with_reducible repeat (first|refine blk_drewN ?_ _|refine blk_drew ?_|refine blk_alloc ?_ _));refine blk_put (cs:=#[.int .i64 t393,.slice Ao33 t394.length co33,.slice none 0 0]) ?_ 2 _ rfl;(with_reducible repeat (first|refine blk_drewN ?_ _|refine blk_drew ?_|refine blk_alloc ?_ _));refine blk_put (cs:=#[.int .i64 t393,.slice none 0 0,.slice none 0 0]) ?_ 1 _ rfl;(with_reducible repeat (first|refine blk_drewN ?_ _|refine blk_drew ?_|refine blk_alloc ?_ _));refine blk_put (cs:=#[.int .i64 0,.slice none 0 0,.slice none 0 0]) ?_ 0 _ rfl;(with_reducible repeat (first|refine blk_drewN ?_ _|refine blk_drew ?_|refine blk_alloc ?_ _));exact BK401.out) hb);have n6_:=Aside0.mk (below_step bs hb);clear HO392 HO396 HO399 BK401 HB;have HO392:=n0_;have HO396:=n1_;have HO399:=n2_;have HO405:=n3_;have HO408:=n4_;have BK401:=n5_;have HB:=n6_;clear n0_ n1_ n2_ n3_ n4_ n5_ n6_;(try clear hb);(try clear ho0);(try clear ho1))|((with_reducible refine gate_dst (N:=8) rfl ?_);(try (refine gate_guard (by rfl) ?_;dsimp only));refine box_event ?hg (N:=8) ?hd (cs:=#[.int .i64 0,.slice none 0 0,.slice none 0 0]) (t:=28) ?hr ?_;(case hd=>rfl);(case hg=>rfl);(case hr=>first|(go_simp;done)|(go_simp;rfl));intro gb410 hg w36 hbox hb;have n0_:=Aside0.mk (Kd.R_below (rz HO392.out) hb);have n1_:=Aside0.mk (Kd.R_below (rz HO396.out) hb);have n2_:=Aside0.mk (Kd.R_below (rz HO399.out) hb);have n3_:=Aside0.mk (Kd.R_below (rz HO405.out) hb);have n4_:=Aside0.mk (Kd.R_below (rz HO408.out) hb);have n5_:=Aside0.mk (kb BK401.out hb);have n6_:=Aside0.mk (below_step bs hb);have n7_:=Aside0.mk (hbox);have n8_:=Aside0.mk ((by rw [hg];exact (below_size bs) : w.heap.size ≤ gb410));have n9_:=Aside0.mk ((by rw [hg];exact (below_size bs) : w.heap.size ≤ gb410));have n10_:=Aside0.mk (kn hg BK401.out);have n11_:=Aside0.mk (km hg BK401.out);clear HO392 HO396 HO399 HO405 HO408 BK401 HB;have HO392:=n0_;have HO396:=n1_;have HO399:=n2_;have HO405:=n3_;have HO408:=n4_;have BK401:=n5_;have HB:=n6_;have BK410:=n7_;have GW410:=n8_;have GE410:=n9_;have NB401_410:=n10_;have NB410_401:=n11_;clear n0_ n1_ n2_ n3_ n4_ n5_ n6_ n7_ n8_ n9_ n10_ n11_;clear hb hbox hg;have hnb37:=NB410_401.out;have hnc37:=NB401_410.out;have hcz38_0 : w36.cell? ⟨gb410,0,none⟩ = some (.int .i64 0):=(blk_cell BK410.out 0).trans rfl;have hcz38_1 : w36.cell? ⟨gb410,1,none⟩ = some (.slice none 0 0):=(blk_cell BK410.out 1).trans rfl;have hcz38_2 : w36.cell? ⟨gb410,2,none⟩ = some (.slice none 0 0):=(blk_cell BK410.out 2).trans rfl;have hfz38_0:=blk_frozen BK410.out 0;have hfz38_1:=blk_frozen BK410.out 1;have hfz38_2:=blk_frozen BK410.out 2;obtain ⟨Ao39,co39,eo39⟩:=Kd.R_slice HO405.out;subst eo39;obtain ⟨Ao40,co40,eo40⟩:=Kd.R_slice HO408.out;subst eo40;have hcz41_0 : w36.cell? ⟨gb401,0,none⟩ = some (.int .i64 t393):=(blk_cell BK401.out 0).trans rfl;have hcz41_1 : w36.cell? ⟨gb401,1,none⟩ = some (.slice Ao33 t394.length co33):=(blk_cell BK401.out 1).trans rfl;have hcz41_2 : w36.cell? ⟨gb401,2,none⟩ = some (.slice Ao34 t397.length co34):=(blk_cell BK401.out 2).trans rfl;have hfz41_0:=blk_frozen BK401.out 0;have hfz41_1:=blk_frozen BK401.out 1;have hfz41_2:=blk_frozen BK401.out 2)|(go_at_call 8;(with_reducible refine (laws_pSamePlan.calls k t393 _ _ t394 _ _ t397 t402 _ _ t403 _ _ t406 true _ ?side1 ?side2 ?side3 ?side4 ?side5 ?side6 ?side7 ?side8 A9.out).mono ?_);(case side1=>refine (Kd.R_reads' (e:=41) (base:=w.heap.size) (ok:=fun k_=>(True ∧ some k_ ≠ (.slice Ao39 t403.length co39 : Value).ownBlock)) (n:=t394.length) (c:=co33) ?_).2.2;exact (by (with_reducible repeat (first|apply Kd.R_alloc|apply Kd.R_drewN|apply Kd.R_drew));exact (Kd.R_mono (Kd.R_far (p:=⟨gb410,2,none⟩) (Kd.R_far (p:=⟨gb410,1,none⟩) (Kd.R_far (p:=⟨gb410,0,none⟩) (Kd.R_types HO396.out BK410.out (by decide)) (fun _ hk=>hk.2) (.int .i64 t402)) (fun _ hk=>hk.2) (.slice Ao39 t403.length co39)) (fun _ hk=>hk.2) (.slice Ao40 t406.length co40)) (fun _ h_=>h_.1))));(case side2=>exact (Kd.R_reads' HO396.out).2.1);(case side3=>refine (Kd.R_reads' (e:=3) (base:=w.heap.size) (ok:=fun k_=>((True ∧ some k_ ≠ (.slice Ao29 t390.length co29 : Value).ownBlock) ∧ some k_ ≠ (.slice Ao40 t406.length co40 : Value).ownBlock)) (n:=t397.length) (c:=co34) ?_).2.2;exact (by (with_reducible repeat (first|apply Kd.R_alloc|apply Kd.R_drewN|apply Kd.R_drew));exact (Kd.R_mono (Kd.R_far (p:=⟨gb410,2,none⟩) (Kd.R_far (p:=⟨gb410,1,none⟩) (Kd.R_far (p:=⟨gb410,0,none⟩) (Kd.R_types HO399.out BK410.out (by decide)) (fun _ hk=>hk.2) (.int .i64 t402)) (fun _ hk=>hk.2) (.slice Ao39 t403.length co39)) (fun _ hk=>hk.2) (.slice Ao40 t406.length co40)) (fun _ h_=>h_.1))));(case side4=>exact (Kd.R_reads' HO399.out).2.1);(case side5=>refine (Kd.R_reads' (e:=41) (base:=w.heap.size) (ok:=fun k_=>(True ∧ some k_ ≠ (.slice Ao33 t394.length co33 : Value).ownBlock)) (n:=t403.length) (c:=co39) ?_).2.2;exact (by (with_reducible repeat (first|apply Kd.R_alloc|apply Kd.R_drewN|apply Kd.R_drew));exact (Kd.R_mono (Kd.R_far (p:=⟨gb410,2,none⟩) (Kd.R_far (p:=⟨gb410,1,none⟩) (Kd.R_far (p:=⟨gb410,0,none⟩) (Kd.R_types HO405.out BK410.out (by decide)) (fun _ hk=>hk.2) (.int .i64 t402)) (fun _ hk=>hk.2) (.slice Ao39 t403.length co39)) (fun _ hk=>hk.2) (.slice Ao40 t406.length co40)) (fun _ h_=>h_.1))));(case side6=>exact (Kd.R_reads' HO405.out).2.1);(case side7=>refine (Kd.R_reads' (e:=3) (base:=w.heap.size) (ok:=fun k_=>((True ∧ some k_ ≠ (.slice Ao29 t390.length co29 : Value).ownBlock) ∧ some k_ ≠ (.slice Ao34 t397.length co34 : Value).ownBlock)) (n:=t406.length) (c:=co40) ?_).2.2;exact (by (with_reducible repeat (first|apply Kd.R_alloc|apply Kd.R_drewN|apply Kd.R_drew));exact (Kd.R_mono (Kd.R_far (p:=⟨gb410,2,none⟩) (Kd.R_far (p:=⟨gb410,1,none⟩) (Kd.R_far (p:=⟨gb410,0,none⟩) (Kd.R_types HO408.out BK410.out (by decide)) (fun _ hk=>hk.2) (.int .i64 t402)) (fun _ hk=>hk.2) (.slice Ao39 t403.length co39)) (fun _ hk=>hk.2) (.slice Ao40 t406.length co40)) (fun _ h_=>h_.1))));(case side8=>exact (Kd.R_reads' HO408.out).2.1);rintro e w42 ⟨rfl,hb⟩;have n0_:=Aside0.mk (Kd.R_below (by (with_reducible repeat (first|apply Kd.R_alloc|apply Kd.R_drewN|apply Kd.R_drew));exact (Kd.R_mono (Kd.R_far (p:=⟨gb410,2,none⟩) (Kd.R_far (p:=⟨gb410,1,none⟩) (Kd.R_far (p:=⟨gb410,0,none⟩) (Kd.R_types HO392.out BK410.out (by decide)) (fun _ hk=>hk.2) (.int .i64 t402)) (fun _ hk=>hk.2) (.slice Ao39 t403.length co39)) (fun _ hk=>hk.2) (.slice Ao40 t406.length co40)) (fun _ h_=>h_.1))) hb);have n1_:=Aside0.mk (Kd.R_below (by (with_reducible repeat (first|apply Kd.R_alloc|apply Kd.R_drewN|apply Kd.R_drew));exact (Kd.R_mono (Kd.R_far (p:=⟨gb410,2,none⟩) (Kd.R_far (p:=⟨gb410,1,none⟩) (Kd.R_far (p:=⟨gb410,0,none⟩) (Kd.R_types HO396.out BK410.out (by decide)) (fun _ hk=>hk.2) (.int .i64 t402)) (fun _ hk=>hk.2) (.slice Ao39 t403.length co39)) (fun _ hk=>hk.2) (.slice Ao40 t406.length co40)) (fun _ h_=>h_.1))) hb);have n2_:=Aside0.mk (Kd.R_below (by (with_reducible repeat (first|apply Kd.R_alloc|apply Kd.R_drewN|apply Kd.R_drew));exact (Kd.R_mono (Kd.R_far (p:=⟨gb410,2,none⟩) (Kd.R_far (p:=⟨gb410,1,none⟩) (Kd.R_far (p:=⟨gb410,0,none⟩) (Kd.R_types HO399.out BK410.out (by decide)) (fun _ hk=>hk.2) (.int .i64 t402)) (fun _ hk=>hk.2) (.slice Ao39 t403.length co39)) (fun _ hk=>hk.2) (.slice Ao40 t406.length co40)) (fun _ h_=>h_.1))) hb);have n3_:=Aside0.mk (Kd.R_below (by (with_reducible repeat (first|apply Kd.R_alloc|apply Kd.R_drewN|apply Kd.R_drew));exact (Kd.R_mono (Kd.R_far (p:=⟨gb410,2,none⟩) (Kd.R_far (p:=⟨gb410,1,none⟩) (Kd.R_far (p:=⟨gb410,0,none⟩) (Kd.R_types HO405.out BK410.out (by decide)) (fun _ hk=>hk.2) (.int .i64 t402)) (fun _ hk=>hk.2) (.slice Ao39 t403.length co39)) (fun _ hk=>hk.2) (.slice Ao40 t406.length co40)) (fun _ h_=>h_.1))) hb);have n4_:=Aside0.mk (Kd.R_below (by (with_reducible repeat (first|apply Kd.R_alloc|apply Kd.R_drewN|apply Kd.R_drew));exact (Kd.R_mono (Kd.R_far (p:=⟨gb410,2,none⟩) (Kd.R_far (p:=⟨gb410,1,none⟩) (Kd.R_far (p:=⟨gb410,0,none⟩) (Kd.R_types HO408.out BK410.out (by decide)) (fun _ hk=>hk.2) (.int .i64 t402)) (fun _ hk=>hk.2) (.slice Ao39 t403.length co39)) (fun _ hk=>hk.2) (.slice Ao40 t406.length co40)) (fun _ h_=>h_.1))) hb);have n5_:=Aside0.mk (blk_below (g:=gb401) (o:=.cells #[.int .i64 t393,.slice Ao33 t394.length co33,.slice Ao34 t397.length co34] 28 (0,0)) (by (with_reducible repeat (first|refine blk_drewN ?_ _|refine blk_drew ?_|refine blk_alloc ?_ _));refine blk_far ?_ NB401_410.out _;(with_reducible repeat (first|refine blk_drewN ?_ _|refine blk_drew ?_|refine blk_alloc ?_ _));refine blk_far ?_ NB401_410.out _;(with_reducible repeat (first|refine blk_drewN ?_ _|refine blk_drew ?_|refine blk_alloc ?_ _));refine blk_far ?_ NB401_410.out _;(with_reducible repeat (first|refine blk_drewN ?_ _|refine blk_drew ?_|refine blk_alloc ?_ _));exact BK401.out) hb);have n6_:=Aside0.mk (blk_below (g:=gb410) (o:=.cells #[.int .i64 t402,.slice Ao39 t403.length co39,.slice Ao40 t406.length co40] 28 (0,0)) (by (with_reducible repeat (first|refine blk_drewN ?_ _|refine blk_drew ?_|refine blk_alloc ?_ _));refine blk_put (cs:=#[.int .i64 t402,.slice Ao39 t403.length co39,.slice none 0 0]) ?_ 2 _ rfl;(with_reducible repeat (first|refine blk_drewN ?_ _|refine blk_drew ?_|refine blk_alloc ?_ _));refine blk_put (cs:=#[.int .i64 t402,.slice none 0 0,.slice none 0 0]) ?_ 1 _ rfl;(with_reducible repeat (first|refine blk_drewN ?_ _|refine blk_drew ?_|refine blk_alloc ?_ _));refine blk_put (cs:=#[.int .i64 0,.slice none 0 0,.slice none 0 0]) ?_ 0 _ rfl;(with_reducible repeat (first|refine blk_drewN ?_ _|refine blk_drew ?_|refine blk_alloc ?_ _));exact BK410.out) hb);have n7_:=Aside0.mk (below_step bs hb);clear HO392 HO396 HO399 HO405 HO408 BK401 BK410 HB;have HO392:=n0_;have HO396:=n1_;have HO399:=n2_;have HO405:=n3_;have HO408:=n4_;have BK401:=n5_;have BK410:=n6_;have HB:=n7_;clear n0_ n1_ n2_ n3_ n4_ n5_ n6_ n7_;(try clear hb))|(go_at_call 9;(with_reducible refine (impl_IsChain.calls k _ _ t390 t412 _ ?side1 ?side2 A11.out).mono ?_);(case side1=>exact cz (Kd.R_reads' HO392.out).2.2);(case side2=>exact (Kd.R_reads' HO392.out).2.1);rintro e w43 ⟨rfl,hb⟩;have n0_:=Aside0.mk (Kd.R_below (rz HO392.out) hb);have n1_:=Aside0.mk (Kd.R_below (rz HO396.out) hb);have n2_:=Aside0.mk (Kd.R_below (rz HO399.out) hb);have n3_:=Aside0.mk (Kd.R_below (rz HO405.out) hb);have n4_:=Aside0.mk (Kd.R_below (rz HO408.out) hb);have n5_:=Aside0.mk (kb BK401.out hb);have n6_:=Aside0.mk (kb BK410.out hb);have n7_:=Aside0.mk (below_step bs hb);clear HO392 HO396 HO399 HO405 HO408 BK401 BK410 HB;have HO392:=n0_;have HO396:=n1_;have HO399:=n2_;have HO405:=n3_;have HO408:=n4_;have BK401:=n5_;have BK410:=n6_;have HB:=n7_;clear n0_ n1_ n2_ n3_ n4_ n5_ n6_ n7_;(try clear hb);have hcz44_0 : w43.cell? ⟨gb401,0,none⟩ = some (.int .i64 t393):=(blk_cell BK401.out 0).trans rfl;have hcz44_1 : w43.cell? ⟨gb401,1,none⟩ = some (.slice Ao33 t394.length co33):=(blk_cell BK401.out 1).trans rfl;have hcz44_2 : w43.cell? ⟨gb401,2,none⟩ = some (.slice Ao34 t397.length co34):=(blk_cell BK401.out 2).trans rfl;have hfz44_0:=blk_frozen BK401.out 0;have hfz44_1:=blk_frozen BK401.out 1;have hfz44_2:=blk_frozen BK401.out 2)|((with_reducible refine gate_callee (f:=10) rfl ?_);refine goesL_ (some 54) rfl rfl Tryz.func10 (by kernel_rfl) rfl #[.agg #[.int .i64 t393,.slice Ao33 t394.length co33,.slice Ao34 t397.length co34]] rfl mz ?_;(with_reducible refine (impl_ChainOfPlan.calls k t393 _ _ t394 _ _ t397 t413 true _ ?side1 ?side2 ?side3 ?side4 A14.out).mono ?_);(case side1=>exact cz (Kd.R_reads' HO396.out).2.2);(case side2=>exact (Kd.R_reads' HO396.out).2.1);(case side3=>exact cz (Kd.R_reads' HO399.out).2.2);(case side4=>exact (Kd.R_reads' HO399.out).2.1);rintro e w45 ⟨v414,rfl,ho0,hb⟩;refine ⟨_,rfl,?_⟩;have n0_:=Aside0.mk (Kd.R_elder' (rz HO392.out) (Kd.R_base ho0) hb);have n1_:=Aside0.mk (Kd.R_below (rz HO396.out) hb);have n2_:=Aside0.mk (Kd.R_elder' (rz HO399.out) (Kd.R_base ho0) hb);have n3_:=Aside0.mk (Kd.R_below (rz HO405.out) hb);have n4_:=Aside0.mk (Kd.R_elder' (rz HO408.out) (Kd.R_base ho0) hb);have n5_:=Aside0.mk (Kd.R_lower (Kd.R_new' (Kd.R_new' (Kd.R_new' ho0 (Kd.R_lt (rz HO392.out))) (Kd.R_lt (rz HO399.out))) (Kd.R_lt (rz HO408.out))) (below_size bs));have n6_:=Aside0.mk (kb BK401.out hb);have n7_:=Aside0.mk (kb BK410.out hb);have n8_:=Aside0.mk (below_step bs hb);clear HO392 HO396 HO399 HO405 HO408 BK401 BK410 HB;have HO392:=n0_;have HO396:=n1_;have HO399:=n2_;have HO405:=n3_;have HO408:=n4_;have HO415:=n5_;have BK401:=n6_;have BK410:=n7_;have HB:=n8_;clear n0_ n1_ n2_ n3_ n4_ n5_ n6_ n7_ n8_;(try clear hb);(try clear ho0))|((with_reducible refine gate_callee (f:=11) rfl ?_);refine goesL_ (some 59) rfl rfl Tryz.func11 (by kernel_rfl) rfl #[.slice Ao29 t390.length co29] rfl mz ?_;(with_reducible refine (impl_ChainSteps.calls k _ _ t390 t417 true _ ?side1 ?side2 A15.out).mono ?_);(case side1=>exact cz (Kd.R_reads' HO392.out).2.2);(case side2=>exact (Kd.R_reads' HO392.out).2.1);rintro e w46 ⟨v419,rfl,ho0,hb⟩;refine ⟨_,rfl,?_⟩;have n0_:=Aside0.mk (Kd.R_below (rz HO392.out) hb);have n1_:=Aside0.mk (Kd.R_elder' (rz HO396.out) (Kd.R_base ho0) hb);have n2_:=Aside0.mk (Kd.R_below (rz HO399.out) hb);have n3_:=Aside0.mk (Kd.R_elder' (rz HO405.out) (Kd.R_base ho0) hb);have n4_:=Aside0.mk (Kd.R_below (rz HO408.out) hb);have n5_:=Aside0.mk (Kd.R_below (rz HO415.out) hb);have n6_:=Aside0.mk (Kd.R_lower (Kd.R_new' (Kd.R_new' ho0 (Kd.R_lt (rz HO396.out))) (Kd.R_lt (rz HO405.out))) (below_size bs));have n7_:=Aside0.mk (kb BK401.out hb);have n8_:=Aside0.mk (kb BK410.out hb);have n9_:=Aside0.mk (below_step bs hb);clear HO392 HO396 HO399 HO405 HO408 HO415 BK401 BK410 HB;have HO392:=n0_;have HO396:=n1_;have HO399:=n2_;have HO405:=n3_;have HO408:=n4_;have HO415:=n5_;have HO420:=n6_;have BK401:=n7_;have BK410:=n8_;have HB:=n9_;clear n0_ n1_ n2_ n3_ n4_ n5_ n6_ n7_ n8_ n9_;(try clear hb);(try clear ho0)))
              have n0_:=Aside0.mk (Kd.R_drew HO392.out)
              have n1_:=Aside0.mk (Kd.R_drew HO396.out)
              have n2_:=Aside0.mk (Kd.R_drew HO399.out)
              have n3_:=Aside0.mk (Kd.R_drew HO405.out)
              have n4_:=Aside0.mk (Kd.R_drew HO408.out)
              have n5_:=Aside0.mk (Kd.R_drew HO415.out)
              have n6_:=Aside0.mk (Kd.R_drew HO420.out)
              have n7_:=Aside0.mk (blk_drew BK401.out)
              have n8_:=Aside0.mk (blk_drew BK410.out)
              have n9_:=Aside0.mk (below_drew1 HB.out)
              clear HO392
              clear HO396
              clear HO399
              clear HO405
              clear HO408
              clear HO415
              clear HO420
              clear BK401
              clear BK410
              clear HB
              have HO392:=n0_
              have HO396:=n1_
              have HO399:=n2_
              have HO405:=n3_
              have HO408:=n4_
              have HO415:=n5_
              have HO420:=n6_
              have BK401:=n7_
              have BK410:=n8_
              have HB:=n9_
              clear n0_ n1_ n2_ n3_ n4_ n5_ n6_ n7_ n8_ n9_
              obtain ⟨Ao48,co48,eo48⟩:=Kd.R_slice HO415.out
              (first|subst eo48|(injection eo48 with f1_ f2_ f3_;have f4_:=f1_.symm;have f5_:=f3_.symm;clear f1_ f2_ f3_;subst f4_;subst f5_))
              have p423 : 0 ≤ ((ji22) : Int):=of_decide_eq_true az
              have q423 : (ji22) < (t390.length : Int):=of_decide_eq_true az
              obtain ⟨ad423,e423,hx423_0⟩:=Kd.at_int (Kd.R_reads' HO392.out).2.2 (ji22) p423 q423
              cases e423
              replace p423:=eq_true p423
              replace q423:=eq_true q423
              refine start_ (n:=39) (S:=fun w'=>w'.cell? ⟨gb401,0,none⟩ = some (.int .i64 t393) ∧ w'.cell? ⟨gb401,1,none⟩ = some (.slice Ao33 t394.length co33) ∧ w'.cell? ⟨gb401,2,none⟩ = some (.slice Ao34 t397.length co34) ∧ w'.cell? (ad423.add ((ji22)).toNat) = some (.int .i64 (rd t390 (ji22)))) (ds:=[]) #[false,false,false,false,false,false,false,false,false,false,false,false,false,false,false,false,false,false,false,false,false,false,false,false,false,false,false,false,false,false,false,false,false,false,false,false,false,false,false] (by kernel_rfl) rfl rfl ⟨(blk_cell BK401.out 0).trans rfl,(blk_cell BK401.out 1).trans rfl,(blk_cell BK401.out 2).trans rfl,hx423_0⟩ (fun hHeld=>?_);refine with_tabW laws_FnChainsArePlans.tab12 laws_FnChainsArePlans.bits12 (fun HT_ HW_=>?_)
              generalize w46.drew = w47 at HO392 HO396 HO399 HO405 HO408 HO415 HO420 BK401 BK410 HB hx423_0 hHeld ⊢
              refine pure_ (i:=0) (N:=some 62) (v:=?_) (a':=?_) #[true,false,false,false,false,false,false,false,false,false,false,false,false,false,false,false,false,false,false,false,false,false,false,false,false,false,false,false,false,false,false,false,false,false,false,false,false,false,false] rfl rfl (any_of HT_.out (by kernel_rfl)) (fun _ _ _ h=>h) (Or.inl ⟨by rfl,?_⟩) ?_ ?_
              rotate_left
              ·intro w'
               go_simp
               with_reducible rfl
              rotate_left
              ·simp only [Act.put,xa,xb,xc,i64_w,i32_w]
               rfl
              refine pure_ (i:=1) (N:=some 63) (v:=?_) (a':=?_) #[true,true,false,false,false,false,false,false,false,false,false,false,false,false,false,false,false,false,false,false,false,false,false,false,false,false,false,false,false,false,false,false,false,false,false,false,false,false,false] rfl rfl (any_of HT_.out (by kernel_rfl)) (fun _ _ _ h=>h) (Or.inl ⟨by rfl,?_⟩) ?_ ?_
              rotate_left
              ·intro w'
               go_simp
               with_reducible rfl
              rotate_left
              ·simp only [Act.put,xa,xb,xc,i64_w,i32_w]
               rfl
              refine pure_ (i:=2) (N:=some 64) (v:=?_) (a':=?_) #[true,true,true,false,false,false,false,false,false,false,false,false,false,false,false,false,false,false,false,false,false,false,false,false,false,false,false,false,false,false,false,false,false,false,false,false,false,false,false] rfl rfl (any_of HT_.out (by kernel_rfl)) (fun _ _ _ h=>h) (Or.inl ⟨by rfl,?_⟩) ?_ ?_
              rotate_left
              ·intro w'
               go_simp
               with_reducible rfl
              rotate_left
              ·simp only [Act.put,xa,xb,xc,i64_w,i32_w]
               rfl
              refine pure_ (i:=3) (N:=some 65) (v:=?_) (a':=?_) #[true,true,true,true,false,false,false,false,false,false,false,false,false,false,false,false,false,false,false,false,false,false,false,false,false,false,false,false,false,false,false,false,false,false,false,false,false,false,false] rfl rfl (any_of HT_.out (by kernel_rfl)) (fun _ _ _ h=>h) (Or.inl ⟨by rfl,?_⟩) ?_ ?_
              rotate_left
              ·intro w'
               go_simp
               with_reducible rfl
              rotate_left
              ·simp only [Act.put,xa,xb,xc,i64_w,i32_w]
               rfl
              refine pure_ (i:=4) (N:=some 66) (v:=?_) (a':=?_) #[true,true,true,true,true,false,false,false,false,false,false,false,false,false,false,false,false,false,false,false,false,false,false,false,false,false,false,false,false,false,false,false,false,false,false,false,false,false,false] rfl rfl (any_of HT_.out (by kernel_rfl)) (fun _ _ _ h=>h) (Or.inl ⟨by rfl,?_⟩) ?_ ?_
              rotate_left
              ·intro w'
               go_simp
               with_reducible rfl
              rotate_left
              ·simp only [Act.put,xa,xb,xc,i64_w,i32_w]
               rfl
              refine pure_ (i:=5) (N:=some 67) (v:=?_) (a':=?_) #[true,true,true,true,true,true,false,false,false,false,false,false,false,false,false,false,false,false,false,false,false,false,false,false,false,false,false,false,false,false,false,false,false,false,false,false,false,false,false] rfl rfl (any_of HT_.out (by kernel_rfl)) (fun _ _ _ h=>h) (Or.inl ⟨by rfl,?_⟩) ?_ ?_
              rotate_left
              ·intro w'
               go_simp
               with_reducible rfl
              rotate_left
              ·simp only [Act.put,xa,xb,xc,i64_w,i32_w]
               rfl
              refine pure_ (i:=6) (N:=some 68) (v:=?_) (a':=?_) #[true,true,true,true,true,true,true,false,false,false,false,false,false,false,false,false,false,false,false,false,false,false,false,false,false,false,false,false,false,false,false,false,false,false,false,false,false,false,false] rfl rfl (any_of HT_.out (by kernel_rfl)) (fun _ _ _ h=>h) (Or.inl ⟨by rfl,?_⟩) ?_ ?_
              rotate_left
              ·intro w'
               go_simp
               with_reducible rfl
              rotate_left
              ·simp only [Act.put,xa,xb,xc,i64_w,i32_w]
               rfl
              refine pure_ (i:=7) (N:=some 69) (v:=?_) (a':=?_) #[true,true,true,true,true,true,true,true,false,false,false,false,false,false,false,false,false,false,false,false,false,false,false,false,false,false,false,false,false,false,false,false,false,false,false,false,false,false,false] rfl rfl (any_of HT_.out (by kernel_rfl)) (fun _ _ _ h=>h) (Or.inl ⟨by rfl,?_⟩) ?_ ?_
              rotate_left
              ·intro w'
               go_simp
               with_reducible rfl
              rotate_left
              ·simp only [Act.put,xa,xb,xc,i64_w,i32_w]
               rfl
              refine pure_ (i:=8) (N:=some 70) (v:=?_) (a':=?_) #[true,true,true,true,true,true,true,true,true,false,false,false,false,false,false,false,false,false,false,false,false,false,false,false,false,false,false,false,false,false,false,false,false,false,false,false,false,false,false] rfl rfl (any_of HT_.out (by kernel_rfl)) (fun _ _ _ h=>h) (Or.inl ⟨by rfl,?_⟩) ?_ ?_
              rotate_left
              ·intro w'
               go_simp
               with_reducible rfl
              rotate_left
              ·simp only [Act.put,xa,xb,xc,i64_w,i32_w]
               rfl
              refine one_ (i:=9) (N:=some 71) #[true,true,true,true,true,true,true,true,true,true,false,false,false,false,false,false,false,false,false,false,false,false,false,false,false,false,false,false,false,false,false,false,false,false,false,false,false,false,false] rfl rfl (one_of HT_.out (by kernel_rfl)) (by decide) (fun K hK=>?_)
              refine goes_ Tryz.func12 (by kernel_rfl) rfl #[.slice Ao48 t413.length co48,.slice (some ad423) t390.length co29] (by rfl) rfl rfl mz ?_
              with_reducible refine (laws_pSameInts.calls k _ _ t413 _ _ t390 true _ ?side1 ?side2 ?side3 ?side4 A18.out).mono ?_
              (case side1=>exact cz (Kd.R_reads' HO415.out).2.2)
              (case side2=>exact (Kd.R_reads' HO415.out).2.1)
              (case side3=>exact cz (Kd.R_reads' HO392.out).2.2)
              (case side4=>exact (Kd.R_reads' HO392.out).2.1)
              rintro e w' ⟨rfl,⟨nd,rfl⟩⟩
              refine ⟨_,rfl,?_⟩
              obtain ⟨Ao49,co49,eo49⟩:=Kd.R_slice HO420.out
              (first|subst eo49|(injection eo49 with f1_ f2_ f3_;have f4_:=f1_.symm;have f5_:=f3_.symm;clear f1_ f2_ f3_;subst f4_;subst f5_))
              refine hK.out _ _ ⟨(blk_cell BK401.out 0).trans rfl,(blk_cell BK401.out 1).trans rfl,(blk_cell BK401.out 2).trans rfl,hHeld.2.2.2⟩ (fun hHeld=>?_)
              clear hK K
              refine norm_ (a':=?_) ?_ ?_
              rotate_left
              ·show Act.put _ (some 71) _ = _
               simp only [Act.put,xa,xb,xc,i64_w,i32_w]
               rfl
              refine pure_ (i:=10) (N:=some 72) (v:=?_) (a':=?_) #[true,true,true,true,true,true,true,true,true,true,true,false,false,false,false,false,false,false,false,false,false,false,false,false,false,false,false,false,false,false,false,false,false,false,false,false,false,false,false] rfl rfl (any_of HT_.out (by kernel_rfl)) (fun _ _ _ h=>h) (Or.inl ⟨by rfl,?_⟩) ?_ ?_
              rotate_left
              ·intro w'
               go_simp
               with_reducible rfl
              rotate_left
              ·simp only [Act.put,xa,xb,xc,i64_w,i32_w]
               rfl
              refine pure_ (i:=11) (N:=some 73) (v:=?_) (a':=?_) #[true,true,true,true,true,true,true,true,true,true,true,true,false,false,false,false,false,false,false,false,false,false,false,false,false,false,false,false,false,false,false,false,false,false,false,false,false,false,false] rfl rfl (any_of HT_.out (by kernel_rfl)) (fun _ _ _ h=>h) (Or.inl ⟨by rfl,?_⟩) ?_ ?_
              rotate_left
              ·intro w'
               go_simp
               with_reducible rfl
              rotate_left
              ·simp only [Act.put,xa,xb,xc,i64_w,i32_w]
               rfl
              refine pure_ (i:=12) (N:=some 74) (v:=?_) (a':=?_) #[true,true,true,true,true,true,true,true,true,true,true,true,true,false,false,false,false,false,false,false,false,false,false,false,false,false,false,false,false,false,false,false,false,false,false,false,false,false,false] rfl rfl (any_of HT_.out (by kernel_rfl)) (fun _ _ _ h=>h) (Or.inl ⟨by rfl,?_⟩) ?_ ?_
              rotate_left
              ·intro w'
               go_simp
               with_reducible rfl
              rotate_left
              ·simp only [Act.put,xa,xb,xc,i64_w,i32_w]
               rfl
              refine pure_ (i:=13) (N:=some 75) (v:=?_) (a':=?_) #[true,true,true,true,true,true,true,true,true,true,true,true,true,true,false,false,false,false,false,false,false,false,false,false,false,false,false,false,false,false,false,false,false,false,false,false,false,false,false] rfl rfl (any_of HT_.out (by kernel_rfl)) (fun _ _ _ h=>h) (Or.inl ⟨by rfl,?_⟩) ?_ ?_
              rotate_left
              ·intro w'
               go_simp
               with_reducible rfl
              rotate_left
              ·simp only [Act.put,xa,xb,xc,i64_w,i32_w]
               rfl
              refine pure_ (i:=14) (N:=some 76) (v:=?_) (a':=?_) #[true,true,true,true,true,true,true,true,true,true,true,true,true,true,true,false,false,false,false,false,false,false,false,false,false,false,false,false,false,false,false,false,false,false,false,false,false,false,false] rfl rfl (any_of HT_.out (by kernel_rfl)) (fun _ _ _ h=>h) (Or.inl ⟨by rfl,?_⟩) ?_ ?_
              rotate_left
              ·intro w'
               go_simp
               with_reducible rfl
              rotate_left
              ·simp only [Act.put,xa,xb,xc,i64_w,i32_w]
               rfl
              refine take_ (i:=15) (N:=some 77) (v:=?_) (a':=?_) #[true,true,true,true,true,true,true,true,true,true,true,true,true,true,true,true,false,false,false,false,false,false,false,false,false,false,false,false,false,false,false,false,false,false,false,false,false,false,false] rfl rfl (take_ofW HT_.out HW_.out (by kernel_rfl)) (fun _ _ _ h=>h) (Or.inl ⟨by rfl,?_⟩) hHeld ?_ ?_
              rotate_left
              ·rintro w' ⟨s0,s1,s2,s3⟩
               go_simp
               with_reducible rfl
              rotate_left
              ·simp only [Act.put,xa,xb,xc,i64_w,i32_w]
               rfl
              refine one_ (i:=16) (N:=some 78) #[true,true,true,true,true,true,true,true,true,true,true,true,true,true,true,true,true,false,false,false,false,false,false,false,false,false,false,false,false,false,false,false,false,false,false,false,false,false,false] rfl rfl (one_of HT_.out (by kernel_rfl)) (by decide) (fun K hK=>?_)
              refine goes_ Tryz.func13 (by kernel_rfl) rfl #[.slice Ao49 t417.length co49,.slice Ao33 t394.length co33] (by rfl) rfl rfl mz ?_
              with_reducible refine (laws_pSameSteps.calls k _ _ t417 _ _ t394 true _ ?side1 ?side2 ?side3 ?side4 A20.out).mono ?_
              (case side1=>exact cz (Kd.R_reads' HO420.out).2.2)
              (case side2=>exact (Kd.R_reads' HO420.out).2.1)
              (case side3=>exact cz (Kd.R_reads' HO396.out).2.2)
              (case side4=>exact (Kd.R_reads' HO396.out).2.1)
              rintro e w' ⟨rfl,⟨nd,rfl⟩⟩
              refine ⟨_,rfl,?_⟩
              refine hK.out _ _ ⟨(blk_cell BK401.out 0).trans rfl,(blk_cell BK401.out 1).trans rfl,(blk_cell BK401.out 2).trans rfl,hHeld.2.2.2⟩ (fun hHeld=>?_)
              clear hK K
              refine norm_ (a':=?_) ?_ ?_
              rotate_left
              ·show Act.put _ (some 78) _ = _
               simp only [Act.put,xa,xb,xc,i64_w,i32_w]
               rfl
              refine pure_ (i:=17) (N:=some 79) (v:=?_) (a':=?_) #[true,true,true,true,true,true,true,true,true,true,true,true,true,true,true,true,true,true,false,false,false,false,false,false,false,false,false,false,false,false,false,false,false,false,false,false,false,false,false] rfl rfl (any_of HT_.out (by kernel_rfl)) (fun _ _ _ h=>h) (Or.inl ⟨by rfl,?_⟩) ?_ ?_
              rotate_left
              ·intro w'
               go_simp
               with_reducible rfl
              rotate_left
              ·simp only [Act.put,xa,xb,xc,i64_w,i32_w]
               rfl
              refine pure_ (i:=18) (N:=some 80) (v:=?_) (a':=?_) #[true,true,true,true,true,true,true,true,true,true,true,true,true,true,true,true,true,true,true,false,false,false,false,false,false,false,false,false,false,false,false,false,false,false,false,false,false,false,false] rfl rfl (any_of HT_.out (by kernel_rfl)) (fun _ _ _ h=>h) (Or.inl ⟨by rfl,?_⟩) ?_ ?_
              rotate_left
              ·intro w'
               go_simp
               with_reducible rfl
              rotate_left
              ·simp only [Act.put,xa,xb,xc,i64_w,i32_w]
               rfl
              refine pure_ (i:=19) (N:=some 81) (v:=?_) (a':=?_) #[true,true,true,true,true,true,true,true,true,true,true,true,true,true,true,true,true,true,true,true,false,false,false,false,false,false,false,false,false,false,false,false,false,false,false,false,false,false,false] rfl rfl (any_of HT_.out (by kernel_rfl)) (fun _ _ _ h=>h) (Or.inl ⟨by rfl,?_⟩) ?_ ?_
              rotate_left
              ·intro w'
               go_simp
               with_reducible rfl
              rotate_left
              ·simp only [Act.put,xa,xb,xc,i64_w,i32_w]
               rfl
              refine pure_ (i:=21) (N:=some 83) (v:=?_) (a':=?_) #[true,true,true,true,true,true,true,true,true,true,true,true,true,true,true,true,true,true,true,true,false,true,false,false,false,false,false,false,false,false,false,false,false,false,false,false,false,false,false] rfl rfl (any_of HT_.out (by kernel_rfl)) (fun _ _ _ h=>h) (Or.inl ⟨by rfl,?_⟩) ?_ ?_
              rotate_left
              ·intro w'
               go_simp
               with_reducible rfl
              rotate_left
              ·simp only [Act.put,xa,xb,xc,i64_w,i32_w]
               rfl
              refine pure_ (i:=22) (N:=some 84) (v:=?_) (a':=?_) #[true,true,true,true,true,true,true,true,true,true,true,true,true,true,true,true,true,true,true,true,false,true,true,false,false,false,false,false,false,false,false,false,false,false,false,false,false,false,false] rfl rfl (any_of HT_.out (by kernel_rfl)) (fun _ _ _ h=>h) (Or.inl ⟨by rfl,?_⟩) ?_ ?_
              rotate_left
              ·intro w'
               go_simp
               with_reducible rfl
              rotate_left
              ·simp only [Act.put,xa,xb,xc,i64_w,i32_w]
               rfl
              refine pure_ (i:=23) (N:=some 85) (v:=?_) (a':=?_) #[true,true,true,true,true,true,true,true,true,true,true,true,true,true,true,true,true,true,true,true,false,true,true,true,false,false,false,false,false,false,false,false,false,false,false,false,false,false,false] rfl rfl (any_of HT_.out (by kernel_rfl)) (fun _ _ _ h=>h) (Or.inl ⟨by rfl,?_⟩) ?_ ?_
              rotate_left
              ·intro w'
               go_simp
               with_reducible rfl
              rotate_left
              ·simp only [Act.put,xa,xb,xc,i64_w,i32_w]
               rfl
              refine pure_ (i:=24) (N:=some 86) (v:=?_) (a':=?_) #[true,true,true,true,true,true,true,true,true,true,true,true,true,true,true,true,true,true,true,true,false,true,true,true,true,false,false,false,false,false,false,false,false,false,false,false,false,false,false] rfl rfl (any_of HT_.out (by kernel_rfl)) (fun _ _ _ h=>h) (Or.inl ⟨by rfl,?_⟩) ?_ ?_
              rotate_left
              ·intro w'
               go_simp
               with_reducible rfl
              rotate_left
              ·simp only [Act.put,xa,xb,xc,i64_w,i32_w]
               rfl
              refine pure_ (i:=25) (N:=some 87) (v:=?_) (a':=?_) #[true,true,true,true,true,true,true,true,true,true,true,true,true,true,true,true,true,true,true,true,false,true,true,true,true,true,false,false,false,false,false,false,false,false,false,false,false,false,false] rfl rfl (any_of HT_.out (by kernel_rfl)) (fun _ _ _ h=>h) (Or.inl ⟨by rfl,?_⟩) ?_ ?_
              rotate_left
              ·intro w'
               go_simp
               with_reducible rfl
              rotate_left
              ·simp only [Act.put,xa,xb,xc,i64_w,i32_w]
               rfl
              refine take_ (i:=20) (N:=some 82) (v:=?_) (a':=?_) #[true,true,true,true,true,true,true,true,true,true,true,true,true,true,true,true,true,true,true,true,true,true,true,true,true,true,false,false,false,false,false,false,false,false,false,false,false,false,false] rfl rfl (take_ofW HT_.out HW_.out (by kernel_rfl)) (fun _ _ _ h=>h) (Or.inl ⟨by rfl,?_⟩) hHeld ?_ ?_
              rotate_left
              ·rintro w' ⟨s0,s1,s2,s3⟩
               go_simp
               with_reducible rfl
              rotate_left
              ·simp only [Act.put,xa,xb,xc,i64_w,i32_w]
               rfl
              refine take_ (i:=26) (N:=some 88) (v:=?_) (a':=?_) #[true,true,true,true,true,true,true,true,true,true,true,true,true,true,true,true,true,true,true,true,true,true,true,true,true,true,true,false,false,false,false,false,false,false,false,false,false,false,false] rfl rfl (take_ofW HT_.out HW_.out (by kernel_rfl)) (fun _ _ _ h=>h) (Or.inl ⟨by rfl,?_⟩) hHeld ?_ ?_
              rotate_left
              ·rintro w' ⟨s0,s1,s2,s3⟩
               go_simp
               with_reducible rfl
              rotate_left
              ·simp only [Act.put,xa,xb,xc,i64_w,i32_w]
               rfl
              refine one_ (i:=27) (N:=some 89) #[true,true,true,true,true,true,true,true,true,true,true,true,true,true,true,true,true,true,true,true,true,true,true,true,true,true,true,true,false,false,false,false,false,false,false,false,false,false,false] rfl rfl (one_of HT_.out (by kernel_rfl)) (by decide) (fun K hK=>?_)
              refine goes_ Tryz.func14 (by kernel_rfl) rfl #[.agg #[.int .i64 t393,.slice Ao33 t394.length co33,.slice Ao34 t397.length co34],.int .i64 (rd t390 (ji22))] (by rfl) rfl rfl (by (try simp only [List.map_toArray,List.map_cons,List.map_nil]);first|done|(simp only [hji22];rfl)|rfl|(simp only [List.length_drop,List.length_take];rfl)) ?_
              with_reducible refine (laws_pEnds.calls k t393 _ _ t394 _ _ t397 (rd t390 (ji22)) true _ ?side1 ?side2 ?side3 ?side4 A25.out).mono ?_
              (case side1=>exact cz (Kd.R_reads' HO396.out).2.2)
              (case side2=>exact (Kd.R_reads' HO396.out).2.1)
              (case side3=>exact cz (Kd.R_reads' HO399.out).2.2)
              (case side4=>exact (Kd.R_reads' HO399.out).2.1)
              rintro e w50 ⟨rfl,hb⟩
              have HS3_:=(hb.cell (World.block_lt_of_cell? _ _ (hHeld.2.2.2))).trans (hHeld.2.2.2)
              refine ⟨_,rfl,?_⟩
              have n0_:=Aside0.mk (Kd.R_below (rz HO392.out) hb)
              have n1_:=Aside0.mk (Kd.R_below (rz HO396.out) hb)
              have n2_:=Aside0.mk (Kd.R_below (rz HO399.out) hb)
              have n3_:=Aside0.mk (Kd.R_below (rz HO405.out) hb)
              have n4_:=Aside0.mk (Kd.R_below (rz HO408.out) hb)
              have n5_:=Aside0.mk (Kd.R_below (rz HO415.out) hb)
              have n6_:=Aside0.mk (Kd.R_below (rz HO420.out) hb)
              have n7_:=Aside0.mk (kb BK401.out hb)
              have n8_:=Aside0.mk (kb BK410.out hb)
              have n9_:=Aside0.mk (below_step bs hb)
              clear HO392
              clear HO396
              clear HO399
              clear HO405
              clear HO408
              clear HO415
              clear HO420
              clear BK401
              clear BK410
              clear HB
              have HO392:=n0_
              have HO396:=n1_
              have HO399:=n2_
              have HO405:=n3_
              have HO408:=n4_
              have HO415:=n5_
              have HO420:=n6_
              have BK401:=n7_
              have BK410:=n8_
              have HB:=n9_
              clear n0_ n1_ n2_ n3_ n4_ n5_ n6_ n7_ n8_ n9_
              (try clear hb)
              refine hK.out _ _ ⟨(blk_cell BK401.out 0).trans rfl,(blk_cell BK401.out 1).trans rfl,(blk_cell BK401.out 2).trans rfl,HS3_⟩ (fun hHeld=>?_)
              clear hK K
              refine norm_ (a':=?_) ?_ ?_
              rotate_left
              ·show Act.put _ (some 89) _ = _
               simp only [Act.put,xa,xb,xc,i64_w,i32_w]
               rfl
              refine pure_ (i:=28) (N:=some 90) (v:=?_) (a':=?_) #[true,true,true,true,true,true,true,true,true,true,true,true,true,true,true,true,true,true,true,true,true,true,true,true,true,true,true,true,true,false,false,false,false,false,false,false,false,false,false] rfl rfl (any_of HT_.out (by kernel_rfl)) (fun _ _ _ h=>h) (Or.inl ⟨by rfl,?_⟩) ?_ ?_
              rotate_left
              ·intro w'
               go_simp
               with_reducible rfl
              rotate_left
              ·simp only [Act.put,xa,xb,xc,i64_w,i32_w]
               rfl
              refine pure_ (i:=29) (N:=some 91) (v:=?_) (a':=?_) #[true,true,true,true,true,true,true,true,true,true,true,true,true,true,true,true,true,true,true,true,true,true,true,true,true,true,true,true,true,true,false,false,false,false,false,false,false,false,false] rfl rfl (any_of HT_.out (by kernel_rfl)) (fun _ _ _ h=>h) (Or.inl ⟨by rfl,?_⟩) ?_ ?_
              rotate_left
              ·intro w'
               go_simp
               with_reducible rfl
              rotate_left
              ·simp only [Act.put,xa,xb,xc,i64_w,i32_w]
               rfl
              refine pure_ (i:=30) (N:=some 92) (v:=?_) (a':=?_) #[true,true,true,true,true,true,true,true,true,true,true,true,true,true,true,true,true,true,true,true,true,true,true,true,true,true,true,true,true,true,true,false,false,false,false,false,false,false,false] rfl rfl (any_of HT_.out (by kernel_rfl)) (fun _ _ _ h=>h) (Or.inl ⟨by rfl,?_⟩) ?_ ?_
              rotate_left
              ·intro w'
               go_simp
               with_reducible rfl
              rotate_left
              ·simp only [Act.put,xa,xb,xc,i64_w,i32_w]
               rfl
              refine pure_ (i:=31) (N:=some 93) (v:=?_) (a':=?_) #[true,true,true,true,true,true,true,true,true,true,true,true,true,true,true,true,true,true,true,true,true,true,true,true,true,true,true,true,true,true,true,true,false,false,false,false,false,false,false] rfl rfl (any_of HT_.out (by kernel_rfl)) (fun _ _ _ h=>h) (Or.inl ⟨by rfl,?_⟩) ?_ ?_
              rotate_left
              ·intro w'
               go_simp
               with_reducible rfl
              rotate_left
              ·simp only [Act.put,xa,xb,xc,i64_w,i32_w]
               rfl
              refine pure_ (i:=34) (N:=some 96) (v:=?_) (a':=?_) #[true,true,true,true,true,true,true,true,true,true,true,true,true,true,true,true,true,true,true,true,true,true,true,true,true,true,true,true,true,true,true,true,false,false,true,false,false,false,false] rfl rfl (any_of HT_.out (by kernel_rfl)) (fun _ _ _ h=>h) (Or.inl ⟨by rfl,?_⟩) ?_ ?_
              rotate_left
              ·intro w'
               go_simp
               with_reducible rfl
              rotate_left
              ·simp only [Act.put,xa,xb,xc,i64_w,i32_w]
               rfl
              refine pure_ (i:=35) (N:=some 97) (v:=?_) (a':=?_) #[true,true,true,true,true,true,true,true,true,true,true,true,true,true,true,true,true,true,true,true,true,true,true,true,true,true,true,true,true,true,true,true,false,false,true,true,false,false,false] rfl rfl (any_of HT_.out (by kernel_rfl)) (fun _ _ _ h=>h) (Or.inl ⟨by rfl,?_⟩) ?_ ?_
              rotate_left
              ·intro w'
               go_simp
               with_reducible rfl
              rotate_left
              ·simp only [Act.put,xa,xb,xc,i64_w,i32_w]
               rfl
              refine pure_ (i:=36) (N:=some 98) (v:=?_) (a':=?_) #[true,true,true,true,true,true,true,true,true,true,true,true,true,true,true,true,true,true,true,true,true,true,true,true,true,true,true,true,true,true,true,true,false,false,true,true,true,false,false] rfl rfl (any_of HT_.out (by kernel_rfl)) (fun _ _ _ h=>h) (Or.inl ⟨by rfl,?_⟩) ?_ ?_
              rotate_left
              ·intro w'
               go_simp
               with_reducible rfl
              rotate_left
              ·simp only [Act.put,xa,xb,xc,i64_w,i32_w]
               rfl
              refine take_ (i:=32) (N:=some 94) (v:=?_) (a':=?_) #[true,true,true,true,true,true,true,true,true,true,true,true,true,true,true,true,true,true,true,true,true,true,true,true,true,true,true,true,true,true,true,true,true,false,true,true,true,false,false] rfl rfl (take_ofW HT_.out HW_.out (by kernel_rfl)) (fun _ _ _ h=>h) (Or.inl ⟨by rfl,?_⟩) hHeld ?_ ?_
              rotate_left
              ·rintro w' ⟨s0,s1,s2,s3⟩
               go_simp
               with_reducible rfl
              rotate_left
              ·simp only [Act.put,xa,xb,xc,i64_w,i32_w]
               rfl
              refine pure_ (i:=33) (N:=some 95) (v:=?_) (a':=?_) #[true,true,true,true,true,true,true,true,true,true,true,true,true,true,true,true,true,true,true,true,true,true,true,true,true,true,true,true,true,true,true,true,true,true,true,true,true,false,false] rfl rfl (any_of HT_.out (by kernel_rfl)) (fun _ _ _ h=>h) (Or.inl ⟨by rfl,?_⟩) ?_ ?_
              rotate_left
              ·intro w'
               go_simp
               with_reducible rfl
              rotate_left
              ·simp only [Act.put,xa,xb,xc,i64_w,i32_w]
               rfl
              refine pure_ (i:=37) (N:=some 99) (v:=?_) (a':=?_) #[true,true,true,true,true,true,true,true,true,true,true,true,true,true,true,true,true,true,true,true,true,true,true,true,true,true,true,true,true,true,true,true,true,true,true,true,true,true,false] rfl rfl (any_of HT_.out (by kernel_rfl)) (fun _ _ _ h=>h) (Or.inl ⟨by rfl,?_⟩) ?_ ?_
              rotate_left
              ·intro w'
               go_simp
               with_reducible rfl
              rotate_left
              ·simp only [Act.put,xa,xb,xc,i64_w,i32_w]
               rfl
              refine pure_ (i:=38) (N:=some 100) (v:=?_) (a':=?_) #[true,true,true,true,true,true,true,true,true,true,true,true,true,true,true,true,true,true,true,true,true,true,true,true,true,true,true,true,true,true,true,true,true,true,true,true,true,true,true] rfl rfl (any_of HT_.out (by kernel_rfl)) (fun _ _ _ h=>h) (Or.inl ⟨by rfl,?_⟩) ?_ ?_
              rotate_left
              ·intro w'
               go_simp
               with_reducible rfl
              rotate_left
              ·simp only [Act.put,xa,xb,xc,i64_w,i32_w]
               rfl
              refine done_ (done_of HT_.out (by kernel_rfl)) ?_
              try go_wp2
              go_loopg [103] k (fun kq v103 w'=>∃ (x103_1 : Int),v103 = .int .i64 x103_1 ∧ Aside0 (laws_FnChainsArePlans.l0 kq t390 t417 (t417.length : Int) x103_1 = some r) ∧ Aside0 (kq ≤ k) ∧ Aside0 (Kd.R (Kd.int .i64) 3 w' w.heap.size (fun k_=>some k_ ≠ ((.slice Ao34 t397.length co34) : Value).ownBlock ∧ some k_ ≠ ((.slice Ao40 t406.length co40) : Value).ownBlock) (.slice (some ad423) t390.length co29) t390) ∧ Aside0 (Kd.R k41 41 w' w.heap.size (fun k_=>some k_ ≠ ((.slice Ao33 t394.length co33) : Value).ownBlock ∧ some k_ ≠ ((.slice Ao39 t403.length co39) : Value).ownBlock) (.slice Ao49 t417.length co49) t417) ∧ Aside0 (Kd.R k41 41 w' w.heap.size (fun k_=>some k_ ≠ ((.slice Ao49 t417.length co49) : Value).ownBlock ∧ some k_ ≠ ((.slice Ao39 t403.length co39) : Value).ownBlock) (.slice Ao33 t394.length co33) t394) ∧ Aside0 (Kd.R (Kd.int .i64) 3 w' w.heap.size (fun k_=>some k_ ≠ ((.slice (some ad423) t390.length co29) : Value).ownBlock ∧ some k_ ≠ ((.slice Ao40 t406.length co40) : Value).ownBlock) (.slice Ao34 t397.length co34) t397) ∧ Aside0 (Kd.R k41 41 w' w.heap.size (fun k_=>some k_ ≠ ((.slice Ao49 t417.length co49) : Value).ownBlock ∧ some k_ ≠ ((.slice Ao33 t394.length co33) : Value).ownBlock) (.slice Ao39 t403.length co39) t403) ∧ Aside0 (Kd.R (Kd.int .i64) 3 w' w.heap.size (fun k_=>some k_ ≠ ((.slice (some ad423) t390.length co29) : Value).ownBlock ∧ some k_ ≠ ((.slice Ao34 t397.length co34) : Value).ownBlock) (.slice Ao40 t406.length co40) t406) ∧ Aside0 (w'.heap[gb401]? = some (.cells #[.int .i64 t393,(.slice Ao33 t394.length co33),(.slice Ao34 t397.length co34)] 28 (0,0))) ∧ Aside0 (w'.heap[gb410]? = some (.cells #[.int .i64 t402,(.slice Ao39 t403.length co39),(.slice Ao40 t406.length co40)] 28 (0,0))) ∧ Aside0 (Below w.heap.size w w'))
              case atStart=>exact ⟨(0),fz,H',⟨Nat.le_refl _⟩,⟨by (with_reducible repeat (first|apply Kd.R_alloc|apply Kd.R_drewN|apply Kd.R_drew));exact Kd.R_mono HO392.out (fun _ hk=>⟨hk.1.1.2,hk.1.2⟩)⟩,⟨by (with_reducible repeat (first|apply Kd.R_alloc|apply Kd.R_drewN|apply Kd.R_drew));exact Kd.R_mono HO420.out (fun _ hk=>⟨hk.1.2,hk.2⟩)⟩,⟨by (with_reducible repeat (first|apply Kd.R_alloc|apply Kd.R_drewN|apply Kd.R_drew));exact Kd.R_mono HO396.out (fun _ hk=>⟨hk.2,hk.1.2⟩)⟩,⟨by (with_reducible repeat (first|apply Kd.R_alloc|apply Kd.R_drewN|apply Kd.R_drew));exact Kd.R_mono HO399.out (fun _ hk=>⟨hk.1.1.2,hk.1.2⟩)⟩,⟨by (with_reducible repeat (first|apply Kd.R_alloc|apply Kd.R_drewN|apply Kd.R_drew));exact Kd.R_mono HO405.out (fun _ hk=>⟨hk.2,hk.1.2⟩)⟩,⟨by (with_reducible repeat (first|apply Kd.R_alloc|apply Kd.R_drewN|apply Kd.R_drew));exact Kd.R_mono HO408.out (fun _ hk=>⟨hk.1.1.2,hk.1.2⟩)⟩,⟨by (with_reducible repeat (first|refine blk_drewN ?_ _|refine blk_drew ?_|refine blk_alloc ?_ _));exact BK401.out⟩,⟨by (with_reducible repeat (first|refine blk_drewN ?_ _|refine blk_drew ?_|refine blk_alloc ?_ _));exact BK410.out⟩,⟨by repeat (first|(with_reducible first|exact HB.out|apply below_alloc|apply pw_below_drewN|apply below_drew1|refine below_set ?_ GE401.out|refine below_set ?_ GE410.out)|exact HB.out)⟩⟩
              case round=>
               clear H'
               try clear c1
               try clear c2
               try clear p2
               try clear c3
               try clear c4
               try clear p4
               try clear q4
               try clear hx4
               try clear c5
               try clear c6
               try clear p6
               try clear c7
               try clear c8
               try clear c8b0
               try clear c8b1
               try clear c8b2
               try clear c10
               try clear c11
               try clear c12
               try clear c12b0
               try clear c12b1
               try clear c12b2
               try clear c13
               try clear c14
               try clear c16
               try clear c17
               try clear c19
               try clear c21
               try clear c23
               try clear c23b0
               try clear c24
               try clear c24b0
               try clear c26
               try clear c27
               try clear c27b0
               try clear c27b1
               try clear c37
               try clear p42
               try clear q42
               try clear hx42
               try clear hcz32_0
               try clear hcz32_1
               try clear hcz32_2
               try clear hcz38_0
               try clear hcz38_1
               try clear hcz38_2
               try clear hcz41_0
               try clear hcz41_1
               try clear hcz41_2
               try clear hcz44_0
               try clear hcz44_1
               try clear hcz44_2
               try clear hfz32_0
               try clear hfz32_1
               try clear hfz32_2
               try clear hfz38_0
               try clear hfz38_1
               try clear hfz38_2
               try clear hfz41_0
               try clear hfz41_1
               try clear hfz41_2
               try clear hfz44_0
               try clear hfz44_1
               try clear hfz44_2
               try clear hx423_0
               try clear p423
               try clear q423
               obtain ⟨x103_1,rfl,HA,HK1,HO_5,HO_101,HO_402001,HO_402002,HO_411001,HO_411002,BK401,BK410,HB⟩:=hrel
               cases gk with
               | zero=>exact absurd HA.out (by simp [laws_FnChainsArePlans.l0])
               | succ k1=>
                have H:=HA.out
                clear HA
                simp only [laws_FnChainsArePlans.l0] at H
                by_cases c51 : x103_1 < (t417.length : Int)
                ·rw [if_pos c51] at H
                 have c51b0 : decide (x103_1 < (t417.length : Int)) = true:=decide_eq_true c51
                 clear c51
                 by_cases c52 : 0 ≤ x103_1
                 ·rw [if_pos c52] at H
                  have c52b0 : decide (0 ≤ x103_1) = true:=decide_eq_true c52
                  clear c52
                  by_cases c53 : x103_1 < (t417.length : Int)
                  ·rw [if_pos c53] at H
                   have c53b0 : decide (x103_1 < (t417.length : Int)) = true:=decide_eq_true c53
                   clear c53
                   by_cases c54 : 0 ≤ ((rd_T41 t417 x103_1).f0)
                   ·rw [if_pos c54] at H
                    have c54b0 : decide (0 ≤ ((rd_T41 t417 x103_1).f0)) = true:=decide_eq_true c54
                    clear c54
                    by_cases c55 : ((rd_T41 t417 x103_1).f0) < (t390.length : Int)
                    ·rw [if_pos c55] at H
                     have c55b0 : decide (((rd_T41 t417 x103_1).f0) < (t390.length : Int)) = true:=decide_eq_true c55
                     clear c55
                     by_cases c56 : 0 ≤ ((rd_T41 t417 x103_1).f1)
                     ·rw [if_pos c56] at H
                      have c56b0 : decide (0 ≤ ((rd_T41 t417 x103_1).f1)) = true:=decide_eq_true c56
                      clear c56
                      by_cases c57 : ((rd_T41 t417 x103_1).f1) < (t390.length : Int)
                      ·rw [if_pos c57] at H
                       have c57b0 : decide (((rd_T41 t417 x103_1).f1) < (t390.length : Int)) = true:=decide_eq_true c57
                       clear c57
                       obtain ⟨ji58,hji58⟩ : ∃ j_ : Int,(wrap64 (x103_1 + 1)) = j_:=⟨_,rfl⟩
                       replace H : (if 0 ≤ (ji58) then (if (ji58) < (t390.length : Int) then (if (wrap64 ((rd t390 ((rd_T41 t417 x103_1).f0)) + (rd t390 ((rd_T41 t417 x103_1).f1)))) = (rd t390 (ji58)) then (laws_FnChainsArePlans.l0 k1 t390 t417 (t417.length : Int) ji58) else (none)) else (none)) else (none)) = some r:=by first|(rw [hji58] at H;exact H)|(simp only [hji58] at H ⊢;exact H)
                       have hji58w : (IntKind.i64.wrap (x103_1 + 1)) = ji58:=(i64_w _).trans hji58
                       by_cases c59 : 0 ≤ (ji58)
                       ·rw [if_pos c59] at H
                        have c59b0 : decide (0 ≤ (ji58)) = true:=decide_eq_true c59
                        clear c59
                        by_cases c60 : (ji58) < (t390.length : Int)
                        ·rw [if_pos c60] at H
                         have c60b0 : decide ((ji58) < (t390.length : Int)) = true:=decide_eq_true c60
                         clear c60
                         by_cases c61 : (wrap64 ((rd t390 ((rd_T41 t417 x103_1).f0)) + (rd t390 ((rd_T41 t417 x103_1).f1)))) = (rd t390 (ji58))
                         ·rw [if_pos c61] at H
                          have c61b0 : ((wrap64 ((rd t390 ((rd_T41 t417 x103_1).f0)) + (rd t390 ((rd_T41 t417 x103_1).f1)))) == (rd t390 (ji58))) = true:=beq_iff_eq.mpr c61
                          have c61b1 : ((wrap64 ((rd t390 ((rd_T41 t417 x103_1).f0)) + (rd t390 ((rd_T41 t417 x103_1).f1)))) != (rd t390 (ji58))) = false:=bne_eq_false_iff_eq.mpr c61
                          clear c61
                          have H':=Aside0.mk H
                          clear H
                          have p425 : 0 ≤ (x103_1 : Int):=of_decide_eq_true az
                          have q425 : x103_1 < (t417.length : Int):=of_decide_eq_true az
                          obtain ⟨ad425,e425,hx425_0,hx425_1⟩:=at_T41 (Kd.R_reads' HO_101.out).2.2 x103_1 p425 q425
                          cases e425
                          replace p425:=eq_true p425
                          replace q425:=eq_true q425
                          try go_wp2_with (first|((with_reducible refine gate_dst (N:=15) rfl ?_);(try (refine gate_guard (by rfl) ?_;dsimp only));refine box_event ?hg (N:=15) ?hd (cs:=#[.int .i64 0,.int .i64 0]) (t:=41) ?hr ?_;(case hd=>rfl);(case hg=>rfl);(case hr=>first|(go_simp;done)|(go_simp;rfl));intro gb426 hg w62 hbox hb;have n0_:=Aside0.mk (Kd.R_below (rz HO_5.out) hb);have n1_:=Aside0.mk (Kd.R_below (Kd.R_elderB (rz HO_101.out) gb426 (Nat.le_of_eq hg.symm)) hb);have n2_:=Aside0.mk (Kd.R_below (Kd.R_elderB (rz HO_402001.out) gb426 (Nat.le_of_eq hg.symm)) hb);have n3_:=Aside0.mk (Kd.R_below (rz HO_402002.out) hb);have n4_:=Aside0.mk (Kd.R_below (Kd.R_elderB (rz HO_411001.out) gb426 (Nat.le_of_eq hg.symm)) hb);have n5_:=Aside0.mk (Kd.R_below (rz HO_411002.out) hb);have n6_:=Aside0.mk (kb BK401.out hb);have n7_:=Aside0.mk (kb BK410.out hb);have n8_:=Aside0.mk (below_step bs hb);have n9_:=Aside0.mk (hbox);have n10_:=Aside0.mk ((by rw [hg];exact (below_size bs) : w.heap.size ≤ gb426));have n11_:=Aside0.mk ((by rw [hg];exact (below_size bs) : w.heap.size ≤ gb426));have n12_:=Aside0.mk (kn hg BK401.out);have n13_:=Aside0.mk (km hg BK401.out);have n14_:=Aside0.mk (kn hg BK410.out);have n15_:=Aside0.mk (km hg BK410.out);clear HO_5 HO_101 HO_402001 HO_402002 HO_411001 HO_411002 BK401 BK410 HB;have HO_5:=n0_;have HO_101:=n1_;have HO_402001:=n2_;have HO_402002:=n3_;have HO_411001:=n4_;have HO_411002:=n5_;have BK401:=n6_;have BK410:=n7_;have HB:=n8_;have BK426:=n9_;have GW426:=n10_;have GE426:=n11_;have NB401_426:=n12_;have NB426_401:=n13_;have NB410_426:=n14_;have NB426_410:=n15_;clear n0_ n1_ n2_ n3_ n4_ n5_ n6_ n7_ n8_ n9_ n10_ n11_ n12_ n13_ n14_ n15_;clear hb hbox hg;have hnb63:=NB426_401.out;have hnc63:=NB401_426.out;have hnb64:=NB426_410.out;have hnc64:=NB410_426.out;have hcz65_0 : w62.cell? ⟨gb426,0,none⟩ = some (.int .i64 0):=(blk_cell BK426.out 0).trans rfl;have hcz65_1 : w62.cell? ⟨gb426,1,none⟩ = some (.int .i64 0):=(blk_cell BK426.out 1).trans rfl;have hfz65_0:=blk_frozen BK426.out 0;have hfz65_1:=blk_frozen BK426.out 1))
                          have n0_ : Aside0 (Kd.R (Kd.int .i64) 3 ((w62.setCell ⟨gb426,0,none⟩ (.int .i64 ((rd_T41 t417 x103_1).f0))).setCell ⟨gb426,1,none⟩ (.int .i64 ((rd_T41 t417 x103_1).f1))) w.heap.size (fun k_=>some k_ ≠ (.slice Ao34 t397.length co34 : Value).ownBlock ∧ some k_ ≠ (.slice Ao40 t406.length co40 : Value).ownBlock) (.slice (some ad423) t390.length co29) t390):=⟨by (with_reducible repeat (first|apply Kd.R_alloc|apply Kd.R_drewN|apply Kd.R_drew));exact Kd.R_mono (Kd.R_far (p:=⟨gb426,1,none⟩) (Kd.R_far (p:=⟨gb426,0,none⟩) (Kd.R_types HO_5.out BK426.out (by decide)) (fun _ hk=>hk.2) (.int .i64 ((rd_T41 t417 x103_1).f0))) (fun _ hk=>hk.2) (.int .i64 ((rd_T41 t417 x103_1).f1))) (fun _ hk=>⟨hk.1.1,hk.1.2⟩)⟩
                          have n1_ : Aside0 (Kd.R k41 41 ((w62.setCell ⟨gb426,0,none⟩ (.int .i64 ((rd_T41 t417 x103_1).f0))).setCell ⟨gb426,1,none⟩ (.int .i64 ((rd_T41 t417 x103_1).f1))) w.heap.size (fun k_=>some k_ ≠ (.slice Ao33 t394.length co33 : Value).ownBlock ∧ some k_ ≠ (.slice Ao39 t403.length co39 : Value).ownBlock ∧ k_ ≠ gb426) (.slice (some ad425) t417.length co49) t417):=⟨by (with_reducible repeat (first|apply Kd.R_alloc|apply Kd.R_drewN|apply Kd.R_drew));exact Kd.R_mono (Kd.R_far (p:=⟨gb426,1,none⟩) (Kd.R_far (p:=⟨gb426,0,none⟩) (Kd.R_mono HO_101.out (fun k_ hk=>(⟨hk,hk.2⟩ : _ ∧ k_ ≠ gb426))) (fun _ hk=>hk.2) (.int .i64 ((rd_T41 t417 x103_1).f0))) (fun _ hk=>hk.2) (.int .i64 ((rd_T41 t417 x103_1).f1))) (fun _ hk=>⟨hk.1.1.1,⟨hk.1.1.2,hk.1.2⟩⟩)⟩
                          have n2_ : Aside0 (Kd.R k41 41 ((w62.setCell ⟨gb426,0,none⟩ (.int .i64 ((rd_T41 t417 x103_1).f0))).setCell ⟨gb426,1,none⟩ (.int .i64 ((rd_T41 t417 x103_1).f1))) w.heap.size (fun k_=>some k_ ≠ (.slice (some ad425) t417.length co49 : Value).ownBlock ∧ some k_ ≠ (.slice Ao39 t403.length co39 : Value).ownBlock ∧ k_ ≠ gb426) (.slice Ao33 t394.length co33) t394):=⟨by (with_reducible repeat (first|apply Kd.R_alloc|apply Kd.R_drewN|apply Kd.R_drew));exact Kd.R_mono (Kd.R_far (p:=⟨gb426,1,none⟩) (Kd.R_far (p:=⟨gb426,0,none⟩) (Kd.R_mono HO_402001.out (fun k_ hk=>(⟨hk,hk.2⟩ : _ ∧ k_ ≠ gb426))) (fun _ hk=>hk.2) (.int .i64 ((rd_T41 t417 x103_1).f0))) (fun _ hk=>hk.2) (.int .i64 ((rd_T41 t417 x103_1).f1))) (fun _ hk=>⟨hk.1.1.1,⟨hk.1.1.2,hk.1.2⟩⟩)⟩
                          have n3_ : Aside0 (Kd.R (Kd.int .i64) 3 ((w62.setCell ⟨gb426,0,none⟩ (.int .i64 ((rd_T41 t417 x103_1).f0))).setCell ⟨gb426,1,none⟩ (.int .i64 ((rd_T41 t417 x103_1).f1))) w.heap.size (fun k_=>some k_ ≠ (.slice (some ad423) t390.length co29 : Value).ownBlock ∧ some k_ ≠ (.slice Ao40 t406.length co40 : Value).ownBlock) (.slice Ao34 t397.length co34) t397):=⟨by (with_reducible repeat (first|apply Kd.R_alloc|apply Kd.R_drewN|apply Kd.R_drew));exact Kd.R_mono (Kd.R_far (p:=⟨gb426,1,none⟩) (Kd.R_far (p:=⟨gb426,0,none⟩) (Kd.R_types HO_402002.out BK426.out (by decide)) (fun _ hk=>hk.2) (.int .i64 ((rd_T41 t417 x103_1).f0))) (fun _ hk=>hk.2) (.int .i64 ((rd_T41 t417 x103_1).f1))) (fun _ hk=>⟨hk.1.1,hk.1.2⟩)⟩
                          have n4_ : Aside0 (Kd.R k41 41 ((w62.setCell ⟨gb426,0,none⟩ (.int .i64 ((rd_T41 t417 x103_1).f0))).setCell ⟨gb426,1,none⟩ (.int .i64 ((rd_T41 t417 x103_1).f1))) w.heap.size (fun k_=>some k_ ≠ (.slice (some ad425) t417.length co49 : Value).ownBlock ∧ some k_ ≠ (.slice Ao33 t394.length co33 : Value).ownBlock ∧ k_ ≠ gb426) (.slice Ao39 t403.length co39) t403):=⟨by (with_reducible repeat (first|apply Kd.R_alloc|apply Kd.R_drewN|apply Kd.R_drew));exact Kd.R_mono (Kd.R_far (p:=⟨gb426,1,none⟩) (Kd.R_far (p:=⟨gb426,0,none⟩) (Kd.R_mono HO_411001.out (fun k_ hk=>(⟨hk,hk.2⟩ : _ ∧ k_ ≠ gb426))) (fun _ hk=>hk.2) (.int .i64 ((rd_T41 t417 x103_1).f0))) (fun _ hk=>hk.2) (.int .i64 ((rd_T41 t417 x103_1).f1))) (fun _ hk=>⟨hk.1.1.1,⟨hk.1.1.2,hk.1.2⟩⟩)⟩
                          have n5_ : Aside0 (Kd.R (Kd.int .i64) 3 ((w62.setCell ⟨gb426,0,none⟩ (.int .i64 ((rd_T41 t417 x103_1).f0))).setCell ⟨gb426,1,none⟩ (.int .i64 ((rd_T41 t417 x103_1).f1))) w.heap.size (fun k_=>some k_ ≠ (.slice (some ad423) t390.length co29 : Value).ownBlock ∧ some k_ ≠ (.slice Ao34 t397.length co34 : Value).ownBlock) (.slice Ao40 t406.length co40) t406):=⟨by (with_reducible repeat (first|apply Kd.R_alloc|apply Kd.R_drewN|apply Kd.R_drew));exact Kd.R_mono (Kd.R_far (p:=⟨gb426,1,none⟩) (Kd.R_far (p:=⟨gb426,0,none⟩) (Kd.R_types HO_411002.out BK426.out (by decide)) (fun _ hk=>hk.2) (.int .i64 ((rd_T41 t417 x103_1).f0))) (fun _ hk=>hk.2) (.int .i64 ((rd_T41 t417 x103_1).f1))) (fun _ hk=>⟨hk.1.1,hk.1.2⟩)⟩
                          have n6_ : Aside0 (((w62.setCell ⟨gb426,0,none⟩ (.int .i64 ((rd_T41 t417 x103_1).f0))).setCell ⟨gb426,1,none⟩ (.int .i64 ((rd_T41 t417 x103_1).f1))).heap[gb401]? = some (.cells #[.int .i64 t393,.slice Ao33 t394.length co33,.slice Ao34 t397.length co34] 28 (0,0))):=⟨by (with_reducible repeat (first|refine blk_drewN ?_ _|refine blk_drew ?_|refine blk_alloc ?_ _));refine blk_far ?_ NB401_426.out _;(with_reducible repeat (first|refine blk_drewN ?_ _|refine blk_drew ?_|refine blk_alloc ?_ _));refine blk_far ?_ NB401_426.out _;(with_reducible repeat (first|refine blk_drewN ?_ _|refine blk_drew ?_|refine blk_alloc ?_ _));exact BK401.out⟩
                          have n7_ : Aside0 (((w62.setCell ⟨gb426,0,none⟩ (.int .i64 ((rd_T41 t417 x103_1).f0))).setCell ⟨gb426,1,none⟩ (.int .i64 ((rd_T41 t417 x103_1).f1))).heap[gb410]? = some (.cells #[.int .i64 t402,.slice Ao39 t403.length co39,.slice Ao40 t406.length co40] 28 (0,0))):=⟨by (with_reducible repeat (first|refine blk_drewN ?_ _|refine blk_drew ?_|refine blk_alloc ?_ _));refine blk_far ?_ NB410_426.out _;(with_reducible repeat (first|refine blk_drewN ?_ _|refine blk_drew ?_|refine blk_alloc ?_ _));refine blk_far ?_ NB410_426.out _;(with_reducible repeat (first|refine blk_drewN ?_ _|refine blk_drew ?_|refine blk_alloc ?_ _));exact BK410.out⟩
                          have n8_ : Aside0 (((w62.setCell ⟨gb426,0,none⟩ (.int .i64 ((rd_T41 t417 x103_1).f0))).setCell ⟨gb426,1,none⟩ (.int .i64 ((rd_T41 t417 x103_1).f1))).heap[gb426]? = some (.cells #[.int .i64 ((rd_T41 t417 x103_1).f0),.int .i64 ((rd_T41 t417 x103_1).f1)] 41 (0,0))):=⟨by (with_reducible repeat (first|refine blk_drewN ?_ _|refine blk_drew ?_|refine blk_alloc ?_ _));refine blk_put (cs:=#[.int .i64 ((rd_T41 t417 x103_1).f0),.int .i64 0]) ?_ 1 _ rfl;(with_reducible repeat (first|refine blk_drewN ?_ _|refine blk_drew ?_|refine blk_alloc ?_ _));refine blk_put (cs:=#[.int .i64 0,.int .i64 0]) ?_ 0 _ rfl;(with_reducible repeat (first|refine blk_drewN ?_ _|refine blk_drew ?_|refine blk_alloc ?_ _));exact BK426.out⟩
                          have n9_ : Aside0 (Below w.heap.size w ((w62.setCell ⟨gb426,0,none⟩ (.int .i64 ((rd_T41 t417 x103_1).f0))).setCell ⟨gb426,1,none⟩ (.int .i64 ((rd_T41 t417 x103_1).f1)))):=⟨by repeat (first|(with_reducible first|exact HB.out|apply below_alloc|apply pw_below_drewN|apply below_drew1|refine below_set ?_ GE401.out|refine below_set ?_ GE410.out|refine below_set ?_ GE426.out)|exact HB.out)⟩
                          (try clear HO_5)
                          (try clear HO_101)
                          (try clear HO_402001)
                          (try clear HO_402002)
                          (try clear HO_411001)
                          (try clear HO_411002)
                          (try clear BK401)
                          (try clear BK410)
                          (try clear BK426)
                          (try clear HB)
                          generalize ((w62.setCell ⟨gb426,0,none⟩ (.int .i64 ((rd_T41 t417 x103_1).f0))).setCell ⟨gb426,1,none⟩ (.int .i64 ((rd_T41 t417 x103_1).f1))) = w66 at n0_ n1_ n2_ n3_ n4_ n5_ n6_ n7_ n8_ n9_ ⊢
                          have HO_5:=n0_
                          have HO_101:=n1_
                          have HO_402001:=n2_
                          have HO_402002:=n3_
                          have HO_411001:=n4_
                          have HO_411002:=n5_
                          have BK401:=n6_
                          have BK410:=n7_
                          have BK426:=n8_
                          have HB:=n9_
                          clear n0_ n1_ n2_ n3_ n4_ n5_ n6_ n7_ n8_ n9_
                          have n0_:=Aside0.mk (Kd.R_drew HO_5.out)
                          have n1_:=Aside0.mk (Kd.R_drew HO_101.out)
                          have n2_:=Aside0.mk (Kd.R_drew HO_402001.out)
                          have n3_:=Aside0.mk (Kd.R_drew HO_402002.out)
                          have n4_:=Aside0.mk (Kd.R_drew HO_411001.out)
                          have n5_:=Aside0.mk (Kd.R_drew HO_411002.out)
                          have n6_:=Aside0.mk (blk_drew BK401.out)
                          have n7_:=Aside0.mk (blk_drew BK410.out)
                          have n8_:=Aside0.mk (blk_drew BK426.out)
                          have n9_:=Aside0.mk (below_drew1 HB.out)
                          clear HO_5
                          clear HO_101
                          clear HO_402001
                          clear HO_402002
                          clear HO_411001
                          clear HO_411002
                          clear BK401
                          clear BK410
                          clear BK426
                          clear HB
                          have HO_5:=n0_
                          have HO_101:=n1_
                          have HO_402001:=n2_
                          have HO_402002:=n3_
                          have HO_411001:=n4_
                          have HO_411002:=n5_
                          have BK401:=n6_
                          have BK410:=n7_
                          have BK426:=n8_
                          have HB:=n9_
                          clear n0_ n1_ n2_ n3_ n4_ n5_ n6_ n7_ n8_ n9_
                          have p427 : 0 ≤ (((rd_T41 t417 x103_1).f0) : Int):=of_decide_eq_true az
                          have q427 : ((rd_T41 t417 x103_1).f0) < (t390.length : Int):=of_decide_eq_true az
                          obtain ⟨ad427,e427,hx427_0⟩:=Kd.at_int (Kd.R_reads' HO_5.out).2.2 ((rd_T41 t417 x103_1).f0) p427 q427
                          obtain rfl : ad423 = ad427:=(by injection e427)
                          replace p427:=eq_true p427
                          replace q427:=eq_true q427
                          have p428 : 0 ≤ (((rd_T41 t417 x103_1).f1) : Int):=of_decide_eq_true az
                          have q428 : ((rd_T41 t417 x103_1).f1) < (t390.length : Int):=of_decide_eq_true az
                          obtain ⟨ad428,e428,hx428_0⟩:=Kd.at_int (Kd.R_reads' HO_5.out).2.2 ((rd_T41 t417 x103_1).f1) p428 q428
                          obtain rfl : ad423 = ad428:=(by injection e428)
                          replace p428:=eq_true p428
                          replace q428:=eq_true q428
                          have p429 : 0 ≤ ((ji58) : Int):=of_decide_eq_true az
                          have q429 : (ji58) < (t390.length : Int):=of_decide_eq_true az
                          obtain ⟨ad429,e429,hx429_0⟩:=Kd.at_int (Kd.R_reads' HO_5.out).2.2 (ji58) p429 q429
                          obtain rfl : ad423 = ad429:=(by injection e429)
                          replace p429:=eq_true p429
                          replace q429:=eq_true q429
                          refine start_ (n:=17) (S:=fun w'=>w'.cell? ⟨gb426,0,none⟩ = some (.int .i64 ((rd_T41 t417 x103_1).f0)) ∧ w'.cell? ⟨gb426,1,none⟩ = some (.int .i64 ((rd_T41 t417 x103_1).f1)) ∧ w'.cell? (ad423.add (((rd_T41 t417 x103_1).f0)).toNat) = some (.int .i64 (rd t390 ((rd_T41 t417 x103_1).f0))) ∧ w'.cell? (ad423.add (((rd_T41 t417 x103_1).f1)).toNat) = some (.int .i64 (rd t390 ((rd_T41 t417 x103_1).f1))) ∧ w'.cell? (ad423.add ((ji58)).toNat) = some (.int .i64 (rd t390 (ji58)))) (ds:=[]) #[false,false,false,false,false,false,false,false,false,false,false,false,false,false,false,false,false] (by kernel_rfl) rfl rfl ⟨(blk_cell BK426.out 0).trans rfl,(blk_cell BK426.out 1).trans rfl,hx427_0,hx428_0,hx429_0⟩ (fun hHeld=>?_);refine with_tabW laws_FnChainsArePlans.tab17 laws_FnChainsArePlans.bits17 (fun HT_ HW_=>?_)
                          generalize w66.drew = w67 at HO_5 HO_101 HO_402001 HO_402002 HO_411001 HO_411002 BK401 BK410 BK426 HB hx427_0 hx428_0 hx429_0 hHeld ⊢
                          refine pure_ (i:=0) (N:=some 108) (v:=?_) (a':=?_) #[true,false,false,false,false,false,false,false,false,false,false,false,false,false,false,false,false] rfl rfl (any_of HT_.out (by kernel_rfl)) (fun _ _ _ h=>h) (Or.inl ⟨by rfl,?_⟩) ?_ ?_
                          rotate_left
                          ·intro w'
                           go_simp
                           with_reducible rfl
                          rotate_left
                          ·simp only [Act.put,xa,xb,xc,i64_w,i32_w]
                           rfl
                          refine pure_ (i:=1) (N:=some 109) (v:=?_) (a':=?_) #[true,true,false,false,false,false,false,false,false,false,false,false,false,false,false,false,false] rfl rfl (any_of HT_.out (by kernel_rfl)) (fun _ _ _ h=>h) (Or.inl ⟨by rfl,?_⟩) ?_ ?_
                          rotate_left
                          ·intro w'
                           go_simp
                           with_reducible rfl
                          rotate_left
                          ·simp only [Act.put,xa,xb,xc,i64_w,i32_w]
                           rfl
                          refine pure_ (i:=5) (N:=some 113) (v:=?_) (a':=?_) #[true,true,false,false,false,true,false,false,false,false,false,false,false,false,false,false,false] rfl rfl (any_of HT_.out (by kernel_rfl)) (fun _ _ _ h=>h) (Or.inl ⟨by rfl,?_⟩) ?_ ?_
                          rotate_left
                          ·intro w'
                           go_simp
                           with_reducible rfl
                          rotate_left
                          ·simp only [Act.put,xa,xb,xc,i64_w,i32_w]
                           rfl
                          refine pure_ (i:=6) (N:=some 114) (v:=?_) (a':=?_) #[true,true,false,false,false,true,true,false,false,false,false,false,false,false,false,false,false] rfl rfl (any_of HT_.out (by kernel_rfl)) (fun _ _ _ h=>h) (Or.inl ⟨by rfl,?_⟩) ?_ ?_
                          rotate_left
                          ·intro w'
                           go_simp
                           with_reducible rfl
                          rotate_left
                          ·simp only [Act.put,xa,xb,xc,i64_w,i32_w]
                           rfl
                          refine pure_ (i:=11) (N:=some 119) (v:=?_) (a':=?_) #[true,true,false,false,false,true,true,false,false,false,false,true,false,false,false,false,false] rfl rfl (any_of HT_.out (by kernel_rfl)) (fun _ _ _ h=>h) (Or.inl ⟨by rfl,?_⟩) ?_ ?_
                          rotate_left
                          ·intro w'
                           go_simp
                           with_reducible rfl
                          rotate_left
                          ·simp only [Act.put,xa,xb,xc,i64_w,i32_w]
                           rfl
                          refine pure_ (i:=12) (N:=some 120) (v:=?_) (a':=?_) #[true,true,false,false,false,true,true,false,false,false,false,true,true,false,false,false,false] rfl rfl (any_of HT_.out (by kernel_rfl)) (fun _ _ _ h=>h) (Or.inl ⟨by rfl,?_⟩) ?_ ?_
                          rotate_left
                          ·intro w'
                           go_simp
                           with_reducible rfl
                          rotate_left
                          ·simp only [Act.put,xa,xb,xc,i64_w,i32_w]
                           rfl
                          refine pure_ (i:=13) (N:=some 121) (v:=?_) (a':=?_) #[true,true,false,false,false,true,true,false,false,false,false,true,true,true,false,false,false] rfl rfl (any_of HT_.out (by kernel_rfl)) (fun _ _ _ h=>h) (Or.inl ⟨by rfl,?_⟩) ?_ ?_
                          rotate_left
                          ·intro w'
                           go_simp
                           with_reducible rfl
                          rotate_left
                          ·simp only [Act.put,xa,xb,xc,i64_w,i32_w]
                           rfl
                          refine pure_ (i:=14) (N:=some 122) (v:=?_) (a':=?_) #[true,true,false,false,false,true,true,false,false,false,false,true,true,true,true,false,false] rfl rfl (any_of HT_.out (by kernel_rfl)) (fun _ _ _ h=>h) (Or.inl ⟨by rfl,?_⟩) ?_ ?_
                          rotate_left
                          ·intro w'
                           go_simp
                           with_reducible rfl
                          rotate_left
                          ·simp only [Act.put,xa,xb,xc,i64_w,i32_w]
                           rfl
                          refine take_ (i:=2) (N:=some 110) (v:=?_) (a':=?_) #[true,true,true,false,false,true,true,false,false,false,false,true,true,true,true,false,false] rfl rfl (take_ofW HT_.out HW_.out (by kernel_rfl)) (fun _ _ _ h=>h) (Or.inl ⟨by rfl,?_⟩) hHeld ?_ ?_
                          rotate_left
                          ·rintro w' ⟨s0,s1,s2,s3,s4⟩
                           go_simp
                           with_reducible rfl
                          rotate_left
                          ·simp only [Act.put,xa,xb,xc,i64_w,i32_w]
                           rfl
                          refine pure_ (i:=3) (N:=some 111) (v:=?_) (a':=?_) #[true,true,true,true,false,true,true,false,false,false,false,true,true,true,true,false,false] rfl rfl (any_of HT_.out (by kernel_rfl)) (fun _ _ _ h=>h) (Or.inl ⟨by rfl,?_⟩) ?_ ?_
                          rotate_left
                          ·intro w'
                           go_simp
                           with_reducible rfl
                          rotate_left
                          ·simp only [Act.put,xa,xb,xc,i64_w,i32_w]
                           rfl
                          refine take_ (i:=4) (N:=some 112) (v:=?_) (a':=?_) #[true,true,true,true,true,true,true,false,false,false,false,true,true,true,true,false,false] rfl rfl (take_ofW HT_.out HW_.out (by kernel_rfl)) (fun _ _ _ h=>h) (Or.inl ⟨by rfl,?_⟩) hHeld ?_ ?_
                          rotate_left
                          ·rintro w' ⟨s0,s1,s2,s3,s4⟩
                           go_simp
                           with_reducible rfl
                          rotate_left
                          ·simp only [Act.put,xa,xb,xc,i64_w,i32_w]
                           rfl
                          refine take_ (i:=7) (N:=some 115) (v:=?_) (a':=?_) #[true,true,true,true,true,true,true,true,false,false,false,true,true,true,true,false,false] rfl rfl (take_ofW HT_.out HW_.out (by kernel_rfl)) (fun _ _ _ h=>h) (Or.inl ⟨by rfl,?_⟩) hHeld ?_ ?_
                          rotate_left
                          ·rintro w' ⟨s0,s1,s2,s3,s4⟩
                           go_simp
                           with_reducible rfl
                          rotate_left
                          ·simp only [Act.put,xa,xb,xc,i64_w,i32_w]
                           rfl
                          refine pure_ (i:=8) (N:=some 116) (v:=?_) (a':=?_) #[true,true,true,true,true,true,true,true,true,false,false,true,true,true,true,false,false] rfl rfl (any_of HT_.out (by kernel_rfl)) (fun _ _ _ h=>h) (Or.inl ⟨by rfl,?_⟩) ?_ ?_
                          rotate_left
                          ·intro w'
                           go_simp
                           with_reducible rfl
                          rotate_left
                          ·simp only [Act.put,xa,xb,xc,i64_w,i32_w]
                           rfl
                          refine take_ (i:=9) (N:=some 117) (v:=?_) (a':=?_) #[true,true,true,true,true,true,true,true,true,true,false,true,true,true,true,false,false] rfl rfl (take_ofW HT_.out HW_.out (by kernel_rfl)) (fun _ _ _ h=>h) (Or.inl ⟨by rfl,?_⟩) hHeld ?_ ?_
                          rotate_left
                          ·rintro w' ⟨s0,s1,s2,s3,s4⟩
                           go_simp
                           with_reducible rfl
                          rotate_left
                          ·simp only [Act.put,xa,xb,xc,i64_w,i32_w]
                           rfl
                          refine pure_ (i:=10) (N:=some 118) (v:=?_) (a':=?_) #[true,true,true,true,true,true,true,true,true,true,true,true,true,true,true,false,false] rfl rfl (any_of HT_.out (by kernel_rfl)) (fun _ _ _ h=>h) (Or.inl ⟨by rfl,?_⟩) ?_ ?_
                          rotate_left
                          ·intro w'
                           go_simp
                           with_reducible rfl
                          rotate_left
                          ·simp only [Act.put,xa,xb,xc,i64_w,i32_w]
                           rfl
                          refine take_ (i:=15) (N:=some 123) (v:=?_) (a':=?_) #[true,true,true,true,true,true,true,true,true,true,true,true,true,true,true,true,false] rfl rfl (take_ofW HT_.out HW_.out (by kernel_rfl)) (fun _ _ _ h=>h) (Or.inl ⟨by rfl,?_⟩) hHeld ?_ ?_
                          rotate_left
                          ·rintro w' ⟨s0,s1,s2,s3,s4⟩
                           go_simp
                           with_reducible rfl
                          rotate_left
                          ·simp only [Act.put,xa,xb,xc,i64_w,i32_w]
                           rfl
                          refine pure_ (i:=16) (N:=some 124) (v:=?_) (a':=?_) #[true,true,true,true,true,true,true,true,true,true,true,true,true,true,true,true,true] rfl rfl (any_of HT_.out (by kernel_rfl)) (fun _ _ _ h=>h) (Or.inl ⟨by rfl,?_⟩) ?_ ?_
                          rotate_left
                          ·intro w'
                           go_simp
                           with_reducible rfl
                          rotate_left
                          ·simp only [Act.put,xa,xb,xc,i64_w,i32_w]
                           rfl
                          refine done_ (done_of HT_.out (by kernel_rfl)) ?_
                          try go_wp2
                          go_roundg k1
                          case measure=>have:=HK1.out;omega
                          case rel=>exact ⟨(ji58),(by first|rfl|(simp;done)|(simp only [← hji58] <;> (first|rfl|simp))|(simp [*];done)),H',⟨by have:=HK1.out;omega⟩,⟨by (with_reducible repeat (first|apply Kd.R_alloc|apply Kd.R_drewN|apply Kd.R_drew));exact HO_5.out⟩,⟨by (with_reducible repeat (first|apply Kd.R_alloc|apply Kd.R_drewN|apply Kd.R_drew));exact Kd.R_mono HO_101.out (fun _ hk=>⟨hk.1,hk.2.1⟩)⟩,⟨by (with_reducible repeat (first|apply Kd.R_alloc|apply Kd.R_drewN|apply Kd.R_drew));exact Kd.R_mono HO_402001.out (fun _ hk=>⟨hk.1,hk.2.1⟩)⟩,⟨by (with_reducible repeat (first|apply Kd.R_alloc|apply Kd.R_drewN|apply Kd.R_drew));exact HO_402002.out⟩,⟨by (with_reducible repeat (first|apply Kd.R_alloc|apply Kd.R_drewN|apply Kd.R_drew));exact Kd.R_mono HO_411001.out (fun _ hk=>⟨hk.1,hk.2.1⟩)⟩,⟨by (with_reducible repeat (first|apply Kd.R_alloc|apply Kd.R_drewN|apply Kd.R_drew));exact HO_411002.out⟩,⟨by (with_reducible repeat (first|refine blk_drewN ?_ _|refine blk_drew ?_|refine blk_alloc ?_ _));exact BK401.out⟩,⟨by (with_reducible repeat (first|refine blk_drewN ?_ _|refine blk_drew ?_|refine blk_alloc ?_ _));exact BK410.out⟩,⟨by repeat (first|(with_reducible first|exact HB.out|apply below_alloc|apply pw_below_drewN|apply below_drew1|refine below_set ?_ GE401.out|refine below_set ?_ GE410.out|refine below_set ?_ GE426.out)|exact HB.out)⟩⟩
                         ·rw [if_neg c61] at H
                          exact absurd H (by simp)
                        ·rw [if_neg c60] at H
                         exact absurd H (by simp)
                       ·rw [if_neg c59] at H
                        exact absurd H (by simp)
                      ·rw [if_neg c57] at H
                       exact absurd H (by simp)
                     ·rw [if_neg c56] at H
                      exact absurd H (by simp)
                    ·rw [if_neg c55] at H
                     exact absurd H (by simp)
                   ·rw [if_neg c54] at H
                    exact absurd H (by simp)
                  ·rw [if_neg c53] at H
                   exact absurd H (by simp)
                 ·rw [if_neg c52] at H
                  exact absurd H (by simp)
                ·rw [if_neg c51] at H
                 have c51b0 : decide (x103_1 < (t417.length : Int)) = false:=decide_eq_false c51
                 clear c51
                 obtain ⟨⟨t430,t431⟩,A68,H⟩:=bd H
                 try dsimp only at H
                 obtain ⟨⟨t432,t433⟩,A69,H⟩:=bd H
                 try dsimp only at H
                 by_cases c70 : t431 = true
                 ·subst c70
                  rw [if_pos rfl] at H
                  by_cases c71 : t433 = true
                  ·subst c71
                   rw [if_pos rfl] at H
                   obtain ⟨t436,A72,H⟩:=bd H
                   obtain rfl:=Option.some.inj H
                   go_wp2_with (first|((with_reducible refine gate_callee (f:=15) rfl ?_);refine goesL_ (some 128) rfl rfl Tryz.func15 (by kernel_rfl) rfl #[.slice (some ad423) t390.length co29] rfl mz ?_;(with_reducible refine (impl_ChainText.calls k1 _ _ t390 t430 true _ ?side1 ?side2 A68.out (HV.out.on bz)).mono ?_);(case side1=>exact cz (Kd.R_reads' HO_5.out).2.2);(case side2=>exact (Kd.R_reads' HO_5.out).2.1);rintro e w73 ⟨rfl,hb⟩;refine ⟨_,rfl,?_⟩;have n0_:=Aside0.mk (Kd.R_below (rz HO_5.out) hb);have n1_:=Aside0.mk (Kd.R_below (rz HO_101.out) hb);have n2_:=Aside0.mk (Kd.R_below (rz HO_402001.out) hb);have n3_:=Aside0.mk (Kd.R_below (rz HO_402002.out) hb);have n4_:=Aside0.mk (Kd.R_below (rz HO_411001.out) hb);have n5_:=Aside0.mk (Kd.R_below (rz HO_411002.out) hb);have n6_:=Aside0.mk (kb BK401.out hb);have n7_:=Aside0.mk (kb BK410.out hb);have n8_:=Aside0.mk (below_step bs hb);clear HO_5 HO_101 HO_402001 HO_402002 HO_411001 HO_411002 BK401 BK410 HB;have HO_5:=n0_;have HO_101:=n1_;have HO_402001:=n2_;have HO_402002:=n3_;have HO_411001:=n4_;have HO_411002:=n5_;have BK401:=n6_;have BK410:=n7_;have HB:=n8_;clear n0_ n1_ n2_ n3_ n4_ n5_ n6_ n7_ n8_;(try clear hb))|((with_reducible refine gate_callee (f:=16) rfl ?_);refine goesL_ (some 133) rfl rfl Tryz.func16 (by kernel_rfl) rfl #[.string t430] rfl mz ?_;(with_reducible refine (impl_ParseChain.calls k1 t430 t432 true _ A69.out (HV.out.on bz)).mono ?_);rintro e w74 ⟨v434,rfl,ho0,hb⟩;refine ⟨_,rfl,?_⟩;have n0_:=Aside0.mk (Kd.R_elder' (rz HO_5.out) (Kd.R_base ho0) hb);have n1_:=Aside0.mk (Kd.R_below (rz HO_101.out) hb);have n2_:=Aside0.mk (Kd.R_below (rz HO_402001.out) hb);have n3_:=Aside0.mk (Kd.R_elder' (rz HO_402002.out) (Kd.R_base ho0) hb);have n4_:=Aside0.mk (Kd.R_below (rz HO_411001.out) hb);have n5_:=Aside0.mk (Kd.R_elder' (rz HO_411002.out) (Kd.R_base ho0) hb);have n6_:=Aside0.mk (Kd.R_lower (Kd.R_new' (Kd.R_new' (Kd.R_new' ho0 (Kd.R_lt (rz HO_5.out))) (Kd.R_lt (rz HO_402002.out))) (Kd.R_lt (rz HO_411002.out))) (below_size bs));have n7_:=Aside0.mk (kb BK401.out hb);have n8_:=Aside0.mk (kb BK410.out hb);have n9_:=Aside0.mk (below_step bs hb);clear HO_5 HO_101 HO_402001 HO_402002 HO_411001 HO_411002 BK401 BK410 HB;have HO_5:=n0_;have HO_101:=n1_;have HO_402001:=n2_;have HO_402002:=n3_;have HO_411001:=n4_;have HO_411002:=n5_;have HO435:=n6_;have BK401:=n7_;have BK410:=n8_;have HB:=n9_;clear n0_ n1_ n2_ n3_ n4_ n5_ n6_ n7_ n8_ n9_;(try clear hb);(try clear ho0);obtain ⟨Ao75,co75,eo75⟩:=Kd.R_slice HO435.out;subst eo75)|(go_at_call 12;(with_reducible refine (laws_pSameInts.calls k1 _ _ t432 _ _ t390 t436 _ ?side1 ?side2 ?side3 ?side4 A72.out).mono ?_);(case side1=>exact cz (Kd.R_reads' HO435.out).2.2);(case side2=>exact (Kd.R_reads' HO435.out).2.1);(case side3=>exact cz (Kd.R_reads' HO_5.out).2.2);(case side4=>exact (Kd.R_reads' HO_5.out).2.1);rintro e w' ⟨rfl,⟨nd,rfl⟩⟩))
                   go_ret
                   exact ⟨by first|rfl|(simp [errW_none,errW_some] <;> rfl)|(simp only [← hji22];first|rfl|(simp [errW_none,errW_some] <;> rfl))|(simp [*,errW_none,errW_some] <;> rfl),by repeat (first|(with_reducible first|exact HB.out|apply below_alloc|apply pw_below_drewN|apply below_drew1|refine below_set ?_ GE401.out|refine below_set ?_ GE410.out)|exact HB.out)⟩
                  ·replace c71:=Bool.eq_false_iff.mpr c71
                   subst c71
                   rw [if_neg (show ¬ (false = true) by decide)] at H
                   exact absurd H (by simp)
                 ·replace c70:=Bool.eq_false_iff.mpr c70
                  subst c70
                  rw [if_neg (show ¬ (false = true) by decide)] at H
                  exact absurd H (by simp)
             ·rw [if_neg c27] at H
              exact absurd H (by simp)
            ·replace c26:=Bool.eq_false_iff.mpr c26
             subst c26
             rw [if_neg (show ¬ (false = true) by decide)] at H
             exact absurd H (by simp)
           ·rw [if_neg c24] at H
            exact absurd H (by simp)
          ·rw [if_neg c23] at H
           exact absurd H (by simp)
         ·replace c21:=Bool.eq_false_iff.mpr c21
          subst c21
          rw [if_neg (show ¬ (false = true) by decide)] at H
          exact absurd H (by simp)
        ·replace c19:=Bool.eq_false_iff.mpr c19
         subst c19
         rw [if_neg (show ¬ (false = true) by decide)] at H
         exact absurd H (by simp)
       ·replace c17:=Bool.eq_false_iff.mpr c17
        subst c17
        rw [if_neg (show ¬ (false = true) by decide)] at H
        exact absurd H (by simp)
      ·replace c16:=Bool.eq_false_iff.mpr c16
       subst c16
       rw [if_neg (show ¬ (false = true) by decide)] at H
       exact absurd H (by simp)
     ·replace c13:=Bool.eq_false_iff.mpr c13
      subst c13
      rw [if_neg (show ¬ (false = true) by decide)] at H
      obtain rfl:=Option.some.inj H
      go_enter Tryz.func3,Tryz.ntmps3
      go_wp2_with (first|((with_reducible refine gate_callee (f:=4) rfl ?_);refine goesL_ (some 22) rfl rfl Tryz.func4 (by kernel_rfl) rfl #[.slice A0 l0.length c0,.slice A1 l1.length c1] rfl mz ?_;(with_reducible refine (laws_big.calls _ _ l0 _ _ l1 false _ ?side1 ?side2 ?side3 ?side4 A3.out).mono ?_);(case side1=>exact cz HR0.out);(case side2=>exact HC0.out);(case side3=>exact cz HR1.out);(case side4=>exact HC1.out);rintro e w' ⟨rfl,⟨nd,rfl⟩⟩;refine ⟨_,rfl,?_⟩)|((with_reducible refine gate_callee (f:=5) rfl ?_);refine goesL_ (some 24) rfl rfl Tryz.func5 (by kernel_rfl) rfl #[.slice A0 l0.length c0] rfl mz ?_;(with_reducible refine (spec_DrawChainPlan.calls k _ _ l0 t390 _ ?side1 ?side2 A5.out).mono ?_);(case side1=>exact cz HR0.out);(case side2=>exact HC0.out);rintro e w76 ⟨v391,rfl,ho0,hb⟩;refine ⟨_,rfl,?_⟩;have n0_:=Aside0.mk (Kd.R_lower ho0 (below_size bz));have n1_:=Aside0.mk (below_step bz hb);clear HB;have HO392:=n0_;have HB:=n1_;clear n0_ n1_;(try clear hb);(try clear ho0);obtain ⟨Ao77,co77,eo77⟩:=Kd.R_slice HO392.out;subst eo77)|((with_reducible refine gate_callee (f:=6) rfl ?_);refine goesL_ (some 27) rfl rfl Tryz.func6 (by kernel_rfl) rfl #[.slice Ao77 t390.length co77] rfl mz ?_;(with_reducible refine (impl_ChainPlan.calls k _ _ t390 t393 t394 t397 t400 _ ?side1 ?side2 A6.out).mono ?_);(case side1=>exact cz (Kd.R_reads' HO392.out).2.2);(case side2=>exact (Kd.R_reads' HO392.out).2.1);rintro e w78 ⟨v395,v398,rfl,ho0,ho1,hb⟩;refine ⟨_,rfl,?_⟩;have n0_:=Aside0.mk (Kd.R_elder' (rz HO392.out) (Kd.R_base ho1) hb);have n1_:=Aside0.mk (Kd.R_lower ho0 (below_size bz));have n2_:=Aside0.mk (Kd.R_lower (Kd.R_new' ho1 (Kd.R_lt (rz HO392.out))) (below_size bz));have n3_:=Aside0.mk (below_step bz hb);clear HO392 HB;have HO392:=n0_;have HO396:=n1_;have HO399:=n2_;have HB:=n3_;clear n0_ n1_ n2_ n3_;(try clear hb);(try clear ho0);(try clear ho1))|((with_reducible refine gate_dst (N:=6) rfl ?_);(try (refine gate_guard (by rfl) ?_;dsimp only));refine box_event ?hg (N:=6) ?hd (cs:=#[.int .i64 0,.slice none 0 0,.slice none 0 0]) (t:=28) ?hr ?_;(case hd=>rfl);(case hg=>rfl);(case hr=>first|(go_simp;done)|(go_simp;rfl));intro gb401 hg w79 hbox hb;have n0_:=Aside0.mk (Kd.R_below (rz HO392.out) hb);have n1_:=Aside0.mk (Kd.R_below (rz HO396.out) hb);have n2_:=Aside0.mk (Kd.R_below (rz HO399.out) hb);have n3_:=Aside0.mk (below_step bz hb);have n4_:=Aside0.mk (hbox);have n5_:=Aside0.mk ((by rw [hg];exact (below_size bz) : w.heap.size ≤ gb401));have n6_:=Aside0.mk ((by rw [hg];exact (below_size bz) : w.heap.size ≤ gb401));clear HO392 HO396 HO399 HB;have HO392:=n0_;have HO396:=n1_;have HO399:=n2_;have HB:=n3_;have BK401:=n4_;have GW401:=n5_;have GE401:=n6_;clear n0_ n1_ n2_ n3_ n4_ n5_ n6_;clear hb hbox hg;have hcz80_0 : w79.cell? ⟨gb401,0,none⟩ = some (.int .i64 0):=(blk_cell BK401.out 0).trans rfl;have hcz80_1 : w79.cell? ⟨gb401,1,none⟩ = some (.slice none 0 0):=(blk_cell BK401.out 1).trans rfl;have hcz80_2 : w79.cell? ⟨gb401,2,none⟩ = some (.slice none 0 0):=(blk_cell BK401.out 2).trans rfl;have hfz80_0:=blk_frozen BK401.out 0;have hfz80_1:=blk_frozen BK401.out 1;have hfz80_2:=blk_frozen BK401.out 2;obtain ⟨Ao81,co81,eo81⟩:=Kd.R_slice HO396.out;subst eo81;obtain ⟨Ao82,co82,eo82⟩:=Kd.R_slice HO399.out;subst eo82)|((with_reducible refine gate_callee (f:=7) rfl ?_);refine goesL_ (some 32) rfl rfl Tryz.func7 (by kernel_rfl) rfl #[.slice Ao77 t390.length co77] rfl mz ?_;(with_reducible refine (spec_ChainPlan.calls k _ _ t390 t402 t403 t406 false _ ?side1 ?side2 A7.out).mono ?_);(case side1=>refine (Kd.R_reads' (e:=3) (base:=w.heap.size) (ok:=fun k_=>(True ∧ some k_ ≠ (.slice Ao82 t397.length co82 : Value).ownBlock)) (n:=t390.length) (c:=co77) ?_).2.2;exact (by (with_reducible repeat (first|apply Kd.R_alloc|apply Kd.R_drewN|apply Kd.R_drew));exact (Kd.R_mono (Kd.R_far (p:=⟨gb401,2,none⟩) (Kd.R_far (p:=⟨gb401,1,none⟩) (Kd.R_far (p:=⟨gb401,0,none⟩) (Kd.R_types HO392.out BK401.out (by decide)) (fun _ hk=>hk.2) (.int .i64 t393)) (fun _ hk=>hk.2) (.slice Ao81 t394.length co81)) (fun _ hk=>hk.2) (.slice Ao82 t397.length co82)) (fun _ h_=>h_.1))));(case side2=>exact (Kd.R_reads' HO392.out).2.1);rintro e w83 ⟨v404,v407,rfl,ho0,ho1,hb⟩;refine ⟨_,rfl,?_⟩;have n0_:=Aside0.mk (Kd.R_elder' (by (with_reducible repeat (first|apply Kd.R_alloc|apply Kd.R_drewN|apply Kd.R_drew));exact (Kd.R_mono (Kd.R_far (p:=⟨gb401,2,none⟩) (Kd.R_far (p:=⟨gb401,1,none⟩) (Kd.R_far (p:=⟨gb401,0,none⟩) (Kd.R_types HO392.out BK401.out (by decide)) (fun _ hk=>hk.2) (.int .i64 t393)) (fun _ hk=>hk.2) (.slice Ao81 t394.length co81)) (fun _ hk=>hk.2) (.slice Ao82 t397.length co82)) (fun _ h_=>h_.1))) (Kd.R_base ho1) hb);have n1_:=Aside0.mk (Kd.R_elder' (by (with_reducible repeat (first|apply Kd.R_alloc|apply Kd.R_drewN|apply Kd.R_drew));exact (Kd.R_mono (Kd.R_far (p:=⟨gb401,2,none⟩) (Kd.R_far (p:=⟨gb401,1,none⟩) (Kd.R_far (p:=⟨gb401,0,none⟩) (Kd.R_types HO396.out BK401.out (by decide)) (fun _ hk=>hk.2) (.int .i64 t393)) (fun _ hk=>hk.2) (.slice Ao81 t394.length co81)) (fun _ hk=>hk.2) (.slice Ao82 t397.length co82)) (fun _ h_=>h_.1))) (Kd.R_base ho0) hb);have n2_:=Aside0.mk (Kd.R_elder' (by (with_reducible repeat (first|apply Kd.R_alloc|apply Kd.R_drewN|apply Kd.R_drew));exact (Kd.R_mono (Kd.R_far (p:=⟨gb401,2,none⟩) (Kd.R_far (p:=⟨gb401,1,none⟩) (Kd.R_far (p:=⟨gb401,0,none⟩) (Kd.R_types HO399.out BK401.out (by decide)) (fun _ hk=>hk.2) (.int .i64 t393)) (fun _ hk=>hk.2) (.slice Ao81 t394.length co81)) (fun _ hk=>hk.2) (.slice Ao82 t397.length co82)) (fun _ h_=>h_.1))) (Kd.R_base ho1) hb);have n3_:=Aside0.mk (Kd.R_lower (Kd.R_new' ho0 (Kd.R_lt (by (with_reducible repeat (first|apply Kd.R_alloc|apply Kd.R_drewN|apply Kd.R_drew));exact (Kd.R_mono (Kd.R_far (p:=⟨gb401,2,none⟩) (Kd.R_far (p:=⟨gb401,1,none⟩) (Kd.R_far (p:=⟨gb401,0,none⟩) (Kd.R_types HO396.out BK401.out (by decide)) (fun _ hk=>hk.2) (.int .i64 t393)) (fun _ hk=>hk.2) (.slice Ao81 t394.length co81)) (fun _ hk=>hk.2) (.slice Ao82 t397.length co82)) (fun _ h_=>h_.1))))) (below_size bs));have n4_:=Aside0.mk (Kd.R_lower (Kd.R_new' (Kd.R_new' ho1 (Kd.R_lt (by (with_reducible repeat (first|apply Kd.R_alloc|apply Kd.R_drewN|apply Kd.R_drew));exact (Kd.R_mono (Kd.R_far (p:=⟨gb401,2,none⟩) (Kd.R_far (p:=⟨gb401,1,none⟩) (Kd.R_far (p:=⟨gb401,0,none⟩) (Kd.R_types HO392.out BK401.out (by decide)) (fun _ hk=>hk.2) (.int .i64 t393)) (fun _ hk=>hk.2) (.slice Ao81 t394.length co81)) (fun _ hk=>hk.2) (.slice Ao82 t397.length co82)) (fun _ h_=>h_.1))))) (Kd.R_lt (by (with_reducible repeat (first|apply Kd.R_alloc|apply Kd.R_drewN|apply Kd.R_drew));exact (Kd.R_mono (Kd.R_far (p:=⟨gb401,2,none⟩) (Kd.R_far (p:=⟨gb401,1,none⟩) (Kd.R_far (p:=⟨gb401,0,none⟩) (Kd.R_types HO399.out BK401.out (by decide)) (fun _ hk=>hk.2) (.int .i64 t393)) (fun _ hk=>hk.2) (.slice Ao81 t394.length co81)) (fun _ hk=>hk.2) (.slice Ao82 t397.length co82)) (fun _ h_=>h_.1))))) (below_size bs));have n5_:=Aside0.mk (blk_below (g:=gb401) (o:=.cells #[.int .i64 t393,.slice Ao81 t394.length co81,.slice Ao82 t397.length co82] 28 (0,0)) (by (with_reducible repeat (first|refine blk_drewN ?_ _|refine blk_drew ?_|refine blk_alloc ?_ _));refine blk_put (cs:=#[.int .i64 t393,.slice Ao81 t394.length co81,.slice none 0 0]) ?_ 2 _ rfl;(with_reducible repeat (first|refine blk_drewN ?_ _|refine blk_drew ?_|refine blk_alloc ?_ _));refine blk_put (cs:=#[.int .i64 t393,.slice none 0 0,.slice none 0 0]) ?_ 1 _ rfl;(with_reducible repeat (first|refine blk_drewN ?_ _|refine blk_drew ?_|refine blk_alloc ?_ _));refine blk_put (cs:=#[.int .i64 0,.slice none 0 0,.slice none 0 0]) ?_ 0 _ rfl;(with_reducible repeat (first|refine blk_drewN ?_ _|refine blk_drew ?_|refine blk_alloc ?_ _));exact BK401.out) hb);have n6_:=Aside0.mk (below_step bs hb);clear HO392 HO396 HO399 BK401 HB;have HO392:=n0_;have HO396:=n1_;have HO399:=n2_;have HO405:=n3_;have HO408:=n4_;have BK401:=n5_;have HB:=n6_;clear n0_ n1_ n2_ n3_ n4_ n5_ n6_;(try clear hb);(try clear ho0);(try clear ho1))|((with_reducible refine gate_dst (N:=8) rfl ?_);(try (refine gate_guard (by rfl) ?_;dsimp only));refine box_event ?hg (N:=8) ?hd (cs:=#[.int .i64 0,.slice none 0 0,.slice none 0 0]) (t:=28) ?hr ?_;(case hd=>rfl);(case hg=>rfl);(case hr=>first|(go_simp;done)|(go_simp;rfl));intro gb410 hg w84 hbox hb;have n0_:=Aside0.mk (Kd.R_below (rz HO392.out) hb);have n1_:=Aside0.mk (Kd.R_below (rz HO396.out) hb);have n2_:=Aside0.mk (Kd.R_below (rz HO399.out) hb);have n3_:=Aside0.mk (Kd.R_below (rz HO405.out) hb);have n4_:=Aside0.mk (Kd.R_below (rz HO408.out) hb);have n5_:=Aside0.mk (kb BK401.out hb);have n6_:=Aside0.mk (below_step bs hb);have n7_:=Aside0.mk (hbox);have n8_:=Aside0.mk ((by rw [hg];exact (below_size bs) : w.heap.size ≤ gb410));have n9_:=Aside0.mk ((by rw [hg];exact (below_size bs) : w.heap.size ≤ gb410));have n10_:=Aside0.mk (kn hg BK401.out);have n11_:=Aside0.mk (km hg BK401.out);clear HO392 HO396 HO399 HO405 HO408 BK401 HB;have HO392:=n0_;have HO396:=n1_;have HO399:=n2_;have HO405:=n3_;have HO408:=n4_;have BK401:=n5_;have HB:=n6_;have BK410:=n7_;have GW410:=n8_;have GE410:=n9_;have NB401_410:=n10_;have NB410_401:=n11_;clear n0_ n1_ n2_ n3_ n4_ n5_ n6_ n7_ n8_ n9_ n10_ n11_;clear hb hbox hg;have hnb85:=NB410_401.out;have hnc85:=NB401_410.out;have hcz86_0 : w84.cell? ⟨gb410,0,none⟩ = some (.int .i64 0):=(blk_cell BK410.out 0).trans rfl;have hcz86_1 : w84.cell? ⟨gb410,1,none⟩ = some (.slice none 0 0):=(blk_cell BK410.out 1).trans rfl;have hcz86_2 : w84.cell? ⟨gb410,2,none⟩ = some (.slice none 0 0):=(blk_cell BK410.out 2).trans rfl;have hfz86_0:=blk_frozen BK410.out 0;have hfz86_1:=blk_frozen BK410.out 1;have hfz86_2:=blk_frozen BK410.out 2;obtain ⟨Ao87,co87,eo87⟩:=Kd.R_slice HO405.out;subst eo87;obtain ⟨Ao88,co88,eo88⟩:=Kd.R_slice HO408.out;subst eo88;have hcz89_0 : w84.cell? ⟨gb401,0,none⟩ = some (.int .i64 t393):=(blk_cell BK401.out 0).trans rfl;have hcz89_1 : w84.cell? ⟨gb401,1,none⟩ = some (.slice Ao81 t394.length co81):=(blk_cell BK401.out 1).trans rfl;have hcz89_2 : w84.cell? ⟨gb401,2,none⟩ = some (.slice Ao82 t397.length co82):=(blk_cell BK401.out 2).trans rfl;have hfz89_0:=blk_frozen BK401.out 0;have hfz89_1:=blk_frozen BK401.out 1;have hfz89_2:=blk_frozen BK401.out 2)|(go_at_call 8;(with_reducible refine (laws_pSamePlan.calls k t393 _ _ t394 _ _ t397 t402 _ _ t403 _ _ t406 true _ ?side1 ?side2 ?side3 ?side4 ?side5 ?side6 ?side7 ?side8 A9.out).mono ?_);(case side1=>refine (Kd.R_reads' (e:=41) (base:=w.heap.size) (ok:=fun k_=>(True ∧ some k_ ≠ (.slice Ao87 t403.length co87 : Value).ownBlock)) (n:=t394.length) (c:=co81) ?_).2.2;exact (by (with_reducible repeat (first|apply Kd.R_alloc|apply Kd.R_drewN|apply Kd.R_drew));exact (Kd.R_mono (Kd.R_far (p:=⟨gb410,2,none⟩) (Kd.R_far (p:=⟨gb410,1,none⟩) (Kd.R_far (p:=⟨gb410,0,none⟩) (Kd.R_types HO396.out BK410.out (by decide)) (fun _ hk=>hk.2) (.int .i64 t402)) (fun _ hk=>hk.2) (.slice Ao87 t403.length co87)) (fun _ hk=>hk.2) (.slice Ao88 t406.length co88)) (fun _ h_=>h_.1))));(case side2=>exact (Kd.R_reads' HO396.out).2.1);(case side3=>refine (Kd.R_reads' (e:=3) (base:=w.heap.size) (ok:=fun k_=>((True ∧ some k_ ≠ (.slice Ao77 t390.length co77 : Value).ownBlock) ∧ some k_ ≠ (.slice Ao88 t406.length co88 : Value).ownBlock)) (n:=t397.length) (c:=co82) ?_).2.2;exact (by (with_reducible repeat (first|apply Kd.R_alloc|apply Kd.R_drewN|apply Kd.R_drew));exact (Kd.R_mono (Kd.R_far (p:=⟨gb410,2,none⟩) (Kd.R_far (p:=⟨gb410,1,none⟩) (Kd.R_far (p:=⟨gb410,0,none⟩) (Kd.R_types HO399.out BK410.out (by decide)) (fun _ hk=>hk.2) (.int .i64 t402)) (fun _ hk=>hk.2) (.slice Ao87 t403.length co87)) (fun _ hk=>hk.2) (.slice Ao88 t406.length co88)) (fun _ h_=>h_.1))));(case side4=>exact (Kd.R_reads' HO399.out).2.1);(case side5=>refine (Kd.R_reads' (e:=41) (base:=w.heap.size) (ok:=fun k_=>(True ∧ some k_ ≠ (.slice Ao81 t394.length co81 : Value).ownBlock)) (n:=t403.length) (c:=co87) ?_).2.2;exact (by (with_reducible repeat (first|apply Kd.R_alloc|apply Kd.R_drewN|apply Kd.R_drew));exact (Kd.R_mono (Kd.R_far (p:=⟨gb410,2,none⟩) (Kd.R_far (p:=⟨gb410,1,none⟩) (Kd.R_far (p:=⟨gb410,0,none⟩) (Kd.R_types HO405.out BK410.out (by decide)) (fun _ hk=>hk.2) (.int .i64 t402)) (fun _ hk=>hk.2) (.slice Ao87 t403.length co87)) (fun _ hk=>hk.2) (.slice Ao88 t406.length co88)) (fun _ h_=>h_.1))));(case side6=>exact (Kd.R_reads' HO405.out).2.1);(case side7=>refine (Kd.R_reads' (e:=3) (base:=w.heap.size) (ok:=fun k_=>((True ∧ some k_ ≠ (.slice Ao77 t390.length co77 : Value).ownBlock) ∧ some k_ ≠ (.slice Ao82 t397.length co82 : Value).ownBlock)) (n:=t406.length) (c:=co88) ?_).2.2;exact (by (with_reducible repeat (first|apply Kd.R_alloc|apply Kd.R_drewN|apply Kd.R_drew));exact (Kd.R_mono (Kd.R_far (p:=⟨gb410,2,none⟩) (Kd.R_far (p:=⟨gb410,1,none⟩) (Kd.R_far (p:=⟨gb410,0,none⟩) (Kd.R_types HO408.out BK410.out (by decide)) (fun _ hk=>hk.2) (.int .i64 t402)) (fun _ hk=>hk.2) (.slice Ao87 t403.length co87)) (fun _ hk=>hk.2) (.slice Ao88 t406.length co88)) (fun _ h_=>h_.1))));(case side8=>exact (Kd.R_reads' HO408.out).2.1);rintro e w90 ⟨rfl,hb⟩;have n0_:=Aside0.mk (Kd.R_below (by (with_reducible repeat (first|apply Kd.R_alloc|apply Kd.R_drewN|apply Kd.R_drew));exact (Kd.R_mono (Kd.R_far (p:=⟨gb410,2,none⟩) (Kd.R_far (p:=⟨gb410,1,none⟩) (Kd.R_far (p:=⟨gb410,0,none⟩) (Kd.R_types HO392.out BK410.out (by decide)) (fun _ hk=>hk.2) (.int .i64 t402)) (fun _ hk=>hk.2) (.slice Ao87 t403.length co87)) (fun _ hk=>hk.2) (.slice Ao88 t406.length co88)) (fun _ h_=>h_.1))) hb);have n1_:=Aside0.mk (Kd.R_below (by (with_reducible repeat (first|apply Kd.R_alloc|apply Kd.R_drewN|apply Kd.R_drew));exact (Kd.R_mono (Kd.R_far (p:=⟨gb410,2,none⟩) (Kd.R_far (p:=⟨gb410,1,none⟩) (Kd.R_far (p:=⟨gb410,0,none⟩) (Kd.R_types HO396.out BK410.out (by decide)) (fun _ hk=>hk.2) (.int .i64 t402)) (fun _ hk=>hk.2) (.slice Ao87 t403.length co87)) (fun _ hk=>hk.2) (.slice Ao88 t406.length co88)) (fun _ h_=>h_.1))) hb);have n2_:=Aside0.mk (Kd.R_below (by (with_reducible repeat (first|apply Kd.R_alloc|apply Kd.R_drewN|apply Kd.R_drew));exact (Kd.R_mono (Kd.R_far (p:=⟨gb410,2,none⟩) (Kd.R_far (p:=⟨gb410,1,none⟩) (Kd.R_far (p:=⟨gb410,0,none⟩) (Kd.R_types HO399.out BK410.out (by decide)) (fun _ hk=>hk.2) (.int .i64 t402)) (fun _ hk=>hk.2) (.slice Ao87 t403.length co87)) (fun _ hk=>hk.2) (.slice Ao88 t406.length co88)) (fun _ h_=>h_.1))) hb);have n3_:=Aside0.mk (Kd.R_below (by (with_reducible repeat (first|apply Kd.R_alloc|apply Kd.R_drewN|apply Kd.R_drew));exact (Kd.R_mono (Kd.R_far (p:=⟨gb410,2,none⟩) (Kd.R_far (p:=⟨gb410,1,none⟩) (Kd.R_far (p:=⟨gb410,0,none⟩) (Kd.R_types HO405.out BK410.out (by decide)) (fun _ hk=>hk.2) (.int .i64 t402)) (fun _ hk=>hk.2) (.slice Ao87 t403.length co87)) (fun _ hk=>hk.2) (.slice Ao88 t406.length co88)) (fun _ h_=>h_.1))) hb);have n4_:=Aside0.mk (Kd.R_below (by (with_reducible repeat (first|apply Kd.R_alloc|apply Kd.R_drewN|apply Kd.R_drew));exact (Kd.R_mono (Kd.R_far (p:=⟨gb410,2,none⟩) (Kd.R_far (p:=⟨gb410,1,none⟩) (Kd.R_far (p:=⟨gb410,0,none⟩) (Kd.R_types HO408.out BK410.out (by decide)) (fun _ hk=>hk.2) (.int .i64 t402)) (fun _ hk=>hk.2) (.slice Ao87 t403.length co87)) (fun _ hk=>hk.2) (.slice Ao88 t406.length co88)) (fun _ h_=>h_.1))) hb);have n5_:=Aside0.mk (blk_below (g:=gb401) (o:=.cells #[.int .i64 t393,.slice Ao81 t394.length co81,.slice Ao82 t397.length co82] 28 (0,0)) (by (with_reducible repeat (first|refine blk_drewN ?_ _|refine blk_drew ?_|refine blk_alloc ?_ _));refine blk_far ?_ NB401_410.out _;(with_reducible repeat (first|refine blk_drewN ?_ _|refine blk_drew ?_|refine blk_alloc ?_ _));refine blk_far ?_ NB401_410.out _;(with_reducible repeat (first|refine blk_drewN ?_ _|refine blk_drew ?_|refine blk_alloc ?_ _));refine blk_far ?_ NB401_410.out _;(with_reducible repeat (first|refine blk_drewN ?_ _|refine blk_drew ?_|refine blk_alloc ?_ _));exact BK401.out) hb);have n6_:=Aside0.mk (blk_below (g:=gb410) (o:=.cells #[.int .i64 t402,.slice Ao87 t403.length co87,.slice Ao88 t406.length co88] 28 (0,0)) (by (with_reducible repeat (first|refine blk_drewN ?_ _|refine blk_drew ?_|refine blk_alloc ?_ _));refine blk_put (cs:=#[.int .i64 t402,.slice Ao87 t403.length co87,.slice none 0 0]) ?_ 2 _ rfl;(with_reducible repeat (first|refine blk_drewN ?_ _|refine blk_drew ?_|refine blk_alloc ?_ _));refine blk_put (cs:=#[.int .i64 t402,.slice none 0 0,.slice none 0 0]) ?_ 1 _ rfl;(with_reducible repeat (first|refine blk_drewN ?_ _|refine blk_drew ?_|refine blk_alloc ?_ _));refine blk_put (cs:=#[.int .i64 0,.slice none 0 0,.slice none 0 0]) ?_ 0 _ rfl;(with_reducible repeat (first|refine blk_drewN ?_ _|refine blk_drew ?_|refine blk_alloc ?_ _));exact BK410.out) hb);have n7_:=Aside0.mk (below_step bs hb);clear HO392 HO396 HO399 HO405 HO408 BK401 BK410 HB;have HO392:=n0_;have HO396:=n1_;have HO399:=n2_;have HO405:=n3_;have HO408:=n4_;have BK401:=n5_;have BK410:=n6_;have HB:=n7_;clear n0_ n1_ n2_ n3_ n4_ n5_ n6_ n7_;(try clear hb))|(go_at_call 9;(with_reducible refine (impl_IsChain.calls k _ _ t390 t412 _ ?side1 ?side2 A11.out).mono ?_);(case side1=>exact cz (Kd.R_reads' HO392.out).2.2);(case side2=>exact (Kd.R_reads' HO392.out).2.1);rintro e w91 ⟨rfl,hb⟩;have n0_:=Aside0.mk (Kd.R_below (rz HO392.out) hb);have n1_:=Aside0.mk (Kd.R_below (rz HO396.out) hb);have n2_:=Aside0.mk (Kd.R_below (rz HO399.out) hb);have n3_:=Aside0.mk (Kd.R_below (rz HO405.out) hb);have n4_:=Aside0.mk (Kd.R_below (rz HO408.out) hb);have n5_:=Aside0.mk (kb BK401.out hb);have n6_:=Aside0.mk (kb BK410.out hb);have n7_:=Aside0.mk (below_step bs hb);clear HO392 HO396 HO399 HO405 HO408 BK401 BK410 HB;have HO392:=n0_;have HO396:=n1_;have HO399:=n2_;have HO405:=n3_;have HO408:=n4_;have BK401:=n5_;have BK410:=n6_;have HB:=n7_;clear n0_ n1_ n2_ n3_ n4_ n5_ n6_ n7_;(try clear hb)))
      go_ret
      exact ⟨by first|rfl|(simp [errW_none,errW_some] <;> rfl)|(simp [*,errW_none,errW_some] <;> rfl),by repeat (first|(with_reducible first|exact HB.out|apply below_alloc|apply pw_below_drewN|apply below_drew1|refine below_set ?_ GE401.out|refine below_set ?_ GE410.out)|exact HB.out)⟩
   ·replace c10:=Bool.eq_false_iff.mpr c10
    subst c10
    rw [if_neg (show ¬ (false = true) by decide)] at H
    exact absurd H (by simp)
/-- THE ONE PURE STATEMENT of laws_FnChainsArePlans: yours. -/
def laws_FnChainsArePlans.Pure : Prop:=∀ (l0 : List Int) (l1 : List Int),l0.length ≤ maxLen → l0.length * 1 ≤ 140737488351232 → (∀ x ∈ l0,(Lit.int .u8 x).wf = true) → l1.length ≤ maxLen → l1.length * 1 ≤ 140737488351232 → (∀ x ∈ l1,(Lit.int .u8 x).wf = true) → ∃ k,laws_FnChainsArePlans.f k l0 l1 = some true
theorem laws_FnChainsArePlans.walk (P : laws_FnChainsArePlans.Pure) (a0 : Option Addr) (len0 cap0 : Nat) (z0 : List Int) (a1 : Option Addr) (len1 cap1 : Nat) (z1 : List Int) (w : World) (w0 : (a0 = none ∧ len0 = 0 ∧ cap0 = 0 ∧ z0 = []) ∨ ∃ x,a0 = some x ∧ len0 ≤ cap0 ∧ cap0 ≤ maxLen ∧ z0.length = cap0 ∧ (∀ i,i < z0.length → w.cell? (x.add i) = some (.int .u8 (z0.getD i 0))) ∧ ∀ n ∈ z0,(Lit.int .u8 n).wf = true) (y0 : len0 * 1 ≤ 140737488351232) (w1 : (a1 = none ∧ len1 = 0 ∧ cap1 = 0 ∧ z1 = []) ∨ ∃ x,a1 = some x ∧ len1 ≤ cap1 ∧ cap1 ≤ maxLen ∧ z1.length = cap1 ∧ (∀ i,i < z1.length → w.cell? (x.add i) = some (.int .u8 (z1.getD i 0))) ∧ ∀ n ∈ z1,(Lit.int .u8 n).wf = true) (y1 : len1 * 1 ≤ 140737488351232) (hv : Go.Proofs.YtlefjgpkabijdaaGreatDoor.CW.LibOk w) :
  Calls Tryz.prog 3 #[.slice a0 len0 cap0,.slice a1 len1 cap1] w fun e w'=>e = .returned (.bool true) ∧ Below w.heap.size w w':=by
 obtain ⟨l0,rfl,hr0,hm0,hw0,hc0⟩:=ReadsInt.ofRowC w0
 obtain ⟨l1,rfl,hr1,hm1,hw1,hc1⟩:=ReadsInt.ofRowC w1
 obtain ⟨k,h⟩:=P l0 l1 hm0 y0 hw0 hm1 y1 hw1
 refine (laws_FnChainsArePlans.calls k _ _ l0 _ _ l1 true w (Kd.C_of_reads (d:=(0 : Int)) (h1:=fun _=>rfl) hr0) hc0 (Kd.C_of_reads (d:=(0 : Int)) (h1:=fun _=>rfl) hr1) hc1 h hv).mono ?_
 rintro e w' ⟨rfl,hd⟩
 exact ⟨rfl,hd⟩
end Go.Proofs.YtlefjgpkabijdaaGreatDoor.MFnChainsArePlans
--sq
