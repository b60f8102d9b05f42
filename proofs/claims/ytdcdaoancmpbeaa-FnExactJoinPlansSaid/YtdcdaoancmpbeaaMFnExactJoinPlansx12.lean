import Derived.Test.YtdcdaoancmpbeaaMFnExactJoinPlansx0
import Derived.Test.YtdcdaoancmpbeaaMFnExactJoinPlansx1
import Derived.Test.YtdcdaoancmpbeaaMFnExactJoinPlansx5
import Derived.Test.YtdcdaoancmpbeaaMFnExactJoinPlansx6
import Derived.Test.YtdcdaoancmpbeaaMFnExactJoinPlansx9
import Derived.Test.YtdcdaoancmpbeaaMFnExactJoinPlansx10
import Derived.Test.YtdcdaoancmpbeaaMFnExactJoinPlansx11
namespace Go.Proofs.Ytdcdaoancmpbeaa.MFnExactJoinPlans
open Go.RowKit Go.Proofs.YtdcdaoancmpbeaaW.PrintWords Go.Proofs.YtdcdaoancmpbeaaW.PrintLast Go.Proofs.YtdcdaoancmpbeaaW.PrintMore Go.Proofs.YtdcdaoancmpbeaaV Go.Proofs.YtdcdaoancmpbeaaZ
attribute [local go_sem] max2_int min2_int max_two min_two max_three min_three max_four min_four   -- for this text's walks alone
set_option linter.unusedVariables false
set_option linter.unusedSimpArgs false
/-! ### laws_FnExactJoinPlans: function 3 -/
def laws_FnExactJoinPlans.f (k : Nat) (a0_0 : Int) (l0_1 : List (S93)) (l0_2 : List Int) (a1_0 : Int) (l1_1 : List (S93)) (l1_2 : List Int) : Option (Bool):=(laws_szPlan.f a0_0 l0_1 l0_2 1048576).bind fun t315=>(if t315 < 0 then (some true) else ((laws_szPlan.f a1_0 l1_1 l1_2 t315).bind fun t316=>(if t316 < 0 then (some true) else ((laws_toPlan.f k a0_0 l0_1 l0_2).bind fun bt317=>((laws_toPlan.f k a1_0 l1_1 l1_2).bind fun bt324=>((spec_JoinPlans.f k bt317.1 bt317.2.1 bt317.2.2 bt324.1 bt324.2.1 bt324.2.2).bind fun bt331=>((laws_toPlan.f k a0_0 l0_1 l0_2).bind fun bt340=>((laws_toPlan.f k a1_0 l1_1 l1_2).bind fun bt348=>((impl_JoinPlans.f k bt340.1 bt340.2.1 bt340.2.2 bt348.1 bt348.2.1 bt348.2.2).bind fun bt356=>((laws_eqPlan.f k bt356.1 bt356.2.1 bt356.2.2.1 bt331.1 bt331.2.1 bt331.2.2.1).bind fun t365=>(if t365 = true then (if (bt356.2.2.2 != bt331.2.2.2) = true then (none) else ((laws_toPlan.f k a0_0 l0_1 l0_2).bind fun bt366=>((laws_eqPlan.f k bt340.1 bt340.2.1 bt340.2.2 bt366.1 bt366.2.1 bt366.2.2).bind fun t373=>(if t373 = true then ((laws_toPlan.f k a1_0 l1_1 l1_2).bind fun bt374=>((laws_eqPlan.f k bt348.1 bt348.2.1 bt348.2.2 bt374.1 bt374.2.1 bt374.2.2).bind fun t381=>(if t381 = true then ((laws_markPlan.f k bt340.1 bt340.2.1 bt340.2.2 1).bind fun bt382=>((laws_markPlan.f k bt348.1 bt348.2.1 bt348.2.2 bt382.1).bind fun bt385=>(if bt385.1 < 0 then (none) else ((laws_eqPlan.f k bt356.1 bt356.2.1 bt356.2.2.1 bt331.1 bt331.2.1 bt331.2.2.1).bind fun t388=>(if t388 = true then ((laws_markPlan.f k bt356.1 bt356.2.1 bt356.2.2.1 1).bind fun bt389=>((laws_heldPlan.f k bt356.1 bt389.2.1 bt389.2.2 1).bind fun t392=>(if t392 < 0 then (none) else (if t392 = bt389.1 then ((laws_toPlan.f k a0_0 l0_1 l0_2).bind fun bt393=>((laws_toPlan.f k a1_0 l1_1 l1_2).bind fun bt400=>((impl_JoinPlans.f k bt393.1 bt393.2.1 bt393.2.2 bt400.1 bt400.2.1 bt400.2.2).bind fun bt407=>((laws_eqPlan.f k bt407.1 bt407.2.1 bt407.2.2.1 bt331.1 bt331.2.1 bt331.2.2.1).bind fun t416=>(if t416 = true then (if (bt407.2.2.2 != bt331.2.2.2) = true then (none) else ((laws_heldPlan.f k bt356.1 bt389.2.1 bt389.2.2 1).bind fun t417=>(if t417 < 0 then (none) else (if t417 = bt389.1 then (some true) else (none))))) else (none)))))) else (none))))) else (none)))))) else (none)))) else (none))))) else (none))))))))))))
theorem laws_FnExactJoinPlans.mono : ∀ a0 a1 a2 a3 a4 a5 k,LeO (laws_FnExactJoinPlans.f k a0 a1 a2 a3 a4 a5) (laws_FnExactJoinPlans.f (k + 1) a0 a1 a2 a3 a4 a5):=by
 intro a0 a1 a2 a3 a4 a5 k
 unfold laws_FnExactJoinPlans.f
 repeat' first
   | (with_reducible exact impl_JoinPlans.mono _ _ _ _ _ _ _)
   | (with_reducible exact laws_eqPlan.mono _ _ _ _ _ _ _)
   | (with_reducible exact laws_heldPlan.mono _ _ _ _ _)
   | (with_reducible exact laws_markPlan.mono _ _ _ _ _)
   | (with_reducible exact laws_toPlan.mono _ _ _ _)
   | (with_reducible exact spec_JoinPlans.mono _ _ _ _ _ _ _)
   | (with_reducible exact LeO.refl _)
   | (with_reducible exact LeO.none _)
   | (with_reducible refine LeO.ite ?_ ?_)
   | (with_reducible refine LeO.bind ?_ (fun _=>?_))
   | exact impl_JoinPlans.mono _ _ _ _ _ _ _
   | exact laws_eqPlan.mono _ _ _ _ _ _ _
   | exact laws_heldPlan.mono _ _ _ _ _
   | exact laws_markPlan.mono _ _ _ _ _
   | exact laws_toPlan.mono _ _ _ _
   | exact spec_JoinPlans.mono _ _ _ _ _ _ _
   | exact LeO.none _
   | refine LeO.ite ?_ ?_
   | refine LeO.bind ?_ (fun _=>?_)
def laws_FnExactJoinPlans.T8 : Bool × List (List Nat × List Nat):=(true,[([],[]),([0],[0]),([],[]),([2,1],[2]),([1,3,3],[1,3]),([4],[4]),([5],[5]),([5],[5]),([],[]),([8,6,4,0,1,2,3,4,5,6,8],[6,8]),([7,9,0,1,2,3,4,5,6,7,8,9],[7])])
def laws_FnExactJoinPlans.B8 : List Nat:=[0,1,0,7,15,31,63,63,0,383,1023]
theorem laws_FnExactJoinPlans.tab8 : rtab .any (opsOf Try.f3 8) = laws_FnExactJoinPlans.T8:=by kernel_rfl
theorem laws_FnExactJoinPlans.bits8 : waitsOk laws_FnExactJoinPlans.T8.2 laws_FnExactJoinPlans.B8 = true:=by kernel_rfl
def laws_FnExactJoinPlans.T31 : Bool × List (List Nat × List Nat):=(true,[([],[]),([0],[0]),([],[]),([2,1],[2]),([1,3,3],[1,3]),([4],[4]),([5],[5]),([5],[5]),([],[]),([8,6,4,0,1,2,3,4,5,6,8],[6,8]),([7,9,0,1,2,3,4,5,6,7,8,9],[7])])
def laws_FnExactJoinPlans.B31 : List Nat:=[0,1,0,7,15,31,63,63,0,383,1023]
theorem laws_FnExactJoinPlans.tab31 : rtab .any (opsOf Try.f3 31) = laws_FnExactJoinPlans.T31:=by kernel_rfl
theorem laws_FnExactJoinPlans.bits31 : waitsOk laws_FnExactJoinPlans.T31.2 laws_FnExactJoinPlans.B31 = true:=by kernel_rfl
set_option maxHeartbeats 8000000 in
set_option maxRecDepth 100000 in
theorem laws_FnExactJoinPlans.calls (k : Nat) (a0_0 : Int) (A0_1 : Option Addr) (c0_1 : Nat) (l0_1 : List (S93)) (A0_2 : Option Addr) (c0_2 : Nat) (l0_2 : List Int) (a1_0 : Int) (A1_1 : Option Addr) (c1_1 : Nat) (l1_1 : List (S93)) (A1_2 : Option Addr) (c1_2 : Nat) (l1_2 : List Int) (r : Bool) (w : World) (hr0_1 : Kd.C k93 w A0_1 l0_1.length l0_1) (hc0_1 : l0_1.length ≤ c0_1) (hr0_2 : Kd.C (Kd.int .i64) w A0_2 l0_2.length l0_2) (hc0_2 : l0_2.length ≤ c0_2) (hr1_1 : Kd.C k93 w A1_1 l1_1.length l1_1) (hc1_1 : l1_1.length ≤ c1_1) (hr1_2 : Kd.C (Kd.int .i64) w A1_2 l1_2.length l1_2) (hc1_2 : l1_2.length ≤ c1_2) (h : laws_FnExactJoinPlans.f k a0_0 l0_1 l0_2 a1_0 l1_1 l1_2 = some r) :
  Calls Try.prog 3 #[.agg #[.int .i64 a0_0,.slice A0_1 l0_1.length c0_1,.slice A0_2 l0_2.length c0_2],.agg #[.int .i64 a1_0,.slice A1_1 l1_1.length c1_1,.slice A1_2 l1_2.length c1_2]] w fun e w'=>e = .returned (.bool r) ∧ Below w.heap.size w w':=by
 have hu25:=Try.underlying25
 have hu29:=Try.underlying29
 have HR0_1:=Aside0.mk hr0_1
 have HC0_1:=Aside0.mk hc0_1
 clear hr0_1 hc0_1
 have HR0_2:=Aside0.mk hr0_2
 have HC0_2:=Aside0.mk hc0_2
 clear hr0_2 hc0_2
 have HR1_1:=Aside0.mk hr1_1
 have HC1_1:=Aside0.mk hc1_1
 clear hr1_1 hc1_1
 have HR1_2:=Aside0.mk hr1_2
 have HC1_2:=Aside0.mk hc1_2
 clear hr1_2 hc1_2
 have HB:=Aside0.mk (Below.refl w.heap.size w)
 have H : ((laws_szPlan.f a0_0 l0_1 l0_2 1048576).bind fun t315=>(if t315 < 0 then (some true) else ((laws_szPlan.f a1_0 l1_1 l1_2 t315).bind fun t316=>(if t316 < 0 then (some true) else ((laws_toPlan.f k a0_0 l0_1 l0_2).bind fun bt317=>((laws_toPlan.f k a1_0 l1_1 l1_2).bind fun bt324=>((spec_JoinPlans.f k bt317.1 bt317.2.1 bt317.2.2 bt324.1 bt324.2.1 bt324.2.2).bind fun bt331=>((laws_toPlan.f k a0_0 l0_1 l0_2).bind fun bt340=>((laws_toPlan.f k a1_0 l1_1 l1_2).bind fun bt348=>((impl_JoinPlans.f k bt340.1 bt340.2.1 bt340.2.2 bt348.1 bt348.2.1 bt348.2.2).bind fun bt356=>((laws_eqPlan.f k bt356.1 bt356.2.1 bt356.2.2.1 bt331.1 bt331.2.1 bt331.2.2.1).bind fun t365=>(if t365 = true then (if (bt356.2.2.2 != bt331.2.2.2) = true then (none) else ((laws_toPlan.f k a0_0 l0_1 l0_2).bind fun bt366=>((laws_eqPlan.f k bt340.1 bt340.2.1 bt340.2.2 bt366.1 bt366.2.1 bt366.2.2).bind fun t373=>(if t373 = true then ((laws_toPlan.f k a1_0 l1_1 l1_2).bind fun bt374=>((laws_eqPlan.f k bt348.1 bt348.2.1 bt348.2.2 bt374.1 bt374.2.1 bt374.2.2).bind fun t381=>(if t381 = true then ((laws_markPlan.f k bt340.1 bt340.2.1 bt340.2.2 1).bind fun bt382=>((laws_markPlan.f k bt348.1 bt348.2.1 bt348.2.2 bt382.1).bind fun bt385=>(if bt385.1 < 0 then (none) else ((laws_eqPlan.f k bt356.1 bt356.2.1 bt356.2.2.1 bt331.1 bt331.2.1 bt331.2.2.1).bind fun t388=>(if t388 = true then ((laws_markPlan.f k bt356.1 bt356.2.1 bt356.2.2.1 1).bind fun bt389=>((laws_heldPlan.f k bt356.1 bt389.2.1 bt389.2.2 1).bind fun t392=>(if t392 < 0 then (none) else (if t392 = bt389.1 then ((laws_toPlan.f k a0_0 l0_1 l0_2).bind fun bt393=>((laws_toPlan.f k a1_0 l1_1 l1_2).bind fun bt400=>((impl_JoinPlans.f k bt393.1 bt393.2.1 bt393.2.2 bt400.1 bt400.2.1 bt400.2.2).bind fun bt407=>((laws_eqPlan.f k bt407.1 bt407.2.1 bt407.2.2.1 bt331.1 bt331.2.1 bt331.2.2.1).bind fun t416=>(if t416 = true then (if (bt407.2.2.2 != bt331.2.2.2) = true then (none) else ((laws_heldPlan.f k bt356.1 bt389.2.1 bt389.2.2 1).bind fun t417=>(if t417 < 0 then (none) else (if t417 = bt389.1 then (some true) else (none))))) else (none)))))) else (none))))) else (none)))))) else (none)))) else (none))))) else (none))))))))))))) = some r:=h
 clear h
 obtain ⟨t315,A3,H⟩:=bd H
 by_cases c4 : t315 < 0
 ·rw [if_pos c4] at H
  have c4b0 : decide (t315 < 0) = true:=decide_eq_true c4
  clear c4
  obtain rfl:=Option.some.inj H
  go_enter Try.func3,Try.ntmps3
  go_wp2_with (first|((with_reducible refine gate_dst (N:=2) rfl ?_);refine box_event ?hg (N:=2) ?hd (cs:=#[.int .i64 a0_0,.slice A0_1 l0_1.length c0_1,.slice A0_2 l0_2.length c0_2]) (t:=25) ?hr ?_;(case hd=>rfl);(case hg=>rfl);(case hr=>first|(go_simp;done)|(go_simp;rfl));intro gb313 hg w5 hbox hb;have n0_:=Aside0.mk (below_step bz hb);have n1_:=Aside0.mk (hbox);have n3_:=Aside0.mk ((by rw [hg];exact (below_size bz) : w.heap.size ≤ gb313));clear HB;have HB:=n0_;have BK313:=n1_;have GE313:=n3_;clear n0_ n1_ n3_;clear hb hbox hg)|((with_reducible refine gate_dst (N:=3) rfl ?_);refine box_event ?hg (N:=3) ?hd (cs:=#[.int .i64 a1_0,.slice A1_1 l1_1.length c1_1,.slice A1_2 l1_2.length c1_2]) (t:=25) ?hr ?_;(case hd=>rfl);(case hg=>rfl);(case hr=>first|(go_simp;done)|(go_simp;rfl));intro gb314 hg w6 hbox hb;have n0_:=Aside0.mk (kb BK313.out hb);have n1_:=Aside0.mk (below_step bs hb);clear BK313 HB;have BK313:=n0_;have HB:=n1_;clear n0_ n1_;clear hb hbox hg;have hcz7_0 : w6.cell? ⟨gb313,0,none⟩ = some (.int .i64 a0_0):=(blk_cell BK313.out 0).trans rfl;have hcz7_1 : w6.cell? ⟨gb313,1,none⟩ = some (.slice A0_1 l0_1.length c0_1):=(blk_cell BK313.out 1).trans rfl;have hcz7_2 : w6.cell? ⟨gb313,2,none⟩ = some (.slice A0_2 l0_2.length c0_2):=(blk_cell BK313.out 2).trans rfl;have hfz7_0:=blk_frozen BK313.out 0;have hfz7_1:=blk_frozen BK313.out 1;have hfz7_2:=blk_frozen BK313.out 2)|((with_reducible refine gate_callee (f:=10) rfl ?_);refine goesL_ (some 19) rfl rfl Try.func10 (by kernel_rfl) rfl #[.agg #[.int .i64 a0_0,.slice A0_1 l0_1.length c0_1,.slice A0_2 l0_2.length c0_2],.int .i64 1048576] rfl mz ?_;(with_reducible refine (laws_szPlan.calls a0_0 _ _ l0_1 _ _ l0_2 1048576 t315 _ ?side1 ?side2 ?side3 ?side4 A3.out).mono ?_);(case side1=>exact cz (Kd.C_below HR0_1.out HB.out));(case side2=>exact HC0_1.out);(case side3=>exact cz (Kd.C_below HR0_2.out HB.out));(case side4=>exact HC0_2.out);rintro e w8 ⟨rfl,hb⟩;refine ⟨_,rfl,?_⟩;have n0_:=Aside0.mk (below_step bz hb);clear HB;have HB:=n0_;clear n0_;(try clear hb)))
  go_ret
  exact ⟨by first|rfl|(simp [errW_none,errW_some] <;> rfl)|(simp [*,errW_none,errW_some] <;> rfl),by repeat (first|(with_reducible first|exact HB.out|apply below_alloc|apply pw_below_drewN|apply below_drew1)|exact HB.out)⟩
 ·rw [if_neg c4] at H
  have c4b0 : decide (t315 < 0) = false:=decide_eq_false c4
  clear c4
  obtain ⟨t316,A9,H⟩:=bd H
  by_cases c10 : t316 < 0
  ·rw [if_pos c10] at H
   have c10b0 : decide (t316 < 0) = true:=decide_eq_true c10
   clear c10
   obtain rfl:=Option.some.inj H
   go_enter Try.func3,Try.ntmps3
   go_wp2_with (first|((with_reducible refine gate_dst (N:=2) rfl ?_);refine box_event ?hg (N:=2) ?hd (cs:=#[.int .i64 a0_0,.slice A0_1 l0_1.length c0_1,.slice A0_2 l0_2.length c0_2]) (t:=25) ?hr ?_;(case hd=>rfl);(case hg=>rfl);(case hr=>first|(go_simp;done)|(go_simp;rfl));intro gb313 hg w11 hbox hb;have n0_:=Aside0.mk (below_step bz hb);have n1_:=Aside0.mk (hbox);have n3_:=Aside0.mk ((by rw [hg];exact (below_size bz) : w.heap.size ≤ gb313));clear HB;have HB:=n0_;have BK313:=n1_;have GE313:=n3_;clear n0_ n1_ n3_;clear hb hbox hg)|((with_reducible refine gate_dst (N:=3) rfl ?_);refine box_event ?hg (N:=3) ?hd (cs:=#[.int .i64 a1_0,.slice A1_1 l1_1.length c1_1,.slice A1_2 l1_2.length c1_2]) (t:=25) ?hr ?_;(case hd=>rfl);(case hg=>rfl);(case hr=>first|(go_simp;done)|(go_simp;rfl));intro gb314 hg w12 hbox hb;have n0_:=Aside0.mk (kb BK313.out hb);have n1_:=Aside0.mk (below_step bs hb);have n2_:=Aside0.mk (hbox);have n4_:=Aside0.mk ((by rw [hg];exact (below_size bs) : w.heap.size ≤ gb314));have n5_:=Aside0.mk (kn hg BK313.out);have n6_:=Aside0.mk (km hg BK313.out);clear BK313 HB;have BK313:=n0_;have HB:=n1_;have BK314:=n2_;have GE314:=n4_;have NB313_314:=n5_;have NB314_313:=n6_;clear n0_ n1_ n2_ n4_ n5_ n6_;clear hb hbox hg;have hnb13:=NB313_314.out;have hnc13:=NB314_313.out;have hcz14_0 : w12.cell? ⟨gb313,0,none⟩ = some (.int .i64 a0_0):=(blk_cell BK313.out 0).trans rfl;have hcz14_1 : w12.cell? ⟨gb313,1,none⟩ = some (.slice A0_1 l0_1.length c0_1):=(blk_cell BK313.out 1).trans rfl;have hcz14_2 : w12.cell? ⟨gb313,2,none⟩ = some (.slice A0_2 l0_2.length c0_2):=(blk_cell BK313.out 2).trans rfl;have hfz14_0:=blk_frozen BK313.out 0;have hfz14_1:=blk_frozen BK313.out 1;have hfz14_2:=blk_frozen BK313.out 2)|((with_reducible refine gate_callee (f:=10) rfl ?_);refine goesL_ (some 19) rfl rfl Try.func10 (by kernel_rfl) rfl #[.agg #[.int .i64 a0_0,.slice A0_1 l0_1.length c0_1,.slice A0_2 l0_2.length c0_2],.int .i64 1048576] rfl mz ?_;(with_reducible refine (laws_szPlan.calls a0_0 _ _ l0_1 _ _ l0_2 1048576 t315 _ ?side1 ?side2 ?side3 ?side4 A3.out).mono ?_);(case side1=>exact cz (Kd.C_below HR0_1.out HB.out));(case side2=>exact HC0_1.out);(case side3=>exact cz (Kd.C_below HR0_2.out HB.out));(case side4=>exact HC0_2.out);rintro e w15 ⟨rfl,hb⟩;refine ⟨_,rfl,?_⟩;have n0_:=Aside0.mk (kb BK314.out hb);have n1_:=Aside0.mk (below_step bs hb);clear BK314 HB;have BK314:=n0_;have HB:=n1_;clear n0_ n1_;(try clear hb);have hcz16_0 : w15.cell? ⟨gb314,0,none⟩ = some (.int .i64 a1_0):=(blk_cell BK314.out 0).trans rfl;have hcz16_1 : w15.cell? ⟨gb314,1,none⟩ = some (.slice A1_1 l1_1.length c1_1):=(blk_cell BK314.out 1).trans rfl;have hcz16_2 : w15.cell? ⟨gb314,2,none⟩ = some (.slice A1_2 l1_2.length c1_2):=(blk_cell BK314.out 2).trans rfl;have hfz16_0:=blk_frozen BK314.out 0;have hfz16_1:=blk_frozen BK314.out 1;have hfz16_2:=blk_frozen BK314.out 2)|((with_reducible refine gate_callee (f:=10) rfl ?_);refine goesL_ (some 24) rfl rfl Try.func10 (by kernel_rfl) rfl #[.agg #[.int .i64 a1_0,.slice A1_1 l1_1.length c1_1,.slice A1_2 l1_2.length c1_2],.int .i64 t315] rfl mz ?_;(with_reducible refine (laws_szPlan.calls a1_0 _ _ l1_1 _ _ l1_2 t315 t316 _ ?side1 ?side2 ?side3 ?side4 A9.out).mono ?_);(case side1=>exact cz (Kd.C_below HR1_1.out HB.out));(case side2=>exact HC1_1.out);(case side3=>exact cz (Kd.C_below HR1_2.out HB.out));(case side4=>exact HC1_2.out);rintro e w17 ⟨rfl,hb⟩;refine ⟨_,rfl,?_⟩;have n0_:=Aside0.mk (below_step bz hb);clear HB;have HB:=n0_;clear n0_;(try clear hb)))
   go_ret
   exact ⟨by first|rfl|(simp [errW_none,errW_some] <;> rfl)|(simp [*,errW_none,errW_some] <;> rfl),by repeat (first|(with_reducible first|exact HB.out|apply below_alloc|apply pw_below_drewN|apply below_drew1)|exact HB.out)⟩
  ·rw [if_neg c10] at H
   have c10b0 : decide (t316 < 0) = false:=decide_eq_false c10
   clear c10
   obtain ⟨⟨t317,t318,t321⟩,A18,H⟩:=bd H
   try dsimp only at H
   obtain ⟨⟨t324,t325,t328⟩,A19,H⟩:=bd H
   try dsimp only at H
   obtain ⟨⟨t331,t332,t335,t338⟩,A20,H⟩:=bd H
   try dsimp only at H
   obtain ⟨⟨t340,t341,t344⟩,A21,H⟩:=bd H
   try dsimp only at H
   obtain ⟨⟨t348,t349,t352⟩,A22,H⟩:=bd H
   try dsimp only at H
   obtain ⟨⟨t356,t357,t360,t363⟩,A23,H⟩:=bd H
   try dsimp only at H
   obtain ⟨t365,A24,H⟩:=bd H
   by_cases c25 : t365 = true
   ·subst c25
    rw [if_pos rfl] at H
    by_cases c26 : (t363 != t338) = true
    ·rw [if_pos c26] at H
     exact absurd H (by simp)
    ·rw [if_neg c26] at H
     have c26b0 : (t363 != t338) = false:=by simpa using c26
     (try (have c26b1 : decide (t363 = t338) = true:=by simpa using c26))
     (try (have c26b2 : (t363 == t338) = true:=by simpa using c26))
     clear c26
     obtain ⟨⟨t366,t367,t370⟩,A27,H⟩:=bd H
     try dsimp only at H
     obtain ⟨t373,A28,H⟩:=bd H
     by_cases c29 : t373 = true
     ·subst c29
      rw [if_pos rfl] at H
      obtain ⟨⟨t374,t375,t378⟩,A30,H⟩:=bd H
      try dsimp only at H
      obtain ⟨t381,A31,H⟩:=bd H
      by_cases c32 : t381 = true
      ·subst c32
       rw [if_pos rfl] at H
       obtain ⟨⟨t382,t383,t384⟩,A33,H⟩:=bd H
       try dsimp only at H
       obtain ⟨⟨t385,t386,t387⟩,A34,H⟩:=bd H
       try dsimp only at H
       by_cases c35 : t385 < 0
       ·rw [if_pos c35] at H
        exact absurd H (by simp)
       ·rw [if_neg c35] at H
        have c35b0 : decide (t385 < 0) = false:=decide_eq_false c35
        clear c35
        obtain ⟨t388,A36,H⟩:=bd H
        by_cases c37 : t388 = true
        ·subst c37
         rw [if_pos rfl] at H
         obtain ⟨⟨t389,t390,t391⟩,A38,H⟩:=bd H
         try dsimp only at H
         obtain ⟨t392,A39,H⟩:=bd H
         by_cases c40 : t392 < 0
         ·rw [if_pos c40] at H
          exact absurd H (by simp)
         ·rw [if_neg c40] at H
          have c40b0 : decide (t392 < 0) = false:=decide_eq_false c40
          clear c40
          by_cases c41 : t392 = t389
          ·rw [if_pos c41] at H
           have c41b0 : (t392 == t389) = true:=beq_iff_eq.mpr c41
           have c41b1 : (t392 != t389) = false:=bne_eq_false_iff_eq.mpr c41
           clear c41
           obtain ⟨⟨t393,t394,t397⟩,A42,H⟩:=bd H
           try dsimp only at H
           obtain ⟨⟨t400,t401,t404⟩,A43,H⟩:=bd H
           try dsimp only at H
           obtain ⟨⟨t407,t408,t411,t414⟩,A44,H⟩:=bd H
           try dsimp only at H
           obtain ⟨t416,A45,H⟩:=bd H
           by_cases c46 : t416 = true
           ·subst c46
            rw [if_pos rfl] at H
            by_cases c47 : (t414 != t338) = true
            ·rw [if_pos c47] at H
             exact absurd H (by simp)
            ·rw [if_neg c47] at H
             have c47b0 : (t414 != t338) = false:=by simpa using c47
             (try (have c47b1 : decide (t414 = t338) = true:=by simpa using c47))
             (try (have c47b2 : (t414 == t338) = true:=by simpa using c47))
             clear c47
             obtain ⟨t417,A48,H⟩:=bd H
             by_cases c49 : t417 < 0
             ·rw [if_pos c49] at H
              exact absurd H (by simp)
             ·rw [if_neg c49] at H
              have c49b0 : decide (t417 < 0) = false:=decide_eq_false c49
              clear c49
              by_cases c50 : t417 = t389
              ·rw [if_pos c50] at H
               have c50b0 : (t417 == t389) = true:=beq_iff_eq.mpr c50
               have c50b1 : (t417 != t389) = false:=bne_eq_false_iff_eq.mpr c50
               clear c50
               obtain rfl:=Option.some.inj H
               go_enter Try.func3,Try.ntmps3
               try go_wp2_with (first|((with_reducible refine gate_dst (N:=2) rfl ?_);refine box_event ?hg (N:=2) ?hd (cs:=#[.int .i64 a0_0,.slice A0_1 l0_1.length c0_1,.slice A0_2 l0_2.length c0_2]) (t:=25) ?hr ?_;(case hd=>rfl);(case hg=>rfl);(case hr=>first|(go_simp;done)|(go_simp;rfl));intro gb313 hg w51 hbox hb;have n0_:=Aside0.mk (below_step bz hb);have n1_:=Aside0.mk (hbox);have n3_:=Aside0.mk ((by rw [hg];exact (below_size bz) : w.heap.size ≤ gb313));clear HB;have HB:=n0_;have BK313:=n1_;have GE313:=n3_;clear n0_ n1_ n3_;clear hb hbox hg)|((with_reducible refine gate_dst (N:=3) rfl ?_);refine box_event ?hg (N:=3) ?hd (cs:=#[.int .i64 a1_0,.slice A1_1 l1_1.length c1_1,.slice A1_2 l1_2.length c1_2]) (t:=25) ?hr ?_;(case hd=>rfl);(case hg=>rfl);(case hr=>first|(go_simp;done)|(go_simp;rfl));intro gb314 hg w52 hbox hb;have n0_:=Aside0.mk (kb BK313.out hb);have n1_:=Aside0.mk (below_step bs hb);have n2_:=Aside0.mk (hbox);have n4_:=Aside0.mk ((by rw [hg];exact (below_size bs) : w.heap.size ≤ gb314));have n5_:=Aside0.mk (kn hg BK313.out);have n6_:=Aside0.mk (km hg BK313.out);clear BK313 HB;have BK313:=n0_;have HB:=n1_;have BK314:=n2_;have GE314:=n4_;have NB313_314:=n5_;have NB314_313:=n6_;clear n0_ n1_ n2_ n4_ n5_ n6_;clear hb hbox hg;have hnb53:=NB313_314.out;have hnc53:=NB314_313.out;have hcz54_0 : w52.cell? ⟨gb313,0,none⟩ = some (.int .i64 a0_0):=(blk_cell BK313.out 0).trans rfl;have hcz54_1 : w52.cell? ⟨gb313,1,none⟩ = some (.slice A0_1 l0_1.length c0_1):=(blk_cell BK313.out 1).trans rfl;have hcz54_2 : w52.cell? ⟨gb313,2,none⟩ = some (.slice A0_2 l0_2.length c0_2):=(blk_cell BK313.out 2).trans rfl;have hfz54_0:=blk_frozen BK313.out 0;have hfz54_1:=blk_frozen BK313.out 1;have hfz54_2:=blk_frozen BK313.out 2)|((with_reducible refine gate_callee (f:=10) rfl ?_);refine goesL_ (some 19) rfl rfl Try.func10 (by kernel_rfl) rfl #[.agg #[.int .i64 a0_0,.slice A0_1 l0_1.length c0_1,.slice A0_2 l0_2.length c0_2],.int .i64 1048576] rfl mz ?_;(with_reducible refine (laws_szPlan.calls a0_0 _ _ l0_1 _ _ l0_2 1048576 t315 _ ?side1 ?side2 ?side3 ?side4 A3.out).mono ?_);(case side1=>exact cz (Kd.C_below HR0_1.out HB.out));(case side2=>exact HC0_1.out);(case side3=>exact cz (Kd.C_below HR0_2.out HB.out));(case side4=>exact HC0_2.out);rintro e w55 ⟨rfl,hb⟩;refine ⟨_,rfl,?_⟩;have n0_:=Aside0.mk (kb BK313.out hb);have n1_:=Aside0.mk (kb BK314.out hb);have n2_:=Aside0.mk (below_step bs hb);clear BK313 BK314 HB;have BK313:=n0_;have BK314:=n1_;have HB:=n2_;clear n0_ n1_ n2_;(try clear hb);have hcz56_0 : w55.cell? ⟨gb314,0,none⟩ = some (.int .i64 a1_0):=(blk_cell BK314.out 0).trans rfl;have hcz56_1 : w55.cell? ⟨gb314,1,none⟩ = some (.slice A1_1 l1_1.length c1_1):=(blk_cell BK314.out 1).trans rfl;have hcz56_2 : w55.cell? ⟨gb314,2,none⟩ = some (.slice A1_2 l1_2.length c1_2):=(blk_cell BK314.out 2).trans rfl;have hfz56_0:=blk_frozen BK314.out 0;have hfz56_1:=blk_frozen BK314.out 1;have hfz56_2:=blk_frozen BK314.out 2)|((with_reducible refine gate_callee (f:=10) rfl ?_);refine goesL_ (some 24) rfl rfl Try.func10 (by kernel_rfl) rfl #[.agg #[.int .i64 a1_0,.slice A1_1 l1_1.length c1_1,.slice A1_2 l1_2.length c1_2],.int .i64 t315] rfl mz ?_;(with_reducible refine (laws_szPlan.calls a1_0 _ _ l1_1 _ _ l1_2 t315 t316 _ ?side1 ?side2 ?side3 ?side4 A9.out).mono ?_);(case side1=>exact cz (Kd.C_below HR1_1.out HB.out));(case side2=>exact HC1_1.out);(case side3=>exact cz (Kd.C_below HR1_2.out HB.out));(case side4=>exact HC1_2.out);rintro e w57 ⟨rfl,hb⟩;refine ⟨_,rfl,?_⟩;have n0_:=Aside0.mk (kb BK313.out hb);have n1_:=Aside0.mk (kb BK314.out hb);have n2_:=Aside0.mk (below_step bs hb);clear BK313 BK314 HB;have BK313:=n0_;have BK314:=n1_;have HB:=n2_;clear n0_ n1_ n2_;(try clear hb)))
               have n0_:=Aside0.mk (blk_drew BK313.out)
               have n1_:=Aside0.mk (blk_drew BK314.out)
               have n2_:=Aside0.mk (below_drew1 HB.out)
               clear BK313
               clear BK314
               clear HB
               have BK313:=n0_
               have BK314:=n1_
               have HB:=n2_
               clear n0_ n1_ n2_
               refine start_ (n:=11) (S:=fun w'=>w'.cell? ⟨gb313,0,none⟩ = some (.int .i64 a0_0) ∧ w'.cell? ⟨gb313,1,none⟩ = some (.slice A0_1 l0_1.length c0_1) ∧ w'.cell? ⟨gb313,2,none⟩ = some (.slice A0_2 l0_2.length c0_2) ∧ w'.cell? ⟨gb314,0,none⟩ = some (.int .i64 a1_0) ∧ w'.cell? ⟨gb314,1,none⟩ = some (.slice A1_1 l1_1.length c1_1) ∧ w'.cell? ⟨gb314,2,none⟩ = some (.slice A1_2 l1_2.length c1_2)) (ds:=[]) #[false,false,false,false,false,false,false,false,false,false,false] (by kernel_rfl) rfl rfl ⟨(blk_cell BK313.out 0).trans rfl,(blk_cell BK313.out 1).trans rfl,(blk_cell BK313.out 2).trans rfl,(blk_cell BK314.out 0).trans rfl,(blk_cell BK314.out 1).trans rfl,(blk_cell BK314.out 2).trans rfl⟩ (fun hHeld=>?_);refine with_tabW laws_FnExactJoinPlans.tab8 laws_FnExactJoinPlans.bits8 (fun HT_ HW_=>?_)
               generalize w57.drew = w58 at BK313 BK314 HB hHeld ⊢
               refine take_ (i:=0) (N:=some 28) (v:=?_) (a':=?_) #[true,false,false,false,false,false,false,false,false,false,false] rfl rfl (take_ofW HT_.out HW_.out (by kernel_rfl)) (fun _ _ _ h=>h) (Or.inl ⟨by rfl,?_⟩) hHeld ?_ ?_
               rotate_left
               ·rintro w' ⟨s0,s1,s2,s3,s4,s5⟩
                go_simp
                with_reducible rfl
               rotate_left
               ·simp only [Act.put,xa,xb,xc,i64_w,i32_w]
                rfl
               refine take_ (i:=2) (N:=some 30) (v:=?_) (a':=?_) #[true,false,true,false,false,false,false,false,false,false,false] rfl rfl (take_ofW HT_.out HW_.out (by kernel_rfl)) (fun _ _ _ h=>h) (Or.inl ⟨by rfl,?_⟩) hHeld ?_ ?_
               rotate_left
               ·rintro w' ⟨s0,s1,s2,s3,s4,s5⟩
                go_simp
                with_reducible rfl
               rotate_left
               ·simp only [Act.put,xa,xb,xc,i64_w,i32_w]
                rfl
               refine join_ (σ:=Value × Value × Value × Value × Value × Value × Nat) 2 #[true,true,true,true,true,true,true,true,true,false,false] (fun s_=>[(29,.agg #[.int .i64 t317,s_.1,s_.2.1]),(31,.agg #[.int .i64 t324,s_.2.2.1,s_.2.2.2.1]),(32,.tuple #[.agg #[.int .i64 t331,s_.2.2.2.2.1,s_.2.2.2.2.2.1],.bool t338]),(6,.pointer (some ⟨s_.2.2.2.2.2.2,0,none⟩)),(27,.tuple #[.agg #[.int .i64 t331,s_.2.2.2.2.1,s_.2.2.2.2.2.1],.bool t338]),(33,.agg #[.int .i64 t331,s_.2.2.2.2.1,s_.2.2.2.2.2.1]),(34,.bool t338)]) (fun s_ w'=>(w'.cell? ⟨gb313,0,none⟩ = some (.int .i64 a0_0) ∧ w'.cell? ⟨gb313,1,none⟩ = some (.slice A0_1 l0_1.length c0_1) ∧ w'.cell? ⟨gb313,2,none⟩ = some (.slice A0_2 l0_2.length c0_2) ∧ w'.cell? ⟨gb314,0,none⟩ = some (.int .i64 a1_0) ∧ w'.cell? ⟨gb314,1,none⟩ = some (.slice A1_1 l1_1.length c1_1) ∧ w'.cell? ⟨gb314,2,none⟩ = some (.slice A1_2 l1_2.length c1_2)) ∧ (Kd.R k73 73 w' w.heap.size (fun k_=>some k_ ≠ (s_.2.2.1 : Value).ownBlock ∧ some k_ ≠ (s_.2.2.2.2.1 : Value).ownBlock) s_.1 t318) ∧ (Kd.R (Kd.int .i64) 3 w' w.heap.size (fun k_=>some k_ ≠ (s_.2.2.2.1 : Value).ownBlock ∧ some k_ ≠ (s_.2.2.2.2.2.1 : Value).ownBlock) s_.2.1 t321) ∧ (Kd.R k73 73 w' w.heap.size (fun k_=>some k_ ≠ (s_.1 : Value).ownBlock ∧ some k_ ≠ (s_.2.2.2.2.1 : Value).ownBlock) s_.2.2.1 t325) ∧ (Kd.R (Kd.int .i64) 3 w' w.heap.size (fun k_=>some k_ ≠ (s_.2.1 : Value).ownBlock ∧ some k_ ≠ (s_.2.2.2.2.2.1 : Value).ownBlock) s_.2.2.2.1 t328) ∧ (Kd.R k73 73 w' w.heap.size (fun k_=>some k_ ≠ (s_.1 : Value).ownBlock ∧ some k_ ≠ (s_.2.2.1 : Value).ownBlock) s_.2.2.2.2.1 t332) ∧ (Kd.R (Kd.int .i64) 3 w' w.heap.size (fun k_=>some k_ ≠ (s_.2.1 : Value).ownBlock ∧ some k_ ≠ (s_.2.2.2.1 : Value).ownBlock) s_.2.2.2.2.2.1 t335) ∧ (w'.heap[gb313]? = some (.cells #[.int .i64 a0_0,.slice A0_1 l0_1.length c0_1,.slice A0_2 l0_2.length c0_2] 25 (0,0))) ∧ (w'.heap[gb314]? = some (.cells #[.int .i64 a1_0,.slice A1_1 l1_1.length c1_1,.slice A1_2 l1_2.length c1_2] 25 (0,0))) ∧ (w'.heap[s_.2.2.2.2.2.2]? = some (.cells #[.int .i64 0,.slice none 0 0,.slice none 0 0] 29 (0,0))) ∧ (w.heap.size ≤ s_.2.2.2.2.2.2) ∧ (w.heap.size ≤ s_.2.2.2.2.2.2) ∧ (gb313 ≠ s_.2.2.2.2.2.2) ∧ (s_.2.2.2.2.2.2 ≠ gb313) ∧ (gb314 ≠ s_.2.2.2.2.2.2) ∧ (s_.2.2.2.2.2.2 ≠ gb314) ∧ (Below w.heap.size w w')) ?_ ?_
               rotate_left
               ·intro hCont
                refine two_ (i:=1) (j:=8) (Ni:=some 29) (Nj:=some 6) #[true,true,true,false,false,false,false,false,false,false,false] #[true,false,true,false,false,false,false,false,true,false,false] rfl rfl rfl rfl (two_of HT_.out (by kernel_rfl)) (by decide) (by decide) (fun K hK=>?_) (fun K hK=>?_)
                ·skip
                 refine goes_ Try.func12 (by kernel_rfl) rfl #[.agg #[.int .i64 a0_0,.slice A0_1 l0_1.length c0_1,.slice A0_2 l0_2.length c0_2]] (by rfl) rfl rfl mz ?_
                 with_reducible refine (laws_toPlan.calls k a0_0 _ _ l0_1 _ _ l0_2 t317 t318 t321 _ ?side1 ?side2 ?side3 ?side4 A18.out).mono ?_
                 (case side1=>exact cz (Kd.C_below HR0_1.out HB.out))
                 (case side2=>exact HC0_1.out)
                 (case side3=>exact cz (Kd.C_below HR0_2.out HB.out))
                 (case side4=>exact HC0_2.out)
                 rintro e w59 ⟨v319,v322,rfl,ho0,ho1,hb⟩
                 refine ⟨_,rfl,?_⟩
                 have n0_:=Aside0.mk (Kd.R_lower ho0 (below_size bs))
                 have n1_:=Aside0.mk (Kd.R_lower ho1 (below_size bs))
                 have n2_:=Aside0.mk (kb BK313.out hb)
                 have n3_:=Aside0.mk (kb BK314.out hb)
                 have n4_:=Aside0.mk (below_step bs hb)
                 clear BK313
                 clear BK314
                 clear HB
                 have HO320:=n0_
                 have HO323:=n1_
                 have BK313:=n2_
                 have BK314:=n3_
                 have HB:=n4_
                 clear n0_ n1_ n2_ n3_ n4_
                 (try clear hb)
                 (try clear ho0)
                 (try clear ho1)
                 refine hK.out _ _ ⟨(blk_cell BK313.out 0).trans rfl,(blk_cell BK313.out 1).trans rfl,(blk_cell BK313.out 2).trans rfl,(blk_cell BK314.out 0).trans rfl,(blk_cell BK314.out 1).trans rfl,(blk_cell BK314.out 2).trans rfl⟩ (fun hHeld=>?_)
                 clear hK K
                 refine norm_ (a':=?_) ?_ ?_
                 rotate_left
                 ·show Act.put _ (some 29) _ = _
                  simp only [Act.put,xa,xb,xc,i64_w,i32_w]
                  rfl
                 refine two_ (i:=3) (j:=8) (Ni:=some 31) (Nj:=some 6) #[true,true,true,true,false,false,false,false,false,false,false] #[true,true,true,false,false,false,false,false,true,false,false] rfl rfl rfl rfl (two_of HT_.out (by kernel_rfl)) (by decide) (by decide) (fun K hK=>?_) (fun K hK=>?_)
                 ·skip
                  refine goes_ Try.func12 (by kernel_rfl) rfl #[.agg #[.int .i64 a1_0,.slice A1_1 l1_1.length c1_1,.slice A1_2 l1_2.length c1_2]] (by rfl) rfl rfl mz ?_
                  with_reducible refine (laws_toPlan.calls k a1_0 _ _ l1_1 _ _ l1_2 t324 t325 t328 _ ?side1 ?side2 ?side3 ?side4 A19.out).mono ?_
                  (case side1=>exact cz (Kd.C_below HR1_1.out HB.out))
                  (case side2=>exact HC1_1.out)
                  (case side3=>exact cz (Kd.C_below HR1_2.out HB.out))
                  (case side4=>exact HC1_2.out)
                  rintro e w60 ⟨v326,v329,rfl,ho0,ho1,hb⟩
                  refine ⟨_,rfl,?_⟩
                  have n0_:=Aside0.mk (Kd.R_elder' (rz HO320.out) (Kd.R_base ho0) hb)
                  have n1_:=Aside0.mk (Kd.R_elder' (rz HO323.out) (Kd.R_base ho1) hb)
                  have n2_:=Aside0.mk (Kd.R_lower (Kd.R_new' ho0 (Kd.R_lt (rz HO320.out))) (below_size bs))
                  have n3_:=Aside0.mk (Kd.R_lower (Kd.R_new' ho1 (Kd.R_lt (rz HO323.out))) (below_size bs))
                  have n4_:=Aside0.mk (kb BK313.out hb)
                  have n5_:=Aside0.mk (kb BK314.out hb)
                  have n6_:=Aside0.mk (below_step bs hb)
                  clear HO320
                  clear HO323
                  clear BK313
                  clear BK314
                  clear HB
                  have HO320:=n0_
                  have HO323:=n1_
                  have HO327:=n2_
                  have HO330:=n3_
                  have BK313:=n4_
                  have BK314:=n5_
                  have HB:=n6_
                  clear n0_ n1_ n2_ n3_ n4_ n5_ n6_
                  (try clear hb)
                  (try clear ho0)
                  (try clear ho1)
                  obtain ⟨Ao61,co61,eo61⟩:=Kd.R_slice HO320.out
                  (first|subst eo61|(injection eo61 with f1_ f2_ f3_;have f4_:=f1_.symm;have f5_:=f3_.symm;clear f1_ f2_ f3_;subst f4_;subst f5_))
                  obtain ⟨Ao62,co62,eo62⟩:=Kd.R_slice HO323.out
                  (first|subst eo62|(injection eo62 with f1_ f2_ f3_;have f4_:=f1_.symm;have f5_:=f3_.symm;clear f1_ f2_ f3_;subst f4_;subst f5_))
                  obtain ⟨Ao63,co63,eo63⟩:=Kd.R_slice HO327.out
                  (first|subst eo63|(injection eo63 with f1_ f2_ f3_;have f4_:=f1_.symm;have f5_:=f3_.symm;clear f1_ f2_ f3_;subst f4_;subst f5_))
                  obtain ⟨Ao64,co64,eo64⟩:=Kd.R_slice HO330.out
                  (first|subst eo64|(injection eo64 with f1_ f2_ f3_;have f4_:=f1_.symm;have f5_:=f3_.symm;clear f1_ f2_ f3_;subst f4_;subst f5_))
                  refine hK.out _ _ ⟨(blk_cell BK313.out 0).trans rfl,(blk_cell BK313.out 1).trans rfl,(blk_cell BK313.out 2).trans rfl,(blk_cell BK314.out 0).trans rfl,(blk_cell BK314.out 1).trans rfl,(blk_cell BK314.out 2).trans rfl⟩ (fun hHeld=>?_)
                  clear hK K
                  refine norm_ (a':=?_) ?_ ?_
                  rotate_left
                  ·show Act.put _ (some 31) _ = _
                   simp only [Act.put,xa,xb,xc,i64_w,i32_w]
                   rfl
                  refine two_ (i:=4) (j:=8) (Ni:=some 32) (Nj:=some 6) #[true,true,true,true,true,false,false,false,false,false,false] #[true,true,true,true,false,false,false,false,true,false,false] rfl rfl rfl rfl (two_of HT_.out (by kernel_rfl)) (by decide) (by decide) (fun K hK=>?_) (fun K hK=>?_)
                  ·skip
                   refine goes_ Try.func11 (by kernel_rfl) rfl #[.agg #[.int .i64 t317,.slice Ao61 t318.length co61,.slice Ao62 t321.length co62],.agg #[.int .i64 t324,.slice Ao63 t325.length co63,.slice Ao64 t328.length co64]] (by rfl) rfl rfl mz ?_
                   with_reducible refine (spec_JoinPlans.calls k t317 _ _ t318 _ _ t321 t324 _ _ t325 _ _ t328 t331 t332 t335 t338 _ ?side1 ?side2 ?side3 ?side4 ?side5 ?side6 ?side7 ?side8 A20.out).mono ?_
                   (case side1=>exact cz (Kd.R_reads' HO320.out).2.2)
                   (case side2=>exact (Kd.R_reads' HO320.out).2.1)
                   (case side3=>exact cz (Kd.R_reads' HO323.out).2.2)
                   (case side4=>exact (Kd.R_reads' HO323.out).2.1)
                   (case side5=>exact cz (Kd.R_reads' HO327.out).2.2)
                   (case side6=>exact (Kd.R_reads' HO327.out).2.1)
                   (case side7=>exact cz (Kd.R_reads' HO330.out).2.2)
                   (case side8=>exact (Kd.R_reads' HO330.out).2.1)
                   rintro e w65 ⟨v333,v336,rfl,ho0,ho1,hb⟩
                   refine ⟨_,rfl,?_⟩
                   have n0_:=Aside0.mk (Kd.R_elder' (rz HO320.out) (Kd.R_base ho0) hb)
                   have n1_:=Aside0.mk (Kd.R_elder' (rz HO323.out) (Kd.R_base ho1) hb)
                   have n2_:=Aside0.mk (Kd.R_elder' (rz HO327.out) (Kd.R_base ho0) hb)
                   have n3_:=Aside0.mk (Kd.R_elder' (rz HO330.out) (Kd.R_base ho1) hb)
                   have n4_:=Aside0.mk (Kd.R_lower (Kd.R_new' (Kd.R_new' ho0 (Kd.R_lt (rz HO320.out))) (Kd.R_lt (rz HO327.out))) (below_size bs))
                   have n5_:=Aside0.mk (Kd.R_lower (Kd.R_new' (Kd.R_new' ho1 (Kd.R_lt (rz HO323.out))) (Kd.R_lt (rz HO330.out))) (below_size bs))
                   have n6_:=Aside0.mk (kb BK313.out hb)
                   have n7_:=Aside0.mk (kb BK314.out hb)
                   have n8_:=Aside0.mk (below_step bs hb)
                   clear HO320
                   clear HO323
                   clear HO327
                   clear HO330
                   clear BK313
                   clear BK314
                   clear HB
                   have HO320:=n0_
                   have HO323:=n1_
                   have HO327:=n2_
                   have HO330:=n3_
                   have HO334:=n4_
                   have HO337:=n5_
                   have BK313:=n6_
                   have BK314:=n7_
                   have HB:=n8_
                   clear n0_ n1_ n2_ n3_ n4_ n5_ n6_ n7_ n8_
                   (try clear hb)
                   (try clear ho0)
                   (try clear ho1)
                   refine hK.out _ _ ⟨(blk_cell BK313.out 0).trans rfl,(blk_cell BK313.out 1).trans rfl,(blk_cell BK313.out 2).trans rfl,(blk_cell BK314.out 0).trans rfl,(blk_cell BK314.out 1).trans rfl,(blk_cell BK314.out 2).trans rfl⟩ (fun hHeld=>?_)
                   clear hK K
                   refine norm_ (a':=?_) ?_ ?_
                   rotate_left
                   ·show Act.put _ (some 32) _ = _
                    simp only [Act.put,xa,xb,xc,i64_w,i32_w]
                    rfl
                   refine pure_ (i:=5) (N:=some 27) (v:=?_) (a':=?_) #[true,true,true,true,true,true,false,false,false,false,false] rfl rfl (any_of HT_.out (by kernel_rfl)) (fun _ _ _ h=>h) (Or.inl ⟨by rfl,?_⟩) ?_ ?_
                   rotate_left
                   ·intro w'
                    go_simp
                    with_reducible rfl
                   rotate_left
                   ·simp only [Act.put,xa,xb,xc,i64_w,i32_w]
                    rfl
                   refine pure_ (i:=6) (N:=some 33) (v:=?_) (a':=?_) #[true,true,true,true,true,true,true,false,false,false,false] rfl rfl (any_of HT_.out (by kernel_rfl)) (fun _ _ _ h=>h) (Or.inl ⟨by rfl,?_⟩) ?_ ?_
                   rotate_left
                   ·intro w'
                    go_simp
                    with_reducible rfl
                   rotate_left
                   ·simp only [Act.put,xa,xb,xc,i64_w,i32_w]
                    rfl
                   refine pure_ (i:=7) (N:=some 34) (v:=?_) (a':=?_) #[true,true,true,true,true,true,true,true,false,false,false] rfl rfl (any_of HT_.out (by kernel_rfl)) (fun _ _ _ h=>h) (Or.inl ⟨by rfl,?_⟩) ?_ ?_
                   rotate_left
                   ·intro w'
                    go_simp
                    with_reducible rfl
                   rotate_left
                   ·simp only [Act.put,xa,xb,xc,i64_w,i32_w]
                    rfl
                   refine one_ (i:=8) (N:=some 6) #[true,true,true,true,true,true,true,true,true,false,false] rfl rfl (one_of HT_.out (by kernel_rfl)) (by decide) (fun K hK=>?_)
                   refine box_step ?hg (N:=6) ?hd (cs:=#[.int .i64 0,.slice none 0 0,.slice none 0 0]) (t:=29) ?hr ?_;(case hd=>rfl);(case hg=>rfl);(case hr=>first|(go_simp;done)|(go_simp;rfl))
                   intro gb339 hg w66 hbox hb
                   have n0_:=Aside0.mk (Kd.R_below (rz HO320.out) hb)
                   have n1_:=Aside0.mk (Kd.R_below (rz HO323.out) hb)
                   have n2_:=Aside0.mk (Kd.R_below (rz HO327.out) hb)
                   have n3_:=Aside0.mk (Kd.R_below (rz HO330.out) hb)
                   have n4_:=Aside0.mk (Kd.R_below (rz HO334.out) hb)
                   have n5_:=Aside0.mk (Kd.R_below (rz HO337.out) hb)
                   have n6_:=Aside0.mk (kb BK313.out hb)
                   have n7_:=Aside0.mk (kb BK314.out hb)
                   have n8_:=Aside0.mk (below_step bs hb)
                   have n9_:=Aside0.mk (hbox)
                   have n10_:=Aside0.mk ((by rw [hg];exact (below_size bs) : w.heap.size ≤ gb339))
                   have n11_:=Aside0.mk ((by rw [hg];exact (below_size bs) : w.heap.size ≤ gb339))
                   have n12_:=Aside0.mk (kn hg BK313.out)
                   have n13_:=Aside0.mk (km hg BK313.out)
                   have n14_:=Aside0.mk (kn hg BK314.out)
                   have n15_:=Aside0.mk (km hg BK314.out)
                   clear HO320
                   clear HO323
                   clear HO327
                   clear HO330
                   clear HO334
                   clear HO337
                   clear BK313
                   clear BK314
                   clear HB
                   have HO320:=n0_
                   have HO323:=n1_
                   have HO327:=n2_
                   have HO330:=n3_
                   have HO334:=n4_
                   have HO337:=n5_
                   have BK313:=n6_
                   have BK314:=n7_
                   have HB:=n8_
                   have BK339:=n9_
                   have GW339:=n10_
                   have GE339:=n11_
                   have NB313_339:=n12_
                   have NB339_313:=n13_
                   have NB314_339:=n14_
                   have NB339_314:=n15_
                   clear n0_ n1_ n2_ n3_ n4_ n5_ n6_ n7_ n8_ n9_ n10_ n11_ n12_ n13_ n14_ n15_
                   clear hb hbox hg
                   refine hK.out _ _ ⟨(blk_cell BK313.out 0).trans rfl,(blk_cell BK313.out 1).trans rfl,(blk_cell BK313.out 2).trans rfl,(blk_cell BK314.out 0).trans rfl,(blk_cell BK314.out 1).trans rfl,(blk_cell BK314.out 2).trans rfl⟩ (fun hHeld=>?_)
                   clear hK K
                   refine norm_ (a':=?_) ?_ ?_
                   rotate_left
                   ·show Act.put _ (some 6) _ = _
                    simp only [Act.put,xa,xb,xc,i64_w,i32_w]
                    rfl
                   exact norm_ (by simp only [putAll,Act.put,xa,xb,xc]) (hCont (.slice Ao61 t318.length co61,.slice Ao62 t321.length co62,.slice Ao63 t325.length co63,.slice Ao64 t328.length co64,v333,v336,gb339) _ ⟨hHeld,(by (with_reducible repeat (first|apply Kd.R_alloc|apply Kd.R_drewN|apply Kd.R_drew));exact Kd.R_mono HO320.out (fun _ hk=>⟨hk.1.2,hk.2⟩)),(by (with_reducible repeat (first|apply Kd.R_alloc|apply Kd.R_drewN|apply Kd.R_drew));exact Kd.R_mono HO323.out (fun _ hk=>⟨hk.1.2,hk.2⟩)),(by (with_reducible repeat (first|apply Kd.R_alloc|apply Kd.R_drewN|apply Kd.R_drew));exact Kd.R_mono HO327.out (fun _ hk=>⟨hk.1.2,hk.2⟩)),(by (with_reducible repeat (first|apply Kd.R_alloc|apply Kd.R_drewN|apply Kd.R_drew));exact Kd.R_mono HO330.out (fun _ hk=>⟨hk.1.2,hk.2⟩)),(by (with_reducible repeat (first|apply Kd.R_alloc|apply Kd.R_drewN|apply Kd.R_drew));exact Kd.R_mono HO334.out (fun _ hk=>⟨hk.1.2,hk.2⟩)),(by (with_reducible repeat (first|apply Kd.R_alloc|apply Kd.R_drewN|apply Kd.R_drew));exact Kd.R_mono HO337.out (fun _ hk=>⟨hk.1.2,hk.2⟩)),(kz BK313.out),(kz BK314.out),(kz BK339.out),GW339.out,GE339.out,NB313_339.out,NB339_313.out,NB314_339.out,NB339_314.out,bs⟩)
                  ·skip
                   refine box_step ?hg (N:=6) ?hd (cs:=#[.int .i64 0,.slice none 0 0,.slice none 0 0]) (t:=29) ?hr ?_;(case hd=>rfl);(case hg=>rfl);(case hr=>first|(go_simp;done)|(go_simp;rfl))
                   intro gb339 hg w61 hbox hb
                   have n0_:=Aside0.mk (Kd.R_below (rz HO320.out) hb)
                   have n1_:=Aside0.mk (Kd.R_below (rz HO323.out) hb)
                   have n2_:=Aside0.mk (Kd.R_below (rz HO327.out) hb)
                   have n3_:=Aside0.mk (Kd.R_below (rz HO330.out) hb)
                   have n4_:=Aside0.mk (kb BK313.out hb)
                   have n5_:=Aside0.mk (kb BK314.out hb)
                   have n6_:=Aside0.mk (below_step bs hb)
                   have n7_:=Aside0.mk (hbox)
                   have n8_:=Aside0.mk ((by rw [hg];exact (below_size bs) : w.heap.size ≤ gb339))
                   have n9_:=Aside0.mk ((by rw [hg];exact (below_size bs) : w.heap.size ≤ gb339))
                   have n10_:=Aside0.mk (kn hg BK313.out)
                   have n11_:=Aside0.mk (km hg BK313.out)
                   have n12_:=Aside0.mk (kn hg BK314.out)
                   have n13_:=Aside0.mk (km hg BK314.out)
                   clear HO320
                   clear HO323
                   clear HO327
                   clear HO330
                   clear BK313
                   clear BK314
                   clear HB
                   have HO320:=n0_
                   have HO323:=n1_
                   have HO327:=n2_
                   have HO330:=n3_
                   have BK313:=n4_
                   have BK314:=n5_
                   have HB:=n6_
                   have BK339:=n7_
                   have GW339:=n8_
                   have GE339:=n9_
                   have NB313_339:=n10_
                   have NB339_313:=n11_
                   have NB314_339:=n12_
                   have NB339_314:=n13_
                   clear n0_ n1_ n2_ n3_ n4_ n5_ n6_ n7_ n8_ n9_ n10_ n11_ n12_ n13_
                   clear hb hbox hg
                   obtain ⟨Ao62,co62,eo62⟩:=Kd.R_slice HO320.out
                   (first|subst eo62|(injection eo62 with f1_ f2_ f3_;have f4_:=f1_.symm;have f5_:=f3_.symm;clear f1_ f2_ f3_;subst f4_;subst f5_))
                   obtain ⟨Ao63,co63,eo63⟩:=Kd.R_slice HO323.out
                   (first|subst eo63|(injection eo63 with f1_ f2_ f3_;have f4_:=f1_.symm;have f5_:=f3_.symm;clear f1_ f2_ f3_;subst f4_;subst f5_))
                   obtain ⟨Ao64,co64,eo64⟩:=Kd.R_slice HO327.out
                   (first|subst eo64|(injection eo64 with f1_ f2_ f3_;have f4_:=f1_.symm;have f5_:=f3_.symm;clear f1_ f2_ f3_;subst f4_;subst f5_))
                   obtain ⟨Ao65,co65,eo65⟩:=Kd.R_slice HO330.out
                   (first|subst eo65|(injection eo65 with f1_ f2_ f3_;have f4_:=f1_.symm;have f5_:=f3_.symm;clear f1_ f2_ f3_;subst f4_;subst f5_))
                   refine hK.out _ _ ⟨(blk_cell BK313.out 0).trans rfl,(blk_cell BK313.out 1).trans rfl,(blk_cell BK313.out 2).trans rfl,(blk_cell BK314.out 0).trans rfl,(blk_cell BK314.out 1).trans rfl,(blk_cell BK314.out 2).trans rfl⟩ (fun hHeld=>?_)
                   clear hK K
                   refine norm_ (a':=?_) ?_ ?_
                   rotate_left
                   ·show Act.put _ (some 6) _ = _
                    simp only [Act.put,xa,xb,xc,i64_w,i32_w]
                    rfl
                   refine one_ (i:=4) (N:=some 32) #[true,true,true,true,true,false,false,false,true,false,false] rfl rfl (one_of HT_.out (by kernel_rfl)) (by decide) (fun K hK=>?_)
                   refine goes_ Try.func11 (by kernel_rfl) rfl #[.agg #[.int .i64 t317,.slice Ao62 t318.length co62,.slice Ao63 t321.length co63],.agg #[.int .i64 t324,.slice Ao64 t325.length co64,.slice Ao65 t328.length co65]] (by rfl) rfl rfl mz ?_
                   with_reducible refine (spec_JoinPlans.calls k t317 _ _ t318 _ _ t321 t324 _ _ t325 _ _ t328 t331 t332 t335 t338 _ ?side1 ?side2 ?side3 ?side4 ?side5 ?side6 ?side7 ?side8 A20.out).mono ?_
                   (case side1=>exact cz (Kd.R_reads' HO320.out).2.2)
                   (case side2=>exact (Kd.R_reads' HO320.out).2.1)
                   (case side3=>exact cz (Kd.R_reads' HO323.out).2.2)
                   (case side4=>exact (Kd.R_reads' HO323.out).2.1)
                   (case side5=>exact cz (Kd.R_reads' HO327.out).2.2)
                   (case side6=>exact (Kd.R_reads' HO327.out).2.1)
                   (case side7=>exact cz (Kd.R_reads' HO330.out).2.2)
                   (case side8=>exact (Kd.R_reads' HO330.out).2.1)
                   rintro e w66 ⟨v333,v336,rfl,ho0,ho1,hb⟩
                   refine ⟨_,rfl,?_⟩
                   have n0_:=Aside0.mk (Kd.R_elder' (rz HO320.out) (Kd.R_base ho0) hb)
                   have n1_:=Aside0.mk (Kd.R_elder' (rz HO323.out) (Kd.R_base ho1) hb)
                   have n2_:=Aside0.mk (Kd.R_elder' (rz HO327.out) (Kd.R_base ho0) hb)
                   have n3_:=Aside0.mk (Kd.R_elder' (rz HO330.out) (Kd.R_base ho1) hb)
                   have n4_:=Aside0.mk (Kd.R_lower (Kd.R_new' (Kd.R_new' ho0 (Kd.R_lt (rz HO320.out))) (Kd.R_lt (rz HO327.out))) (below_size bs))
                   have n5_:=Aside0.mk (Kd.R_lower (Kd.R_new' (Kd.R_new' ho1 (Kd.R_lt (rz HO323.out))) (Kd.R_lt (rz HO330.out))) (below_size bs))
                   have n6_:=Aside0.mk (kb BK313.out hb)
                   have n7_:=Aside0.mk (kb BK314.out hb)
                   have n8_:=Aside0.mk (kb BK339.out hb)
                   have n9_:=Aside0.mk (below_step bs hb)
                   clear HO320
                   clear HO323
                   clear HO327
                   clear HO330
                   clear BK313
                   clear BK314
                   clear BK339
                   clear HB
                   have HO320:=n0_
                   have HO323:=n1_
                   have HO327:=n2_
                   have HO330:=n3_
                   have HO334:=n4_
                   have HO337:=n5_
                   have BK313:=n6_
                   have BK314:=n7_
                   have BK339:=n8_
                   have HB:=n9_
                   clear n0_ n1_ n2_ n3_ n4_ n5_ n6_ n7_ n8_ n9_
                   (try clear hb)
                   (try clear ho0)
                   (try clear ho1)
                   refine hK.out _ _ ⟨(blk_cell BK313.out 0).trans rfl,(blk_cell BK313.out 1).trans rfl,(blk_cell BK313.out 2).trans rfl,(blk_cell BK314.out 0).trans rfl,(blk_cell BK314.out 1).trans rfl,(blk_cell BK314.out 2).trans rfl⟩ (fun hHeld=>?_)
                   clear hK K
                   refine norm_ (a':=?_) ?_ ?_
                   rotate_left
                   ·show Act.put _ (some 32) _ = _
                    simp only [Act.put,xa,xb,xc,i64_w,i32_w]
                    rfl
                   refine pure_ (i:=5) (N:=some 27) (v:=?_) (a':=?_) #[true,true,true,true,true,true,false,false,true,false,false] rfl rfl (any_of HT_.out (by kernel_rfl)) (fun _ _ _ h=>h) (Or.inl ⟨by rfl,?_⟩) ?_ ?_
                   rotate_left
                   ·intro w'
                    go_simp
                    with_reducible rfl
                   rotate_left
                   ·simp only [Act.put,xa,xb,xc,i64_w,i32_w]
                    rfl
                   refine pure_ (i:=6) (N:=some 33) (v:=?_) (a':=?_) #[true,true,true,true,true,true,true,false,true,false,false] rfl rfl (any_of HT_.out (by kernel_rfl)) (fun _ _ _ h=>h) (Or.inl ⟨by rfl,?_⟩) ?_ ?_
                   rotate_left
                   ·intro w'
                    go_simp
                    with_reducible rfl
                   rotate_left
                   ·simp only [Act.put,xa,xb,xc,i64_w,i32_w]
                    rfl
                   refine pure_ (i:=7) (N:=some 34) (v:=?_) (a':=?_) #[true,true,true,true,true,true,true,true,true,false,false] rfl rfl (any_of HT_.out (by kernel_rfl)) (fun _ _ _ h=>h) (Or.inl ⟨by rfl,?_⟩) ?_ ?_
                   rotate_left
                   ·intro w'
                    go_simp
                    with_reducible rfl
                   rotate_left
                   ·simp only [Act.put,xa,xb,xc,i64_w,i32_w]
                    rfl
                   exact norm_ (by simp only [putAll,Act.put,xa,xb,xc]) (hCont (.slice Ao62 t318.length co62,.slice Ao63 t321.length co63,.slice Ao64 t325.length co64,.slice Ao65 t328.length co65,v333,v336,gb339) _ ⟨hHeld,(by (with_reducible repeat (first|apply Kd.R_alloc|apply Kd.R_drewN|apply Kd.R_drew));exact Kd.R_mono HO320.out (fun _ hk=>⟨hk.1.2,hk.2⟩)),(by (with_reducible repeat (first|apply Kd.R_alloc|apply Kd.R_drewN|apply Kd.R_drew));exact Kd.R_mono HO323.out (fun _ hk=>⟨hk.1.2,hk.2⟩)),(by (with_reducible repeat (first|apply Kd.R_alloc|apply Kd.R_drewN|apply Kd.R_drew));exact Kd.R_mono HO327.out (fun _ hk=>⟨hk.1.2,hk.2⟩)),(by (with_reducible repeat (first|apply Kd.R_alloc|apply Kd.R_drewN|apply Kd.R_drew));exact Kd.R_mono HO330.out (fun _ hk=>⟨hk.1.2,hk.2⟩)),(by (with_reducible repeat (first|apply Kd.R_alloc|apply Kd.R_drewN|apply Kd.R_drew));exact Kd.R_mono HO334.out (fun _ hk=>⟨hk.1.2,hk.2⟩)),(by (with_reducible repeat (first|apply Kd.R_alloc|apply Kd.R_drewN|apply Kd.R_drew));exact Kd.R_mono HO337.out (fun _ hk=>⟨hk.1.2,hk.2⟩)),(kz BK313.out),(kz BK314.out),(kz BK339.out),GW339.out,GE339.out,NB313_339.out,NB339_313.out,NB314_339.out,NB339_314.out,bs⟩)
                 ·skip
                  refine box_step ?hg (N:=6) ?hd (cs:=#[.int .i64 0,.slice none 0 0,.slice none 0 0]) (t:=29) ?hr ?_;(case hd=>rfl);(case hg=>rfl);(case hr=>first|(go_simp;done)|(go_simp;rfl))
                  intro gb339 hg w60 hbox hb
                  have n0_:=Aside0.mk (Kd.R_below (rz HO320.out) hb)
                  have n1_:=Aside0.mk (Kd.R_below (rz HO323.out) hb)
                  have n2_:=Aside0.mk (kb BK313.out hb)
                  have n3_:=Aside0.mk (kb BK314.out hb)
                  have n4_:=Aside0.mk (below_step bs hb)
                  have n5_:=Aside0.mk (hbox)
                  have n6_:=Aside0.mk ((by rw [hg];exact (below_size bs) : w.heap.size ≤ gb339))
                  have n7_:=Aside0.mk ((by rw [hg];exact (below_size bs) : w.heap.size ≤ gb339))
                  have n8_:=Aside0.mk (kn hg BK313.out)
                  have n9_:=Aside0.mk (km hg BK313.out)
                  have n10_:=Aside0.mk (kn hg BK314.out)
                  have n11_:=Aside0.mk (km hg BK314.out)
                  clear HO320
                  clear HO323
                  clear BK313
                  clear BK314
                  clear HB
                  have HO320:=n0_
                  have HO323:=n1_
                  have BK313:=n2_
                  have BK314:=n3_
                  have HB:=n4_
                  have BK339:=n5_
                  have GW339:=n6_
                  have GE339:=n7_
                  have NB313_339:=n8_
                  have NB339_313:=n9_
                  have NB314_339:=n10_
                  have NB339_314:=n11_
                  clear n0_ n1_ n2_ n3_ n4_ n5_ n6_ n7_ n8_ n9_ n10_ n11_
                  clear hb hbox hg
                  refine hK.out _ _ ⟨(blk_cell BK313.out 0).trans rfl,(blk_cell BK313.out 1).trans rfl,(blk_cell BK313.out 2).trans rfl,(blk_cell BK314.out 0).trans rfl,(blk_cell BK314.out 1).trans rfl,(blk_cell BK314.out 2).trans rfl⟩ (fun hHeld=>?_)
                  clear hK K
                  refine norm_ (a':=?_) ?_ ?_
                  rotate_left
                  ·show Act.put _ (some 6) _ = _
                   simp only [Act.put,xa,xb,xc,i64_w,i32_w]
                   rfl
                  refine one_ (i:=3) (N:=some 31) #[true,true,true,true,false,false,false,false,true,false,false] rfl rfl (one_of HT_.out (by kernel_rfl)) (by decide) (fun K hK=>?_)
                  refine goes_ Try.func12 (by kernel_rfl) rfl #[.agg #[.int .i64 a1_0,.slice A1_1 l1_1.length c1_1,.slice A1_2 l1_2.length c1_2]] (by rfl) rfl rfl mz ?_
                  with_reducible refine (laws_toPlan.calls k a1_0 _ _ l1_1 _ _ l1_2 t324 t325 t328 _ ?side1 ?side2 ?side3 ?side4 A19.out).mono ?_
                  (case side1=>exact cz (Kd.C_below HR1_1.out HB.out))
                  (case side2=>exact HC1_1.out)
                  (case side3=>exact cz (Kd.C_below HR1_2.out HB.out))
                  (case side4=>exact HC1_2.out)
                  rintro e w61 ⟨v326,v329,rfl,ho0,ho1,hb⟩
                  refine ⟨_,rfl,?_⟩
                  have n0_:=Aside0.mk (Kd.R_elder' (rz HO320.out) (Kd.R_base ho0) hb)
                  have n1_:=Aside0.mk (Kd.R_elder' (rz HO323.out) (Kd.R_base ho1) hb)
                  have n2_:=Aside0.mk (Kd.R_lower (Kd.R_new' ho0 (Kd.R_lt (rz HO320.out))) (below_size bs))
                  have n3_:=Aside0.mk (Kd.R_lower (Kd.R_new' ho1 (Kd.R_lt (rz HO323.out))) (below_size bs))
                  have n4_:=Aside0.mk (kb BK313.out hb)
                  have n5_:=Aside0.mk (kb BK314.out hb)
                  have n6_:=Aside0.mk (kb BK339.out hb)
                  have n7_:=Aside0.mk (below_step bs hb)
                  clear HO320
                  clear HO323
                  clear BK313
                  clear BK314
                  clear BK339
                  clear HB
                  have HO320:=n0_
                  have HO323:=n1_
                  have HO327:=n2_
                  have HO330:=n3_
                  have BK313:=n4_
                  have BK314:=n5_
                  have BK339:=n6_
                  have HB:=n7_
                  clear n0_ n1_ n2_ n3_ n4_ n5_ n6_ n7_
                  (try clear hb)
                  (try clear ho0)
                  (try clear ho1)
                  obtain ⟨Ao62,co62,eo62⟩:=Kd.R_slice HO320.out
                  (first|subst eo62|(injection eo62 with f1_ f2_ f3_;have f4_:=f1_.symm;have f5_:=f3_.symm;clear f1_ f2_ f3_;subst f4_;subst f5_))
                  obtain ⟨Ao63,co63,eo63⟩:=Kd.R_slice HO323.out
                  (first|subst eo63|(injection eo63 with f1_ f2_ f3_;have f4_:=f1_.symm;have f5_:=f3_.symm;clear f1_ f2_ f3_;subst f4_;subst f5_))
                  obtain ⟨Ao64,co64,eo64⟩:=Kd.R_slice HO327.out
                  (first|subst eo64|(injection eo64 with f1_ f2_ f3_;have f4_:=f1_.symm;have f5_:=f3_.symm;clear f1_ f2_ f3_;subst f4_;subst f5_))
                  obtain ⟨Ao65,co65,eo65⟩:=Kd.R_slice HO330.out
                  (first|subst eo65|(injection eo65 with f1_ f2_ f3_;have f4_:=f1_.symm;have f5_:=f3_.symm;clear f1_ f2_ f3_;subst f4_;subst f5_))
                  refine hK.out _ _ ⟨(blk_cell BK313.out 0).trans rfl,(blk_cell BK313.out 1).trans rfl,(blk_cell BK313.out 2).trans rfl,(blk_cell BK314.out 0).trans rfl,(blk_cell BK314.out 1).trans rfl,(blk_cell BK314.out 2).trans rfl⟩ (fun hHeld=>?_)
                  clear hK K
                  refine norm_ (a':=?_) ?_ ?_
                  rotate_left
                  ·show Act.put _ (some 31) _ = _
                   simp only [Act.put,xa,xb,xc,i64_w,i32_w]
                   rfl
                  refine one_ (i:=4) (N:=some 32) #[true,true,true,true,true,false,false,false,true,false,false] rfl rfl (one_of HT_.out (by kernel_rfl)) (by decide) (fun K hK=>?_)
                  refine goes_ Try.func11 (by kernel_rfl) rfl #[.agg #[.int .i64 t317,.slice Ao62 t318.length co62,.slice Ao63 t321.length co63],.agg #[.int .i64 t324,.slice Ao64 t325.length co64,.slice Ao65 t328.length co65]] (by rfl) rfl rfl mz ?_
                  with_reducible refine (spec_JoinPlans.calls k t317 _ _ t318 _ _ t321 t324 _ _ t325 _ _ t328 t331 t332 t335 t338 _ ?side1 ?side2 ?side3 ?side4 ?side5 ?side6 ?side7 ?side8 A20.out).mono ?_
                  (case side1=>exact cz (Kd.R_reads' HO320.out).2.2)
                  (case side2=>exact (Kd.R_reads' HO320.out).2.1)
                  (case side3=>exact cz (Kd.R_reads' HO323.out).2.2)
                  (case side4=>exact (Kd.R_reads' HO323.out).2.1)
                  (case side5=>exact cz (Kd.R_reads' HO327.out).2.2)
                  (case side6=>exact (Kd.R_reads' HO327.out).2.1)
                  (case side7=>exact cz (Kd.R_reads' HO330.out).2.2)
                  (case side8=>exact (Kd.R_reads' HO330.out).2.1)
                  rintro e w66 ⟨v333,v336,rfl,ho0,ho1,hb⟩
                  refine ⟨_,rfl,?_⟩
                  have n0_:=Aside0.mk (Kd.R_elder' (rz HO320.out) (Kd.R_base ho0) hb)
                  have n1_:=Aside0.mk (Kd.R_elder' (rz HO323.out) (Kd.R_base ho1) hb)
                  have n2_:=Aside0.mk (Kd.R_elder' (rz HO327.out) (Kd.R_base ho0) hb)
                  have n3_:=Aside0.mk (Kd.R_elder' (rz HO330.out) (Kd.R_base ho1) hb)
                  have n4_:=Aside0.mk (Kd.R_lower (Kd.R_new' (Kd.R_new' ho0 (Kd.R_lt (rz HO320.out))) (Kd.R_lt (rz HO327.out))) (below_size bs))
                  have n5_:=Aside0.mk (Kd.R_lower (Kd.R_new' (Kd.R_new' ho1 (Kd.R_lt (rz HO323.out))) (Kd.R_lt (rz HO330.out))) (below_size bs))
                  have n6_:=Aside0.mk (kb BK313.out hb)
                  have n7_:=Aside0.mk (kb BK314.out hb)
                  have n8_:=Aside0.mk (kb BK339.out hb)
                  have n9_:=Aside0.mk (below_step bs hb)
                  clear HO320
                  clear HO323
                  clear HO327
                  clear HO330
                  clear BK313
                  clear BK314
                  clear BK339
                  clear HB
                  have HO320:=n0_
                  have HO323:=n1_
                  have HO327:=n2_
                  have HO330:=n3_
                  have HO334:=n4_
                  have HO337:=n5_
                  have BK313:=n6_
                  have BK314:=n7_
                  have BK339:=n8_
                  have HB:=n9_
                  clear n0_ n1_ n2_ n3_ n4_ n5_ n6_ n7_ n8_ n9_
                  (try clear hb)
                  (try clear ho0)
                  (try clear ho1)
                  refine hK.out _ _ ⟨(blk_cell BK313.out 0).trans rfl,(blk_cell BK313.out 1).trans rfl,(blk_cell BK313.out 2).trans rfl,(blk_cell BK314.out 0).trans rfl,(blk_cell BK314.out 1).trans rfl,(blk_cell BK314.out 2).trans rfl⟩ (fun hHeld=>?_)
                  clear hK K
                  refine norm_ (a':=?_) ?_ ?_
                  rotate_left
                  ·show Act.put _ (some 32) _ = _
                   simp only [Act.put,xa,xb,xc,i64_w,i32_w]
                   rfl
                  refine pure_ (i:=5) (N:=some 27) (v:=?_) (a':=?_) #[true,true,true,true,true,true,false,false,true,false,false] rfl rfl (any_of HT_.out (by kernel_rfl)) (fun _ _ _ h=>h) (Or.inl ⟨by rfl,?_⟩) ?_ ?_
                  rotate_left
                  ·intro w'
                   go_simp
                   with_reducible rfl
                  rotate_left
                  ·simp only [Act.put,xa,xb,xc,i64_w,i32_w]
                   rfl
                  refine pure_ (i:=6) (N:=some 33) (v:=?_) (a':=?_) #[true,true,true,true,true,true,true,false,true,false,false] rfl rfl (any_of HT_.out (by kernel_rfl)) (fun _ _ _ h=>h) (Or.inl ⟨by rfl,?_⟩) ?_ ?_
                  rotate_left
                  ·intro w'
                   go_simp
                   with_reducible rfl
                  rotate_left
                  ·simp only [Act.put,xa,xb,xc,i64_w,i32_w]
                   rfl
                  refine pure_ (i:=7) (N:=some 34) (v:=?_) (a':=?_) #[true,true,true,true,true,true,true,true,true,false,false] rfl rfl (any_of HT_.out (by kernel_rfl)) (fun _ _ _ h=>h) (Or.inl ⟨by rfl,?_⟩) ?_ ?_
                  rotate_left
                  ·intro w'
                   go_simp
                   with_reducible rfl
                  rotate_left
                  ·simp only [Act.put,xa,xb,xc,i64_w,i32_w]
                   rfl
                  exact norm_ (by simp only [putAll,Act.put,xa,xb,xc]) (hCont (.slice Ao62 t318.length co62,.slice Ao63 t321.length co63,.slice Ao64 t325.length co64,.slice Ao65 t328.length co65,v333,v336,gb339) _ ⟨hHeld,(by (with_reducible repeat (first|apply Kd.R_alloc|apply Kd.R_drewN|apply Kd.R_drew));exact Kd.R_mono HO320.out (fun _ hk=>⟨hk.1.2,hk.2⟩)),(by (with_reducible repeat (first|apply Kd.R_alloc|apply Kd.R_drewN|apply Kd.R_drew));exact Kd.R_mono HO323.out (fun _ hk=>⟨hk.1.2,hk.2⟩)),(by (with_reducible repeat (first|apply Kd.R_alloc|apply Kd.R_drewN|apply Kd.R_drew));exact Kd.R_mono HO327.out (fun _ hk=>⟨hk.1.2,hk.2⟩)),(by (with_reducible repeat (first|apply Kd.R_alloc|apply Kd.R_drewN|apply Kd.R_drew));exact Kd.R_mono HO330.out (fun _ hk=>⟨hk.1.2,hk.2⟩)),(by (with_reducible repeat (first|apply Kd.R_alloc|apply Kd.R_drewN|apply Kd.R_drew));exact Kd.R_mono HO334.out (fun _ hk=>⟨hk.1.2,hk.2⟩)),(by (with_reducible repeat (first|apply Kd.R_alloc|apply Kd.R_drewN|apply Kd.R_drew));exact Kd.R_mono HO337.out (fun _ hk=>⟨hk.1.2,hk.2⟩)),(kz BK313.out),(kz BK314.out),(kz BK339.out),GW339.out,GE339.out,NB313_339.out,NB339_313.out,NB314_339.out,NB339_314.out,bs⟩)
                ·skip
                 refine box_step ?hg (N:=6) ?hd (cs:=#[.int .i64 0,.slice none 0 0,.slice none 0 0]) (t:=29) ?hr ?_;(case hd=>rfl);(case hg=>rfl);(case hr=>first|(go_simp;done)|(go_simp;rfl))
                 intro gb339 hg w59 hbox hb
                 have n0_:=Aside0.mk (kb BK313.out hb)
                 have n1_:=Aside0.mk (kb BK314.out hb)
                 have n2_:=Aside0.mk (below_step bs hb)
                 have n3_:=Aside0.mk (hbox)
                 have n4_:=Aside0.mk ((by rw [hg];exact (below_size bs) : w.heap.size ≤ gb339))
                 have n5_:=Aside0.mk ((by rw [hg];exact (below_size bs) : w.heap.size ≤ gb339))
                 have n6_:=Aside0.mk (kn hg BK313.out)
                 have n7_:=Aside0.mk (km hg BK313.out)
                 have n8_:=Aside0.mk (kn hg BK314.out)
                 have n9_:=Aside0.mk (km hg BK314.out)
                 clear BK313
                 clear BK314
                 clear HB
                 have BK313:=n0_
                 have BK314:=n1_
                 have HB:=n2_
                 have BK339:=n3_
                 have GW339:=n4_
                 have GE339:=n5_
                 have NB313_339:=n6_
                 have NB339_313:=n7_
                 have NB314_339:=n8_
                 have NB339_314:=n9_
                 clear n0_ n1_ n2_ n3_ n4_ n5_ n6_ n7_ n8_ n9_
                 clear hb hbox hg
                 refine hK.out _ _ ⟨(blk_cell BK313.out 0).trans rfl,(blk_cell BK313.out 1).trans rfl,(blk_cell BK313.out 2).trans rfl,(blk_cell BK314.out 0).trans rfl,(blk_cell BK314.out 1).trans rfl,(blk_cell BK314.out 2).trans rfl⟩ (fun hHeld=>?_)
                 clear hK K
                 refine norm_ (a':=?_) ?_ ?_
                 rotate_left
                 ·show Act.put _ (some 6) _ = _
                  simp only [Act.put,xa,xb,xc,i64_w,i32_w]
                  rfl
                 refine one_ (i:=1) (N:=some 29) #[true,true,true,false,false,false,false,false,true,false,false] rfl rfl (one_of HT_.out (by kernel_rfl)) (by decide) (fun K hK=>?_)
                 refine goes_ Try.func12 (by kernel_rfl) rfl #[.agg #[.int .i64 a0_0,.slice A0_1 l0_1.length c0_1,.slice A0_2 l0_2.length c0_2]] (by rfl) rfl rfl mz ?_
                 with_reducible refine (laws_toPlan.calls k a0_0 _ _ l0_1 _ _ l0_2 t317 t318 t321 _ ?side1 ?side2 ?side3 ?side4 A18.out).mono ?_
                 (case side1=>exact cz (Kd.C_below HR0_1.out HB.out))
                 (case side2=>exact HC0_1.out)
                 (case side3=>exact cz (Kd.C_below HR0_2.out HB.out))
                 (case side4=>exact HC0_2.out)
                 rintro e w60 ⟨v319,v322,rfl,ho0,ho1,hb⟩
                 refine ⟨_,rfl,?_⟩
                 have n0_:=Aside0.mk (Kd.R_lower ho0 (below_size bs))
                 have n1_:=Aside0.mk (Kd.R_lower ho1 (below_size bs))
                 have n2_:=Aside0.mk (kb BK313.out hb)
                 have n3_:=Aside0.mk (kb BK314.out hb)
                 have n4_:=Aside0.mk (kb BK339.out hb)
                 have n5_:=Aside0.mk (below_step bs hb)
                 clear BK313
                 clear BK314
                 clear BK339
                 clear HB
                 have HO320:=n0_
                 have HO323:=n1_
                 have BK313:=n2_
                 have BK314:=n3_
                 have BK339:=n4_
                 have HB:=n5_
                 clear n0_ n1_ n2_ n3_ n4_ n5_
                 (try clear hb)
                 (try clear ho0)
                 (try clear ho1)
                 refine hK.out _ _ ⟨(blk_cell BK313.out 0).trans rfl,(blk_cell BK313.out 1).trans rfl,(blk_cell BK313.out 2).trans rfl,(blk_cell BK314.out 0).trans rfl,(blk_cell BK314.out 1).trans rfl,(blk_cell BK314.out 2).trans rfl⟩ (fun hHeld=>?_)
                 clear hK K
                 refine norm_ (a':=?_) ?_ ?_
                 rotate_left
                 ·show Act.put _ (some 29) _ = _
                  simp only [Act.put,xa,xb,xc,i64_w,i32_w]
                  rfl
                 refine one_ (i:=3) (N:=some 31) #[true,true,true,true,false,false,false,false,true,false,false] rfl rfl (one_of HT_.out (by kernel_rfl)) (by decide) (fun K hK=>?_)
                 refine goes_ Try.func12 (by kernel_rfl) rfl #[.agg #[.int .i64 a1_0,.slice A1_1 l1_1.length c1_1,.slice A1_2 l1_2.length c1_2]] (by rfl) rfl rfl mz ?_
                 with_reducible refine (laws_toPlan.calls k a1_0 _ _ l1_1 _ _ l1_2 t324 t325 t328 _ ?side1 ?side2 ?side3 ?side4 A19.out).mono ?_
                 (case side1=>exact cz (Kd.C_below HR1_1.out HB.out))
                 (case side2=>exact HC1_1.out)
                 (case side3=>exact cz (Kd.C_below HR1_2.out HB.out))
                 (case side4=>exact HC1_2.out)
                 rintro e w61 ⟨v326,v329,rfl,ho0,ho1,hb⟩
                 refine ⟨_,rfl,?_⟩
                 have n0_:=Aside0.mk (Kd.R_elder' (rz HO320.out) (Kd.R_base ho0) hb)
                 have n1_:=Aside0.mk (Kd.R_elder' (rz HO323.out) (Kd.R_base ho1) hb)
                 have n2_:=Aside0.mk (Kd.R_lower (Kd.R_new' ho0 (Kd.R_lt (rz HO320.out))) (below_size bs))
                 have n3_:=Aside0.mk (Kd.R_lower (Kd.R_new' ho1 (Kd.R_lt (rz HO323.out))) (below_size bs))
                 have n4_:=Aside0.mk (kb BK313.out hb)
                 have n5_:=Aside0.mk (kb BK314.out hb)
                 have n6_:=Aside0.mk (kb BK339.out hb)
                 have n7_:=Aside0.mk (below_step bs hb)
                 clear HO320
                 clear HO323
                 clear BK313
                 clear BK314
                 clear BK339
                 clear HB
                 have HO320:=n0_
                 have HO323:=n1_
                 have HO327:=n2_
                 have HO330:=n3_
                 have BK313:=n4_
                 have BK314:=n5_
                 have BK339:=n6_
                 have HB:=n7_
                 clear n0_ n1_ n2_ n3_ n4_ n5_ n6_ n7_
                 (try clear hb)
                 (try clear ho0)
                 (try clear ho1)
                 obtain ⟨Ao62,co62,eo62⟩:=Kd.R_slice HO320.out
                 (first|subst eo62|(injection eo62 with f1_ f2_ f3_;have f4_:=f1_.symm;have f5_:=f3_.symm;clear f1_ f2_ f3_;subst f4_;subst f5_))
                 obtain ⟨Ao63,co63,eo63⟩:=Kd.R_slice HO323.out
                 (first|subst eo63|(injection eo63 with f1_ f2_ f3_;have f4_:=f1_.symm;have f5_:=f3_.symm;clear f1_ f2_ f3_;subst f4_;subst f5_))
                 obtain ⟨Ao64,co64,eo64⟩:=Kd.R_slice HO327.out
                 (first|subst eo64|(injection eo64 with f1_ f2_ f3_;have f4_:=f1_.symm;have f5_:=f3_.symm;clear f1_ f2_ f3_;subst f4_;subst f5_))
                 obtain ⟨Ao65,co65,eo65⟩:=Kd.R_slice HO330.out
                 (first|subst eo65|(injection eo65 with f1_ f2_ f3_;have f4_:=f1_.symm;have f5_:=f3_.symm;clear f1_ f2_ f3_;subst f4_;subst f5_))
                 refine hK.out _ _ ⟨(blk_cell BK313.out 0).trans rfl,(blk_cell BK313.out 1).trans rfl,(blk_cell BK313.out 2).trans rfl,(blk_cell BK314.out 0).trans rfl,(blk_cell BK314.out 1).trans rfl,(blk_cell BK314.out 2).trans rfl⟩ (fun hHeld=>?_)
                 clear hK K
                 refine norm_ (a':=?_) ?_ ?_
                 rotate_left
                 ·show Act.put _ (some 31) _ = _
                  simp only [Act.put,xa,xb,xc,i64_w,i32_w]
                  rfl
                 refine one_ (i:=4) (N:=some 32) #[true,true,true,true,true,false,false,false,true,false,false] rfl rfl (one_of HT_.out (by kernel_rfl)) (by decide) (fun K hK=>?_)
                 refine goes_ Try.func11 (by kernel_rfl) rfl #[.agg #[.int .i64 t317,.slice Ao62 t318.length co62,.slice Ao63 t321.length co63],.agg #[.int .i64 t324,.slice Ao64 t325.length co64,.slice Ao65 t328.length co65]] (by rfl) rfl rfl mz ?_
                 with_reducible refine (spec_JoinPlans.calls k t317 _ _ t318 _ _ t321 t324 _ _ t325 _ _ t328 t331 t332 t335 t338 _ ?side1 ?side2 ?side3 ?side4 ?side5 ?side6 ?side7 ?side8 A20.out).mono ?_
                 (case side1=>exact cz (Kd.R_reads' HO320.out).2.2)
                 (case side2=>exact (Kd.R_reads' HO320.out).2.1)
                 (case side3=>exact cz (Kd.R_reads' HO323.out).2.2)
                 (case side4=>exact (Kd.R_reads' HO323.out).2.1)
                 (case side5=>exact cz (Kd.R_reads' HO327.out).2.2)
                 (case side6=>exact (Kd.R_reads' HO327.out).2.1)
                 (case side7=>exact cz (Kd.R_reads' HO330.out).2.2)
                 (case side8=>exact (Kd.R_reads' HO330.out).2.1)
                 rintro e w66 ⟨v333,v336,rfl,ho0,ho1,hb⟩
                 refine ⟨_,rfl,?_⟩
                 have n0_:=Aside0.mk (Kd.R_elder' (rz HO320.out) (Kd.R_base ho0) hb)
                 have n1_:=Aside0.mk (Kd.R_elder' (rz HO323.out) (Kd.R_base ho1) hb)
                 have n2_:=Aside0.mk (Kd.R_elder' (rz HO327.out) (Kd.R_base ho0) hb)
                 have n3_:=Aside0.mk (Kd.R_elder' (rz HO330.out) (Kd.R_base ho1) hb)
                 have n4_:=Aside0.mk (Kd.R_lower (Kd.R_new' (Kd.R_new' ho0 (Kd.R_lt (rz HO320.out))) (Kd.R_lt (rz HO327.out))) (below_size bs))
                 have n5_:=Aside0.mk (Kd.R_lower (Kd.R_new' (Kd.R_new' ho1 (Kd.R_lt (rz HO323.out))) (Kd.R_lt (rz HO330.out))) (below_size bs))
                 have n6_:=Aside0.mk (kb BK313.out hb)
                 have n7_:=Aside0.mk (kb BK314.out hb)
                 have n8_:=Aside0.mk (kb BK339.out hb)
                 have n9_:=Aside0.mk (below_step bs hb)
                 clear HO320
                 clear HO323
                 clear HO327
                 clear HO330
                 clear BK313
                 clear BK314
                 clear BK339
                 clear HB
                 have HO320:=n0_
                 have HO323:=n1_
                 have HO327:=n2_
                 have HO330:=n3_
                 have HO334:=n4_
                 have HO337:=n5_
                 have BK313:=n6_
                 have BK314:=n7_
                 have BK339:=n8_
                 have HB:=n9_
                 clear n0_ n1_ n2_ n3_ n4_ n5_ n6_ n7_ n8_ n9_
                 (try clear hb)
                 (try clear ho0)
                 (try clear ho1)
                 refine hK.out _ _ ⟨(blk_cell BK313.out 0).trans rfl,(blk_cell BK313.out 1).trans rfl,(blk_cell BK313.out 2).trans rfl,(blk_cell BK314.out 0).trans rfl,(blk_cell BK314.out 1).trans rfl,(blk_cell BK314.out 2).trans rfl⟩ (fun hHeld=>?_)
                 clear hK K
                 refine norm_ (a':=?_) ?_ ?_
                 rotate_left
                 ·show Act.put _ (some 32) _ = _
                  simp only [Act.put,xa,xb,xc,i64_w,i32_w]
                  rfl
                 refine pure_ (i:=5) (N:=some 27) (v:=?_) (a':=?_) #[true,true,true,true,true,true,false,false,true,false,false] rfl rfl (any_of HT_.out (by kernel_rfl)) (fun _ _ _ h=>h) (Or.inl ⟨by rfl,?_⟩) ?_ ?_
                 rotate_left
                 ·intro w'
                  go_simp
                  with_reducible rfl
                 rotate_left
                 ·simp only [Act.put,xa,xb,xc,i64_w,i32_w]
                  rfl
                 refine pure_ (i:=6) (N:=some 33) (v:=?_) (a':=?_) #[true,true,true,true,true,true,true,false,true,false,false] rfl rfl (any_of HT_.out (by kernel_rfl)) (fun _ _ _ h=>h) (Or.inl ⟨by rfl,?_⟩) ?_ ?_
                 rotate_left
                 ·intro w'
                  go_simp
                  with_reducible rfl
                 rotate_left
                 ·simp only [Act.put,xa,xb,xc,i64_w,i32_w]
                  rfl
                 refine pure_ (i:=7) (N:=some 34) (v:=?_) (a':=?_) #[true,true,true,true,true,true,true,true,true,false,false] rfl rfl (any_of HT_.out (by kernel_rfl)) (fun _ _ _ h=>h) (Or.inl ⟨by rfl,?_⟩) ?_ ?_
                 rotate_left
                 ·intro w'
                  go_simp
                  with_reducible rfl
                 rotate_left
                 ·simp only [Act.put,xa,xb,xc,i64_w,i32_w]
                  rfl
                 exact norm_ (by simp only [putAll,Act.put,xa,xb,xc]) (hCont (.slice Ao62 t318.length co62,.slice Ao63 t321.length co63,.slice Ao64 t325.length co64,.slice Ao65 t328.length co65,v333,v336,gb339) _ ⟨hHeld,(by (with_reducible repeat (first|apply Kd.R_alloc|apply Kd.R_drewN|apply Kd.R_drew));exact Kd.R_mono HO320.out (fun _ hk=>⟨hk.1.2,hk.2⟩)),(by (with_reducible repeat (first|apply Kd.R_alloc|apply Kd.R_drewN|apply Kd.R_drew));exact Kd.R_mono HO323.out (fun _ hk=>⟨hk.1.2,hk.2⟩)),(by (with_reducible repeat (first|apply Kd.R_alloc|apply Kd.R_drewN|apply Kd.R_drew));exact Kd.R_mono HO327.out (fun _ hk=>⟨hk.1.2,hk.2⟩)),(by (with_reducible repeat (first|apply Kd.R_alloc|apply Kd.R_drewN|apply Kd.R_drew));exact Kd.R_mono HO330.out (fun _ hk=>⟨hk.1.2,hk.2⟩)),(by (with_reducible repeat (first|apply Kd.R_alloc|apply Kd.R_drewN|apply Kd.R_drew));exact Kd.R_mono HO334.out (fun _ hk=>⟨hk.1.2,hk.2⟩)),(by (with_reducible repeat (first|apply Kd.R_alloc|apply Kd.R_drewN|apply Kd.R_drew));exact Kd.R_mono HO337.out (fun _ hk=>⟨hk.1.2,hk.2⟩)),(kz BK313.out),(kz BK314.out),(kz BK339.out),GW339.out,GE339.out,NB313_339.out,NB339_313.out,NB314_339.out,NB339_314.out,bs⟩)
               rintro ⟨v319,v322,v326,v329,v333,v336,gb339⟩ w67 ⟨hS_,h0_,h1_,h2_,h3_,h4_,h5_,h6_,h7_,h8_,h9_,h10_,h11_,h12_,h13_,h14_,h15_⟩
               have n0_ : Aside0 (Kd.R k73 73 w67 w.heap.size (fun k_=>some k_ ≠ (v326 : Value).ownBlock ∧ some k_ ≠ (v333 : Value).ownBlock) v319 t318):=⟨h0_⟩
               have n1_ : Aside0 (Kd.R (Kd.int .i64) 3 w67 w.heap.size (fun k_=>some k_ ≠ (v329 : Value).ownBlock ∧ some k_ ≠ (v336 : Value).ownBlock) v322 t321):=⟨h1_⟩
               have n2_ : Aside0 (Kd.R k73 73 w67 w.heap.size (fun k_=>some k_ ≠ (v319 : Value).ownBlock ∧ some k_ ≠ (v333 : Value).ownBlock) v326 t325):=⟨h2_⟩
               have n3_ : Aside0 (Kd.R (Kd.int .i64) 3 w67 w.heap.size (fun k_=>some k_ ≠ (v322 : Value).ownBlock ∧ some k_ ≠ (v336 : Value).ownBlock) v329 t328):=⟨h3_⟩
               have n4_ : Aside0 (Kd.R k73 73 w67 w.heap.size (fun k_=>some k_ ≠ (v319 : Value).ownBlock ∧ some k_ ≠ (v326 : Value).ownBlock) v333 t332):=⟨h4_⟩
               have n5_ : Aside0 (Kd.R (Kd.int .i64) 3 w67 w.heap.size (fun k_=>some k_ ≠ (v322 : Value).ownBlock ∧ some k_ ≠ (v329 : Value).ownBlock) v336 t335):=⟨h5_⟩
               have n6_ : Aside0 (w67.heap[gb313]? = some (.cells #[.int .i64 a0_0,.slice A0_1 l0_1.length c0_1,.slice A0_2 l0_2.length c0_2] 25 (0,0))):=⟨h6_⟩
               have n7_ : Aside0 (w67.heap[gb314]? = some (.cells #[.int .i64 a1_0,.slice A1_1 l1_1.length c1_1,.slice A1_2 l1_2.length c1_2] 25 (0,0))):=⟨h7_⟩
               have n8_ : Aside0 (w67.heap[gb339]? = some (.cells #[.int .i64 0,.slice none 0 0,.slice none 0 0] 29 (0,0))):=⟨h8_⟩
               have n10_ : Aside0 (w.heap.size ≤ gb339):=⟨h10_⟩
               have n11_ : Aside0 (gb313 ≠ gb339):=⟨h11_⟩
               have n12_ : Aside0 (gb339 ≠ gb313):=⟨h12_⟩
               have n13_ : Aside0 (gb314 ≠ gb339):=⟨h13_⟩
               have n14_ : Aside0 (gb339 ≠ gb314):=⟨h14_⟩
               have n15_ : Aside0 (Below w.heap.size w w67):=⟨h15_⟩
               clear BK313
               clear BK314
               clear HB
               clear h0_ h1_ h2_ h3_ h4_ h5_ h6_ h7_ h8_ h9_ h10_ h11_ h12_ h13_ h14_ h15_
               have HO320:=n0_
               have HO323:=n1_
               have HO327:=n2_
               have HO330:=n3_
               have HO334:=n4_
               have HO337:=n5_
               have BK313:=n6_
               have BK314:=n7_
               have BK339:=n8_
               have GE339:=n10_
               have NB313_339:=n11_
               have NB339_313:=n12_
               have NB314_339:=n13_
               have NB339_314:=n14_
               have HB:=n15_
               clear n0_ n1_ n2_ n3_ n4_ n5_ n6_ n7_ n8_ n10_ n11_ n12_ n13_ n14_ n15_
               have hHeld : w67.cell? ⟨gb313,0,none⟩ = some (.int .i64 a0_0) ∧ w67.cell? ⟨gb313,1,none⟩ = some (.slice A0_1 l0_1.length c0_1) ∧ w67.cell? ⟨gb313,2,none⟩ = some (.slice A0_2 l0_2.length c0_2) ∧ w67.cell? ⟨gb314,0,none⟩ = some (.int .i64 a1_0) ∧ w67.cell? ⟨gb314,1,none⟩ = some (.slice A1_1 l1_1.length c1_1) ∧ w67.cell? ⟨gb314,2,none⟩ = some (.slice A1_2 l1_2.length c1_2):=hS_
               obtain ⟨Ao69,co69,eo69⟩:=Kd.R_slice HO334.out
               (first|subst eo69|(injection eo69 with f1_ f2_ f3_;have f4_:=f1_.symm;have f5_:=f3_.symm;clear f1_ f2_ f3_;subst f4_;subst f5_))
               obtain ⟨Ao71,co71,eo71⟩:=Kd.R_slice HO337.out
               (first|subst eo71|(injection eo71 with f1_ f2_ f3_;have f4_:=f1_.symm;have f5_:=f3_.symm;clear f1_ f2_ f3_;subst f4_;subst f5_))
               refine norm_ (a':=?_) ?_ ?_
               rotate_left
               ·simp only [putAll,Act.put,xa,xb,xc]
                rfl
               refine one_ (i:=9) (N:=none) #[true,true,true,true,true,true,true,true,true,true,false] rfl rfl (one_of HT_.out (by kernel_rfl)) (by decide) (fun K hK=>?_)
               have hs68 : w67.cell? ⟨gb339,0,none⟩ = some (.int .i64 0):=(blk_cell BK339.out 0).trans rfl
               have hfs68:=blk_frozen BK339.out 0
               have hns68_0:=NB313_339.out
               have hns68_1:=NB314_339.out
               have hms68_0:=NB339_313.out
               have hms68_1:=NB339_314.out
               have hs70 : w67.cell? ⟨gb339,1,none⟩ = some (.slice none 0 0):=(blk_cell BK339.out 1).trans rfl
               have hfs70:=blk_frozen BK339.out 1
               have hns70_0:=NB313_339.out
               have hns70_1:=NB314_339.out
               have hms70_0:=NB339_313.out
               have hms70_1:=NB339_314.out
               have hs72 : w67.cell? ⟨gb339,2,none⟩ = some (.slice none 0 0):=(blk_cell BK339.out 2).trans rfl
               have hfs72:=blk_frozen BK339.out 2
               have hns72_0:=NB313_339.out
               have hns72_1:=NB314_339.out
               have hms72_0:=NB339_313.out
               have hms72_1:=NB339_314.out
               refine skip_ (w1:=?_) (by rfl) rfl ?_ ?_
               rotate_left
               ·go_simp
                rfl
               refine hK.out _ _ ⟨((cell_far (p:=⟨gb339,_,none⟩) NB313_339.out _).trans (((cell_far (p:=⟨gb339,_,none⟩) NB313_339.out _).trans (((cell_far (p:=⟨gb339,_,none⟩) NB313_339.out _).trans (hHeld.1)))))),((cell_far (p:=⟨gb339,_,none⟩) NB313_339.out _).trans (((cell_far (p:=⟨gb339,_,none⟩) NB313_339.out _).trans (((cell_far (p:=⟨gb339,_,none⟩) NB313_339.out _).trans (hHeld.2.1)))))),((cell_far (p:=⟨gb339,_,none⟩) NB313_339.out _).trans (((cell_far (p:=⟨gb339,_,none⟩) NB313_339.out _).trans (((cell_far (p:=⟨gb339,_,none⟩) NB313_339.out _).trans (hHeld.2.2.1)))))),((cell_far (p:=⟨gb339,_,none⟩) NB314_339.out _).trans (((cell_far (p:=⟨gb339,_,none⟩) NB314_339.out _).trans (((cell_far (p:=⟨gb339,_,none⟩) NB314_339.out _).trans (hHeld.2.2.2.1)))))),((cell_far (p:=⟨gb339,_,none⟩) NB314_339.out _).trans (((cell_far (p:=⟨gb339,_,none⟩) NB314_339.out _).trans (((cell_far (p:=⟨gb339,_,none⟩) NB314_339.out _).trans (hHeld.2.2.2.2.1)))))),((cell_far (p:=⟨gb339,_,none⟩) NB314_339.out _).trans (((cell_far (p:=⟨gb339,_,none⟩) NB314_339.out _).trans (((cell_far (p:=⟨gb339,_,none⟩) NB314_339.out _).trans (hHeld.2.2.2.2.2))))))⟩ (fun hHeld=>?_)
               clear hK K
               refine pure_ (i:=10) (N:=some 7) (v:=?_) (a':=?_) #[true,true,true,true,true,true,true,true,true,true,true] rfl rfl (any_of HT_.out (by kernel_rfl)) (fun _ _ _ h=>h) (Or.inl ⟨by rfl,?_⟩) ?_ ?_
               rotate_left
               ·intro w'
                go_simp
                with_reducible rfl
               rotate_left
               ·simp only [Act.put,xa,xb,xc,i64_w,i32_w]
                rfl
               refine done_ (done_of HT_.out (by kernel_rfl)) ?_
               have hnb73:=NB313_339.out
               have hnc73:=NB339_313.out
               have hcz74_0 : w67.cell? ⟨gb313,0,none⟩ = some (.int .i64 a0_0):=(blk_cell BK313.out 0).trans rfl
               have hcz74_1 : w67.cell? ⟨gb313,1,none⟩ = some (.slice A0_1 l0_1.length c0_1):=(blk_cell BK313.out 1).trans rfl
               have hcz74_2 : w67.cell? ⟨gb313,2,none⟩ = some (.slice A0_2 l0_2.length c0_2):=(blk_cell BK313.out 2).trans rfl
               have hfz74_0:=blk_frozen BK313.out 0
               have hfz74_1:=blk_frozen BK313.out 1
               have hfz74_2:=blk_frozen BK313.out 2
               try go_wp2_with (first|((with_reducible refine gate_callee (f:=12) rfl ?_);refine goesL_ (some 36) rfl rfl Try.func12 (by kernel_rfl) rfl #[.agg #[.int .i64 a0_0,.slice A0_1 l0_1.length c0_1,.slice A0_2 l0_2.length c0_2]] rfl mz ?_;(with_reducible refine (laws_toPlan.calls k a0_0 _ _ l0_1 _ _ l0_2 t340 t341 t344 _ ?side1 ?side2 ?side3 ?side4 A21.out).mono ?_);(case side1=>exact Kd.C_below HR0_1.out bs);(case side2=>exact HC0_1.out);(case side3=>exact Kd.C_below HR0_2.out bs);(case side4=>exact HC0_2.out);rintro e w75 ⟨v342,v345,rfl,ho0,ho1,hb⟩;refine ⟨_,rfl,?_⟩;have n4_:=Aside0.mk (Kd.R_elder' (by (with_reducible repeat (first|apply Kd.R_alloc|apply Kd.R_drewN|apply Kd.R_drew));exact (Kd.R_mono (Kd.R_far (p:=⟨gb339,2,none⟩) (Kd.R_far (p:=⟨gb339,1,none⟩) (Kd.R_far (p:=⟨gb339,0,none⟩) (Kd.R_types HO334.out BK339.out (by decide)) (fun _ hk=>hk.2) (.int .i64 t331)) (fun _ hk=>hk.2) (.slice Ao69 t332.length co69)) (fun _ hk=>hk.2) (.slice Ao71 t335.length co71)) (fun _ h_=>h_.1))) (Kd.R_base ho0) hb);have n5_:=Aside0.mk (Kd.R_elder' (by (with_reducible repeat (first|apply Kd.R_alloc|apply Kd.R_drewN|apply Kd.R_drew));exact (Kd.R_mono (Kd.R_far (p:=⟨gb339,2,none⟩) (Kd.R_far (p:=⟨gb339,1,none⟩) (Kd.R_far (p:=⟨gb339,0,none⟩) (Kd.R_types HO337.out BK339.out (by decide)) (fun _ hk=>hk.2) (.int .i64 t331)) (fun _ hk=>hk.2) (.slice Ao69 t332.length co69)) (fun _ hk=>hk.2) (.slice Ao71 t335.length co71)) (fun _ h_=>h_.1))) (Kd.R_base ho1) hb);have n6_:=Aside0.mk (Kd.R_lower (Kd.R_new' (Kd.R_new' (Kd.R_new' ho0 (Kd.R_lt (by (with_reducible repeat (first|apply Kd.R_alloc|apply Kd.R_drewN|apply Kd.R_drew));exact (Kd.R_mono (Kd.R_far (p:=⟨gb339,2,none⟩) (Kd.R_far (p:=⟨gb339,1,none⟩) (Kd.R_far (p:=⟨gb339,0,none⟩) (Kd.R_types HO320.out BK339.out (by decide)) (fun _ hk=>hk.2) (.int .i64 t331)) (fun _ hk=>hk.2) (.slice Ao69 t332.length co69)) (fun _ hk=>hk.2) (.slice Ao71 t335.length co71)) (fun _ h_=>h_.1))))) (Kd.R_lt (by (with_reducible repeat (first|apply Kd.R_alloc|apply Kd.R_drewN|apply Kd.R_drew));exact (Kd.R_mono (Kd.R_far (p:=⟨gb339,2,none⟩) (Kd.R_far (p:=⟨gb339,1,none⟩) (Kd.R_far (p:=⟨gb339,0,none⟩) (Kd.R_types HO327.out BK339.out (by decide)) (fun _ hk=>hk.2) (.int .i64 t331)) (fun _ hk=>hk.2) (.slice Ao69 t332.length co69)) (fun _ hk=>hk.2) (.slice Ao71 t335.length co71)) (fun _ h_=>h_.1))))) (Kd.R_lt (by (with_reducible repeat (first|apply Kd.R_alloc|apply Kd.R_drewN|apply Kd.R_drew));exact (Kd.R_mono (Kd.R_far (p:=⟨gb339,2,none⟩) (Kd.R_far (p:=⟨gb339,1,none⟩) (Kd.R_far (p:=⟨gb339,0,none⟩) (Kd.R_types HO334.out BK339.out (by decide)) (fun _ hk=>hk.2) (.int .i64 t331)) (fun _ hk=>hk.2) (.slice Ao69 t332.length co69)) (fun _ hk=>hk.2) (.slice Ao71 t335.length co71)) (fun _ h_=>h_.1))))) (below_size bs));have n7_:=Aside0.mk (Kd.R_lower (Kd.R_new' (Kd.R_new' (Kd.R_new' ho1 (Kd.R_lt (by (with_reducible repeat (first|apply Kd.R_alloc|apply Kd.R_drewN|apply Kd.R_drew));exact (Kd.R_mono (Kd.R_far (p:=⟨gb339,2,none⟩) (Kd.R_far (p:=⟨gb339,1,none⟩) (Kd.R_far (p:=⟨gb339,0,none⟩) (Kd.R_types HO323.out BK339.out (by decide)) (fun _ hk=>hk.2) (.int .i64 t331)) (fun _ hk=>hk.2) (.slice Ao69 t332.length co69)) (fun _ hk=>hk.2) (.slice Ao71 t335.length co71)) (fun _ h_=>h_.1))))) (Kd.R_lt (by (with_reducible repeat (first|apply Kd.R_alloc|apply Kd.R_drewN|apply Kd.R_drew));exact (Kd.R_mono (Kd.R_far (p:=⟨gb339,2,none⟩) (Kd.R_far (p:=⟨gb339,1,none⟩) (Kd.R_far (p:=⟨gb339,0,none⟩) (Kd.R_types HO330.out BK339.out (by decide)) (fun _ hk=>hk.2) (.int .i64 t331)) (fun _ hk=>hk.2) (.slice Ao69 t332.length co69)) (fun _ hk=>hk.2) (.slice Ao71 t335.length co71)) (fun _ h_=>h_.1))))) (Kd.R_lt (by (with_reducible repeat (first|apply Kd.R_alloc|apply Kd.R_drewN|apply Kd.R_drew));exact (Kd.R_mono (Kd.R_far (p:=⟨gb339,2,none⟩) (Kd.R_far (p:=⟨gb339,1,none⟩) (Kd.R_far (p:=⟨gb339,0,none⟩) (Kd.R_types HO337.out BK339.out (by decide)) (fun _ hk=>hk.2) (.int .i64 t331)) (fun _ hk=>hk.2) (.slice Ao69 t332.length co69)) (fun _ hk=>hk.2) (.slice Ao71 t335.length co71)) (fun _ h_=>h_.1))))) (below_size bs));have n8_:=Aside0.mk (blk_below (g:=gb313) (o:=.cells #[.int .i64 a0_0,.slice A0_1 l0_1.length c0_1,.slice A0_2 l0_2.length c0_2] 25 (0,0)) (by (with_reducible repeat (first|refine blk_drewN ?_ _|refine blk_drew ?_|refine blk_alloc ?_ _));refine blk_far ?_ NB313_339.out _;(with_reducible repeat (first|refine blk_drewN ?_ _|refine blk_drew ?_|refine blk_alloc ?_ _));refine blk_far ?_ NB313_339.out _;(with_reducible repeat (first|refine blk_drewN ?_ _|refine blk_drew ?_|refine blk_alloc ?_ _));refine blk_far ?_ NB313_339.out _;(with_reducible repeat (first|refine blk_drewN ?_ _|refine blk_drew ?_|refine blk_alloc ?_ _));exact BK313.out) hb);have n9_:=Aside0.mk (blk_below (g:=gb314) (o:=.cells #[.int .i64 a1_0,.slice A1_1 l1_1.length c1_1,.slice A1_2 l1_2.length c1_2] 25 (0,0)) (by (with_reducible repeat (first|refine blk_drewN ?_ _|refine blk_drew ?_|refine blk_alloc ?_ _));refine blk_far ?_ NB314_339.out _;(with_reducible repeat (first|refine blk_drewN ?_ _|refine blk_drew ?_|refine blk_alloc ?_ _));refine blk_far ?_ NB314_339.out _;(with_reducible repeat (first|refine blk_drewN ?_ _|refine blk_drew ?_|refine blk_alloc ?_ _));refine blk_far ?_ NB314_339.out _;(with_reducible repeat (first|refine blk_drewN ?_ _|refine blk_drew ?_|refine blk_alloc ?_ _));exact BK314.out) hb);have n10_:=Aside0.mk (blk_below (g:=gb339) (o:=.cells #[.int .i64 t331,.slice Ao69 t332.length co69,.slice Ao71 t335.length co71] 29 (0,0)) (by (with_reducible repeat (first|refine blk_drewN ?_ _|refine blk_drew ?_|refine blk_alloc ?_ _));refine blk_put (cs:=#[.int .i64 t331,.slice Ao69 t332.length co69,.slice none 0 0]) ?_ 2 _ rfl;(with_reducible repeat (first|refine blk_drewN ?_ _|refine blk_drew ?_|refine blk_alloc ?_ _));refine blk_put (cs:=#[.int .i64 t331,.slice none 0 0,.slice none 0 0]) ?_ 1 _ rfl;(with_reducible repeat (first|refine blk_drewN ?_ _|refine blk_drew ?_|refine blk_alloc ?_ _));refine blk_put (cs:=#[.int .i64 0,.slice none 0 0,.slice none 0 0]) ?_ 0 _ rfl;(with_reducible repeat (first|refine blk_drewN ?_ _|refine blk_drew ?_|refine blk_alloc ?_ _));exact BK339.out) hb);have n11_:=Aside0.mk (below_step bs hb);clear HO320 HO323 HO327 HO330 HO334 HO337 BK313 BK314 BK339 HB;have HO334:=n4_;have HO337:=n5_;have HO343:=n6_;have HO346:=n7_;have BK313:=n8_;have BK314:=n9_;have BK339:=n10_;have HB:=n11_;clear n4_ n5_ n6_ n7_ n8_ n9_ n10_ n11_;(try clear hb);(try clear ho0);(try clear ho1))|((with_reducible refine gate_dst (N:=8) rfl ?_);refine box_event ?hg (N:=8) ?hd (cs:=#[.int .i64 0,.slice none 0 0,.slice none 0 0]) (t:=29) ?hr ?_;(case hd=>rfl);(case hg=>rfl);(case hr=>first|(go_simp;done)|(go_simp;rfl));intro gb347 hg w76 hbox hb;have n0_:=Aside0.mk (Kd.R_below (rz HO334.out) hb);have n1_:=Aside0.mk (Kd.R_below (rz HO337.out) hb);have n2_:=Aside0.mk (Kd.R_below (rz HO343.out) hb);have n3_:=Aside0.mk (Kd.R_below (rz HO346.out) hb);have n4_:=Aside0.mk (kb BK313.out hb);have n5_:=Aside0.mk (kb BK314.out hb);have n6_:=Aside0.mk (kb BK339.out hb);have n7_:=Aside0.mk (below_step bs hb);have n8_:=Aside0.mk (hbox);have n10_:=Aside0.mk ((by rw [hg];exact (below_size bs) : w.heap.size ≤ gb347));have n11_:=Aside0.mk (kn hg BK313.out);have n12_:=Aside0.mk (km hg BK313.out);have n13_:=Aside0.mk (kn hg BK314.out);have n14_:=Aside0.mk (km hg BK314.out);have n15_:=Aside0.mk (kn hg BK339.out);have n16_:=Aside0.mk (km hg BK339.out);clear HO334 HO337 HO343 HO346 BK313 BK314 BK339 HB;have HO334:=n0_;have HO337:=n1_;have HO343:=n2_;have HO346:=n3_;have BK313:=n4_;have BK314:=n5_;have BK339:=n6_;have HB:=n7_;have BK347:=n8_;have GE347:=n10_;have NB313_347:=n11_;have NB347_313:=n12_;have NB314_347:=n13_;have NB347_314:=n14_;have NB339_347:=n15_;have NB347_339:=n16_;clear n0_ n1_ n2_ n3_ n4_ n5_ n6_ n7_ n8_ n10_ n11_ n12_ n13_ n14_ n15_ n16_;clear hb hbox hg;have hnb77:=NB347_313.out;have hnc77:=NB313_347.out;have hnb78:=NB347_314.out;have hnc78:=NB314_347.out;have hnb79:=NB347_339.out;have hnc79:=NB339_347.out;have hcz80_0 : w76.cell? ⟨gb347,0,none⟩ = some (.int .i64 0):=(blk_cell BK347.out 0).trans rfl;have hcz80_1 : w76.cell? ⟨gb347,1,none⟩ = some (.slice none 0 0):=(blk_cell BK347.out 1).trans rfl;have hcz80_2 : w76.cell? ⟨gb347,2,none⟩ = some (.slice none 0 0):=(blk_cell BK347.out 2).trans rfl;have hfz80_0:=blk_frozen BK347.out 0;have hfz80_1:=blk_frozen BK347.out 1;have hfz80_2:=blk_frozen BK347.out 2;obtain ⟨Ao81,co81,eo81⟩:=Kd.R_slice HO343.out;subst eo81;obtain ⟨Ao82,co82,eo82⟩:=Kd.R_slice HO346.out;subst eo82;have hnb83:=NB314_339.out;have hnc83:=NB339_314.out;have hcz84_0 : w76.cell? ⟨gb314,0,none⟩ = some (.int .i64 a1_0):=(blk_cell BK314.out 0).trans rfl;have hcz84_1 : w76.cell? ⟨gb314,1,none⟩ = some (.slice A1_1 l1_1.length c1_1):=(blk_cell BK314.out 1).trans rfl;have hcz84_2 : w76.cell? ⟨gb314,2,none⟩ = some (.slice A1_2 l1_2.length c1_2):=(blk_cell BK314.out 2).trans rfl;have hfz84_0:=blk_frozen BK314.out 0;have hfz84_1:=blk_frozen BK314.out 1;have hfz84_2:=blk_frozen BK314.out 2)|((with_reducible refine gate_callee (f:=12) rfl ?_);refine goesL_ (some 38) rfl rfl Try.func12 (by kernel_rfl) rfl #[.agg #[.int .i64 a1_0,.slice A1_1 l1_1.length c1_1,.slice A1_2 l1_2.length c1_2]] rfl mz ?_;(with_reducible refine (laws_toPlan.calls k a1_0 _ _ l1_1 _ _ l1_2 t348 t349 t352 _ ?side1 ?side2 ?side3 ?side4 A22.out).mono ?_);(case side1=>exact Kd.C_below HR1_1.out bs);(case side2=>exact HC1_1.out);(case side3=>exact Kd.C_below HR1_2.out bs);(case side4=>exact HC1_2.out);rintro e w85 ⟨v350,v353,rfl,ho0,ho1,hb⟩;refine ⟨_,rfl,?_⟩;have n0_:=Aside0.mk (Kd.R_elder' (by (with_reducible repeat (first|apply Kd.R_alloc|apply Kd.R_drewN|apply Kd.R_drew));exact (Kd.R_mono (Kd.R_far (p:=⟨gb347,2,none⟩) (Kd.R_far (p:=⟨gb347,1,none⟩) (Kd.R_far (p:=⟨gb347,0,none⟩) (Kd.R_types HO334.out BK347.out (by decide)) (fun _ hk=>hk.2) (.int .i64 t340)) (fun _ hk=>hk.2) (.slice Ao81 t341.length co81)) (fun _ hk=>hk.2) (.slice Ao82 t344.length co82)) (fun _ h_=>h_.1))) (Kd.R_base ho0) hb);have n1_:=Aside0.mk (Kd.R_elder' (by (with_reducible repeat (first|apply Kd.R_alloc|apply Kd.R_drewN|apply Kd.R_drew));exact (Kd.R_mono (Kd.R_far (p:=⟨gb347,2,none⟩) (Kd.R_far (p:=⟨gb347,1,none⟩) (Kd.R_far (p:=⟨gb347,0,none⟩) (Kd.R_types HO337.out BK347.out (by decide)) (fun _ hk=>hk.2) (.int .i64 t340)) (fun _ hk=>hk.2) (.slice Ao81 t341.length co81)) (fun _ hk=>hk.2) (.slice Ao82 t344.length co82)) (fun _ h_=>h_.1))) (Kd.R_base ho1) hb);have n2_:=Aside0.mk (Kd.R_elder' (by (with_reducible repeat (first|apply Kd.R_alloc|apply Kd.R_drewN|apply Kd.R_drew));exact (Kd.R_mono (Kd.R_far (p:=⟨gb347,2,none⟩) (Kd.R_far (p:=⟨gb347,1,none⟩) (Kd.R_far (p:=⟨gb347,0,none⟩) (Kd.R_types HO343.out BK347.out (by decide)) (fun _ hk=>hk.2) (.int .i64 t340)) (fun _ hk=>hk.2) (.slice Ao81 t341.length co81)) (fun _ hk=>hk.2) (.slice Ao82 t344.length co82)) (fun _ h_=>h_.1))) (Kd.R_base ho0) hb);have n3_:=Aside0.mk (Kd.R_elder' (by (with_reducible repeat (first|apply Kd.R_alloc|apply Kd.R_drewN|apply Kd.R_drew));exact (Kd.R_mono (Kd.R_far (p:=⟨gb347,2,none⟩) (Kd.R_far (p:=⟨gb347,1,none⟩) (Kd.R_far (p:=⟨gb347,0,none⟩) (Kd.R_types HO346.out BK347.out (by decide)) (fun _ hk=>hk.2) (.int .i64 t340)) (fun _ hk=>hk.2) (.slice Ao81 t341.length co81)) (fun _ hk=>hk.2) (.slice Ao82 t344.length co82)) (fun _ h_=>h_.1))) (Kd.R_base ho1) hb);have n4_:=Aside0.mk (Kd.R_lower (Kd.R_new' (Kd.R_new' ho0 (Kd.R_lt (by (with_reducible repeat (first|apply Kd.R_alloc|apply Kd.R_drewN|apply Kd.R_drew));exact (Kd.R_mono (Kd.R_far (p:=⟨gb347,2,none⟩) (Kd.R_far (p:=⟨gb347,1,none⟩) (Kd.R_far (p:=⟨gb347,0,none⟩) (Kd.R_types HO334.out BK347.out (by decide)) (fun _ hk=>hk.2) (.int .i64 t340)) (fun _ hk=>hk.2) (.slice Ao81 t341.length co81)) (fun _ hk=>hk.2) (.slice Ao82 t344.length co82)) (fun _ h_=>h_.1))))) (Kd.R_lt (by (with_reducible repeat (first|apply Kd.R_alloc|apply Kd.R_drewN|apply Kd.R_drew));exact (Kd.R_mono (Kd.R_far (p:=⟨gb347,2,none⟩) (Kd.R_far (p:=⟨gb347,1,none⟩) (Kd.R_far (p:=⟨gb347,0,none⟩) (Kd.R_types HO343.out BK347.out (by decide)) (fun _ hk=>hk.2) (.int .i64 t340)) (fun _ hk=>hk.2) (.slice Ao81 t341.length co81)) (fun _ hk=>hk.2) (.slice Ao82 t344.length co82)) (fun _ h_=>h_.1))))) (below_size bs));have n5_:=Aside0.mk (Kd.R_lower (Kd.R_new' (Kd.R_new' ho1 (Kd.R_lt (by (with_reducible repeat (first|apply Kd.R_alloc|apply Kd.R_drewN|apply Kd.R_drew));exact (Kd.R_mono (Kd.R_far (p:=⟨gb347,2,none⟩) (Kd.R_far (p:=⟨gb347,1,none⟩) (Kd.R_far (p:=⟨gb347,0,none⟩) (Kd.R_types HO337.out BK347.out (by decide)) (fun _ hk=>hk.2) (.int .i64 t340)) (fun _ hk=>hk.2) (.slice Ao81 t341.length co81)) (fun _ hk=>hk.2) (.slice Ao82 t344.length co82)) (fun _ h_=>h_.1))))) (Kd.R_lt (by (with_reducible repeat (first|apply Kd.R_alloc|apply Kd.R_drewN|apply Kd.R_drew));exact (Kd.R_mono (Kd.R_far (p:=⟨gb347,2,none⟩) (Kd.R_far (p:=⟨gb347,1,none⟩) (Kd.R_far (p:=⟨gb347,0,none⟩) (Kd.R_types HO346.out BK347.out (by decide)) (fun _ hk=>hk.2) (.int .i64 t340)) (fun _ hk=>hk.2) (.slice Ao81 t341.length co81)) (fun _ hk=>hk.2) (.slice Ao82 t344.length co82)) (fun _ h_=>h_.1))))) (below_size bs));have n6_:=Aside0.mk (blk_below (g:=gb313) (o:=.cells #[.int .i64 a0_0,.slice A0_1 l0_1.length c0_1,.slice A0_2 l0_2.length c0_2] 25 (0,0)) (by (with_reducible repeat (first|refine blk_drewN ?_ _|refine blk_drew ?_|refine blk_alloc ?_ _));refine blk_far ?_ NB313_347.out _;(with_reducible repeat (first|refine blk_drewN ?_ _|refine blk_drew ?_|refine blk_alloc ?_ _));refine blk_far ?_ NB313_347.out _;(with_reducible repeat (first|refine blk_drewN ?_ _|refine blk_drew ?_|refine blk_alloc ?_ _));refine blk_far ?_ NB313_347.out _;(with_reducible repeat (first|refine blk_drewN ?_ _|refine blk_drew ?_|refine blk_alloc ?_ _));exact BK313.out) hb);have n7_:=Aside0.mk (blk_below (g:=gb314) (o:=.cells #[.int .i64 a1_0,.slice A1_1 l1_1.length c1_1,.slice A1_2 l1_2.length c1_2] 25 (0,0)) (by (with_reducible repeat (first|refine blk_drewN ?_ _|refine blk_drew ?_|refine blk_alloc ?_ _));refine blk_far ?_ NB314_347.out _;(with_reducible repeat (first|refine blk_drewN ?_ _|refine blk_drew ?_|refine blk_alloc ?_ _));refine blk_far ?_ NB314_347.out _;(with_reducible repeat (first|refine blk_drewN ?_ _|refine blk_drew ?_|refine blk_alloc ?_ _));refine blk_far ?_ NB314_347.out _;(with_reducible repeat (first|refine blk_drewN ?_ _|refine blk_drew ?_|refine blk_alloc ?_ _));exact BK314.out) hb);have n8_:=Aside0.mk (blk_below (g:=gb339) (o:=.cells #[.int .i64 t331,.slice Ao69 t332.length co69,.slice Ao71 t335.length co71] 29 (0,0)) (by (with_reducible repeat (first|refine blk_drewN ?_ _|refine blk_drew ?_|refine blk_alloc ?_ _));refine blk_far ?_ NB339_347.out _;(with_reducible repeat (first|refine blk_drewN ?_ _|refine blk_drew ?_|refine blk_alloc ?_ _));refine blk_far ?_ NB339_347.out _;(with_reducible repeat (first|refine blk_drewN ?_ _|refine blk_drew ?_|refine blk_alloc ?_ _));refine blk_far ?_ NB339_347.out _;(with_reducible repeat (first|refine blk_drewN ?_ _|refine blk_drew ?_|refine blk_alloc ?_ _));exact BK339.out) hb);have n9_:=Aside0.mk (blk_below (g:=gb347) (o:=.cells #[.int .i64 t340,.slice Ao81 t341.length co81,.slice Ao82 t344.length co82] 29 (0,0)) (by (with_reducible repeat (first|refine blk_drewN ?_ _|refine blk_drew ?_|refine blk_alloc ?_ _));refine blk_put (cs:=#[.int .i64 t340,.slice Ao81 t341.length co81,.slice none 0 0]) ?_ 2 _ rfl;(with_reducible repeat (first|refine blk_drewN ?_ _|refine blk_drew ?_|refine blk_alloc ?_ _));refine blk_put (cs:=#[.int .i64 t340,.slice none 0 0,.slice none 0 0]) ?_ 1 _ rfl;(with_reducible repeat (first|refine blk_drewN ?_ _|refine blk_drew ?_|refine blk_alloc ?_ _));refine blk_put (cs:=#[.int .i64 0,.slice none 0 0,.slice none 0 0]) ?_ 0 _ rfl;(with_reducible repeat (first|refine blk_drewN ?_ _|refine blk_drew ?_|refine blk_alloc ?_ _));exact BK347.out) hb);have n10_:=Aside0.mk (below_step bs hb);clear HO334 HO337 HO343 HO346 BK313 BK314 BK339 BK347 HB;have HO334:=n0_;have HO337:=n1_;have HO343:=n2_;have HO346:=n3_;have HO351:=n4_;have HO354:=n5_;have BK313:=n6_;have BK314:=n7_;have BK339:=n8_;have BK347:=n9_;have HB:=n10_;clear n0_ n1_ n2_ n3_ n4_ n5_ n6_ n7_ n8_ n9_ n10_;(try clear hb);(try clear ho0);(try clear ho1))|((with_reducible refine gate_dst (N:=9) rfl ?_);refine box_event ?hg (N:=9) ?hd (cs:=#[.int .i64 0,.slice none 0 0,.slice none 0 0]) (t:=29) ?hr ?_;(case hd=>rfl);(case hg=>rfl);(case hr=>first|(go_simp;done)|(go_simp;rfl));intro gb355 hg w86 hbox hb;have n0_:=Aside0.mk (Kd.R_below (rz HO334.out) hb);have n1_:=Aside0.mk (Kd.R_below (rz HO337.out) hb);have n2_:=Aside0.mk (Kd.R_below (rz HO343.out) hb);have n3_:=Aside0.mk (Kd.R_below (rz HO346.out) hb);have n4_:=Aside0.mk (Kd.R_below (rz HO351.out) hb);have n5_:=Aside0.mk (Kd.R_below (rz HO354.out) hb);have n6_:=Aside0.mk (kb BK313.out hb);have n7_:=Aside0.mk (kb BK314.out hb);have n8_:=Aside0.mk (kb BK339.out hb);have n9_:=Aside0.mk (kb BK347.out hb);have n10_:=Aside0.mk (below_step bs hb);have n11_:=Aside0.mk (hbox);have n13_:=Aside0.mk ((by rw [hg];exact (below_size bs) : w.heap.size ≤ gb355));have n14_:=Aside0.mk (kn hg BK313.out);have n15_:=Aside0.mk (km hg BK313.out);have n16_:=Aside0.mk (kn hg BK314.out);have n17_:=Aside0.mk (km hg BK314.out);have n18_:=Aside0.mk (kn hg BK339.out);have n19_:=Aside0.mk (km hg BK339.out);have n20_:=Aside0.mk (kn hg BK347.out);have n21_:=Aside0.mk (km hg BK347.out);clear HO334 HO337 HO343 HO346 HO351 HO354 BK313 BK314 BK339 BK347 HB;have HO334:=n0_;have HO337:=n1_;have HO343:=n2_;have HO346:=n3_;have HO351:=n4_;have HO354:=n5_;have BK313:=n6_;have BK314:=n7_;have BK339:=n8_;have BK347:=n9_;have HB:=n10_;have BK355:=n11_;have GE355:=n13_;have NB313_355:=n14_;have NB355_313:=n15_;have NB314_355:=n16_;have NB355_314:=n17_;have NB339_355:=n18_;have NB355_339:=n19_;have NB347_355:=n20_;have NB355_347:=n21_;clear n0_ n1_ n2_ n3_ n4_ n5_ n6_ n7_ n8_ n9_ n10_ n11_ n13_ n14_ n15_ n16_ n17_ n18_ n19_ n20_ n21_;clear hb hbox hg;have hnb87:=NB355_313.out;have hnc87:=NB313_355.out;have hnb88:=NB355_314.out;have hnc88:=NB314_355.out;have hnb89:=NB355_339.out;have hnc89:=NB339_355.out;have hnb90:=NB355_347.out;have hnc90:=NB347_355.out;have hcz91_0 : w86.cell? ⟨gb355,0,none⟩ = some (.int .i64 0):=(blk_cell BK355.out 0).trans rfl;have hcz91_1 : w86.cell? ⟨gb355,1,none⟩ = some (.slice none 0 0):=(blk_cell BK355.out 1).trans rfl;have hcz91_2 : w86.cell? ⟨gb355,2,none⟩ = some (.slice none 0 0):=(blk_cell BK355.out 2).trans rfl;have hfz91_0:=blk_frozen BK355.out 0;have hfz91_1:=blk_frozen BK355.out 1;have hfz91_2:=blk_frozen BK355.out 2;obtain ⟨Ao92,co92,eo92⟩:=Kd.R_slice HO351.out;subst eo92;obtain ⟨Ao93,co93,eo93⟩:=Kd.R_slice HO354.out;subst eo93;have hcz94_0 : w86.cell? ⟨gb347,0,none⟩ = some (.int .i64 t340):=(blk_cell BK347.out 0).trans rfl;have hcz94_1 : w86.cell? ⟨gb347,1,none⟩ = some (.slice Ao81 t341.length co81):=(blk_cell BK347.out 1).trans rfl;have hcz94_2 : w86.cell? ⟨gb347,2,none⟩ = some (.slice Ao82 t344.length co82):=(blk_cell BK347.out 2).trans rfl;have hfz94_0:=blk_frozen BK347.out 0;have hfz94_1:=blk_frozen BK347.out 1;have hfz94_2:=blk_frozen BK347.out 2)|((with_reducible refine gate_callee (f:=13) rfl ?_);refine goesL_ (some 42) rfl rfl Try.func13 (by kernel_rfl) rfl #[.agg #[.int .i64 t340,.slice Ao81 t341.length co81,.slice Ao82 t344.length co82],.agg #[.int .i64 t348,.slice Ao92 t349.length co92,.slice Ao93 t352.length co93]] rfl mz ?_;(with_reducible refine (impl_JoinPlans.calls k t340 _ _ t341 _ _ t344 t348 _ _ t349 _ _ t352 t356 t357 t360 t363 _ ?side1 ?side2 ?side3 ?side4 ?side5 ?side6 ?side7 ?side8 A23.out).mono ?_);(case side1=>refine (Kd.R_reads' (e:=73) (base:=w.heap.size) (ok:=fun k_=>((((True ∧ some k_ ≠ (v319 : Value).ownBlock) ∧ some k_ ≠ (v326 : Value).ownBlock) ∧ some k_ ≠ (.slice Ao69 t332.length co69 : Value).ownBlock) ∧ some k_ ≠ (.slice Ao92 t349.length co92 : Value).ownBlock)) (n:=t341.length) (c:=co81) ?_).2.2;exact (by (with_reducible repeat (first|apply Kd.R_alloc|apply Kd.R_drewN|apply Kd.R_drew));exact (Kd.R_mono (Kd.R_far (p:=⟨gb355,2,none⟩) (Kd.R_far (p:=⟨gb355,1,none⟩) (Kd.R_far (p:=⟨gb355,0,none⟩) (Kd.R_types HO343.out BK355.out (by decide)) (fun _ hk=>hk.2) (.int .i64 t348)) (fun _ hk=>hk.2) (.slice Ao92 t349.length co92)) (fun _ hk=>hk.2) (.slice Ao93 t352.length co93)) (fun _ h_=>h_.1))));(case side2=>exact (Kd.R_reads' HO343.out).2.1);(case side3=>refine (Kd.R_reads' (e:=3) (base:=w.heap.size) (ok:=fun k_=>((((True ∧ some k_ ≠ (v322 : Value).ownBlock) ∧ some k_ ≠ (v329 : Value).ownBlock) ∧ some k_ ≠ (.slice Ao71 t335.length co71 : Value).ownBlock) ∧ some k_ ≠ (.slice Ao93 t352.length co93 : Value).ownBlock)) (n:=t344.length) (c:=co82) ?_).2.2;exact (by (with_reducible repeat (first|apply Kd.R_alloc|apply Kd.R_drewN|apply Kd.R_drew));exact (Kd.R_mono (Kd.R_far (p:=⟨gb355,2,none⟩) (Kd.R_far (p:=⟨gb355,1,none⟩) (Kd.R_far (p:=⟨gb355,0,none⟩) (Kd.R_types HO346.out BK355.out (by decide)) (fun _ hk=>hk.2) (.int .i64 t348)) (fun _ hk=>hk.2) (.slice Ao92 t349.length co92)) (fun _ hk=>hk.2) (.slice Ao93 t352.length co93)) (fun _ h_=>h_.1))));(case side4=>exact (Kd.R_reads' HO346.out).2.1);(case side5=>refine (Kd.R_reads' (e:=73) (base:=w.heap.size) (ok:=fun k_=>((True ∧ some k_ ≠ (.slice Ao69 t332.length co69 : Value).ownBlock) ∧ some k_ ≠ (.slice Ao81 t341.length co81 : Value).ownBlock)) (n:=t349.length) (c:=co92) ?_).2.2;exact (by (with_reducible repeat (first|apply Kd.R_alloc|apply Kd.R_drewN|apply Kd.R_drew));exact (Kd.R_mono (Kd.R_far (p:=⟨gb355,2,none⟩) (Kd.R_far (p:=⟨gb355,1,none⟩) (Kd.R_far (p:=⟨gb355,0,none⟩) (Kd.R_types HO351.out BK355.out (by decide)) (fun _ hk=>hk.2) (.int .i64 t348)) (fun _ hk=>hk.2) (.slice Ao92 t349.length co92)) (fun _ hk=>hk.2) (.slice Ao93 t352.length co93)) (fun _ h_=>h_.1))));(case side6=>exact (Kd.R_reads' HO351.out).2.1);(case side7=>refine (Kd.R_reads' (e:=3) (base:=w.heap.size) (ok:=fun k_=>((True ∧ some k_ ≠ (.slice Ao71 t335.length co71 : Value).ownBlock) ∧ some k_ ≠ (.slice Ao82 t344.length co82 : Value).ownBlock)) (n:=t352.length) (c:=co93) ?_).2.2;exact (by (with_reducible repeat (first|apply Kd.R_alloc|apply Kd.R_drewN|apply Kd.R_drew));exact (Kd.R_mono (Kd.R_far (p:=⟨gb355,2,none⟩) (Kd.R_far (p:=⟨gb355,1,none⟩) (Kd.R_far (p:=⟨gb355,0,none⟩) (Kd.R_types HO354.out BK355.out (by decide)) (fun _ hk=>hk.2) (.int .i64 t348)) (fun _ hk=>hk.2) (.slice Ao92 t349.length co92)) (fun _ hk=>hk.2) (.slice Ao93 t352.length co93)) (fun _ h_=>h_.1))));(case side8=>exact (Kd.R_reads' HO354.out).2.1);rintro e w95 ⟨v358,v361,rfl,ho0,ho1,hb⟩;refine ⟨_,rfl,?_⟩;have n0_:=Aside0.mk (Kd.R_elder' (by (with_reducible repeat (first|apply Kd.R_alloc|apply Kd.R_drewN|apply Kd.R_drew));exact (Kd.R_mono (Kd.R_far (p:=⟨gb355,2,none⟩) (Kd.R_far (p:=⟨gb355,1,none⟩) (Kd.R_far (p:=⟨gb355,0,none⟩) (Kd.R_types HO334.out BK355.out (by decide)) (fun _ hk=>hk.2) (.int .i64 t348)) (fun _ hk=>hk.2) (.slice Ao92 t349.length co92)) (fun _ hk=>hk.2) (.slice Ao93 t352.length co93)) (fun _ h_=>h_.1))) (Kd.R_base ho0) hb);have n1_:=Aside0.mk (Kd.R_elder' (by (with_reducible repeat (first|apply Kd.R_alloc|apply Kd.R_drewN|apply Kd.R_drew));exact (Kd.R_mono (Kd.R_far (p:=⟨gb355,2,none⟩) (Kd.R_far (p:=⟨gb355,1,none⟩) (Kd.R_far (p:=⟨gb355,0,none⟩) (Kd.R_types HO337.out BK355.out (by decide)) (fun _ hk=>hk.2) (.int .i64 t348)) (fun _ hk=>hk.2) (.slice Ao92 t349.length co92)) (fun _ hk=>hk.2) (.slice Ao93 t352.length co93)) (fun _ h_=>h_.1))) (Kd.R_base ho1) hb);have n2_:=Aside0.mk (Kd.R_elder' (by (with_reducible repeat (first|apply Kd.R_alloc|apply Kd.R_drewN|apply Kd.R_drew));exact (Kd.R_mono (Kd.R_far (p:=⟨gb355,2,none⟩) (Kd.R_far (p:=⟨gb355,1,none⟩) (Kd.R_far (p:=⟨gb355,0,none⟩) (Kd.R_types HO343.out BK355.out (by decide)) (fun _ hk=>hk.2) (.int .i64 t348)) (fun _ hk=>hk.2) (.slice Ao92 t349.length co92)) (fun _ hk=>hk.2) (.slice Ao93 t352.length co93)) (fun _ h_=>h_.1))) (Kd.R_base ho0) hb);have n3_:=Aside0.mk (Kd.R_elder' (by (with_reducible repeat (first|apply Kd.R_alloc|apply Kd.R_drewN|apply Kd.R_drew));exact (Kd.R_mono (Kd.R_far (p:=⟨gb355,2,none⟩) (Kd.R_far (p:=⟨gb355,1,none⟩) (Kd.R_far (p:=⟨gb355,0,none⟩) (Kd.R_types HO346.out BK355.out (by decide)) (fun _ hk=>hk.2) (.int .i64 t348)) (fun _ hk=>hk.2) (.slice Ao92 t349.length co92)) (fun _ hk=>hk.2) (.slice Ao93 t352.length co93)) (fun _ h_=>h_.1))) (Kd.R_base ho1) hb);have n4_:=Aside0.mk (Kd.R_elder' (by (with_reducible repeat (first|apply Kd.R_alloc|apply Kd.R_drewN|apply Kd.R_drew));exact (Kd.R_mono (Kd.R_far (p:=⟨gb355,2,none⟩) (Kd.R_far (p:=⟨gb355,1,none⟩) (Kd.R_far (p:=⟨gb355,0,none⟩) (Kd.R_types HO351.out BK355.out (by decide)) (fun _ hk=>hk.2) (.int .i64 t348)) (fun _ hk=>hk.2) (.slice Ao92 t349.length co92)) (fun _ hk=>hk.2) (.slice Ao93 t352.length co93)) (fun _ h_=>h_.1))) (Kd.R_base ho0) hb);have n5_:=Aside0.mk (Kd.R_elder' (by (with_reducible repeat (first|apply Kd.R_alloc|apply Kd.R_drewN|apply Kd.R_drew));exact (Kd.R_mono (Kd.R_far (p:=⟨gb355,2,none⟩) (Kd.R_far (p:=⟨gb355,1,none⟩) (Kd.R_far (p:=⟨gb355,0,none⟩) (Kd.R_types HO354.out BK355.out (by decide)) (fun _ hk=>hk.2) (.int .i64 t348)) (fun _ hk=>hk.2) (.slice Ao92 t349.length co92)) (fun _ hk=>hk.2) (.slice Ao93 t352.length co93)) (fun _ h_=>h_.1))) (Kd.R_base ho1) hb);have n6_:=Aside0.mk (Kd.R_lower (Kd.R_new' (Kd.R_new' (Kd.R_new' ho0 (Kd.R_lt (by (with_reducible repeat (first|apply Kd.R_alloc|apply Kd.R_drewN|apply Kd.R_drew));exact (Kd.R_mono (Kd.R_far (p:=⟨gb355,2,none⟩) (Kd.R_far (p:=⟨gb355,1,none⟩) (Kd.R_far (p:=⟨gb355,0,none⟩) (Kd.R_types HO334.out BK355.out (by decide)) (fun _ hk=>hk.2) (.int .i64 t348)) (fun _ hk=>hk.2) (.slice Ao92 t349.length co92)) (fun _ hk=>hk.2) (.slice Ao93 t352.length co93)) (fun _ h_=>h_.1))))) (Kd.R_lt (by (with_reducible repeat (first|apply Kd.R_alloc|apply Kd.R_drewN|apply Kd.R_drew));exact (Kd.R_mono (Kd.R_far (p:=⟨gb355,2,none⟩) (Kd.R_far (p:=⟨gb355,1,none⟩) (Kd.R_far (p:=⟨gb355,0,none⟩) (Kd.R_types HO343.out BK355.out (by decide)) (fun _ hk=>hk.2) (.int .i64 t348)) (fun _ hk=>hk.2) (.slice Ao92 t349.length co92)) (fun _ hk=>hk.2) (.slice Ao93 t352.length co93)) (fun _ h_=>h_.1))))) (Kd.R_lt (by (with_reducible repeat (first|apply Kd.R_alloc|apply Kd.R_drewN|apply Kd.R_drew));exact (Kd.R_mono (Kd.R_far (p:=⟨gb355,2,none⟩) (Kd.R_far (p:=⟨gb355,1,none⟩) (Kd.R_far (p:=⟨gb355,0,none⟩) (Kd.R_types HO351.out BK355.out (by decide)) (fun _ hk=>hk.2) (.int .i64 t348)) (fun _ hk=>hk.2) (.slice Ao92 t349.length co92)) (fun _ hk=>hk.2) (.slice Ao93 t352.length co93)) (fun _ h_=>h_.1))))) (below_size bs));have n7_:=Aside0.mk (Kd.R_lower (Kd.R_new' (Kd.R_new' (Kd.R_new' ho1 (Kd.R_lt (by (with_reducible repeat (first|apply Kd.R_alloc|apply Kd.R_drewN|apply Kd.R_drew));exact (Kd.R_mono (Kd.R_far (p:=⟨gb355,2,none⟩) (Kd.R_far (p:=⟨gb355,1,none⟩) (Kd.R_far (p:=⟨gb355,0,none⟩) (Kd.R_types HO337.out BK355.out (by decide)) (fun _ hk=>hk.2) (.int .i64 t348)) (fun _ hk=>hk.2) (.slice Ao92 t349.length co92)) (fun _ hk=>hk.2) (.slice Ao93 t352.length co93)) (fun _ h_=>h_.1))))) (Kd.R_lt (by (with_reducible repeat (first|apply Kd.R_alloc|apply Kd.R_drewN|apply Kd.R_drew));exact (Kd.R_mono (Kd.R_far (p:=⟨gb355,2,none⟩) (Kd.R_far (p:=⟨gb355,1,none⟩) (Kd.R_far (p:=⟨gb355,0,none⟩) (Kd.R_types HO346.out BK355.out (by decide)) (fun _ hk=>hk.2) (.int .i64 t348)) (fun _ hk=>hk.2) (.slice Ao92 t349.length co92)) (fun _ hk=>hk.2) (.slice Ao93 t352.length co93)) (fun _ h_=>h_.1))))) (Kd.R_lt (by (with_reducible repeat (first|apply Kd.R_alloc|apply Kd.R_drewN|apply Kd.R_drew));exact (Kd.R_mono (Kd.R_far (p:=⟨gb355,2,none⟩) (Kd.R_far (p:=⟨gb355,1,none⟩) (Kd.R_far (p:=⟨gb355,0,none⟩) (Kd.R_types HO354.out BK355.out (by decide)) (fun _ hk=>hk.2) (.int .i64 t348)) (fun _ hk=>hk.2) (.slice Ao92 t349.length co92)) (fun _ hk=>hk.2) (.slice Ao93 t352.length co93)) (fun _ h_=>h_.1))))) (below_size bs));have n8_:=Aside0.mk (blk_below (g:=gb313) (o:=.cells #[.int .i64 a0_0,.slice A0_1 l0_1.length c0_1,.slice A0_2 l0_2.length c0_2] 25 (0,0)) (by (with_reducible repeat (first|refine blk_drewN ?_ _|refine blk_drew ?_|refine blk_alloc ?_ _));refine blk_far ?_ NB313_355.out _;(with_reducible repeat (first|refine blk_drewN ?_ _|refine blk_drew ?_|refine blk_alloc ?_ _));refine blk_far ?_ NB313_355.out _;(with_reducible repeat (first|refine blk_drewN ?_ _|refine blk_drew ?_|refine blk_alloc ?_ _));refine blk_far ?_ NB313_355.out _;(with_reducible repeat (first|refine blk_drewN ?_ _|refine blk_drew ?_|refine blk_alloc ?_ _));exact BK313.out) hb);have n9_:=Aside0.mk (blk_below (g:=gb314) (o:=.cells #[.int .i64 a1_0,.slice A1_1 l1_1.length c1_1,.slice A1_2 l1_2.length c1_2] 25 (0,0)) (by (with_reducible repeat (first|refine blk_drewN ?_ _|refine blk_drew ?_|refine blk_alloc ?_ _));refine blk_far ?_ NB314_355.out _;(with_reducible repeat (first|refine blk_drewN ?_ _|refine blk_drew ?_|refine blk_alloc ?_ _));refine blk_far ?_ NB314_355.out _;(with_reducible repeat (first|refine blk_drewN ?_ _|refine blk_drew ?_|refine blk_alloc ?_ _));refine blk_far ?_ NB314_355.out _;(with_reducible repeat (first|refine blk_drewN ?_ _|refine blk_drew ?_|refine blk_alloc ?_ _));exact BK314.out) hb);have n10_:=Aside0.mk (blk_below (g:=gb339) (o:=.cells #[.int .i64 t331,.slice Ao69 t332.length co69,.slice Ao71 t335.length co71] 29 (0,0)) (by (with_reducible repeat (first|refine blk_drewN ?_ _|refine blk_drew ?_|refine blk_alloc ?_ _));refine blk_far ?_ NB339_355.out _;(with_reducible repeat (first|refine blk_drewN ?_ _|refine blk_drew ?_|refine blk_alloc ?_ _));refine blk_far ?_ NB339_355.out _;(with_reducible repeat (first|refine blk_drewN ?_ _|refine blk_drew ?_|refine blk_alloc ?_ _));refine blk_far ?_ NB339_355.out _;(with_reducible repeat (first|refine blk_drewN ?_ _|refine blk_drew ?_|refine blk_alloc ?_ _));exact BK339.out) hb);have n11_:=Aside0.mk (blk_below (g:=gb347) (o:=.cells #[.int .i64 t340,.slice Ao81 t341.length co81,.slice Ao82 t344.length co82] 29 (0,0)) (by (with_reducible repeat (first|refine blk_drewN ?_ _|refine blk_drew ?_|refine blk_alloc ?_ _));refine blk_far ?_ NB347_355.out _;(with_reducible repeat (first|refine blk_drewN ?_ _|refine blk_drew ?_|refine blk_alloc ?_ _));refine blk_far ?_ NB347_355.out _;(with_reducible repeat (first|refine blk_drewN ?_ _|refine blk_drew ?_|refine blk_alloc ?_ _));refine blk_far ?_ NB347_355.out _;(with_reducible repeat (first|refine blk_drewN ?_ _|refine blk_drew ?_|refine blk_alloc ?_ _));exact BK347.out) hb);have n12_:=Aside0.mk (blk_below (g:=gb355) (o:=.cells #[.int .i64 t348,.slice Ao92 t349.length co92,.slice Ao93 t352.length co93] 29 (0,0)) (by (with_reducible repeat (first|refine blk_drewN ?_ _|refine blk_drew ?_|refine blk_alloc ?_ _));refine blk_put (cs:=#[.int .i64 t348,.slice Ao92 t349.length co92,.slice none 0 0]) ?_ 2 _ rfl;(with_reducible repeat (first|refine blk_drewN ?_ _|refine blk_drew ?_|refine blk_alloc ?_ _));refine blk_put (cs:=#[.int .i64 t348,.slice none 0 0,.slice none 0 0]) ?_ 1 _ rfl;(with_reducible repeat (first|refine blk_drewN ?_ _|refine blk_drew ?_|refine blk_alloc ?_ _));refine blk_put (cs:=#[.int .i64 0,.slice none 0 0,.slice none 0 0]) ?_ 0 _ rfl;(with_reducible repeat (first|refine blk_drewN ?_ _|refine blk_drew ?_|refine blk_alloc ?_ _));exact BK355.out) hb);have n13_:=Aside0.mk (below_step bs hb);clear HO334 HO337 HO343 HO346 HO351 HO354 BK313 BK314 BK339 BK347 BK355 HB;have HO334:=n0_;have HO337:=n1_;have HO343:=n2_;have HO346:=n3_;have HO351:=n4_;have HO354:=n5_;have HO359:=n6_;have HO362:=n7_;have BK313:=n8_;have BK314:=n9_;have BK339:=n10_;have BK347:=n11_;have BK355:=n12_;have HB:=n13_;clear n0_ n1_ n2_ n3_ n4_ n5_ n6_ n7_ n8_ n9_ n10_ n11_ n12_ n13_;(try clear hb);(try clear ho0);(try clear ho1))|((with_reducible refine gate_dst (N:=10) rfl ?_);refine box_event ?hg (N:=10) ?hd (cs:=#[.int .i64 0,.slice none 0 0,.slice none 0 0]) (t:=29) ?hr ?_;(case hd=>rfl);(case hg=>rfl);(case hr=>first|(go_simp;done)|(go_simp;rfl));intro gb364 hg w96 hbox hb;have n0_:=Aside0.mk (Kd.R_below (rz HO334.out) hb);have n1_:=Aside0.mk (Kd.R_below (rz HO337.out) hb);have n2_:=Aside0.mk (Kd.R_below (rz HO343.out) hb);have n3_:=Aside0.mk (Kd.R_below (rz HO346.out) hb);have n4_:=Aside0.mk (Kd.R_below (rz HO351.out) hb);have n5_:=Aside0.mk (Kd.R_below (rz HO354.out) hb);have n6_:=Aside0.mk (Kd.R_below (rz HO359.out) hb);have n7_:=Aside0.mk (Kd.R_below (rz HO362.out) hb);have n8_:=Aside0.mk (kb BK313.out hb);have n9_:=Aside0.mk (kb BK314.out hb);have n10_:=Aside0.mk (kb BK339.out hb);have n11_:=Aside0.mk (kb BK347.out hb);have n12_:=Aside0.mk (kb BK355.out hb);have n13_:=Aside0.mk (below_step bs hb);have n14_:=Aside0.mk (hbox);have n16_:=Aside0.mk ((by rw [hg];exact (below_size bs) : w.heap.size ≤ gb364));have n17_:=Aside0.mk (kn hg BK313.out);have n18_:=Aside0.mk (km hg BK313.out);have n19_:=Aside0.mk (kn hg BK314.out);have n20_:=Aside0.mk (km hg BK314.out);have n21_:=Aside0.mk (kn hg BK339.out);have n22_:=Aside0.mk (km hg BK339.out);have n23_:=Aside0.mk (kn hg BK347.out);have n24_:=Aside0.mk (km hg BK347.out);have n25_:=Aside0.mk (kn hg BK355.out);have n26_:=Aside0.mk (km hg BK355.out);clear HO334 HO337 HO343 HO346 HO351 HO354 HO359 HO362 BK313 BK314 BK339 BK347 BK355 HB;have HO334:=n0_;have HO337:=n1_;have HO343:=n2_;have HO346:=n3_;have HO351:=n4_;have HO354:=n5_;have HO359:=n6_;have HO362:=n7_;have BK313:=n8_;have BK314:=n9_;have BK339:=n10_;have BK347:=n11_;have BK355:=n12_;have HB:=n13_;have BK364:=n14_;have GE364:=n16_;have NB313_364:=n17_;have NB364_313:=n18_;have NB314_364:=n19_;have NB364_314:=n20_;have NB339_364:=n21_;have NB364_339:=n22_;have NB347_364:=n23_;have NB364_347:=n24_;have NB355_364:=n25_;have NB364_355:=n26_;clear n0_ n1_ n2_ n3_ n4_ n5_ n6_ n7_ n8_ n9_ n10_ n11_ n12_ n13_ n14_ n16_ n17_ n18_ n19_ n20_ n21_ n22_ n23_ n24_ n25_ n26_;clear hb hbox hg;have hnb97:=NB364_313.out;have hnc97:=NB313_364.out;have hnb98:=NB364_314.out;have hnc98:=NB314_364.out;have hnb99:=NB364_339.out;have hnc99:=NB339_364.out;have hnb100:=NB364_347.out;have hnc100:=NB347_364.out;have hnb101:=NB364_355.out;have hnc101:=NB355_364.out;have hcz102_0 : w96.cell? ⟨gb364,0,none⟩ = some (.int .i64 0):=(blk_cell BK364.out 0).trans rfl;have hcz102_1 : w96.cell? ⟨gb364,1,none⟩ = some (.slice none 0 0):=(blk_cell BK364.out 1).trans rfl;have hcz102_2 : w96.cell? ⟨gb364,2,none⟩ = some (.slice none 0 0):=(blk_cell BK364.out 2).trans rfl;have hfz102_0:=blk_frozen BK364.out 0;have hfz102_1:=blk_frozen BK364.out 1;have hfz102_2:=blk_frozen BK364.out 2;obtain ⟨Ao103,co103,eo103⟩:=Kd.R_slice HO359.out;subst eo103;obtain ⟨Ao104,co104,eo104⟩:=Kd.R_slice HO362.out;subst eo104;have hcz105_0 : w96.cell? ⟨gb339,0,none⟩ = some (.int .i64 t331):=(blk_cell BK339.out 0).trans rfl;have hcz105_1 : w96.cell? ⟨gb339,1,none⟩ = some (.slice Ao69 t332.length co69):=(blk_cell BK339.out 1).trans rfl;have hcz105_2 : w96.cell? ⟨gb339,2,none⟩ = some (.slice Ao71 t335.length co71):=(blk_cell BK339.out 2).trans rfl;have hfz105_0:=blk_frozen BK339.out 0;have hfz105_1:=blk_frozen BK339.out 1;have hfz105_2:=blk_frozen BK339.out 2)|((with_reducible refine gate_callee (f:=14) rfl ?_);refine goesL_ (some 47) rfl rfl Try.func14 (by kernel_rfl) rfl #[.agg #[.int .i64 t356,.slice Ao103 t357.length co103,.slice Ao104 t360.length co104],.agg #[.int .i64 t331,.slice Ao69 t332.length co69,.slice Ao71 t335.length co71]] rfl mz ?_;(with_reducible refine (laws_eqPlan.calls k t356 _ _ t357 _ _ t360 t331 _ _ t332 _ _ t335 true _ ?side1 ?side2 ?side3 ?side4 ?side5 ?side6 ?side7 ?side8 A24.out).mono ?_);(case side1=>refine (Kd.R_reads' (e:=73) (base:=w.heap.size) (ok:=fun k_=>(((True ∧ some k_ ≠ (.slice Ao69 t332.length co69 : Value).ownBlock) ∧ some k_ ≠ (.slice Ao81 t341.length co81 : Value).ownBlock) ∧ some k_ ≠ (.slice Ao92 t349.length co92 : Value).ownBlock)) (n:=t357.length) (c:=co103) ?_).2.2;exact (by (with_reducible repeat (first|apply Kd.R_alloc|apply Kd.R_drewN|apply Kd.R_drew));exact (Kd.R_mono (Kd.R_far (p:=⟨gb364,2,none⟩) (Kd.R_far (p:=⟨gb364,1,none⟩) (Kd.R_far (p:=⟨gb364,0,none⟩) (Kd.R_types HO359.out BK364.out (by decide)) (fun _ hk=>hk.2) (.int .i64 t356)) (fun _ hk=>hk.2) (.slice Ao103 t357.length co103)) (fun _ hk=>hk.2) (.slice Ao104 t360.length co104)) (fun _ h_=>h_.1))));(case side2=>exact (Kd.R_reads' HO359.out).2.1);(case side3=>refine (Kd.R_reads' (e:=3) (base:=w.heap.size) (ok:=fun k_=>(((True ∧ some k_ ≠ (.slice Ao71 t335.length co71 : Value).ownBlock) ∧ some k_ ≠ (.slice Ao82 t344.length co82 : Value).ownBlock) ∧ some k_ ≠ (.slice Ao93 t352.length co93 : Value).ownBlock)) (n:=t360.length) (c:=co104) ?_).2.2;exact (by (with_reducible repeat (first|apply Kd.R_alloc|apply Kd.R_drewN|apply Kd.R_drew));exact (Kd.R_mono (Kd.R_far (p:=⟨gb364,2,none⟩) (Kd.R_far (p:=⟨gb364,1,none⟩) (Kd.R_far (p:=⟨gb364,0,none⟩) (Kd.R_types HO362.out BK364.out (by decide)) (fun _ hk=>hk.2) (.int .i64 t356)) (fun _ hk=>hk.2) (.slice Ao103 t357.length co103)) (fun _ hk=>hk.2) (.slice Ao104 t360.length co104)) (fun _ h_=>h_.1))));(case side4=>exact (Kd.R_reads' HO362.out).2.1);(case side5=>refine (Kd.R_reads' (e:=73) (base:=w.heap.size) (ok:=fun k_=>((((some k_ ≠ (v319 : Value).ownBlock ∧ some k_ ≠ (v326 : Value).ownBlock) ∧ some k_ ≠ (.slice Ao81 t341.length co81 : Value).ownBlock) ∧ some k_ ≠ (.slice Ao92 t349.length co92 : Value).ownBlock) ∧ some k_ ≠ (.slice Ao103 t357.length co103 : Value).ownBlock)) (n:=t332.length) (c:=co69) ?_).2.2;exact (by (with_reducible repeat (first|apply Kd.R_alloc|apply Kd.R_drewN|apply Kd.R_drew));exact (Kd.R_mono (Kd.R_far (p:=⟨gb364,2,none⟩) (Kd.R_far (p:=⟨gb364,1,none⟩) (Kd.R_far (p:=⟨gb364,0,none⟩) (Kd.R_types HO334.out BK364.out (by decide)) (fun _ hk=>hk.2) (.int .i64 t356)) (fun _ hk=>hk.2) (.slice Ao103 t357.length co103)) (fun _ hk=>hk.2) (.slice Ao104 t360.length co104)) (fun _ h_=>h_.1))));(case side6=>exact (Kd.R_reads' HO334.out).2.1);(case side7=>refine (Kd.R_reads' (e:=3) (base:=w.heap.size) (ok:=fun k_=>((((some k_ ≠ (v322 : Value).ownBlock ∧ some k_ ≠ (v329 : Value).ownBlock) ∧ some k_ ≠ (.slice Ao82 t344.length co82 : Value).ownBlock) ∧ some k_ ≠ (.slice Ao93 t352.length co93 : Value).ownBlock) ∧ some k_ ≠ (.slice Ao104 t360.length co104 : Value).ownBlock)) (n:=t335.length) (c:=co71) ?_).2.2;exact (by (with_reducible repeat (first|apply Kd.R_alloc|apply Kd.R_drewN|apply Kd.R_drew));exact (Kd.R_mono (Kd.R_far (p:=⟨gb364,2,none⟩) (Kd.R_far (p:=⟨gb364,1,none⟩) (Kd.R_far (p:=⟨gb364,0,none⟩) (Kd.R_types HO337.out BK364.out (by decide)) (fun _ hk=>hk.2) (.int .i64 t356)) (fun _ hk=>hk.2) (.slice Ao103 t357.length co103)) (fun _ hk=>hk.2) (.slice Ao104 t360.length co104)) (fun _ h_=>h_.1))));(case side8=>exact (Kd.R_reads' HO337.out).2.1);rintro e w106 ⟨rfl,hb⟩;refine ⟨_,rfl,?_⟩;have n0_:=Aside0.mk (Kd.R_below (by (with_reducible repeat (first|apply Kd.R_alloc|apply Kd.R_drewN|apply Kd.R_drew));exact (Kd.R_mono (Kd.R_far (p:=⟨gb364,2,none⟩) (Kd.R_far (p:=⟨gb364,1,none⟩) (Kd.R_far (p:=⟨gb364,0,none⟩) (Kd.R_types HO334.out BK364.out (by decide)) (fun _ hk=>hk.2) (.int .i64 t356)) (fun _ hk=>hk.2) (.slice Ao103 t357.length co103)) (fun _ hk=>hk.2) (.slice Ao104 t360.length co104)) (fun _ h_=>h_.1))) hb);have n1_:=Aside0.mk (Kd.R_below (by (with_reducible repeat (first|apply Kd.R_alloc|apply Kd.R_drewN|apply Kd.R_drew));exact (Kd.R_mono (Kd.R_far (p:=⟨gb364,2,none⟩) (Kd.R_far (p:=⟨gb364,1,none⟩) (Kd.R_far (p:=⟨gb364,0,none⟩) (Kd.R_types HO337.out BK364.out (by decide)) (fun _ hk=>hk.2) (.int .i64 t356)) (fun _ hk=>hk.2) (.slice Ao103 t357.length co103)) (fun _ hk=>hk.2) (.slice Ao104 t360.length co104)) (fun _ h_=>h_.1))) hb);have n2_:=Aside0.mk (Kd.R_below (by (with_reducible repeat (first|apply Kd.R_alloc|apply Kd.R_drewN|apply Kd.R_drew));exact (Kd.R_mono (Kd.R_far (p:=⟨gb364,2,none⟩) (Kd.R_far (p:=⟨gb364,1,none⟩) (Kd.R_far (p:=⟨gb364,0,none⟩) (Kd.R_types HO343.out BK364.out (by decide)) (fun _ hk=>hk.2) (.int .i64 t356)) (fun _ hk=>hk.2) (.slice Ao103 t357.length co103)) (fun _ hk=>hk.2) (.slice Ao104 t360.length co104)) (fun _ h_=>h_.1))) hb);have n3_:=Aside0.mk (Kd.R_below (by (with_reducible repeat (first|apply Kd.R_alloc|apply Kd.R_drewN|apply Kd.R_drew));exact (Kd.R_mono (Kd.R_far (p:=⟨gb364,2,none⟩) (Kd.R_far (p:=⟨gb364,1,none⟩) (Kd.R_far (p:=⟨gb364,0,none⟩) (Kd.R_types HO346.out BK364.out (by decide)) (fun _ hk=>hk.2) (.int .i64 t356)) (fun _ hk=>hk.2) (.slice Ao103 t357.length co103)) (fun _ hk=>hk.2) (.slice Ao104 t360.length co104)) (fun _ h_=>h_.1))) hb);have n4_:=Aside0.mk (Kd.R_below (by (with_reducible repeat (first|apply Kd.R_alloc|apply Kd.R_drewN|apply Kd.R_drew));exact (Kd.R_mono (Kd.R_far (p:=⟨gb364,2,none⟩) (Kd.R_far (p:=⟨gb364,1,none⟩) (Kd.R_far (p:=⟨gb364,0,none⟩) (Kd.R_types HO351.out BK364.out (by decide)) (fun _ hk=>hk.2) (.int .i64 t356)) (fun _ hk=>hk.2) (.slice Ao103 t357.length co103)) (fun _ hk=>hk.2) (.slice Ao104 t360.length co104)) (fun _ h_=>h_.1))) hb);have n5_:=Aside0.mk (Kd.R_below (by (with_reducible repeat (first|apply Kd.R_alloc|apply Kd.R_drewN|apply Kd.R_drew));exact (Kd.R_mono (Kd.R_far (p:=⟨gb364,2,none⟩) (Kd.R_far (p:=⟨gb364,1,none⟩) (Kd.R_far (p:=⟨gb364,0,none⟩) (Kd.R_types HO354.out BK364.out (by decide)) (fun _ hk=>hk.2) (.int .i64 t356)) (fun _ hk=>hk.2) (.slice Ao103 t357.length co103)) (fun _ hk=>hk.2) (.slice Ao104 t360.length co104)) (fun _ h_=>h_.1))) hb);have n6_:=Aside0.mk (Kd.R_below (by (with_reducible repeat (first|apply Kd.R_alloc|apply Kd.R_drewN|apply Kd.R_drew));exact (Kd.R_mono (Kd.R_far (p:=⟨gb364,2,none⟩) (Kd.R_far (p:=⟨gb364,1,none⟩) (Kd.R_far (p:=⟨gb364,0,none⟩) (Kd.R_types HO359.out BK364.out (by decide)) (fun _ hk=>hk.2) (.int .i64 t356)) (fun _ hk=>hk.2) (.slice Ao103 t357.length co103)) (fun _ hk=>hk.2) (.slice Ao104 t360.length co104)) (fun _ h_=>h_.1))) hb);have n7_:=Aside0.mk (Kd.R_below (by (with_reducible repeat (first|apply Kd.R_alloc|apply Kd.R_drewN|apply Kd.R_drew));exact (Kd.R_mono (Kd.R_far (p:=⟨gb364,2,none⟩) (Kd.R_far (p:=⟨gb364,1,none⟩) (Kd.R_far (p:=⟨gb364,0,none⟩) (Kd.R_types HO362.out BK364.out (by decide)) (fun _ hk=>hk.2) (.int .i64 t356)) (fun _ hk=>hk.2) (.slice Ao103 t357.length co103)) (fun _ hk=>hk.2) (.slice Ao104 t360.length co104)) (fun _ h_=>h_.1))) hb);have n8_:=Aside0.mk (blk_below (g:=gb313) (o:=.cells #[.int .i64 a0_0,.slice A0_1 l0_1.length c0_1,.slice A0_2 l0_2.length c0_2] 25 (0,0)) (by (with_reducible repeat (first|refine blk_drewN ?_ _|refine blk_drew ?_|refine blk_alloc ?_ _));refine blk_far ?_ NB313_364.out _;(with_reducible repeat (first|refine blk_drewN ?_ _|refine blk_drew ?_|refine blk_alloc ?_ _));refine blk_far ?_ NB313_364.out _;(with_reducible repeat (first|refine blk_drewN ?_ _|refine blk_drew ?_|refine blk_alloc ?_ _));refine blk_far ?_ NB313_364.out _;(with_reducible repeat (first|refine blk_drewN ?_ _|refine blk_drew ?_|refine blk_alloc ?_ _));exact BK313.out) hb);have n9_:=Aside0.mk (blk_below (g:=gb314) (o:=.cells #[.int .i64 a1_0,.slice A1_1 l1_1.length c1_1,.slice A1_2 l1_2.length c1_2] 25 (0,0)) (by (with_reducible repeat (first|refine blk_drewN ?_ _|refine blk_drew ?_|refine blk_alloc ?_ _));refine blk_far ?_ NB314_364.out _;(with_reducible repeat (first|refine blk_drewN ?_ _|refine blk_drew ?_|refine blk_alloc ?_ _));refine blk_far ?_ NB314_364.out _;(with_reducible repeat (first|refine blk_drewN ?_ _|refine blk_drew ?_|refine blk_alloc ?_ _));refine blk_far ?_ NB314_364.out _;(with_reducible repeat (first|refine blk_drewN ?_ _|refine blk_drew ?_|refine blk_alloc ?_ _));exact BK314.out) hb);have n10_:=Aside0.mk (blk_below (g:=gb339) (o:=.cells #[.int .i64 t331,.slice Ao69 t332.length co69,.slice Ao71 t335.length co71] 29 (0,0)) (by (with_reducible repeat (first|refine blk_drewN ?_ _|refine blk_drew ?_|refine blk_alloc ?_ _));refine blk_far ?_ NB339_364.out _;(with_reducible repeat (first|refine blk_drewN ?_ _|refine blk_drew ?_|refine blk_alloc ?_ _));refine blk_far ?_ NB339_364.out _;(with_reducible repeat (first|refine blk_drewN ?_ _|refine blk_drew ?_|refine blk_alloc ?_ _));refine blk_far ?_ NB339_364.out _;(with_reducible repeat (first|refine blk_drewN ?_ _|refine blk_drew ?_|refine blk_alloc ?_ _));exact BK339.out) hb);have n11_:=Aside0.mk (blk_below (g:=gb347) (o:=.cells #[.int .i64 t340,.slice Ao81 t341.length co81,.slice Ao82 t344.length co82] 29 (0,0)) (by (with_reducible repeat (first|refine blk_drewN ?_ _|refine blk_drew ?_|refine blk_alloc ?_ _));refine blk_far ?_ NB347_364.out _;(with_reducible repeat (first|refine blk_drewN ?_ _|refine blk_drew ?_|refine blk_alloc ?_ _));refine blk_far ?_ NB347_364.out _;(with_reducible repeat (first|refine blk_drewN ?_ _|refine blk_drew ?_|refine blk_alloc ?_ _));refine blk_far ?_ NB347_364.out _;(with_reducible repeat (first|refine blk_drewN ?_ _|refine blk_drew ?_|refine blk_alloc ?_ _));exact BK347.out) hb);have n12_:=Aside0.mk (blk_below (g:=gb355) (o:=.cells #[.int .i64 t348,.slice Ao92 t349.length co92,.slice Ao93 t352.length co93] 29 (0,0)) (by (with_reducible repeat (first|refine blk_drewN ?_ _|refine blk_drew ?_|refine blk_alloc ?_ _));refine blk_far ?_ NB355_364.out _;(with_reducible repeat (first|refine blk_drewN ?_ _|refine blk_drew ?_|refine blk_alloc ?_ _));refine blk_far ?_ NB355_364.out _;(with_reducible repeat (first|refine blk_drewN ?_ _|refine blk_drew ?_|refine blk_alloc ?_ _));refine blk_far ?_ NB355_364.out _;(with_reducible repeat (first|refine blk_drewN ?_ _|refine blk_drew ?_|refine blk_alloc ?_ _));exact BK355.out) hb);have n13_:=Aside0.mk (blk_below (g:=gb364) (o:=.cells #[.int .i64 t356,.slice Ao103 t357.length co103,.slice Ao104 t360.length co104] 29 (0,0)) (by (with_reducible repeat (first|refine blk_drewN ?_ _|refine blk_drew ?_|refine blk_alloc ?_ _));refine blk_put (cs:=#[.int .i64 t356,.slice Ao103 t357.length co103,.slice none 0 0]) ?_ 2 _ rfl;(with_reducible repeat (first|refine blk_drewN ?_ _|refine blk_drew ?_|refine blk_alloc ?_ _));refine blk_put (cs:=#[.int .i64 t356,.slice none 0 0,.slice none 0 0]) ?_ 1 _ rfl;(with_reducible repeat (first|refine blk_drewN ?_ _|refine blk_drew ?_|refine blk_alloc ?_ _));refine blk_put (cs:=#[.int .i64 0,.slice none 0 0,.slice none 0 0]) ?_ 0 _ rfl;(with_reducible repeat (first|refine blk_drewN ?_ _|refine blk_drew ?_|refine blk_alloc ?_ _));exact BK364.out) hb);have n14_:=Aside0.mk (below_step bs hb);clear HO334 HO337 HO343 HO346 HO351 HO354 HO359 HO362 BK313 BK314 BK339 BK347 BK355 BK364 HB;have HO334:=n0_;have HO337:=n1_;have HO343:=n2_;have HO346:=n3_;have HO351:=n4_;have HO354:=n5_;have HO359:=n6_;have HO362:=n7_;have BK313:=n8_;have BK314:=n9_;have BK339:=n10_;have BK347:=n11_;have BK355:=n12_;have BK364:=n13_;have HB:=n14_;clear n0_ n1_ n2_ n3_ n4_ n5_ n6_ n7_ n8_ n9_ n10_ n11_ n12_ n13_ n14_;(try clear hb)))
               have n0_:=Aside0.mk (Kd.R_drew HO334.out)
               have n1_:=Aside0.mk (Kd.R_drew HO337.out)
               have n2_:=Aside0.mk (Kd.R_drew HO343.out)
               have n3_:=Aside0.mk (Kd.R_drew HO346.out)
               have n4_:=Aside0.mk (Kd.R_drew HO351.out)
               have n5_:=Aside0.mk (Kd.R_drew HO354.out)
               have n6_:=Aside0.mk (Kd.R_drew HO359.out)
               have n7_:=Aside0.mk (Kd.R_drew HO362.out)
               have n8_:=Aside0.mk (blk_drew BK313.out)
               have n9_:=Aside0.mk (blk_drew BK314.out)
               have n10_:=Aside0.mk (blk_drew BK339.out)
               have n11_:=Aside0.mk (blk_drew BK347.out)
               have n12_:=Aside0.mk (blk_drew BK355.out)
               have n13_:=Aside0.mk (blk_drew BK364.out)
               have n14_:=Aside0.mk (below_drew1 HB.out)
               clear HO334
               clear HO337
               clear HO343
               clear HO346
               clear HO351
               clear HO354
               clear HO359
               clear HO362
               clear BK313
               clear BK314
               clear BK339
               clear BK347
               clear BK355
               clear BK364
               clear HB
               have HO334:=n0_
               have HO337:=n1_
               have HO343:=n2_
               have HO346:=n3_
               have HO351:=n4_
               have HO354:=n5_
               have HO359:=n6_
               have HO362:=n7_
               have BK313:=n8_
               have BK314:=n9_
               have BK339:=n10_
               have BK347:=n11_
               have BK355:=n12_
               have BK364:=n13_
               have HB:=n14_
               clear n0_ n1_ n2_ n3_ n4_ n5_ n6_ n7_ n8_ n9_ n10_ n11_ n12_ n13_ n14_
               refine start_ (n:=5) (S:=fun w'=>w'.cell? ⟨gb347,0,none⟩ = some (.int .i64 t340) ∧ w'.cell? ⟨gb347,1,none⟩ = some (.slice Ao81 t341.length co81) ∧ w'.cell? ⟨gb347,2,none⟩ = some (.slice Ao82 t344.length co82) ∧ w'.cell? ⟨gb313,0,none⟩ = some (.int .i64 a0_0) ∧ w'.cell? ⟨gb313,1,none⟩ = some (.slice A0_1 l0_1.length c0_1) ∧ w'.cell? ⟨gb313,2,none⟩ = some (.slice A0_2 l0_2.length c0_2)) (ds:=[]) #[false,false,false,false,false] (by kernel_rfl) rfl rfl ⟨(blk_cell BK347.out 0).trans rfl,(blk_cell BK347.out 1).trans rfl,(blk_cell BK347.out 2).trans rfl,(blk_cell BK313.out 0).trans rfl,(blk_cell BK313.out 1).trans rfl,(blk_cell BK313.out 2).trans rfl⟩ (fun hHeld=>?_)
               generalize w106.drew = w107 at HO334 HO337 HO343 HO346 HO351 HO354 HO359 HO362 BK313 BK314 BK339 BK347 BK355 BK364 HB hHeld ⊢
               refine take_ (i:=0) (N:=some 54) (v:=?_) (a':=?_) #[true,false,false,false,false] rfl rfl (by kernel_rfl) (fun _ _ _ h=>h) (Or.inl ⟨by rfl,?_⟩) hHeld ?_ ?_
               rotate_left
               ·rintro w' ⟨s0,s1,s2,s3,s4,s5⟩
                go_simp
                with_reducible rfl
               rotate_left
               ·simp only [Act.put,xa,xb,xc,i64_w,i32_w]
                rfl
               refine take_ (i:=1) (N:=some 55) (v:=?_) (a':=?_) #[true,true,false,false,false] rfl rfl (by kernel_rfl) (fun _ _ _ h=>h) (Or.inl ⟨by rfl,?_⟩) hHeld ?_ ?_
               rotate_left
               ·rintro w' ⟨s0,s1,s2,s3,s4,s5⟩
                go_simp
                with_reducible rfl
               rotate_left
               ·simp only [Act.put,xa,xb,xc,i64_w,i32_w]
                rfl
               refine one_ (i:=2) (N:=some 56) #[true,true,true,false,false] rfl rfl (by kernel_rfl) (by decide) (fun K hK=>?_)
               refine goes_ Try.func12 (by kernel_rfl) rfl #[.agg #[.int .i64 a0_0,.slice A0_1 l0_1.length c0_1,.slice A0_2 l0_2.length c0_2]] (by rfl) rfl rfl mz ?_
               with_reducible refine (laws_toPlan.calls k a0_0 _ _ l0_1 _ _ l0_2 t366 t367 t370 _ ?side1 ?side2 ?side3 ?side4 A27.out).mono ?_
               (case side1=>exact cz (Kd.C_below HR0_1.out HB.out))
               (case side2=>exact HC0_1.out)
               (case side3=>exact cz (Kd.C_below HR0_2.out HB.out))
               (case side4=>exact HC0_2.out)
               rintro e w108 ⟨v368,v371,rfl,ho0,ho1,hb⟩
               refine ⟨_,rfl,?_⟩
               have n0_:=Aside0.mk (Kd.R_elder' (rz HO334.out) (Kd.R_base ho0) hb)
               have n1_:=Aside0.mk (Kd.R_elder' (rz HO337.out) (Kd.R_base ho1) hb)
               have n2_:=Aside0.mk (Kd.R_elder' (rz HO343.out) (Kd.R_base ho0) hb)
               have n3_:=Aside0.mk (Kd.R_elder' (rz HO346.out) (Kd.R_base ho1) hb)
               have n4_:=Aside0.mk (Kd.R_elder' (rz HO351.out) (Kd.R_base ho0) hb)
               have n5_:=Aside0.mk (Kd.R_elder' (rz HO354.out) (Kd.R_base ho1) hb)
               have n6_:=Aside0.mk (Kd.R_elder' (rz HO359.out) (Kd.R_base ho0) hb)
               have n7_:=Aside0.mk (Kd.R_elder' (rz HO362.out) (Kd.R_base ho1) hb)
               have n8_:=Aside0.mk (Kd.R_lower (Kd.R_new' (Kd.R_new' (Kd.R_new' (Kd.R_new' ho0 (Kd.R_lt (rz HO334.out))) (Kd.R_lt (rz HO343.out))) (Kd.R_lt (rz HO351.out))) (Kd.R_lt (rz HO359.out))) (below_size bs))
               have n9_:=Aside0.mk (Kd.R_lower (Kd.R_new' (Kd.R_new' (Kd.R_new' (Kd.R_new' ho1 (Kd.R_lt (rz HO337.out))) (Kd.R_lt (rz HO346.out))) (Kd.R_lt (rz HO354.out))) (Kd.R_lt (rz HO362.out))) (below_size bs))
               have n10_:=Aside0.mk (kb BK313.out hb)
               have n11_:=Aside0.mk (kb BK314.out hb)
               have n12_:=Aside0.mk (kb BK339.out hb)
               have n13_:=Aside0.mk (kb BK347.out hb)
               have n14_:=Aside0.mk (kb BK355.out hb)
               have n15_:=Aside0.mk (kb BK364.out hb)
               have n16_:=Aside0.mk (below_step bs hb)
               clear HO334
               clear HO337
               clear HO343
               clear HO346
               clear HO351
               clear HO354
               clear HO359
               clear HO362
               clear BK313
               clear BK314
               clear BK339
               clear BK347
               clear BK355
               clear BK364
               clear HB
               have HO334:=n0_
               have HO337:=n1_
               have HO343:=n2_
               have HO346:=n3_
               have HO351:=n4_
               have HO354:=n5_
               have HO359:=n6_
               have HO362:=n7_
               have HO369:=n8_
               have HO372:=n9_
               have BK313:=n10_
               have BK314:=n11_
               have BK339:=n12_
               have BK347:=n13_
               have BK355:=n14_
               have BK364:=n15_
               have HB:=n16_
               clear n0_ n1_ n2_ n3_ n4_ n5_ n6_ n7_ n8_ n9_ n10_ n11_ n12_ n13_ n14_ n15_ n16_
               (try clear hb)
               (try clear ho0)
               (try clear ho1)
               obtain ⟨Ao109,co109,eo109⟩:=Kd.R_slice HO369.out
               (first|subst eo109|(injection eo109 with f1_ f2_ f3_;have f4_:=f1_.symm;have f5_:=f3_.symm;clear f1_ f2_ f3_;subst f4_;subst f5_))
               obtain ⟨Ao110,co110,eo110⟩:=Kd.R_slice HO372.out
               (first|subst eo110|(injection eo110 with f1_ f2_ f3_;have f4_:=f1_.symm;have f5_:=f3_.symm;clear f1_ f2_ f3_;subst f4_;subst f5_))
               refine hK.out _ _ ⟨(blk_cell BK347.out 0).trans rfl,(blk_cell BK347.out 1).trans rfl,(blk_cell BK347.out 2).trans rfl,(blk_cell BK313.out 0).trans rfl,(blk_cell BK313.out 1).trans rfl,(blk_cell BK313.out 2).trans rfl⟩ (fun hHeld=>?_)
               clear hK K
               refine norm_ (a':=?_) ?_ ?_
               rotate_left
               ·show Act.put _ (some 56) _ = _
                simp only [Act.put,xa,xb,xc,i64_w,i32_w]
                rfl
               refine one_ (i:=3) (N:=some 57) #[true,true,true,true,false] rfl rfl (by kernel_rfl) (by decide) (fun K hK=>?_)
               refine goes_ Try.func14 (by kernel_rfl) rfl #[.agg #[.int .i64 t340,.slice Ao81 t341.length co81,.slice Ao82 t344.length co82],.agg #[.int .i64 t366,.slice Ao109 t367.length co109,.slice Ao110 t370.length co110]] (by rfl) rfl rfl mz ?_
               with_reducible refine (laws_eqPlan.calls k t340 _ _ t341 _ _ t344 t366 _ _ t367 _ _ t370 true _ ?side1 ?side2 ?side3 ?side4 ?side5 ?side6 ?side7 ?side8 A28.out).mono ?_
               (case side1=>exact cz (Kd.R_reads' HO343.out).2.2)
               (case side2=>exact (Kd.R_reads' HO343.out).2.1)
               (case side3=>exact cz (Kd.R_reads' HO346.out).2.2)
               (case side4=>exact (Kd.R_reads' HO346.out).2.1)
               (case side5=>exact cz (Kd.R_reads' HO369.out).2.2)
               (case side6=>exact (Kd.R_reads' HO369.out).2.1)
               (case side7=>exact cz (Kd.R_reads' HO372.out).2.2)
               (case side8=>exact (Kd.R_reads' HO372.out).2.1)
               rintro e w111 ⟨rfl,hb⟩
               refine ⟨_,rfl,?_⟩
               have n0_:=Aside0.mk (Kd.R_below (rz HO334.out) hb)
               have n1_:=Aside0.mk (Kd.R_below (rz HO337.out) hb)
               have n2_:=Aside0.mk (Kd.R_below (rz HO343.out) hb)
               have n3_:=Aside0.mk (Kd.R_below (rz HO346.out) hb)
               have n4_:=Aside0.mk (Kd.R_below (rz HO351.out) hb)
               have n5_:=Aside0.mk (Kd.R_below (rz HO354.out) hb)
               have n6_:=Aside0.mk (Kd.R_below (rz HO359.out) hb)
               have n7_:=Aside0.mk (Kd.R_below (rz HO362.out) hb)
               have n10_:=Aside0.mk (kb BK313.out hb)
               have n11_:=Aside0.mk (kb BK314.out hb)
               have n12_:=Aside0.mk (kb BK339.out hb)
               have n13_:=Aside0.mk (kb BK347.out hb)
               have n14_:=Aside0.mk (kb BK355.out hb)
               have n15_:=Aside0.mk (kb BK364.out hb)
               have n16_:=Aside0.mk (below_step bs hb)
               clear HO334
               clear HO337
               clear HO343
               clear HO346
               clear HO351
               clear HO354
               clear HO359
               clear HO362
               clear HO369
               clear HO372
               clear BK313
               clear BK314
               clear BK339
               clear BK347
               clear BK355
               clear BK364
               clear HB
               have HO334:=n0_
               have HO337:=n1_
               have HO343:=n2_
               have HO346:=n3_
               have HO351:=n4_
               have HO354:=n5_
               have HO359:=n6_
               have HO362:=n7_
               have BK313:=n10_
               have BK314:=n11_
               have BK339:=n12_
               have BK347:=n13_
               have BK355:=n14_
               have BK364:=n15_
               have HB:=n16_
               clear n0_ n1_ n2_ n3_ n4_ n5_ n6_ n7_ n10_ n11_ n12_ n13_ n14_ n15_ n16_
               (try clear hb)
               refine hK.out _ _ ⟨(blk_cell BK347.out 0).trans rfl,(blk_cell BK347.out 1).trans rfl,(blk_cell BK347.out 2).trans rfl,(blk_cell BK313.out 0).trans rfl,(blk_cell BK313.out 1).trans rfl,(blk_cell BK313.out 2).trans rfl⟩ (fun hHeld=>?_)
               clear hK K
               refine norm_ (a':=?_) ?_ ?_
               rotate_left
               ·show Act.put _ (some 57) _ = _
                simp only [Act.put,xa,xb,xc,i64_w,i32_w]
                rfl
               refine pure_ (i:=4) (N:=some 58) (v:=?_) (a':=?_) #[true,true,true,true,true] rfl rfl (by kernel_rfl) (fun _ _ _ h=>h) (Or.inl ⟨by rfl,?_⟩) ?_ ?_
               rotate_left
               ·intro w'
                go_simp
                with_reducible rfl
               rotate_left
               ·simp only [Act.put,xa,xb,xc,i64_w,i32_w]
                rfl
               refine done_ (by kernel_rfl) ?_
               try go_wp2
               have n0_:=Aside0.mk (Kd.R_drew HO334.out)
               have n1_:=Aside0.mk (Kd.R_drew HO337.out)
               have n2_:=Aside0.mk (Kd.R_drew HO343.out)
               have n3_:=Aside0.mk (Kd.R_drew HO346.out)
               have n4_:=Aside0.mk (Kd.R_drew HO351.out)
               have n5_:=Aside0.mk (Kd.R_drew HO354.out)
               have n6_:=Aside0.mk (Kd.R_drew HO359.out)
               have n7_:=Aside0.mk (Kd.R_drew HO362.out)
               have n8_:=Aside0.mk (blk_drew BK313.out)
               have n9_:=Aside0.mk (blk_drew BK314.out)
               have n10_:=Aside0.mk (blk_drew BK339.out)
               have n11_:=Aside0.mk (blk_drew BK347.out)
               have n12_:=Aside0.mk (blk_drew BK355.out)
               have n13_:=Aside0.mk (blk_drew BK364.out)
               have n14_:=Aside0.mk (below_drew1 HB.out)
               clear HO334
               clear HO337
               clear HO343
               clear HO346
               clear HO351
               clear HO354
               clear HO359
               clear HO362
               clear BK313
               clear BK314
               clear BK339
               clear BK347
               clear BK355
               clear BK364
               clear HB
               have HO334:=n0_
               have HO337:=n1_
               have HO343:=n2_
               have HO346:=n3_
               have HO351:=n4_
               have HO354:=n5_
               have HO359:=n6_
               have HO362:=n7_
               have BK313:=n8_
               have BK314:=n9_
               have BK339:=n10_
               have BK347:=n11_
               have BK355:=n12_
               have BK364:=n13_
               have HB:=n14_
               clear n0_ n1_ n2_ n3_ n4_ n5_ n6_ n7_ n8_ n9_ n10_ n11_ n12_ n13_ n14_
               refine start_ (n:=5) (S:=fun w'=>w'.cell? ⟨gb355,0,none⟩ = some (.int .i64 t348) ∧ w'.cell? ⟨gb355,1,none⟩ = some (.slice Ao92 t349.length co92) ∧ w'.cell? ⟨gb355,2,none⟩ = some (.slice Ao93 t352.length co93) ∧ w'.cell? ⟨gb314,0,none⟩ = some (.int .i64 a1_0) ∧ w'.cell? ⟨gb314,1,none⟩ = some (.slice A1_1 l1_1.length c1_1) ∧ w'.cell? ⟨gb314,2,none⟩ = some (.slice A1_2 l1_2.length c1_2)) (ds:=[]) #[false,false,false,false,false] (by kernel_rfl) rfl rfl ⟨(blk_cell BK355.out 0).trans rfl,(blk_cell BK355.out 1).trans rfl,(blk_cell BK355.out 2).trans rfl,(blk_cell BK314.out 0).trans rfl,(blk_cell BK314.out 1).trans rfl,(blk_cell BK314.out 2).trans rfl⟩ (fun hHeld=>?_)
               generalize w111.drew = w112 at HO334 HO337 HO343 HO346 HO351 HO354 HO359 HO362 BK313 BK314 BK339 BK347 BK355 BK364 HB hHeld ⊢
               refine take_ (i:=0) (N:=some 59) (v:=?_) (a':=?_) #[true,false,false,false,false] rfl rfl (by kernel_rfl) (fun _ _ _ h=>h) (Or.inl ⟨by rfl,?_⟩) hHeld ?_ ?_
               rotate_left
               ·rintro w' ⟨s0,s1,s2,s3,s4,s5⟩
                go_simp
                with_reducible rfl
               rotate_left
               ·simp only [Act.put,xa,xb,xc,i64_w,i32_w]
                rfl
               refine take_ (i:=1) (N:=some 60) (v:=?_) (a':=?_) #[true,true,false,false,false] rfl rfl (by kernel_rfl) (fun _ _ _ h=>h) (Or.inl ⟨by rfl,?_⟩) hHeld ?_ ?_
               rotate_left
               ·rintro w' ⟨s0,s1,s2,s3,s4,s5⟩
                go_simp
                with_reducible rfl
               rotate_left
               ·simp only [Act.put,xa,xb,xc,i64_w,i32_w]
                rfl
               refine one_ (i:=2) (N:=some 61) #[true,true,true,false,false] rfl rfl (by kernel_rfl) (by decide) (fun K hK=>?_)
               refine goes_ Try.func12 (by kernel_rfl) rfl #[.agg #[.int .i64 a1_0,.slice A1_1 l1_1.length c1_1,.slice A1_2 l1_2.length c1_2]] (by rfl) rfl rfl mz ?_
               with_reducible refine (laws_toPlan.calls k a1_0 _ _ l1_1 _ _ l1_2 t374 t375 t378 _ ?side1 ?side2 ?side3 ?side4 A30.out).mono ?_
               (case side1=>exact cz (Kd.C_below HR1_1.out HB.out))
               (case side2=>exact HC1_1.out)
               (case side3=>exact cz (Kd.C_below HR1_2.out HB.out))
               (case side4=>exact HC1_2.out)
               rintro e w113 ⟨v376,v379,rfl,ho0,ho1,hb⟩
               refine ⟨_,rfl,?_⟩
               have n0_:=Aside0.mk (Kd.R_elder' (rz HO334.out) (Kd.R_base ho0) hb)
               have n1_:=Aside0.mk (Kd.R_elder' (rz HO337.out) (Kd.R_base ho1) hb)
               have n2_:=Aside0.mk (Kd.R_elder' (rz HO343.out) (Kd.R_base ho0) hb)
               have n3_:=Aside0.mk (Kd.R_elder' (rz HO346.out) (Kd.R_base ho1) hb)
               have n4_:=Aside0.mk (Kd.R_elder' (rz HO351.out) (Kd.R_base ho0) hb)
               have n5_:=Aside0.mk (Kd.R_elder' (rz HO354.out) (Kd.R_base ho1) hb)
               have n6_:=Aside0.mk (Kd.R_elder' (rz HO359.out) (Kd.R_base ho0) hb)
               have n7_:=Aside0.mk (Kd.R_elder' (rz HO362.out) (Kd.R_base ho1) hb)
               have n8_:=Aside0.mk (Kd.R_lower (Kd.R_new' (Kd.R_new' (Kd.R_new' (Kd.R_new' ho0 (Kd.R_lt (rz HO334.out))) (Kd.R_lt (rz HO343.out))) (Kd.R_lt (rz HO351.out))) (Kd.R_lt (rz HO359.out))) (below_size bs))
               have n9_:=Aside0.mk (Kd.R_lower (Kd.R_new' (Kd.R_new' (Kd.R_new' (Kd.R_new' ho1 (Kd.R_lt (rz HO337.out))) (Kd.R_lt (rz HO346.out))) (Kd.R_lt (rz HO354.out))) (Kd.R_lt (rz HO362.out))) (below_size bs))
               have n10_:=Aside0.mk (kb BK313.out hb)
               have n11_:=Aside0.mk (kb BK314.out hb)
               have n12_:=Aside0.mk (kb BK339.out hb)
               have n13_:=Aside0.mk (kb BK347.out hb)
               have n14_:=Aside0.mk (kb BK355.out hb)
               have n15_:=Aside0.mk (kb BK364.out hb)
               have n16_:=Aside0.mk (below_step bs hb)
               clear HO334
               clear HO337
               clear HO343
               clear HO346
               clear HO351
               clear HO354
               clear HO359
               clear HO362
               clear BK313
               clear BK314
               clear BK339
               clear BK347
               clear BK355
               clear BK364
               clear HB
               have HO334:=n0_
               have HO337:=n1_
               have HO343:=n2_
               have HO346:=n3_
               have HO351:=n4_
               have HO354:=n5_
               have HO359:=n6_
               have HO362:=n7_
               have HO377:=n8_
               have HO380:=n9_
               have BK313:=n10_
               have BK314:=n11_
               have BK339:=n12_
               have BK347:=n13_
               have BK355:=n14_
               have BK364:=n15_
               have HB:=n16_
               clear n0_ n1_ n2_ n3_ n4_ n5_ n6_ n7_ n8_ n9_ n10_ n11_ n12_ n13_ n14_ n15_ n16_
               (try clear hb)
               (try clear ho0)
               (try clear ho1)
               obtain ⟨Ao114,co114,eo114⟩:=Kd.R_slice HO377.out
               (first|subst eo114|(injection eo114 with f1_ f2_ f3_;have f4_:=f1_.symm;have f5_:=f3_.symm;clear f1_ f2_ f3_;subst f4_;subst f5_))
               obtain ⟨Ao115,co115,eo115⟩:=Kd.R_slice HO380.out
               (first|subst eo115|(injection eo115 with f1_ f2_ f3_;have f4_:=f1_.symm;have f5_:=f3_.symm;clear f1_ f2_ f3_;subst f4_;subst f5_))
               refine hK.out _ _ ⟨(blk_cell BK355.out 0).trans rfl,(blk_cell BK355.out 1).trans rfl,(blk_cell BK355.out 2).trans rfl,(blk_cell BK314.out 0).trans rfl,(blk_cell BK314.out 1).trans rfl,(blk_cell BK314.out 2).trans rfl⟩ (fun hHeld=>?_)
               clear hK K
               refine norm_ (a':=?_) ?_ ?_
               rotate_left
               ·show Act.put _ (some 61) _ = _
                simp only [Act.put,xa,xb,xc,i64_w,i32_w]
                rfl
               refine one_ (i:=3) (N:=some 62) #[true,true,true,true,false] rfl rfl (by kernel_rfl) (by decide) (fun K hK=>?_)
               refine goes_ Try.func14 (by kernel_rfl) rfl #[.agg #[.int .i64 t348,.slice Ao92 t349.length co92,.slice Ao93 t352.length co93],.agg #[.int .i64 t374,.slice Ao114 t375.length co114,.slice Ao115 t378.length co115]] (by rfl) rfl rfl mz ?_
               with_reducible refine (laws_eqPlan.calls k t348 _ _ t349 _ _ t352 t374 _ _ t375 _ _ t378 true _ ?side1 ?side2 ?side3 ?side4 ?side5 ?side6 ?side7 ?side8 A31.out).mono ?_
               (case side1=>exact cz (Kd.R_reads' HO351.out).2.2)
               (case side2=>exact (Kd.R_reads' HO351.out).2.1)
               (case side3=>exact cz (Kd.R_reads' HO354.out).2.2)
               (case side4=>exact (Kd.R_reads' HO354.out).2.1)
               (case side5=>exact cz (Kd.R_reads' HO377.out).2.2)
               (case side6=>exact (Kd.R_reads' HO377.out).2.1)
               (case side7=>exact cz (Kd.R_reads' HO380.out).2.2)
               (case side8=>exact (Kd.R_reads' HO380.out).2.1)
               rintro e w116 ⟨rfl,hb⟩
               refine ⟨_,rfl,?_⟩
               have n0_:=Aside0.mk (Kd.R_below (rz HO334.out) hb)
               have n1_:=Aside0.mk (Kd.R_below (rz HO337.out) hb)
               have n2_:=Aside0.mk (Kd.R_below (rz HO343.out) hb)
               have n3_:=Aside0.mk (Kd.R_below (rz HO346.out) hb)
               have n4_:=Aside0.mk (Kd.R_below (rz HO351.out) hb)
               have n5_:=Aside0.mk (Kd.R_below (rz HO354.out) hb)
               have n6_:=Aside0.mk (Kd.R_below (rz HO359.out) hb)
               have n7_:=Aside0.mk (Kd.R_below (rz HO362.out) hb)
               have n10_:=Aside0.mk (kb BK313.out hb)
               have n11_:=Aside0.mk (kb BK314.out hb)
               have n12_:=Aside0.mk (kb BK339.out hb)
               have n13_:=Aside0.mk (kb BK347.out hb)
               have n14_:=Aside0.mk (kb BK355.out hb)
               have n15_:=Aside0.mk (kb BK364.out hb)
               have n16_:=Aside0.mk (below_step bs hb)
               clear HO334
               clear HO337
               clear HO343
               clear HO346
               clear HO351
               clear HO354
               clear HO359
               clear HO362
               clear HO377
               clear HO380
               clear BK313
               clear BK314
               clear BK339
               clear BK347
               clear BK355
               clear BK364
               clear HB
               have HO334:=n0_
               have HO337:=n1_
               have HO343:=n2_
               have HO346:=n3_
               have HO351:=n4_
               have HO354:=n5_
               have HO359:=n6_
               have HO362:=n7_
               have BK313:=n10_
               have BK314:=n11_
               have BK339:=n12_
               have BK347:=n13_
               have BK355:=n14_
               have BK364:=n15_
               have HB:=n16_
               clear n0_ n1_ n2_ n3_ n4_ n5_ n6_ n7_ n10_ n11_ n12_ n13_ n14_ n15_ n16_
               (try clear hb)
               refine hK.out _ _ ⟨(blk_cell BK355.out 0).trans rfl,(blk_cell BK355.out 1).trans rfl,(blk_cell BK355.out 2).trans rfl,(blk_cell BK314.out 0).trans rfl,(blk_cell BK314.out 1).trans rfl,(blk_cell BK314.out 2).trans rfl⟩ (fun hHeld=>?_)
               clear hK K
               refine norm_ (a':=?_) ?_ ?_
               rotate_left
               ·show Act.put _ (some 62) _ = _
                simp only [Act.put,xa,xb,xc,i64_w,i32_w]
                rfl
               refine pure_ (i:=4) (N:=some 63) (v:=?_) (a':=?_) #[true,true,true,true,true] rfl rfl (by kernel_rfl) (fun _ _ _ h=>h) (Or.inl ⟨by rfl,?_⟩) ?_ ?_
               rotate_left
               ·intro w'
                go_simp
                with_reducible rfl
               rotate_left
               ·simp only [Act.put,xa,xb,xc,i64_w,i32_w]
                rfl
               refine done_ (by kernel_rfl) ?_
               have hcz117_0 : w116.cell? ⟨gb347,0,none⟩ = some (.int .i64 t340):=(blk_cell BK347.out 0).trans rfl
               have hcz117_1 : w116.cell? ⟨gb347,1,none⟩ = some (.slice Ao81 t341.length co81):=(blk_cell BK347.out 1).trans rfl
               have hcz117_2 : w116.cell? ⟨gb347,2,none⟩ = some (.slice Ao82 t344.length co82):=(blk_cell BK347.out 2).trans rfl
               have hfz117_0:=blk_frozen BK347.out 0
               have hfz117_1:=blk_frozen BK347.out 1
               have hfz117_2:=blk_frozen BK347.out 2
               try go_wp2_with (first|((with_reducible refine gate_callee (f:=15) rfl ?_);refine goesL_ (some 66) rfl rfl Try.func15 (by kernel_rfl) rfl #[.agg #[.int .i64 t340,.slice Ao81 t341.length co81,.slice Ao82 t344.length co82],.int .i64 1] rfl mz ?_;(with_reducible refine (laws_markPlan.calls k t340 (fun k_=>some k_ = (.slice Ao81 t341.length co81 : Value).ownBlock) (.slice Ao81 t341.length co81) t341 (fun k_=>some k_ = (.slice Ao82 t344.length co82 : Value).ownBlock) (.slice Ao82 t344.length co82) t344 1 t382 t383 t384 w _ ?side1 ?side2 ?side3 A33.out).mono ?_);(case side1=>repeat (first|(with_reducible first|exact HB.out|apply below_alloc|apply pw_below_drewN|apply below_drew1|refine below_set ?_ GE313.out|refine below_set ?_ GE314.out|refine below_set ?_ GE339.out|refine below_set ?_ GE355.out|refine below_set ?_ GE364.out)|exact HB.out));(case side2=>exact Kd.R_tight rfl HO343.out);(case side3=>exact Kd.R_tight rfl HO346.out);rintro e w118 ⟨rfl,hy0,hy1,hb,hkp⟩;refine ⟨_,rfl,?_⟩;have n0_:=Aside0.mk (blk_kept (kz BK313.out) hkp (fun hs_=>Or.elim hs_ (fun e_=>(fun e_=>(Kd.R_ne HO343.out BK313.out (by decide)) e_) e_) (fun e_=>(fun e_=>(Kd.R_ne HO346.out BK313.out (by decide)) e_) e_)));have n1_:=Aside0.mk (blk_kept (kz BK314.out) hkp (fun hs_=>Or.elim hs_ (fun e_=>(fun e_=>(Kd.R_ne HO343.out BK314.out (by decide)) e_) e_) (fun e_=>(fun e_=>(Kd.R_ne HO346.out BK314.out (by decide)) e_) e_)));have n2_:=Aside0.mk (Kd.R_mono (ok':=fun k_=>some k_ ≠ (.slice Ao81 t341.length co81 : Value).ownBlock ∧ some k_ ≠ (.slice Ao92 t349.length co92 : Value).ownBlock ∧ some k_ ≠ (.slice Ao103 t357.length co103 : Value).ownBlock) (Kd.R_keptB ((Kd.R_apart' HO334.out (Kd.R_typed HO346.out) (by decide))) hkp (fun k_ hk_ hs_=>Or.elim hs_ (fun e_=>(hk_.1.1.1.1.1.2) e_) (fun e_=>(hk_.2) e_))) (fun k_ hk_=>⟨hk_.1.1.1.1.1.1.2,hk_.1.1.1.1.1.2,hk_.1.1.1.1.2⟩));have n3_:=Aside0.mk (Kd.R_mono (ok':=fun k_=>some k_ ≠ (.slice Ao82 t344.length co82 : Value).ownBlock ∧ some k_ ≠ (.slice Ao93 t352.length co93 : Value).ownBlock ∧ some k_ ≠ (.slice Ao104 t360.length co104 : Value).ownBlock) (Kd.R_keptB ((Kd.R_apart' HO337.out (Kd.R_typed HO343.out) (by decide))) hkp (fun k_ hk_ hs_=>Or.elim hs_ (fun e_=>(hk_.2) e_) (fun e_=>(hk_.1.1.1.1.1.2) e_))) (fun k_ hk_=>⟨hk_.1.1.1.1.1.1.2,hk_.1.1.1.1.1.2,hk_.1.1.1.1.2⟩));have n4_:=Aside0.mk (blk_kept (kz BK339.out) hkp (fun hs_=>Or.elim hs_ (fun e_=>(fun e_=>(Kd.R_ne HO343.out BK339.out (by decide)) e_) e_) (fun e_=>(fun e_=>(Kd.R_ne HO346.out BK339.out (by decide)) e_) e_)));have n7_:=Aside0.mk (Kd.R_mono (ok':=fun k_=>some k_ ≠ (.slice Ao69 t332.length co69 : Value).ownBlock ∧ some k_ ≠ (.slice Ao81 t341.length co81 : Value).ownBlock ∧ some k_ ≠ (.slice Ao103 t357.length co103 : Value).ownBlock) (Kd.R_keptB ((Kd.R_apart' HO351.out (Kd.R_typed HO346.out) (by decide))) hkp (fun k_ hk_ hs_=>Or.elim hs_ (fun e_=>(hk_.1.1.1.1.2) e_) (fun e_=>(hk_.2) e_))) (fun k_ hk_=>⟨hk_.1.1.1.1.1.1.2,hk_.1.1.1.1.1.2,hk_.1.1.1.1.2⟩));have n8_:=Aside0.mk (Kd.R_mono (ok':=fun k_=>some k_ ≠ (.slice Ao71 t335.length co71 : Value).ownBlock ∧ some k_ ≠ (.slice Ao82 t344.length co82 : Value).ownBlock ∧ some k_ ≠ (.slice Ao104 t360.length co104 : Value).ownBlock) (Kd.R_keptB ((Kd.R_apart' HO354.out (Kd.R_typed HO343.out) (by decide))) hkp (fun k_ hk_ hs_=>Or.elim hs_ (fun e_=>(hk_.2) e_) (fun e_=>(hk_.1.1.1.1.2) e_))) (fun k_ hk_=>⟨hk_.1.1.1.1.1.1.2,hk_.1.1.1.1.1.2,hk_.1.1.1.1.2⟩));have n9_:=Aside0.mk (blk_kept (kz BK355.out) hkp (fun hs_=>Or.elim hs_ (fun e_=>(fun e_=>(Kd.R_ne HO343.out BK355.out (by decide)) e_) e_) (fun e_=>(fun e_=>(Kd.R_ne HO346.out BK355.out (by decide)) e_) e_)));have n10_:=Aside0.mk (Kd.R_mono (ok':=fun k_=>some k_ ≠ (.slice Ao69 t332.length co69 : Value).ownBlock ∧ some k_ ≠ (.slice Ao81 t341.length co81 : Value).ownBlock ∧ some k_ ≠ (.slice Ao92 t349.length co92 : Value).ownBlock) (Kd.R_keptB ((Kd.R_apart' HO359.out (Kd.R_typed HO346.out) (by decide))) hkp (fun k_ hk_ hs_=>Or.elim hs_ (fun e_=>(hk_.1.1.1.1.2) e_) (fun e_=>(hk_.2) e_))) (fun k_ hk_=>⟨hk_.1.1.1.1.1.1.2,hk_.1.1.1.1.1.2,hk_.1.1.1.1.2⟩));have n11_:=Aside0.mk (Kd.R_mono (ok':=fun k_=>some k_ ≠ (.slice Ao71 t335.length co71 : Value).ownBlock ∧ some k_ ≠ (.slice Ao82 t344.length co82 : Value).ownBlock ∧ some k_ ≠ (.slice Ao93 t352.length co93 : Value).ownBlock) (Kd.R_keptB ((Kd.R_apart' HO362.out (Kd.R_typed HO343.out) (by decide))) hkp (fun k_ hk_ hs_=>Or.elim hs_ (fun e_=>(hk_.2) e_) (fun e_=>(hk_.1.1.1.1.2) e_))) (fun k_ hk_=>⟨hk_.1.1.1.1.1.1.2,hk_.1.1.1.1.1.2,hk_.1.1.1.1.2⟩));have n12_:=Aside0.mk (blk_kept (kz BK364.out) hkp (fun hs_=>Or.elim hs_ (fun e_=>(fun e_=>(Kd.R_ne HO343.out BK364.out (by decide)) e_) e_) (fun e_=>(fun e_=>(Kd.R_ne HO346.out BK364.out (by decide)) e_) e_)));have n13_:=Aside0.mk (hb);clear BK313 BK314 HO334 HO337 BK339 HO343 HO346 HO351 HO354 BK355 HO359 HO362 BK364 HB;have BK313:=n0_;have BK314:=n1_;have HO334:=n2_;have HO337:=n3_;have BK339:=n4_;have HO351:=n7_;have HO354:=n8_;have BK355:=n9_;have HO359:=n10_;have HO362:=n11_;have BK364:=n12_;have HB:=n13_;clear n0_ n1_ n2_ n3_ n4_ n7_ n8_ n9_ n10_ n11_ n12_ n13_;(try clear hb);(try clear hkp);(try clear hy0);(try clear hy1);have hcz119_0 : w118.cell? ⟨gb355,0,none⟩ = some (.int .i64 t348):=(blk_cell BK355.out 0).trans rfl;have hcz119_1 : w118.cell? ⟨gb355,1,none⟩ = some (.slice Ao92 t349.length co92):=(blk_cell BK355.out 1).trans rfl;have hcz119_2 : w118.cell? ⟨gb355,2,none⟩ = some (.slice Ao93 t352.length co93):=(blk_cell BK355.out 2).trans rfl;have hfz119_0:=blk_frozen BK355.out 0;have hfz119_1:=blk_frozen BK355.out 1;have hfz119_2:=blk_frozen BK355.out 2)|((with_reducible refine gate_callee (f:=15) rfl ?_);refine goesL_ (some 69) rfl rfl Try.func15 (by kernel_rfl) rfl #[.agg #[.int .i64 t348,.slice Ao92 t349.length co92,.slice Ao93 t352.length co93],.int .i64 t382] rfl mz ?_;(with_reducible refine (laws_markPlan.calls k t348 (fun k_=>some k_ = (.slice Ao92 t349.length co92 : Value).ownBlock) (.slice Ao92 t349.length co92) t349 (fun k_=>some k_ = (.slice Ao93 t352.length co93 : Value).ownBlock) (.slice Ao93 t352.length co93) t352 t382 t385 t386 t387 w _ ?side1 ?side2 ?side3 A34.out).mono ?_);(case side1=>repeat (first|(with_reducible first|exact HB.out|apply below_alloc|apply pw_below_drewN|apply below_drew1|refine below_set ?_ GE313.out|refine below_set ?_ GE314.out|refine below_set ?_ GE339.out|refine below_set ?_ GE364.out)|exact HB.out));(case side2=>exact Kd.R_tight rfl HO351.out);(case side3=>exact Kd.R_tight rfl HO354.out);rintro e w120 ⟨rfl,hy0,hy1,hb,hkp⟩;refine ⟨_,rfl,?_⟩;have n0_:=Aside0.mk (blk_kept (kz BK313.out) hkp (fun hs_=>Or.elim hs_ (fun e_=>(fun e_=>(Kd.R_ne HO351.out BK313.out (by decide)) e_) e_) (fun e_=>(fun e_=>(Kd.R_ne HO354.out BK313.out (by decide)) e_) e_)));have n1_:=Aside0.mk (blk_kept (kz BK314.out) hkp (fun hs_=>Or.elim hs_ (fun e_=>(fun e_=>(Kd.R_ne HO351.out BK314.out (by decide)) e_) e_) (fun e_=>(fun e_=>(Kd.R_ne HO354.out BK314.out (by decide)) e_) e_)));have n2_:=Aside0.mk (Kd.R_mono (ok':=fun k_=>some k_ ≠ (.slice Ao92 t349.length co92 : Value).ownBlock ∧ some k_ ≠ (.slice Ao103 t357.length co103 : Value).ownBlock) (Kd.R_keptB ((Kd.R_apart' HO334.out (Kd.R_typed HO354.out) (by decide))) hkp (fun k_ hk_ hs_=>Or.elim hs_ (fun e_=>(hk_.1.2.1) e_) (fun e_=>(hk_.2) e_))) (fun k_ hk_=>⟨hk_.1.1.2.1,hk_.1.1.2.2⟩));have n3_:=Aside0.mk (Kd.R_mono (ok':=fun k_=>some k_ ≠ (.slice Ao93 t352.length co93 : Value).ownBlock ∧ some k_ ≠ (.slice Ao104 t360.length co104 : Value).ownBlock) (Kd.R_keptB ((Kd.R_apart' HO337.out (Kd.R_typed HO351.out) (by decide))) hkp (fun k_ hk_ hs_=>Or.elim hs_ (fun e_=>(hk_.2) e_) (fun e_=>(hk_.1.2.1) e_))) (fun k_ hk_=>⟨hk_.1.1.2.1,hk_.1.1.2.2⟩));have n4_:=Aside0.mk (blk_kept (kz BK339.out) hkp (fun hs_=>Or.elim hs_ (fun e_=>(fun e_=>(Kd.R_ne HO351.out BK339.out (by decide)) e_) e_) (fun e_=>(fun e_=>(Kd.R_ne HO354.out BK339.out (by decide)) e_) e_)));have n7_:=Aside0.mk (Kd.R_mono (ok':=fun k_=>some k_ ≠ (.slice Ao69 t332.length co69 : Value).ownBlock ∧ some k_ ≠ (.slice Ao92 t349.length co92 : Value).ownBlock) (Kd.R_keptB ((Kd.R_apart' HO359.out (Kd.R_typed HO354.out) (by decide))) hkp (fun k_ hk_ hs_=>Or.elim hs_ (fun e_=>(hk_.1.2.2) e_) (fun e_=>(hk_.2) e_))) (fun k_ hk_=>⟨hk_.1.1.1,hk_.1.1.2.2⟩));have n8_:=Aside0.mk (Kd.R_mono (ok':=fun k_=>some k_ ≠ (.slice Ao71 t335.length co71 : Value).ownBlock ∧ some k_ ≠ (.slice Ao93 t352.length co93 : Value).ownBlock) (Kd.R_keptB ((Kd.R_apart' HO362.out (Kd.R_typed HO351.out) (by decide))) hkp (fun k_ hk_ hs_=>Or.elim hs_ (fun e_=>(hk_.2) e_) (fun e_=>(hk_.1.2.2) e_))) (fun k_ hk_=>⟨hk_.1.1.1,hk_.1.1.2.2⟩));have n9_:=Aside0.mk (blk_kept (kz BK364.out) hkp (fun hs_=>Or.elim hs_ (fun e_=>(fun e_=>(Kd.R_ne HO351.out BK364.out (by decide)) e_) e_) (fun e_=>(fun e_=>(Kd.R_ne HO354.out BK364.out (by decide)) e_) e_)));have n10_:=Aside0.mk (hb);clear BK313 BK314 HO334 HO337 BK339 HO351 HO354 HO359 HO362 BK364 HB;have BK313:=n0_;have BK314:=n1_;have HO334:=n2_;have HO337:=n3_;have BK339:=n4_;have HO359:=n7_;have HO362:=n8_;have BK364:=n9_;have HB:=n10_;clear n0_ n1_ n2_ n3_ n4_ n7_ n8_ n9_ n10_;(try clear hb);(try clear hkp);(try clear hy0);(try clear hy1);have hcz121_0 : w120.cell? ⟨gb364,0,none⟩ = some (.int .i64 t356):=(blk_cell BK364.out 0).trans rfl;have hcz121_1 : w120.cell? ⟨gb364,1,none⟩ = some (.slice Ao103 t357.length co103):=(blk_cell BK364.out 1).trans rfl;have hcz121_2 : w120.cell? ⟨gb364,2,none⟩ = some (.slice Ao104 t360.length co104):=(blk_cell BK364.out 2).trans rfl;have hfz121_0:=blk_frozen BK364.out 0;have hfz121_1:=blk_frozen BK364.out 1;have hfz121_2:=blk_frozen BK364.out 2;have hcz122_0 : w120.cell? ⟨gb339,0,none⟩ = some (.int .i64 t331):=(blk_cell BK339.out 0).trans rfl;have hcz122_1 : w120.cell? ⟨gb339,1,none⟩ = some (.slice Ao69 t332.length co69):=(blk_cell BK339.out 1).trans rfl;have hcz122_2 : w120.cell? ⟨gb339,2,none⟩ = some (.slice Ao71 t335.length co71):=(blk_cell BK339.out 2).trans rfl;have hfz122_0:=blk_frozen BK339.out 0;have hfz122_1:=blk_frozen BK339.out 1;have hfz122_2:=blk_frozen BK339.out 2)|(go_at_call 14;(with_reducible refine (laws_eqPlan.calls k t356 _ _ t357 _ _ t360 t331 _ _ t332 _ _ t335 true _ ?side1 ?side2 ?side3 ?side4 ?side5 ?side6 ?side7 ?side8 A36.out).mono ?_);(case side1=>exact cz (Kd.R_reads' HO359.out).2.2);(case side2=>exact (Kd.R_reads' HO359.out).2.1);(case side3=>exact cz (Kd.R_reads' HO362.out).2.2);(case side4=>exact (Kd.R_reads' HO362.out).2.1);(case side5=>exact cz (Kd.R_reads' HO334.out).2.2);(case side6=>exact (Kd.R_reads' HO334.out).2.1);(case side7=>exact cz (Kd.R_reads' HO337.out).2.2);(case side8=>exact (Kd.R_reads' HO337.out).2.1);rintro e w123 ⟨rfl,hb⟩;have n0_:=Aside0.mk (Kd.R_below (rz HO334.out) hb);have n1_:=Aside0.mk (Kd.R_below (rz HO337.out) hb);have n2_:=Aside0.mk (Kd.R_below (rz HO359.out) hb);have n3_:=Aside0.mk (Kd.R_below (rz HO362.out) hb);have n4_:=Aside0.mk (kb BK313.out hb);have n5_:=Aside0.mk (kb BK314.out hb);have n6_:=Aside0.mk (kb BK339.out hb);have n7_:=Aside0.mk (kb BK364.out hb);have n8_:=Aside0.mk (below_step bs hb);clear HO334 HO337 HO359 HO362 BK313 BK314 BK339 BK364 HB;have HO334:=n0_;have HO337:=n1_;have HO359:=n2_;have HO362:=n3_;have BK313:=n4_;have BK314:=n5_;have BK339:=n6_;have BK364:=n7_;have HB:=n8_;clear n0_ n1_ n2_ n3_ n4_ n5_ n6_ n7_ n8_;(try clear hb);have hcz124_0 : w123.cell? ⟨gb364,0,none⟩ = some (.int .i64 t356):=(blk_cell BK364.out 0).trans rfl;have hcz124_1 : w123.cell? ⟨gb364,1,none⟩ = some (.slice Ao103 t357.length co103):=(blk_cell BK364.out 1).trans rfl;have hcz124_2 : w123.cell? ⟨gb364,2,none⟩ = some (.slice Ao104 t360.length co104):=(blk_cell BK364.out 2).trans rfl;have hfz124_0:=blk_frozen BK364.out 0;have hfz124_1:=blk_frozen BK364.out 1;have hfz124_2:=blk_frozen BK364.out 2)|((with_reducible refine gate_callee (f:=15) rfl ?_);refine goesL_ (some 85) rfl rfl Try.func15 (by kernel_rfl) rfl #[.agg #[.int .i64 t356,.slice Ao103 t357.length co103,.slice Ao104 t360.length co104],.int .i64 1] rfl mz ?_;(with_reducible refine (laws_markPlan.calls k t356 (fun k_=>some k_ = (.slice Ao103 t357.length co103 : Value).ownBlock) (.slice Ao103 t357.length co103) t357 (fun k_=>some k_ = (.slice Ao104 t360.length co104 : Value).ownBlock) (.slice Ao104 t360.length co104) t360 1 t389 t390 t391 w _ ?side1 ?side2 ?side3 A38.out).mono ?_);(case side1=>repeat (first|(with_reducible first|exact HB.out|apply below_alloc|apply pw_below_drewN|apply below_drew1|refine below_set ?_ GE313.out|refine below_set ?_ GE314.out|refine below_set ?_ GE339.out|refine below_set ?_ GE364.out)|exact HB.out));(case side2=>exact Kd.R_tight rfl HO359.out);(case side3=>exact Kd.R_tight rfl HO362.out);rintro e w125 ⟨rfl,hy0,hy1,hb,hkp⟩;refine ⟨_,rfl,?_⟩;have n0_:=Aside0.mk (blk_kept (kz BK313.out) hkp (fun hs_=>Or.elim hs_ (fun e_=>(fun e_=>(Kd.R_ne HO359.out BK313.out (by decide)) e_) e_) (fun e_=>(fun e_=>(Kd.R_ne HO362.out BK313.out (by decide)) e_) e_)));have n1_:=Aside0.mk (blk_kept (kz BK314.out) hkp (fun hs_=>Or.elim hs_ (fun e_=>(fun e_=>(Kd.R_ne HO359.out BK314.out (by decide)) e_) e_) (fun e_=>(fun e_=>(Kd.R_ne HO362.out BK314.out (by decide)) e_) e_)));have n2_:=Aside0.mk (Kd.R_mono (ok':=fun k_=>some k_ ≠ (.slice Ao103 t357.length co103 : Value).ownBlock) (Kd.R_keptB ((Kd.R_apart' HO334.out (Kd.R_typed HO362.out) (by decide))) hkp (fun k_ hk_ hs_=>Or.elim hs_ (fun e_=>(hk_.1.2) e_) (fun e_=>(hk_.2) e_))) (fun k_ hk_=>hk_.1.1.2));have n3_:=Aside0.mk (Kd.R_mono (ok':=fun k_=>some k_ ≠ (.slice Ao104 t360.length co104 : Value).ownBlock) (Kd.R_keptB ((Kd.R_apart' HO337.out (Kd.R_typed HO359.out) (by decide))) hkp (fun k_ hk_ hs_=>Or.elim hs_ (fun e_=>(hk_.2) e_) (fun e_=>(hk_.1.2) e_))) (fun k_ hk_=>hk_.1.1.2));have n4_:=Aside0.mk (blk_kept (kz BK339.out) hkp (fun hs_=>Or.elim hs_ (fun e_=>(fun e_=>(Kd.R_ne HO359.out BK339.out (by decide)) e_) e_) (fun e_=>(fun e_=>(Kd.R_ne HO362.out BK339.out (by decide)) e_) e_)));have n5_:=Aside0.mk (Kd.R_reok rfl hy0 (fun k_ e_=>HO359.out.1 k_ e_));have n6_:=Aside0.mk (Kd.R_reok rfl hy1 (fun k_ e_=>HO362.out.1 k_ e_));have n7_:=Aside0.mk (blk_kept (kz BK364.out) hkp (fun hs_=>Or.elim hs_ (fun e_=>(fun e_=>(Kd.R_ne HO359.out BK364.out (by decide)) e_) e_) (fun e_=>(fun e_=>(Kd.R_ne HO362.out BK364.out (by decide)) e_) e_)));have n8_:=Aside0.mk (hb);clear BK313 BK314 HO334 HO337 BK339 HO359 HO362 BK364 HB;have BK313:=n0_;have BK314:=n1_;have HO334:=n2_;have HO337:=n3_;have BK339:=n4_;have HO359:=n5_;have HO362:=n6_;have BK364:=n7_;have HB:=n8_;clear n0_ n1_ n2_ n3_ n4_ n5_ n6_ n7_ n8_;(try clear hb);(try clear hkp);(try clear hy0);(try clear hy1);have hcz126_0 : w125.cell? ⟨gb364,0,none⟩ = some (.int .i64 t356):=(blk_cell BK364.out 0).trans rfl;have hcz126_1 : w125.cell? ⟨gb364,1,none⟩ = some (.slice Ao103 t357.length co103):=(blk_cell BK364.out 1).trans rfl;have hcz126_2 : w125.cell? ⟨gb364,2,none⟩ = some (.slice Ao104 t360.length co104):=(blk_cell BK364.out 2).trans rfl;have hfz126_0:=blk_frozen BK364.out 0;have hfz126_1:=blk_frozen BK364.out 1;have hfz126_2:=blk_frozen BK364.out 2)|((with_reducible refine gate_callee (f:=16) rfl ?_);refine goesL_ (some 88) rfl rfl Try.func16 (by kernel_rfl) rfl #[.agg #[.int .i64 t356,.slice Ao103 t390.length co103,.slice Ao104 t391.length co104],.int .i64 1] rfl (by (try simp only [List.map_toArray,List.map_cons,List.map_nil]);first|done|(rw [show t390.length = t357.length from (Kd.R_reads' HO359.out).1.symm,show t391.length = t360.length from (Kd.R_reads' HO362.out).1.symm] <;> rfl)|rfl|(simp only [List.length_drop,List.length_take];rfl)) ?_;(with_reducible refine (laws_heldPlan.calls k t356 _ _ t390 _ _ t391 1 t392 _ ?side1 ?side2 ?side3 ?side4 A39.out).mono ?_);(case side1=>exact cz (Kd.R_reads' HO359.out).2.2);(case side2=>rw [show t390.length = t357.length from (Kd.R_reads' HO359.out).1.symm];exact (Kd.R_reads' HO359.out).2.1);(case side3=>exact cz (Kd.R_reads' HO362.out).2.2);(case side4=>rw [show t391.length = t360.length from (Kd.R_reads' HO362.out).1.symm];exact (Kd.R_reads' HO362.out).2.1);rintro e w127 ⟨rfl,hb⟩;refine ⟨_,rfl,?_⟩;have n0_:=Aside0.mk (Kd.R_below (rz HO334.out) hb);have n1_:=Aside0.mk (Kd.R_below (rz HO337.out) hb);have n2_:=Aside0.mk (Kd.R_below (rz HO359.out) hb);have n3_:=Aside0.mk (Kd.R_below (rz HO362.out) hb);have n4_:=Aside0.mk (kb BK313.out hb);have n5_:=Aside0.mk (kb BK314.out hb);have n6_:=Aside0.mk (kb BK339.out hb);have n7_:=Aside0.mk (kb BK364.out hb);have n8_:=Aside0.mk (below_step bs hb);clear HO334 HO337 HO359 HO362 BK313 BK314 BK339 BK364 HB;have HO334:=n0_;have HO337:=n1_;have HO359:=n2_;have HO362:=n3_;have BK313:=n4_;have BK314:=n5_;have BK339:=n6_;have BK364:=n7_;have HB:=n8_;clear n0_ n1_ n2_ n3_ n4_ n5_ n6_ n7_ n8_;(try clear hb)))
               have n0_:=Aside0.mk (Kd.R_drew HO334.out)
               have n1_:=Aside0.mk (Kd.R_drew HO337.out)
               have n2_:=Aside0.mk (Kd.R_drew HO359.out)
               have n3_:=Aside0.mk (Kd.R_drew HO362.out)
               have n4_:=Aside0.mk (blk_drew BK313.out)
               have n5_:=Aside0.mk (blk_drew BK314.out)
               have n6_:=Aside0.mk (blk_drew BK339.out)
               have n7_:=Aside0.mk (blk_drew BK364.out)
               have n8_:=Aside0.mk (below_drew1 HB.out)
               clear HO334
               clear HO337
               clear HO359
               clear HO362
               clear BK313
               clear BK314
               clear BK339
               clear BK364
               clear HB
               have HO334:=n0_
               have HO337:=n1_
               have HO359:=n2_
               have HO362:=n3_
               have BK313:=n4_
               have BK314:=n5_
               have BK339:=n6_
               have BK364:=n7_
               have HB:=n8_
               clear n0_ n1_ n2_ n3_ n4_ n5_ n6_ n7_ n8_
               refine start_ (n:=11) (S:=fun w'=>w'.cell? ⟨gb313,0,none⟩ = some (.int .i64 a0_0) ∧ w'.cell? ⟨gb313,1,none⟩ = some (.slice A0_1 l0_1.length c0_1) ∧ w'.cell? ⟨gb313,2,none⟩ = some (.slice A0_2 l0_2.length c0_2) ∧ w'.cell? ⟨gb314,0,none⟩ = some (.int .i64 a1_0) ∧ w'.cell? ⟨gb314,1,none⟩ = some (.slice A1_1 l1_1.length c1_1) ∧ w'.cell? ⟨gb314,2,none⟩ = some (.slice A1_2 l1_2.length c1_2)) (ds:=[]) #[false,false,false,false,false,false,false,false,false,false,false] (by kernel_rfl) rfl rfl ⟨(blk_cell BK313.out 0).trans rfl,(blk_cell BK313.out 1).trans rfl,(blk_cell BK313.out 2).trans rfl,(blk_cell BK314.out 0).trans rfl,(blk_cell BK314.out 1).trans rfl,(blk_cell BK314.out 2).trans rfl⟩ (fun hHeld=>?_);refine with_tabW laws_FnExactJoinPlans.tab31 laws_FnExactJoinPlans.bits31 (fun HT_ HW_=>?_)
               generalize w127.drew = w128 at HO334 HO337 HO359 HO362 BK313 BK314 BK339 BK364 HB hHeld ⊢
               refine take_ (i:=0) (N:=some 95) (v:=?_) (a':=?_) #[true,false,false,false,false,false,false,false,false,false,false] rfl rfl (take_ofW HT_.out HW_.out (by kernel_rfl)) (fun _ _ _ h=>h) (Or.inl ⟨by rfl,?_⟩) hHeld ?_ ?_
               rotate_left
               ·rintro w' ⟨s0,s1,s2,s3,s4,s5⟩
                go_simp
                with_reducible rfl
               rotate_left
               ·simp only [Act.put,xa,xb,xc,i64_w,i32_w]
                rfl
               refine take_ (i:=2) (N:=some 97) (v:=?_) (a':=?_) #[true,false,true,false,false,false,false,false,false,false,false] rfl rfl (take_ofW HT_.out HW_.out (by kernel_rfl)) (fun _ _ _ h=>h) (Or.inl ⟨by rfl,?_⟩) hHeld ?_ ?_
               rotate_left
               ·rintro w' ⟨s0,s1,s2,s3,s4,s5⟩
                go_simp
                with_reducible rfl
               rotate_left
               ·simp only [Act.put,xa,xb,xc,i64_w,i32_w]
                rfl
               refine join_ (σ:=Value × Value × Value × Value × Value × Value × Nat) 2 #[true,true,true,true,true,true,true,true,true,false,false] (fun s_=>[(96,.agg #[.int .i64 t393,s_.1,s_.2.1]),(98,.agg #[.int .i64 t400,s_.2.2.1,s_.2.2.2.1]),(99,.tuple #[.agg #[.int .i64 t407,s_.2.2.2.2.1,s_.2.2.2.2.2.1],.bool t414]),(15,.pointer (some ⟨s_.2.2.2.2.2.2,0,none⟩)),(94,.tuple #[.agg #[.int .i64 t407,s_.2.2.2.2.1,s_.2.2.2.2.2.1],.bool t414]),(100,.agg #[.int .i64 t407,s_.2.2.2.2.1,s_.2.2.2.2.2.1]),(101,.bool t414)]) (fun s_ w'=>(w'.cell? ⟨gb313,0,none⟩ = some (.int .i64 a0_0) ∧ w'.cell? ⟨gb313,1,none⟩ = some (.slice A0_1 l0_1.length c0_1) ∧ w'.cell? ⟨gb313,2,none⟩ = some (.slice A0_2 l0_2.length c0_2) ∧ w'.cell? ⟨gb314,0,none⟩ = some (.int .i64 a1_0) ∧ w'.cell? ⟨gb314,1,none⟩ = some (.slice A1_1 l1_1.length c1_1) ∧ w'.cell? ⟨gb314,2,none⟩ = some (.slice A1_2 l1_2.length c1_2)) ∧ (Kd.R k73 73 w' w.heap.size (fun k_=>some k_ ≠ (.slice Ao103 t357.length co103 : Value).ownBlock ∧ some k_ ≠ (s_.1 : Value).ownBlock ∧ some k_ ≠ (s_.2.2.1 : Value).ownBlock ∧ some k_ ≠ (s_.2.2.2.2.1 : Value).ownBlock) (.slice Ao69 t332.length co69) t332) ∧ (Kd.R (Kd.int .i64) 3 w' w.heap.size (fun k_=>some k_ ≠ (.slice Ao104 t360.length co104 : Value).ownBlock ∧ some k_ ≠ (s_.2.1 : Value).ownBlock ∧ some k_ ≠ (s_.2.2.2.1 : Value).ownBlock ∧ some k_ ≠ (s_.2.2.2.2.2.1 : Value).ownBlock) (.slice Ao71 t335.length co71) t335) ∧ (Kd.R k73 73 w' w.heap.size (fun k_=>some k_ ≠ (.slice Ao69 t332.length co69 : Value).ownBlock ∧ some k_ ≠ (s_.1 : Value).ownBlock ∧ some k_ ≠ (s_.2.2.1 : Value).ownBlock ∧ some k_ ≠ (s_.2.2.2.2.1 : Value).ownBlock) (.slice Ao103 t357.length co103) t390) ∧ (Kd.R (Kd.int .i64) 3 w' w.heap.size (fun k_=>some k_ ≠ (.slice Ao71 t335.length co71 : Value).ownBlock ∧ some k_ ≠ (s_.2.1 : Value).ownBlock ∧ some k_ ≠ (s_.2.2.2.1 : Value).ownBlock ∧ some k_ ≠ (s_.2.2.2.2.2.1 : Value).ownBlock) (.slice Ao104 t360.length co104) t391) ∧ (Kd.R k73 73 w' w.heap.size (fun k_=>some k_ ≠ (.slice Ao69 t332.length co69 : Value).ownBlock ∧ some k_ ≠ (.slice Ao103 t357.length co103 : Value).ownBlock ∧ some k_ ≠ (s_.2.2.1 : Value).ownBlock ∧ some k_ ≠ (s_.2.2.2.2.1 : Value).ownBlock) s_.1 t394) ∧ (Kd.R (Kd.int .i64) 3 w' w.heap.size (fun k_=>some k_ ≠ (.slice Ao71 t335.length co71 : Value).ownBlock ∧ some k_ ≠ (.slice Ao104 t360.length co104 : Value).ownBlock ∧ some k_ ≠ (s_.2.2.2.1 : Value).ownBlock ∧ some k_ ≠ (s_.2.2.2.2.2.1 : Value).ownBlock) s_.2.1 t397) ∧ (Kd.R k73 73 w' w.heap.size (fun k_=>some k_ ≠ (.slice Ao69 t332.length co69 : Value).ownBlock ∧ some k_ ≠ (.slice Ao103 t357.length co103 : Value).ownBlock ∧ some k_ ≠ (s_.1 : Value).ownBlock ∧ some k_ ≠ (s_.2.2.2.2.1 : Value).ownBlock) s_.2.2.1 t401) ∧ (Kd.R (Kd.int .i64) 3 w' w.heap.size (fun k_=>some k_ ≠ (.slice Ao71 t335.length co71 : Value).ownBlock ∧ some k_ ≠ (.slice Ao104 t360.length co104 : Value).ownBlock ∧ some k_ ≠ (s_.2.1 : Value).ownBlock ∧ some k_ ≠ (s_.2.2.2.2.2.1 : Value).ownBlock) s_.2.2.2.1 t404) ∧ (Kd.R k73 73 w' w.heap.size (fun k_=>some k_ ≠ (.slice Ao69 t332.length co69 : Value).ownBlock ∧ some k_ ≠ (.slice Ao103 t357.length co103 : Value).ownBlock ∧ some k_ ≠ (s_.1 : Value).ownBlock ∧ some k_ ≠ (s_.2.2.1 : Value).ownBlock) s_.2.2.2.2.1 t408) ∧ (Kd.R (Kd.int .i64) 3 w' w.heap.size (fun k_=>some k_ ≠ (.slice Ao71 t335.length co71 : Value).ownBlock ∧ some k_ ≠ (.slice Ao104 t360.length co104 : Value).ownBlock ∧ some k_ ≠ (s_.2.1 : Value).ownBlock ∧ some k_ ≠ (s_.2.2.2.1 : Value).ownBlock) s_.2.2.2.2.2.1 t411) ∧ (w'.heap[gb313]? = some (.cells #[.int .i64 a0_0,.slice A0_1 l0_1.length c0_1,.slice A0_2 l0_2.length c0_2] 25 (0,0))) ∧ (w'.heap[gb314]? = some (.cells #[.int .i64 a1_0,.slice A1_1 l1_1.length c1_1,.slice A1_2 l1_2.length c1_2] 25 (0,0))) ∧ (w'.heap[gb339]? = some (.cells #[.int .i64 t331,.slice Ao69 t332.length co69,.slice Ao71 t335.length co71] 29 (0,0))) ∧ (w'.heap[gb364]? = some (.cells #[.int .i64 t356,.slice Ao103 t357.length co103,.slice Ao104 t360.length co104] 29 (0,0))) ∧ (w'.heap[s_.2.2.2.2.2.2]? = some (.cells #[.int .i64 0,.slice none 0 0,.slice none 0 0] 29 (0,0))) ∧ (w.heap.size ≤ s_.2.2.2.2.2.2) ∧ (w.heap.size ≤ s_.2.2.2.2.2.2) ∧ (gb313 ≠ s_.2.2.2.2.2.2) ∧ (s_.2.2.2.2.2.2 ≠ gb313) ∧ (gb314 ≠ s_.2.2.2.2.2.2) ∧ (s_.2.2.2.2.2.2 ≠ gb314) ∧ (gb339 ≠ s_.2.2.2.2.2.2) ∧ (s_.2.2.2.2.2.2 ≠ gb339) ∧ (gb364 ≠ s_.2.2.2.2.2.2) ∧ (s_.2.2.2.2.2.2 ≠ gb364) ∧ (Below w.heap.size w w')) ?_ ?_
               rotate_left
               ·intro hCont
                refine two_ (i:=1) (j:=8) (Ni:=some 96) (Nj:=some 15) #[true,true,true,false,false,false,false,false,false,false,false] #[true,false,true,false,false,false,false,false,true,false,false] rfl rfl rfl rfl (two_of HT_.out (by kernel_rfl)) (by decide) (by decide) (fun K hK=>?_) (fun K hK=>?_)
                ·skip
                 refine goes_ Try.func12 (by kernel_rfl) rfl #[.agg #[.int .i64 a0_0,.slice A0_1 l0_1.length c0_1,.slice A0_2 l0_2.length c0_2]] (by rfl) rfl rfl mz ?_
                 with_reducible refine (laws_toPlan.calls k a0_0 _ _ l0_1 _ _ l0_2 t393 t394 t397 _ ?side1 ?side2 ?side3 ?side4 A42.out).mono ?_
                 (case side1=>exact cz (Kd.C_below HR0_1.out HB.out))
                 (case side2=>exact HC0_1.out)
                 (case side3=>exact cz (Kd.C_below HR0_2.out HB.out))
                 (case side4=>exact HC0_2.out)
                 rintro e w129 ⟨v395,v398,rfl,ho0,ho1,hb⟩
                 refine ⟨_,rfl,?_⟩
                 have n0_:=Aside0.mk (Kd.R_elder' (rz HO334.out) (Kd.R_base ho0) hb)
                 have n1_:=Aside0.mk (Kd.R_elder' (rz HO337.out) (Kd.R_base ho1) hb)
                 have n2_:=Aside0.mk (Kd.R_elder' (rz HO359.out) (Kd.R_base ho0) hb)
                 have n3_:=Aside0.mk (Kd.R_elder' (rz HO362.out) (Kd.R_base ho1) hb)
                 have n4_:=Aside0.mk (Kd.R_lower (Kd.R_new' (Kd.R_new' ho0 (Kd.R_lt (rz HO334.out))) (Kd.R_lt (rz HO359.out))) (below_size bs))
                 have n5_:=Aside0.mk (Kd.R_lower (Kd.R_new' (Kd.R_new' ho1 (Kd.R_lt (rz HO337.out))) (Kd.R_lt (rz HO362.out))) (below_size bs))
                 have n6_:=Aside0.mk (kb BK313.out hb)
                 have n7_:=Aside0.mk (kb BK314.out hb)
                 have n8_:=Aside0.mk (kb BK339.out hb)
                 have n9_:=Aside0.mk (kb BK364.out hb)
                 have n10_:=Aside0.mk (below_step bs hb)
                 clear HO334
                 clear HO337
                 clear HO359
                 clear HO362
                 clear BK313
                 clear BK314
                 clear BK339
                 clear BK364
                 clear HB
                 have HO334:=n0_
                 have HO337:=n1_
                 have HO359:=n2_
                 have HO362:=n3_
                 have HO396:=n4_
                 have HO399:=n5_
                 have BK313:=n6_
                 have BK314:=n7_
                 have BK339:=n8_
                 have BK364:=n9_
                 have HB:=n10_
                 clear n0_ n1_ n2_ n3_ n4_ n5_ n6_ n7_ n8_ n9_ n10_
                 (try clear hb)
                 (try clear ho0)
                 (try clear ho1)
                 refine hK.out _ _ ⟨(blk_cell BK313.out 0).trans rfl,(blk_cell BK313.out 1).trans rfl,(blk_cell BK313.out 2).trans rfl,(blk_cell BK314.out 0).trans rfl,(blk_cell BK314.out 1).trans rfl,(blk_cell BK314.out 2).trans rfl⟩ (fun hHeld=>?_)
                 clear hK K
                 refine norm_ (a':=?_) ?_ ?_
                 rotate_left
                 ·show Act.put _ (some 96) _ = _
                  simp only [Act.put,xa,xb,xc,i64_w,i32_w]
                  rfl
                 refine two_ (i:=3) (j:=8) (Ni:=some 98) (Nj:=some 15) #[true,true,true,true,false,false,false,false,false,false,false] #[true,true,true,false,false,false,false,false,true,false,false] rfl rfl rfl rfl (two_of HT_.out (by kernel_rfl)) (by decide) (by decide) (fun K hK=>?_) (fun K hK=>?_)
                 ·skip
                  refine goes_ Try.func12 (by kernel_rfl) rfl #[.agg #[.int .i64 a1_0,.slice A1_1 l1_1.length c1_1,.slice A1_2 l1_2.length c1_2]] (by rfl) rfl rfl mz ?_
                  with_reducible refine (laws_toPlan.calls k a1_0 _ _ l1_1 _ _ l1_2 t400 t401 t404 _ ?side1 ?side2 ?side3 ?side4 A43.out).mono ?_
                  (case side1=>exact cz (Kd.C_below HR1_1.out HB.out))
                  (case side2=>exact HC1_1.out)
                  (case side3=>exact cz (Kd.C_below HR1_2.out HB.out))
                  (case side4=>exact HC1_2.out)
                  rintro e w130 ⟨v402,v405,rfl,ho0,ho1,hb⟩
                  refine ⟨_,rfl,?_⟩
                  have n0_:=Aside0.mk (Kd.R_elder' (rz HO334.out) (Kd.R_base ho0) hb)
                  have n1_:=Aside0.mk (Kd.R_elder' (rz HO337.out) (Kd.R_base ho1) hb)
                  have n2_:=Aside0.mk (Kd.R_elder' (rz HO359.out) (Kd.R_base ho0) hb)
                  have n3_:=Aside0.mk (Kd.R_elder' (rz HO362.out) (Kd.R_base ho1) hb)
                  have n4_:=Aside0.mk (Kd.R_elder' (rz HO396.out) (Kd.R_base ho0) hb)
                  have n5_:=Aside0.mk (Kd.R_elder' (rz HO399.out) (Kd.R_base ho1) hb)
                  have n6_:=Aside0.mk (Kd.R_lower (Kd.R_new' (Kd.R_new' (Kd.R_new' ho0 (Kd.R_lt (rz HO334.out))) (Kd.R_lt (rz HO359.out))) (Kd.R_lt (rz HO396.out))) (below_size bs))
                  have n7_:=Aside0.mk (Kd.R_lower (Kd.R_new' (Kd.R_new' (Kd.R_new' ho1 (Kd.R_lt (rz HO337.out))) (Kd.R_lt (rz HO362.out))) (Kd.R_lt (rz HO399.out))) (below_size bs))
                  have n8_:=Aside0.mk (kb BK313.out hb)
                  have n9_:=Aside0.mk (kb BK314.out hb)
                  have n10_:=Aside0.mk (kb BK339.out hb)
                  have n11_:=Aside0.mk (kb BK364.out hb)
                  have n12_:=Aside0.mk (below_step bs hb)
                  clear HO334
                  clear HO337
                  clear HO359
                  clear HO362
                  clear HO396
                  clear HO399
                  clear BK313
                  clear BK314
                  clear BK339
                  clear BK364
                  clear HB
                  have HO334:=n0_
                  have HO337:=n1_
                  have HO359:=n2_
                  have HO362:=n3_
                  have HO396:=n4_
                  have HO399:=n5_
                  have HO403:=n6_
                  have HO406:=n7_
                  have BK313:=n8_
                  have BK314:=n9_
                  have BK339:=n10_
                  have BK364:=n11_
                  have HB:=n12_
                  clear n0_ n1_ n2_ n3_ n4_ n5_ n6_ n7_ n8_ n9_ n10_ n11_ n12_
                  (try clear hb)
                  (try clear ho0)
                  (try clear ho1)
                  obtain ⟨Ao131,co131,eo131⟩:=Kd.R_slice HO396.out
                  (first|subst eo131|(injection eo131 with f1_ f2_ f3_;have f4_:=f1_.symm;have f5_:=f3_.symm;clear f1_ f2_ f3_;subst f4_;subst f5_))
                  obtain ⟨Ao132,co132,eo132⟩:=Kd.R_slice HO399.out
                  (first|subst eo132|(injection eo132 with f1_ f2_ f3_;have f4_:=f1_.symm;have f5_:=f3_.symm;clear f1_ f2_ f3_;subst f4_;subst f5_))
                  obtain ⟨Ao133,co133,eo133⟩:=Kd.R_slice HO403.out
                  (first|subst eo133|(injection eo133 with f1_ f2_ f3_;have f4_:=f1_.symm;have f5_:=f3_.symm;clear f1_ f2_ f3_;subst f4_;subst f5_))
                  obtain ⟨Ao134,co134,eo134⟩:=Kd.R_slice HO406.out
                  (first|subst eo134|(injection eo134 with f1_ f2_ f3_;have f4_:=f1_.symm;have f5_:=f3_.symm;clear f1_ f2_ f3_;subst f4_;subst f5_))
                  refine hK.out _ _ ⟨(blk_cell BK313.out 0).trans rfl,(blk_cell BK313.out 1).trans rfl,(blk_cell BK313.out 2).trans rfl,(blk_cell BK314.out 0).trans rfl,(blk_cell BK314.out 1).trans rfl,(blk_cell BK314.out 2).trans rfl⟩ (fun hHeld=>?_)
                  clear hK K
                  refine norm_ (a':=?_) ?_ ?_
                  rotate_left
                  ·show Act.put _ (some 98) _ = _
                   simp only [Act.put,xa,xb,xc,i64_w,i32_w]
                   rfl
                  refine two_ (i:=4) (j:=8) (Ni:=some 99) (Nj:=some 15) #[true,true,true,true,true,false,false,false,false,false,false] #[true,true,true,true,false,false,false,false,true,false,false] rfl rfl rfl rfl (two_of HT_.out (by kernel_rfl)) (by decide) (by decide) (fun K hK=>?_) (fun K hK=>?_)
                  ·skip
                   refine goes_ Try.func13 (by kernel_rfl) rfl #[.agg #[.int .i64 t393,.slice Ao131 t394.length co131,.slice Ao132 t397.length co132],.agg #[.int .i64 t400,.slice Ao133 t401.length co133,.slice Ao134 t404.length co134]] (by rfl) rfl rfl mz ?_
                   with_reducible refine (impl_JoinPlans.calls k t393 _ _ t394 _ _ t397 t400 _ _ t401 _ _ t404 t407 t408 t411 t414 _ ?side1 ?side2 ?side3 ?side4 ?side5 ?side6 ?side7 ?side8 A44.out).mono ?_
                   (case side1=>exact cz (Kd.R_reads' HO396.out).2.2)
                   (case side2=>exact (Kd.R_reads' HO396.out).2.1)
                   (case side3=>exact cz (Kd.R_reads' HO399.out).2.2)
                   (case side4=>exact (Kd.R_reads' HO399.out).2.1)
                   (case side5=>exact cz (Kd.R_reads' HO403.out).2.2)
                   (case side6=>exact (Kd.R_reads' HO403.out).2.1)
                   (case side7=>exact cz (Kd.R_reads' HO406.out).2.2)
                   (case side8=>exact (Kd.R_reads' HO406.out).2.1)
                   rintro e w135 ⟨v409,v412,rfl,ho0,ho1,hb⟩
                   refine ⟨_,rfl,?_⟩
                   have n0_:=Aside0.mk (Kd.R_elder' (rz HO334.out) (Kd.R_base ho0) hb)
                   have n1_:=Aside0.mk (Kd.R_elder' (rz HO337.out) (Kd.R_base ho1) hb)
                   have n2_:=Aside0.mk (Kd.R_elder' (rz HO359.out) (Kd.R_base ho0) hb)
                   have n3_:=Aside0.mk (Kd.R_elder' (rz HO362.out) (Kd.R_base ho1) hb)
                   have n4_:=Aside0.mk (Kd.R_elder' (rz HO396.out) (Kd.R_base ho0) hb)
                   have n5_:=Aside0.mk (Kd.R_elder' (rz HO399.out) (Kd.R_base ho1) hb)
                   have n6_:=Aside0.mk (Kd.R_elder' (rz HO403.out) (Kd.R_base ho0) hb)
                   have n7_:=Aside0.mk (Kd.R_elder' (rz HO406.out) (Kd.R_base ho1) hb)
                   have n8_:=Aside0.mk (Kd.R_lower (Kd.R_new' (Kd.R_new' (Kd.R_new' (Kd.R_new' ho0 (Kd.R_lt (rz HO334.out))) (Kd.R_lt (rz HO359.out))) (Kd.R_lt (rz HO396.out))) (Kd.R_lt (rz HO403.out))) (below_size bs))
                   have n9_:=Aside0.mk (Kd.R_lower (Kd.R_new' (Kd.R_new' (Kd.R_new' (Kd.R_new' ho1 (Kd.R_lt (rz HO337.out))) (Kd.R_lt (rz HO362.out))) (Kd.R_lt (rz HO399.out))) (Kd.R_lt (rz HO406.out))) (below_size bs))
                   have n10_:=Aside0.mk (kb BK313.out hb)
                   have n11_:=Aside0.mk (kb BK314.out hb)
                   have n12_:=Aside0.mk (kb BK339.out hb)
                   have n13_:=Aside0.mk (kb BK364.out hb)
                   have n14_:=Aside0.mk (below_step bs hb)
                   clear HO334
                   clear HO337
                   clear HO359
                   clear HO362
                   clear HO396
                   clear HO399
                   clear HO403
                   clear HO406
                   clear BK313
                   clear BK314
                   clear BK339
                   clear BK364
                   clear HB
                   have HO334:=n0_
                   have HO337:=n1_
                   have HO359:=n2_
                   have HO362:=n3_
                   have HO396:=n4_
                   have HO399:=n5_
                   have HO403:=n6_
                   have HO406:=n7_
                   have HO410:=n8_
                   have HO413:=n9_
                   have BK313:=n10_
                   have BK314:=n11_
                   have BK339:=n12_
                   have BK364:=n13_
                   have HB:=n14_
                   clear n0_ n1_ n2_ n3_ n4_ n5_ n6_ n7_ n8_ n9_ n10_ n11_ n12_ n13_ n14_
                   (try clear hb)
                   (try clear ho0)
                   (try clear ho1)
                   refine hK.out _ _ ⟨(blk_cell BK313.out 0).trans rfl,(blk_cell BK313.out 1).trans rfl,(blk_cell BK313.out 2).trans rfl,(blk_cell BK314.out 0).trans rfl,(blk_cell BK314.out 1).trans rfl,(blk_cell BK314.out 2).trans rfl⟩ (fun hHeld=>?_)
                   clear hK K
                   refine norm_ (a':=?_) ?_ ?_
                   rotate_left
                   ·show Act.put _ (some 99) _ = _
                    simp only [Act.put,xa,xb,xc,i64_w,i32_w]
                    rfl
                   refine pure_ (i:=5) (N:=some 94) (v:=?_) (a':=?_) #[true,true,true,true,true,true,false,false,false,false,false] rfl rfl (any_of HT_.out (by kernel_rfl)) (fun _ _ _ h=>h) (Or.inl ⟨by rfl,?_⟩) ?_ ?_
                   rotate_left
                   ·intro w'
                    go_simp
                    with_reducible rfl
                   rotate_left
                   ·simp only [Act.put,xa,xb,xc,i64_w,i32_w]
                    rfl
                   refine pure_ (i:=6) (N:=some 100) (v:=?_) (a':=?_) #[true,true,true,true,true,true,true,false,false,false,false] rfl rfl (any_of HT_.out (by kernel_rfl)) (fun _ _ _ h=>h) (Or.inl ⟨by rfl,?_⟩) ?_ ?_
                   rotate_left
                   ·intro w'
                    go_simp
                    with_reducible rfl
                   rotate_left
                   ·simp only [Act.put,xa,xb,xc,i64_w,i32_w]
                    rfl
                   refine pure_ (i:=7) (N:=some 101) (v:=?_) (a':=?_) #[true,true,true,true,true,true,true,true,false,false,false] rfl rfl (any_of HT_.out (by kernel_rfl)) (fun _ _ _ h=>h) (Or.inl ⟨by rfl,?_⟩) ?_ ?_
                   rotate_left
                   ·intro w'
                    go_simp
                    with_reducible rfl
                   rotate_left
                   ·simp only [Act.put,xa,xb,xc,i64_w,i32_w]
                    rfl
                   refine one_ (i:=8) (N:=some 15) #[true,true,true,true,true,true,true,true,true,false,false] rfl rfl (one_of HT_.out (by kernel_rfl)) (by decide) (fun K hK=>?_)
                   refine box_step ?hg (N:=15) ?hd (cs:=#[.int .i64 0,.slice none 0 0,.slice none 0 0]) (t:=29) ?hr ?_;(case hd=>rfl);(case hg=>rfl);(case hr=>first|(go_simp;done)|(go_simp;rfl))
                   intro gb415 hg w136 hbox hb
                   have n0_:=Aside0.mk (Kd.R_below (rz HO334.out) hb)
                   have n1_:=Aside0.mk (Kd.R_below (rz HO337.out) hb)
                   have n2_:=Aside0.mk (Kd.R_below (rz HO359.out) hb)
                   have n3_:=Aside0.mk (Kd.R_below (rz HO362.out) hb)
                   have n4_:=Aside0.mk (Kd.R_below (rz HO396.out) hb)
                   have n5_:=Aside0.mk (Kd.R_below (rz HO399.out) hb)
                   have n6_:=Aside0.mk (Kd.R_below (rz HO403.out) hb)
                   have n7_:=Aside0.mk (Kd.R_below (rz HO406.out) hb)
                   have n8_:=Aside0.mk (Kd.R_below (rz HO410.out) hb)
                   have n9_:=Aside0.mk (Kd.R_below (rz HO413.out) hb)
                   have n10_:=Aside0.mk (kb BK313.out hb)
                   have n11_:=Aside0.mk (kb BK314.out hb)
                   have n12_:=Aside0.mk (kb BK339.out hb)
                   have n13_:=Aside0.mk (kb BK364.out hb)
                   have n14_:=Aside0.mk (below_step bs hb)
                   have n15_:=Aside0.mk (hbox)
                   have n16_:=Aside0.mk ((by rw [hg];exact (below_size bs) : w.heap.size ≤ gb415))
                   have n17_:=Aside0.mk ((by rw [hg];exact (below_size bs) : w.heap.size ≤ gb415))
                   have n18_:=Aside0.mk (kn hg BK313.out)
                   have n19_:=Aside0.mk (km hg BK313.out)
                   have n20_:=Aside0.mk (kn hg BK314.out)
                   have n21_:=Aside0.mk (km hg BK314.out)
                   have n22_:=Aside0.mk (kn hg BK339.out)
                   have n23_:=Aside0.mk (km hg BK339.out)
                   have n24_:=Aside0.mk (kn hg BK364.out)
                   have n25_:=Aside0.mk (km hg BK364.out)
                   clear HO334
                   clear HO337
                   clear HO359
                   clear HO362
                   clear HO396
                   clear HO399
                   clear HO403
                   clear HO406
                   clear HO410
                   clear HO413
                   clear BK313
                   clear BK314
                   clear BK339
                   clear BK364
                   clear HB
                   have HO334:=n0_
                   have HO337:=n1_
                   have HO359:=n2_
                   have HO362:=n3_
                   have HO396:=n4_
                   have HO399:=n5_
                   have HO403:=n6_
                   have HO406:=n7_
                   have HO410:=n8_
                   have HO413:=n9_
                   have BK313:=n10_
                   have BK314:=n11_
                   have BK339:=n12_
                   have BK364:=n13_
                   have HB:=n14_
                   have BK415:=n15_
                   have GW415:=n16_
                   have GE415:=n17_
                   have NB313_415:=n18_
                   have NB415_313:=n19_
                   have NB314_415:=n20_
                   have NB415_314:=n21_
                   have NB339_415:=n22_
                   have NB415_339:=n23_
                   have NB364_415:=n24_
                   have NB415_364:=n25_
                   clear n0_ n1_ n2_ n3_ n4_ n5_ n6_ n7_ n8_ n9_ n10_ n11_ n12_ n13_ n14_ n15_ n16_ n17_ n18_ n19_ n20_ n21_ n22_ n23_ n24_ n25_
                   clear hb hbox hg
                   refine hK.out _ _ ⟨(blk_cell BK313.out 0).trans rfl,(blk_cell BK313.out 1).trans rfl,(blk_cell BK313.out 2).trans rfl,(blk_cell BK314.out 0).trans rfl,(blk_cell BK314.out 1).trans rfl,(blk_cell BK314.out 2).trans rfl⟩ (fun hHeld=>?_)
                   clear hK K
                   refine norm_ (a':=?_) ?_ ?_
                   rotate_left
                   ·show Act.put _ (some 15) _ = _
                    simp only [Act.put,xa,xb,xc,i64_w,i32_w]
                    rfl
                   exact norm_ (by simp only [putAll,Act.put,xa,xb,xc]) (hCont (.slice Ao131 t394.length co131,.slice Ao132 t397.length co132,.slice Ao133 t401.length co133,.slice Ao134 t404.length co134,v409,v412,gb415) _ ⟨hHeld,(by (with_reducible repeat (first|apply Kd.R_alloc|apply Kd.R_drewN|apply Kd.R_drew));exact Kd.R_mono HO334.out (fun _ hk=>⟨hk.1.1.1,⟨hk.1.1.2,⟨hk.1.2,hk.2⟩⟩⟩)),(by (with_reducible repeat (first|apply Kd.R_alloc|apply Kd.R_drewN|apply Kd.R_drew));exact Kd.R_mono HO337.out (fun _ hk=>⟨hk.1.1.1,⟨hk.1.1.2,⟨hk.1.2,hk.2⟩⟩⟩)),(by (with_reducible repeat (first|apply Kd.R_alloc|apply Kd.R_drewN|apply Kd.R_drew));exact Kd.R_mono HO359.out (fun _ hk=>⟨hk.1.1.1.1,⟨hk.1.1.2,⟨hk.1.2,hk.2⟩⟩⟩)),(by (with_reducible repeat (first|apply Kd.R_alloc|apply Kd.R_drewN|apply Kd.R_drew));exact Kd.R_mono HO362.out (fun _ hk=>⟨hk.1.1.1.1,⟨hk.1.1.2,⟨hk.1.2,hk.2⟩⟩⟩)),(by (with_reducible repeat (first|apply Kd.R_alloc|apply Kd.R_drewN|apply Kd.R_drew));exact Kd.R_mono HO396.out (fun _ hk=>⟨hk.1.1.1.2,⟨hk.1.1.2,⟨hk.1.2,hk.2⟩⟩⟩)),(by (with_reducible repeat (first|apply Kd.R_alloc|apply Kd.R_drewN|apply Kd.R_drew));exact Kd.R_mono HO399.out (fun _ hk=>⟨hk.1.1.1.2,⟨hk.1.1.2,⟨hk.1.2,hk.2⟩⟩⟩)),(by (with_reducible repeat (first|apply Kd.R_alloc|apply Kd.R_drewN|apply Kd.R_drew));exact Kd.R_mono HO403.out (fun _ hk=>⟨hk.1.1.1.2,⟨hk.1.1.2,⟨hk.1.2,hk.2⟩⟩⟩)),(by (with_reducible repeat (first|apply Kd.R_alloc|apply Kd.R_drewN|apply Kd.R_drew));exact Kd.R_mono HO406.out (fun _ hk=>⟨hk.1.1.1.2,⟨hk.1.1.2,⟨hk.1.2,hk.2⟩⟩⟩)),(by (with_reducible repeat (first|apply Kd.R_alloc|apply Kd.R_drewN|apply Kd.R_drew));exact Kd.R_mono HO410.out (fun _ hk=>⟨hk.1.1.1.2,⟨hk.1.1.2,⟨hk.1.2,hk.2⟩⟩⟩)),(by (with_reducible repeat (first|apply Kd.R_alloc|apply Kd.R_drewN|apply Kd.R_drew));exact Kd.R_mono HO413.out (fun _ hk=>⟨hk.1.1.1.2,⟨hk.1.1.2,⟨hk.1.2,hk.2⟩⟩⟩)),(kz BK313.out),(kz BK314.out),(kz BK339.out),(kz BK364.out),(kz BK415.out),GW415.out,GE415.out,NB313_415.out,NB415_313.out,NB314_415.out,NB415_314.out,NB339_415.out,NB415_339.out,NB364_415.out,NB415_364.out,bs⟩)
                  ·skip
                   refine box_step ?hg (N:=15) ?hd (cs:=#[.int .i64 0,.slice none 0 0,.slice none 0 0]) (t:=29) ?hr ?_;(case hd=>rfl);(case hg=>rfl);(case hr=>first|(go_simp;done)|(go_simp;rfl))
                   intro gb415 hg w131 hbox hb
                   have n0_:=Aside0.mk (Kd.R_below (rz HO334.out) hb)
                   have n1_:=Aside0.mk (Kd.R_below (rz HO337.out) hb)
                   have n2_:=Aside0.mk (Kd.R_below (rz HO359.out) hb)
                   have n3_:=Aside0.mk (Kd.R_below (rz HO362.out) hb)
                   have n4_:=Aside0.mk (Kd.R_below (rz HO396.out) hb)
                   have n5_:=Aside0.mk (Kd.R_below (rz HO399.out) hb)
                   have n6_:=Aside0.mk (Kd.R_below (rz HO403.out) hb)
                   have n7_:=Aside0.mk (Kd.R_below (rz HO406.out) hb)
                   have n8_:=Aside0.mk (kb BK313.out hb)
                   have n9_:=Aside0.mk (kb BK314.out hb)
                   have n10_:=Aside0.mk (kb BK339.out hb)
                   have n11_:=Aside0.mk (kb BK364.out hb)
                   have n12_:=Aside0.mk (below_step bs hb)
                   have n13_:=Aside0.mk (hbox)
                   have n14_:=Aside0.mk ((by rw [hg];exact (below_size bs) : w.heap.size ≤ gb415))
                   have n15_:=Aside0.mk ((by rw [hg];exact (below_size bs) : w.heap.size ≤ gb415))
                   have n16_:=Aside0.mk (kn hg BK313.out)
                   have n17_:=Aside0.mk (km hg BK313.out)
                   have n18_:=Aside0.mk (kn hg BK314.out)
                   have n19_:=Aside0.mk (km hg BK314.out)
                   have n20_:=Aside0.mk (kn hg BK339.out)
                   have n21_:=Aside0.mk (km hg BK339.out)
                   have n22_:=Aside0.mk (kn hg BK364.out)
                   have n23_:=Aside0.mk (km hg BK364.out)
                   clear HO334
                   clear HO337
                   clear HO359
                   clear HO362
                   clear HO396
                   clear HO399
                   clear HO403
                   clear HO406
                   clear BK313
                   clear BK314
                   clear BK339
                   clear BK364
                   clear HB
                   have HO334:=n0_
                   have HO337:=n1_
                   have HO359:=n2_
                   have HO362:=n3_
                   have HO396:=n4_
                   have HO399:=n5_
                   have HO403:=n6_
                   have HO406:=n7_
                   have BK313:=n8_
                   have BK314:=n9_
                   have BK339:=n10_
                   have BK364:=n11_
                   have HB:=n12_
                   have BK415:=n13_
                   have GW415:=n14_
                   have GE415:=n15_
                   have NB313_415:=n16_
                   have NB415_313:=n17_
                   have NB314_415:=n18_
                   have NB415_314:=n19_
                   have NB339_415:=n20_
                   have NB415_339:=n21_
                   have NB364_415:=n22_
                   have NB415_364:=n23_
                   clear n0_ n1_ n2_ n3_ n4_ n5_ n6_ n7_ n8_ n9_ n10_ n11_ n12_ n13_ n14_ n15_ n16_ n17_ n18_ n19_ n20_ n21_ n22_ n23_
                   clear hb hbox hg
                   obtain ⟨Ao132,co132,eo132⟩:=Kd.R_slice HO396.out
                   (first|subst eo132|(injection eo132 with f1_ f2_ f3_;have f4_:=f1_.symm;have f5_:=f3_.symm;clear f1_ f2_ f3_;subst f4_;subst f5_))
                   obtain ⟨Ao133,co133,eo133⟩:=Kd.R_slice HO399.out
                   (first|subst eo133|(injection eo133 with f1_ f2_ f3_;have f4_:=f1_.symm;have f5_:=f3_.symm;clear f1_ f2_ f3_;subst f4_;subst f5_))
                   obtain ⟨Ao134,co134,eo134⟩:=Kd.R_slice HO403.out
                   (first|subst eo134|(injection eo134 with f1_ f2_ f3_;have f4_:=f1_.symm;have f5_:=f3_.symm;clear f1_ f2_ f3_;subst f4_;subst f5_))
                   obtain ⟨Ao135,co135,eo135⟩:=Kd.R_slice HO406.out
                   (first|subst eo135|(injection eo135 with f1_ f2_ f3_;have f4_:=f1_.symm;have f5_:=f3_.symm;clear f1_ f2_ f3_;subst f4_;subst f5_))
                   refine hK.out _ _ ⟨(blk_cell BK313.out 0).trans rfl,(blk_cell BK313.out 1).trans rfl,(blk_cell BK313.out 2).trans rfl,(blk_cell BK314.out 0).trans rfl,(blk_cell BK314.out 1).trans rfl,(blk_cell BK314.out 2).trans rfl⟩ (fun hHeld=>?_)
                   clear hK K
                   refine norm_ (a':=?_) ?_ ?_
                   rotate_left
                   ·show Act.put _ (some 15) _ = _
                    simp only [Act.put,xa,xb,xc,i64_w,i32_w]
                    rfl
                   refine one_ (i:=4) (N:=some 99) #[true,true,true,true,true,false,false,false,true,false,false] rfl rfl (one_of HT_.out (by kernel_rfl)) (by decide) (fun K hK=>?_)
                   refine goes_ Try.func13 (by kernel_rfl) rfl #[.agg #[.int .i64 t393,.slice Ao132 t394.length co132,.slice Ao133 t397.length co133],.agg #[.int .i64 t400,.slice Ao134 t401.length co134,.slice Ao135 t404.length co135]] (by rfl) rfl rfl mz ?_
                   with_reducible refine (impl_JoinPlans.calls k t393 _ _ t394 _ _ t397 t400 _ _ t401 _ _ t404 t407 t408 t411 t414 _ ?side1 ?side2 ?side3 ?side4 ?side5 ?side6 ?side7 ?side8 A44.out).mono ?_
                   (case side1=>exact cz (Kd.R_reads' HO396.out).2.2)
                   (case side2=>exact (Kd.R_reads' HO396.out).2.1)
                   (case side3=>exact cz (Kd.R_reads' HO399.out).2.2)
                   (case side4=>exact (Kd.R_reads' HO399.out).2.1)
                   (case side5=>exact cz (Kd.R_reads' HO403.out).2.2)
                   (case side6=>exact (Kd.R_reads' HO403.out).2.1)
                   (case side7=>exact cz (Kd.R_reads' HO406.out).2.2)
                   (case side8=>exact (Kd.R_reads' HO406.out).2.1)
                   rintro e w136 ⟨v409,v412,rfl,ho0,ho1,hb⟩
                   refine ⟨_,rfl,?_⟩
                   have n0_:=Aside0.mk (Kd.R_elder' (rz HO334.out) (Kd.R_base ho0) hb)
                   have n1_:=Aside0.mk (Kd.R_elder' (rz HO337.out) (Kd.R_base ho1) hb)
                   have n2_:=Aside0.mk (Kd.R_elder' (rz HO359.out) (Kd.R_base ho0) hb)
                   have n3_:=Aside0.mk (Kd.R_elder' (rz HO362.out) (Kd.R_base ho1) hb)
                   have n4_:=Aside0.mk (Kd.R_elder' (rz HO396.out) (Kd.R_base ho0) hb)
                   have n5_:=Aside0.mk (Kd.R_elder' (rz HO399.out) (Kd.R_base ho1) hb)
                   have n6_:=Aside0.mk (Kd.R_elder' (rz HO403.out) (Kd.R_base ho0) hb)
                   have n7_:=Aside0.mk (Kd.R_elder' (rz HO406.out) (Kd.R_base ho1) hb)
                   have n8_:=Aside0.mk (Kd.R_lower (Kd.R_new' (Kd.R_new' (Kd.R_new' (Kd.R_new' ho0 (Kd.R_lt (rz HO334.out))) (Kd.R_lt (rz HO359.out))) (Kd.R_lt (rz HO396.out))) (Kd.R_lt (rz HO403.out))) (below_size bs))
                   have n9_:=Aside0.mk (Kd.R_lower (Kd.R_new' (Kd.R_new' (Kd.R_new' (Kd.R_new' ho1 (Kd.R_lt (rz HO337.out))) (Kd.R_lt (rz HO362.out))) (Kd.R_lt (rz HO399.out))) (Kd.R_lt (rz HO406.out))) (below_size bs))
                   have n10_:=Aside0.mk (kb BK313.out hb)
                   have n11_:=Aside0.mk (kb BK314.out hb)
                   have n12_:=Aside0.mk (kb BK339.out hb)
                   have n13_:=Aside0.mk (kb BK364.out hb)
                   have n14_:=Aside0.mk (kb BK415.out hb)
                   have n15_:=Aside0.mk (below_step bs hb)
                   clear HO334
                   clear HO337
                   clear HO359
                   clear HO362
                   clear HO396
                   clear HO399
                   clear HO403
                   clear HO406
                   clear BK313
                   clear BK314
                   clear BK339
                   clear BK364
                   clear BK415
                   clear HB
                   have HO334:=n0_
                   have HO337:=n1_
                   have HO359:=n2_
                   have HO362:=n3_
                   have HO396:=n4_
                   have HO399:=n5_
                   have HO403:=n6_
                   have HO406:=n7_
                   have HO410:=n8_
                   have HO413:=n9_
                   have BK313:=n10_
                   have BK314:=n11_
                   have BK339:=n12_
                   have BK364:=n13_
                   have BK415:=n14_
                   have HB:=n15_
                   clear n0_ n1_ n2_ n3_ n4_ n5_ n6_ n7_ n8_ n9_ n10_ n11_ n12_ n13_ n14_ n15_
                   (try clear hb)
                   (try clear ho0)
                   (try clear ho1)
                   refine hK.out _ _ ⟨(blk_cell BK313.out 0).trans rfl,(blk_cell BK313.out 1).trans rfl,(blk_cell BK313.out 2).trans rfl,(blk_cell BK314.out 0).trans rfl,(blk_cell BK314.out 1).trans rfl,(blk_cell BK314.out 2).trans rfl⟩ (fun hHeld=>?_)
                   clear hK K
                   refine norm_ (a':=?_) ?_ ?_
                   rotate_left
                   ·show Act.put _ (some 99) _ = _
                    simp only [Act.put,xa,xb,xc,i64_w,i32_w]
                    rfl
                   refine pure_ (i:=5) (N:=some 94) (v:=?_) (a':=?_) #[true,true,true,true,true,true,false,false,true,false,false] rfl rfl (any_of HT_.out (by kernel_rfl)) (fun _ _ _ h=>h) (Or.inl ⟨by rfl,?_⟩) ?_ ?_
                   rotate_left
                   ·intro w'
                    go_simp
                    with_reducible rfl
                   rotate_left
                   ·simp only [Act.put,xa,xb,xc,i64_w,i32_w]
                    rfl
                   refine pure_ (i:=6) (N:=some 100) (v:=?_) (a':=?_) #[true,true,true,true,true,true,true,false,true,false,false] rfl rfl (any_of HT_.out (by kernel_rfl)) (fun _ _ _ h=>h) (Or.inl ⟨by rfl,?_⟩) ?_ ?_
                   rotate_left
                   ·intro w'
                    go_simp
                    with_reducible rfl
                   rotate_left
                   ·simp only [Act.put,xa,xb,xc,i64_w,i32_w]
                    rfl
                   refine pure_ (i:=7) (N:=some 101) (v:=?_) (a':=?_) #[true,true,true,true,true,true,true,true,true,false,false] rfl rfl (any_of HT_.out (by kernel_rfl)) (fun _ _ _ h=>h) (Or.inl ⟨by rfl,?_⟩) ?_ ?_
                   rotate_left
                   ·intro w'
                    go_simp
                    with_reducible rfl
                   rotate_left
                   ·simp only [Act.put,xa,xb,xc,i64_w,i32_w]
                    rfl
                   exact norm_ (by simp only [putAll,Act.put,xa,xb,xc]) (hCont (.slice Ao132 t394.length co132,.slice Ao133 t397.length co133,.slice Ao134 t401.length co134,.slice Ao135 t404.length co135,v409,v412,gb415) _ ⟨hHeld,(by (with_reducible repeat (first|apply Kd.R_alloc|apply Kd.R_drewN|apply Kd.R_drew));exact Kd.R_mono HO334.out (fun _ hk=>⟨hk.1.1.1,⟨hk.1.1.2,⟨hk.1.2,hk.2⟩⟩⟩)),(by (with_reducible repeat (first|apply Kd.R_alloc|apply Kd.R_drewN|apply Kd.R_drew));exact Kd.R_mono HO337.out (fun _ hk=>⟨hk.1.1.1,⟨hk.1.1.2,⟨hk.1.2,hk.2⟩⟩⟩)),(by (with_reducible repeat (first|apply Kd.R_alloc|apply Kd.R_drewN|apply Kd.R_drew));exact Kd.R_mono HO359.out (fun _ hk=>⟨hk.1.1.1.1,⟨hk.1.1.2,⟨hk.1.2,hk.2⟩⟩⟩)),(by (with_reducible repeat (first|apply Kd.R_alloc|apply Kd.R_drewN|apply Kd.R_drew));exact Kd.R_mono HO362.out (fun _ hk=>⟨hk.1.1.1.1,⟨hk.1.1.2,⟨hk.1.2,hk.2⟩⟩⟩)),(by (with_reducible repeat (first|apply Kd.R_alloc|apply Kd.R_drewN|apply Kd.R_drew));exact Kd.R_mono HO396.out (fun _ hk=>⟨hk.1.1.1.2,⟨hk.1.1.2,⟨hk.1.2,hk.2⟩⟩⟩)),(by (with_reducible repeat (first|apply Kd.R_alloc|apply Kd.R_drewN|apply Kd.R_drew));exact Kd.R_mono HO399.out (fun _ hk=>⟨hk.1.1.1.2,⟨hk.1.1.2,⟨hk.1.2,hk.2⟩⟩⟩)),(by (with_reducible repeat (first|apply Kd.R_alloc|apply Kd.R_drewN|apply Kd.R_drew));exact Kd.R_mono HO403.out (fun _ hk=>⟨hk.1.1.1.2,⟨hk.1.1.2,⟨hk.1.2,hk.2⟩⟩⟩)),(by (with_reducible repeat (first|apply Kd.R_alloc|apply Kd.R_drewN|apply Kd.R_drew));exact Kd.R_mono HO406.out (fun _ hk=>⟨hk.1.1.1.2,⟨hk.1.1.2,⟨hk.1.2,hk.2⟩⟩⟩)),(by (with_reducible repeat (first|apply Kd.R_alloc|apply Kd.R_drewN|apply Kd.R_drew));exact Kd.R_mono HO410.out (fun _ hk=>⟨hk.1.1.1.2,⟨hk.1.1.2,⟨hk.1.2,hk.2⟩⟩⟩)),(by (with_reducible repeat (first|apply Kd.R_alloc|apply Kd.R_drewN|apply Kd.R_drew));exact Kd.R_mono HO413.out (fun _ hk=>⟨hk.1.1.1.2,⟨hk.1.1.2,⟨hk.1.2,hk.2⟩⟩⟩)),(kz BK313.out),(kz BK314.out),(kz BK339.out),(kz BK364.out),(kz BK415.out),GW415.out,GE415.out,NB313_415.out,NB415_313.out,NB314_415.out,NB415_314.out,NB339_415.out,NB415_339.out,NB364_415.out,NB415_364.out,bs⟩)
                 ·skip
                  refine box_step ?hg (N:=15) ?hd (cs:=#[.int .i64 0,.slice none 0 0,.slice none 0 0]) (t:=29) ?hr ?_;(case hd=>rfl);(case hg=>rfl);(case hr=>first|(go_simp;done)|(go_simp;rfl))
                  intro gb415 hg w130 hbox hb
                  have n0_:=Aside0.mk (Kd.R_below (rz HO334.out) hb)
                  have n1_:=Aside0.mk (Kd.R_below (rz HO337.out) hb)
                  have n2_:=Aside0.mk (Kd.R_below (rz HO359.out) hb)
                  have n3_:=Aside0.mk (Kd.R_below (rz HO362.out) hb)
                  have n4_:=Aside0.mk (Kd.R_below (rz HO396.out) hb)
                  have n5_:=Aside0.mk (Kd.R_below (rz HO399.out) hb)
                  have n6_:=Aside0.mk (kb BK313.out hb)
                  have n7_:=Aside0.mk (kb BK314.out hb)
                  have n8_:=Aside0.mk (kb BK339.out hb)
                  have n9_:=Aside0.mk (kb BK364.out hb)
                  have n10_:=Aside0.mk (below_step bs hb)
                  have n11_:=Aside0.mk (hbox)
                  have n12_:=Aside0.mk ((by rw [hg];exact (below_size bs) : w.heap.size ≤ gb415))
                  have n13_:=Aside0.mk ((by rw [hg];exact (below_size bs) : w.heap.size ≤ gb415))
                  have n14_:=Aside0.mk (kn hg BK313.out)
                  have n15_:=Aside0.mk (km hg BK313.out)
                  have n16_:=Aside0.mk (kn hg BK314.out)
                  have n17_:=Aside0.mk (km hg BK314.out)
                  have n18_:=Aside0.mk (kn hg BK339.out)
                  have n19_:=Aside0.mk (km hg BK339.out)
                  have n20_:=Aside0.mk (kn hg BK364.out)
                  have n21_:=Aside0.mk (km hg BK364.out)
                  clear HO334
                  clear HO337
                  clear HO359
                  clear HO362
                  clear HO396
                  clear HO399
                  clear BK313
                  clear BK314
                  clear BK339
                  clear BK364
                  clear HB
                  have HO334:=n0_
                  have HO337:=n1_
                  have HO359:=n2_
                  have HO362:=n3_
                  have HO396:=n4_
                  have HO399:=n5_
                  have BK313:=n6_
                  have BK314:=n7_
                  have BK339:=n8_
                  have BK364:=n9_
                  have HB:=n10_
                  have BK415:=n11_
                  have GW415:=n12_
                  have GE415:=n13_
                  have NB313_415:=n14_
                  have NB415_313:=n15_
                  have NB314_415:=n16_
                  have NB415_314:=n17_
                  have NB339_415:=n18_
                  have NB415_339:=n19_
                  have NB364_415:=n20_
                  have NB415_364:=n21_
                  clear n0_ n1_ n2_ n3_ n4_ n5_ n6_ n7_ n8_ n9_ n10_ n11_ n12_ n13_ n14_ n15_ n16_ n17_ n18_ n19_ n20_ n21_
                  clear hb hbox hg
                  refine hK.out _ _ ⟨(blk_cell BK313.out 0).trans rfl,(blk_cell BK313.out 1).trans rfl,(blk_cell BK313.out 2).trans rfl,(blk_cell BK314.out 0).trans rfl,(blk_cell BK314.out 1).trans rfl,(blk_cell BK314.out 2).trans rfl⟩ (fun hHeld=>?_)
                  clear hK K
                  refine norm_ (a':=?_) ?_ ?_
                  rotate_left
                  ·show Act.put _ (some 15) _ = _
                   simp only [Act.put,xa,xb,xc,i64_w,i32_w]
                   rfl
                  refine one_ (i:=3) (N:=some 98) #[true,true,true,true,false,false,false,false,true,false,false] rfl rfl (one_of HT_.out (by kernel_rfl)) (by decide) (fun K hK=>?_)
                  refine goes_ Try.func12 (by kernel_rfl) rfl #[.agg #[.int .i64 a1_0,.slice A1_1 l1_1.length c1_1,.slice A1_2 l1_2.length c1_2]] (by rfl) rfl rfl mz ?_
                  with_reducible refine (laws_toPlan.calls k a1_0 _ _ l1_1 _ _ l1_2 t400 t401 t404 _ ?side1 ?side2 ?side3 ?side4 A43.out).mono ?_
                  (case side1=>exact cz (Kd.C_below HR1_1.out HB.out))
                  (case side2=>exact HC1_1.out)
                  (case side3=>exact cz (Kd.C_below HR1_2.out HB.out))
                  (case side4=>exact HC1_2.out)
                  rintro e w131 ⟨v402,v405,rfl,ho0,ho1,hb⟩
                  refine ⟨_,rfl,?_⟩
                  have n0_:=Aside0.mk (Kd.R_elder' (rz HO334.out) (Kd.R_base ho0) hb)
                  have n1_:=Aside0.mk (Kd.R_elder' (rz HO337.out) (Kd.R_base ho1) hb)
                  have n2_:=Aside0.mk (Kd.R_elder' (rz HO359.out) (Kd.R_base ho0) hb)
                  have n3_:=Aside0.mk (Kd.R_elder' (rz HO362.out) (Kd.R_base ho1) hb)
                  have n4_:=Aside0.mk (Kd.R_elder' (rz HO396.out) (Kd.R_base ho0) hb)
                  have n5_:=Aside0.mk (Kd.R_elder' (rz HO399.out) (Kd.R_base ho1) hb)
                  have n6_:=Aside0.mk (Kd.R_lower (Kd.R_new' (Kd.R_new' (Kd.R_new' ho0 (Kd.R_lt (rz HO334.out))) (Kd.R_lt (rz HO359.out))) (Kd.R_lt (rz HO396.out))) (below_size bs))
                  have n7_:=Aside0.mk (Kd.R_lower (Kd.R_new' (Kd.R_new' (Kd.R_new' ho1 (Kd.R_lt (rz HO337.out))) (Kd.R_lt (rz HO362.out))) (Kd.R_lt (rz HO399.out))) (below_size bs))
                  have n8_:=Aside0.mk (kb BK313.out hb)
                  have n9_:=Aside0.mk (kb BK314.out hb)
                  have n10_:=Aside0.mk (kb BK339.out hb)
                  have n11_:=Aside0.mk (kb BK364.out hb)
                  have n12_:=Aside0.mk (kb BK415.out hb)
                  have n13_:=Aside0.mk (below_step bs hb)
                  clear HO334
                  clear HO337
                  clear HO359
                  clear HO362
                  clear HO396
                  clear HO399
                  clear BK313
                  clear BK314
                  clear BK339
                  clear BK364
                  clear BK415
                  clear HB
                  have HO334:=n0_
                  have HO337:=n1_
                  have HO359:=n2_
                  have HO362:=n3_
                  have HO396:=n4_
                  have HO399:=n5_
                  have HO403:=n6_
                  have HO406:=n7_
                  have BK313:=n8_
                  have BK314:=n9_
                  have BK339:=n10_
                  have BK364:=n11_
                  have BK415:=n12_
                  have HB:=n13_
                  clear n0_ n1_ n2_ n3_ n4_ n5_ n6_ n7_ n8_ n9_ n10_ n11_ n12_ n13_
                  (try clear hb)
                  (try clear ho0)
                  (try clear ho1)
                  obtain ⟨Ao132,co132,eo132⟩:=Kd.R_slice HO396.out
                  (first|subst eo132|(injection eo132 with f1_ f2_ f3_;have f4_:=f1_.symm;have f5_:=f3_.symm;clear f1_ f2_ f3_;subst f4_;subst f5_))
                  obtain ⟨Ao133,co133,eo133⟩:=Kd.R_slice HO399.out
                  (first|subst eo133|(injection eo133 with f1_ f2_ f3_;have f4_:=f1_.symm;have f5_:=f3_.symm;clear f1_ f2_ f3_;subst f4_;subst f5_))
                  obtain ⟨Ao134,co134,eo134⟩:=Kd.R_slice HO403.out
                  (first|subst eo134|(injection eo134 with f1_ f2_ f3_;have f4_:=f1_.symm;have f5_:=f3_.symm;clear f1_ f2_ f3_;subst f4_;subst f5_))
                  obtain ⟨Ao135,co135,eo135⟩:=Kd.R_slice HO406.out
                  (first|subst eo135|(injection eo135 with f1_ f2_ f3_;have f4_:=f1_.symm;have f5_:=f3_.symm;clear f1_ f2_ f3_;subst f4_;subst f5_))
                  refine hK.out _ _ ⟨(blk_cell BK313.out 0).trans rfl,(blk_cell BK313.out 1).trans rfl,(blk_cell BK313.out 2).trans rfl,(blk_cell BK314.out 0).trans rfl,(blk_cell BK314.out 1).trans rfl,(blk_cell BK314.out 2).trans rfl⟩ (fun hHeld=>?_)
                  clear hK K
                  refine norm_ (a':=?_) ?_ ?_
                  rotate_left
                  ·show Act.put _ (some 98) _ = _
                   simp only [Act.put,xa,xb,xc,i64_w,i32_w]
                   rfl
                  refine one_ (i:=4) (N:=some 99) #[true,true,true,true,true,false,false,false,true,false,false] rfl rfl (one_of HT_.out (by kernel_rfl)) (by decide) (fun K hK=>?_)
                  refine goes_ Try.func13 (by kernel_rfl) rfl #[.agg #[.int .i64 t393,.slice Ao132 t394.length co132,.slice Ao133 t397.length co133],.agg #[.int .i64 t400,.slice Ao134 t401.length co134,.slice Ao135 t404.length co135]] (by rfl) rfl rfl mz ?_
                  with_reducible refine (impl_JoinPlans.calls k t393 _ _ t394 _ _ t397 t400 _ _ t401 _ _ t404 t407 t408 t411 t414 _ ?side1 ?side2 ?side3 ?side4 ?side5 ?side6 ?side7 ?side8 A44.out).mono ?_
                  (case side1=>exact cz (Kd.R_reads' HO396.out).2.2)
                  (case side2=>exact (Kd.R_reads' HO396.out).2.1)
                  (case side3=>exact cz (Kd.R_reads' HO399.out).2.2)
                  (case side4=>exact (Kd.R_reads' HO399.out).2.1)
                  (case side5=>exact cz (Kd.R_reads' HO403.out).2.2)
                  (case side6=>exact (Kd.R_reads' HO403.out).2.1)
                  (case side7=>exact cz (Kd.R_reads' HO406.out).2.2)
                  (case side8=>exact (Kd.R_reads' HO406.out).2.1)
                  rintro e w136 ⟨v409,v412,rfl,ho0,ho1,hb⟩
                  refine ⟨_,rfl,?_⟩
                  have n0_:=Aside0.mk (Kd.R_elder' (rz HO334.out) (Kd.R_base ho0) hb)
                  have n1_:=Aside0.mk (Kd.R_elder' (rz HO337.out) (Kd.R_base ho1) hb)
                  have n2_:=Aside0.mk (Kd.R_elder' (rz HO359.out) (Kd.R_base ho0) hb)
                  have n3_:=Aside0.mk (Kd.R_elder' (rz HO362.out) (Kd.R_base ho1) hb)
                  have n4_:=Aside0.mk (Kd.R_elder' (rz HO396.out) (Kd.R_base ho0) hb)
                  have n5_:=Aside0.mk (Kd.R_elder' (rz HO399.out) (Kd.R_base ho1) hb)
                  have n6_:=Aside0.mk (Kd.R_elder' (rz HO403.out) (Kd.R_base ho0) hb)
                  have n7_:=Aside0.mk (Kd.R_elder' (rz HO406.out) (Kd.R_base ho1) hb)
                  have n8_:=Aside0.mk (Kd.R_lower (Kd.R_new' (Kd.R_new' (Kd.R_new' (Kd.R_new' ho0 (Kd.R_lt (rz HO334.out))) (Kd.R_lt (rz HO359.out))) (Kd.R_lt (rz HO396.out))) (Kd.R_lt (rz HO403.out))) (below_size bs))
                  have n9_:=Aside0.mk (Kd.R_lower (Kd.R_new' (Kd.R_new' (Kd.R_new' (Kd.R_new' ho1 (Kd.R_lt (rz HO337.out))) (Kd.R_lt (rz HO362.out))) (Kd.R_lt (rz HO399.out))) (Kd.R_lt (rz HO406.out))) (below_size bs))
                  have n10_:=Aside0.mk (kb BK313.out hb)
                  have n11_:=Aside0.mk (kb BK314.out hb)
                  have n12_:=Aside0.mk (kb BK339.out hb)
                  have n13_:=Aside0.mk (kb BK364.out hb)
                  have n14_:=Aside0.mk (kb BK415.out hb)
                  have n15_:=Aside0.mk (below_step bs hb)
                  clear HO334
                  clear HO337
                  clear HO359
                  clear HO362
                  clear HO396
                  clear HO399
                  clear HO403
                  clear HO406
                  clear BK313
                  clear BK314
                  clear BK339
                  clear BK364
                  clear BK415
                  clear HB
                  have HO334:=n0_
                  have HO337:=n1_
                  have HO359:=n2_
                  have HO362:=n3_
                  have HO396:=n4_
                  have HO399:=n5_
                  have HO403:=n6_
                  have HO406:=n7_
                  have HO410:=n8_
                  have HO413:=n9_
                  have BK313:=n10_
                  have BK314:=n11_
                  have BK339:=n12_
                  have BK364:=n13_
                  have BK415:=n14_
                  have HB:=n15_
                  clear n0_ n1_ n2_ n3_ n4_ n5_ n6_ n7_ n8_ n9_ n10_ n11_ n12_ n13_ n14_ n15_
                  (try clear hb)
                  (try clear ho0)
                  (try clear ho1)
                  refine hK.out _ _ ⟨(blk_cell BK313.out 0).trans rfl,(blk_cell BK313.out 1).trans rfl,(blk_cell BK313.out 2).trans rfl,(blk_cell BK314.out 0).trans rfl,(blk_cell BK314.out 1).trans rfl,(blk_cell BK314.out 2).trans rfl⟩ (fun hHeld=>?_)
                  clear hK K
                  refine norm_ (a':=?_) ?_ ?_
                  rotate_left
                  ·show Act.put _ (some 99) _ = _
                   simp only [Act.put,xa,xb,xc,i64_w,i32_w]
                   rfl
                  refine pure_ (i:=5) (N:=some 94) (v:=?_) (a':=?_) #[true,true,true,true,true,true,false,false,true,false,false] rfl rfl (any_of HT_.out (by kernel_rfl)) (fun _ _ _ h=>h) (Or.inl ⟨by rfl,?_⟩) ?_ ?_
                  rotate_left
                  ·intro w'
                   go_simp
                   with_reducible rfl
                  rotate_left
                  ·simp only [Act.put,xa,xb,xc,i64_w,i32_w]
                   rfl
                  refine pure_ (i:=6) (N:=some 100) (v:=?_) (a':=?_) #[true,true,true,true,true,true,true,false,true,false,false] rfl rfl (any_of HT_.out (by kernel_rfl)) (fun _ _ _ h=>h) (Or.inl ⟨by rfl,?_⟩) ?_ ?_
                  rotate_left
                  ·intro w'
                   go_simp
                   with_reducible rfl
                  rotate_left
                  ·simp only [Act.put,xa,xb,xc,i64_w,i32_w]
                   rfl
                  refine pure_ (i:=7) (N:=some 101) (v:=?_) (a':=?_) #[true,true,true,true,true,true,true,true,true,false,false] rfl rfl (any_of HT_.out (by kernel_rfl)) (fun _ _ _ h=>h) (Or.inl ⟨by rfl,?_⟩) ?_ ?_
                  rotate_left
                  ·intro w'
                   go_simp
                   with_reducible rfl
                  rotate_left
                  ·simp only [Act.put,xa,xb,xc,i64_w,i32_w]
                   rfl
                  exact norm_ (by simp only [putAll,Act.put,xa,xb,xc]) (hCont (.slice Ao132 t394.length co132,.slice Ao133 t397.length co133,.slice Ao134 t401.length co134,.slice Ao135 t404.length co135,v409,v412,gb415) _ ⟨hHeld,(by (with_reducible repeat (first|apply Kd.R_alloc|apply Kd.R_drewN|apply Kd.R_drew));exact Kd.R_mono HO334.out (fun _ hk=>⟨hk.1.1.1,⟨hk.1.1.2,⟨hk.1.2,hk.2⟩⟩⟩)),(by (with_reducible repeat (first|apply Kd.R_alloc|apply Kd.R_drewN|apply Kd.R_drew));exact Kd.R_mono HO337.out (fun _ hk=>⟨hk.1.1.1,⟨hk.1.1.2,⟨hk.1.2,hk.2⟩⟩⟩)),(by (with_reducible repeat (first|apply Kd.R_alloc|apply Kd.R_drewN|apply Kd.R_drew));exact Kd.R_mono HO359.out (fun _ hk=>⟨hk.1.1.1.1,⟨hk.1.1.2,⟨hk.1.2,hk.2⟩⟩⟩)),(by (with_reducible repeat (first|apply Kd.R_alloc|apply Kd.R_drewN|apply Kd.R_drew));exact Kd.R_mono HO362.out (fun _ hk=>⟨hk.1.1.1.1,⟨hk.1.1.2,⟨hk.1.2,hk.2⟩⟩⟩)),(by (with_reducible repeat (first|apply Kd.R_alloc|apply Kd.R_drewN|apply Kd.R_drew));exact Kd.R_mono HO396.out (fun _ hk=>⟨hk.1.1.1.2,⟨hk.1.1.2,⟨hk.1.2,hk.2⟩⟩⟩)),(by (with_reducible repeat (first|apply Kd.R_alloc|apply Kd.R_drewN|apply Kd.R_drew));exact Kd.R_mono HO399.out (fun _ hk=>⟨hk.1.1.1.2,⟨hk.1.1.2,⟨hk.1.2,hk.2⟩⟩⟩)),(by (with_reducible repeat (first|apply Kd.R_alloc|apply Kd.R_drewN|apply Kd.R_drew));exact Kd.R_mono HO403.out (fun _ hk=>⟨hk.1.1.1.2,⟨hk.1.1.2,⟨hk.1.2,hk.2⟩⟩⟩)),(by (with_reducible repeat (first|apply Kd.R_alloc|apply Kd.R_drewN|apply Kd.R_drew));exact Kd.R_mono HO406.out (fun _ hk=>⟨hk.1.1.1.2,⟨hk.1.1.2,⟨hk.1.2,hk.2⟩⟩⟩)),(by (with_reducible repeat (first|apply Kd.R_alloc|apply Kd.R_drewN|apply Kd.R_drew));exact Kd.R_mono HO410.out (fun _ hk=>⟨hk.1.1.1.2,⟨hk.1.1.2,⟨hk.1.2,hk.2⟩⟩⟩)),(by (with_reducible repeat (first|apply Kd.R_alloc|apply Kd.R_drewN|apply Kd.R_drew));exact Kd.R_mono HO413.out (fun _ hk=>⟨hk.1.1.1.2,⟨hk.1.1.2,⟨hk.1.2,hk.2⟩⟩⟩)),(kz BK313.out),(kz BK314.out),(kz BK339.out),(kz BK364.out),(kz BK415.out),GW415.out,GE415.out,NB313_415.out,NB415_313.out,NB314_415.out,NB415_314.out,NB339_415.out,NB415_339.out,NB364_415.out,NB415_364.out,bs⟩)
                ·skip
                 refine box_step ?hg (N:=15) ?hd (cs:=#[.int .i64 0,.slice none 0 0,.slice none 0 0]) (t:=29) ?hr ?_;(case hd=>rfl);(case hg=>rfl);(case hr=>first|(go_simp;done)|(go_simp;rfl))
                 intro gb415 hg w129 hbox hb
                 have n0_:=Aside0.mk (Kd.R_below (rz HO334.out) hb)
                 have n1_:=Aside0.mk (Kd.R_below (rz HO337.out) hb)
                 have n2_:=Aside0.mk (Kd.R_below (rz HO359.out) hb)
                 have n3_:=Aside0.mk (Kd.R_below (rz HO362.out) hb)
                 have n4_:=Aside0.mk (kb BK313.out hb)
                 have n5_:=Aside0.mk (kb BK314.out hb)
                 have n6_:=Aside0.mk (kb BK339.out hb)
                 have n7_:=Aside0.mk (kb BK364.out hb)
                 have n8_:=Aside0.mk (below_step bs hb)
                 have n9_:=Aside0.mk (hbox)
                 have n10_:=Aside0.mk ((by rw [hg];exact (below_size bs) : w.heap.size ≤ gb415))
                 have n11_:=Aside0.mk ((by rw [hg];exact (below_size bs) : w.heap.size ≤ gb415))
                 have n12_:=Aside0.mk (kn hg BK313.out)
                 have n13_:=Aside0.mk (km hg BK313.out)
                 have n14_:=Aside0.mk (kn hg BK314.out)
                 have n15_:=Aside0.mk (km hg BK314.out)
                 have n16_:=Aside0.mk (kn hg BK339.out)
                 have n17_:=Aside0.mk (km hg BK339.out)
                 have n18_:=Aside0.mk (kn hg BK364.out)
                 have n19_:=Aside0.mk (km hg BK364.out)
                 clear HO334
                 clear HO337
                 clear HO359
                 clear HO362
                 clear BK313
                 clear BK314
                 clear BK339
                 clear BK364
                 clear HB
                 have HO334:=n0_
                 have HO337:=n1_
                 have HO359:=n2_
                 have HO362:=n3_
                 have BK313:=n4_
                 have BK314:=n5_
                 have BK339:=n6_
                 have BK364:=n7_
                 have HB:=n8_
                 have BK415:=n9_
                 have GW415:=n10_
                 have GE415:=n11_
                 have NB313_415:=n12_
                 have NB415_313:=n13_
                 have NB314_415:=n14_
                 have NB415_314:=n15_
                 have NB339_415:=n16_
                 have NB415_339:=n17_
                 have NB364_415:=n18_
                 have NB415_364:=n19_
                 clear n0_ n1_ n2_ n3_ n4_ n5_ n6_ n7_ n8_ n9_ n10_ n11_ n12_ n13_ n14_ n15_ n16_ n17_ n18_ n19_
                 clear hb hbox hg
                 refine hK.out _ _ ⟨(blk_cell BK313.out 0).trans rfl,(blk_cell BK313.out 1).trans rfl,(blk_cell BK313.out 2).trans rfl,(blk_cell BK314.out 0).trans rfl,(blk_cell BK314.out 1).trans rfl,(blk_cell BK314.out 2).trans rfl⟩ (fun hHeld=>?_)
                 clear hK K
                 refine norm_ (a':=?_) ?_ ?_
                 rotate_left
                 ·show Act.put _ (some 15) _ = _
                  simp only [Act.put,xa,xb,xc,i64_w,i32_w]
                  rfl
                 refine one_ (i:=1) (N:=some 96) #[true,true,true,false,false,false,false,false,true,false,false] rfl rfl (one_of HT_.out (by kernel_rfl)) (by decide) (fun K hK=>?_)
                 refine goes_ Try.func12 (by kernel_rfl) rfl #[.agg #[.int .i64 a0_0,.slice A0_1 l0_1.length c0_1,.slice A0_2 l0_2.length c0_2]] (by rfl) rfl rfl mz ?_
                 with_reducible refine (laws_toPlan.calls k a0_0 _ _ l0_1 _ _ l0_2 t393 t394 t397 _ ?side1 ?side2 ?side3 ?side4 A42.out).mono ?_
                 (case side1=>exact cz (Kd.C_below HR0_1.out HB.out))
                 (case side2=>exact HC0_1.out)
                 (case side3=>exact cz (Kd.C_below HR0_2.out HB.out))
                 (case side4=>exact HC0_2.out)
                 rintro e w130 ⟨v395,v398,rfl,ho0,ho1,hb⟩
                 refine ⟨_,rfl,?_⟩
                 have n0_:=Aside0.mk (Kd.R_elder' (rz HO334.out) (Kd.R_base ho0) hb)
                 have n1_:=Aside0.mk (Kd.R_elder' (rz HO337.out) (Kd.R_base ho1) hb)
                 have n2_:=Aside0.mk (Kd.R_elder' (rz HO359.out) (Kd.R_base ho0) hb)
                 have n3_:=Aside0.mk (Kd.R_elder' (rz HO362.out) (Kd.R_base ho1) hb)
                 have n4_:=Aside0.mk (Kd.R_lower (Kd.R_new' (Kd.R_new' ho0 (Kd.R_lt (rz HO334.out))) (Kd.R_lt (rz HO359.out))) (below_size bs))
                 have n5_:=Aside0.mk (Kd.R_lower (Kd.R_new' (Kd.R_new' ho1 (Kd.R_lt (rz HO337.out))) (Kd.R_lt (rz HO362.out))) (below_size bs))
                 have n6_:=Aside0.mk (kb BK313.out hb)
                 have n7_:=Aside0.mk (kb BK314.out hb)
                 have n8_:=Aside0.mk (kb BK339.out hb)
                 have n9_:=Aside0.mk (kb BK364.out hb)
                 have n10_:=Aside0.mk (kb BK415.out hb)
                 have n11_:=Aside0.mk (below_step bs hb)
                 clear HO334
                 clear HO337
                 clear HO359
                 clear HO362
                 clear BK313
                 clear BK314
                 clear BK339
                 clear BK364
                 clear BK415
                 clear HB
                 have HO334:=n0_
                 have HO337:=n1_
                 have HO359:=n2_
                 have HO362:=n3_
                 have HO396:=n4_
                 have HO399:=n5_
                 have BK313:=n6_
                 have BK314:=n7_
                 have BK339:=n8_
                 have BK364:=n9_
                 have BK415:=n10_
                 have HB:=n11_
                 clear n0_ n1_ n2_ n3_ n4_ n5_ n6_ n7_ n8_ n9_ n10_ n11_
                 (try clear hb)
                 (try clear ho0)
                 (try clear ho1)
                 refine hK.out _ _ ⟨(blk_cell BK313.out 0).trans rfl,(blk_cell BK313.out 1).trans rfl,(blk_cell BK313.out 2).trans rfl,(blk_cell BK314.out 0).trans rfl,(blk_cell BK314.out 1).trans rfl,(blk_cell BK314.out 2).trans rfl⟩ (fun hHeld=>?_)
                 clear hK K
                 refine norm_ (a':=?_) ?_ ?_
                 rotate_left
                 ·show Act.put _ (some 96) _ = _
                  simp only [Act.put,xa,xb,xc,i64_w,i32_w]
                  rfl
                 refine one_ (i:=3) (N:=some 98) #[true,true,true,true,false,false,false,false,true,false,false] rfl rfl (one_of HT_.out (by kernel_rfl)) (by decide) (fun K hK=>?_)
                 refine goes_ Try.func12 (by kernel_rfl) rfl #[.agg #[.int .i64 a1_0,.slice A1_1 l1_1.length c1_1,.slice A1_2 l1_2.length c1_2]] (by rfl) rfl rfl mz ?_
                 with_reducible refine (laws_toPlan.calls k a1_0 _ _ l1_1 _ _ l1_2 t400 t401 t404 _ ?side1 ?side2 ?side3 ?side4 A43.out).mono ?_
                 (case side1=>exact cz (Kd.C_below HR1_1.out HB.out))
                 (case side2=>exact HC1_1.out)
                 (case side3=>exact cz (Kd.C_below HR1_2.out HB.out))
                 (case side4=>exact HC1_2.out)
                 rintro e w131 ⟨v402,v405,rfl,ho0,ho1,hb⟩
                 refine ⟨_,rfl,?_⟩
                 have n0_:=Aside0.mk (Kd.R_elder' (rz HO334.out) (Kd.R_base ho0) hb)
                 have n1_:=Aside0.mk (Kd.R_elder' (rz HO337.out) (Kd.R_base ho1) hb)
                 have n2_:=Aside0.mk (Kd.R_elder' (rz HO359.out) (Kd.R_base ho0) hb)
                 have n3_:=Aside0.mk (Kd.R_elder' (rz HO362.out) (Kd.R_base ho1) hb)
                 have n4_:=Aside0.mk (Kd.R_elder' (rz HO396.out) (Kd.R_base ho0) hb)
                 have n5_:=Aside0.mk (Kd.R_elder' (rz HO399.out) (Kd.R_base ho1) hb)
                 have n6_:=Aside0.mk (Kd.R_lower (Kd.R_new' (Kd.R_new' (Kd.R_new' ho0 (Kd.R_lt (rz HO334.out))) (Kd.R_lt (rz HO359.out))) (Kd.R_lt (rz HO396.out))) (below_size bs))
                 have n7_:=Aside0.mk (Kd.R_lower (Kd.R_new' (Kd.R_new' (Kd.R_new' ho1 (Kd.R_lt (rz HO337.out))) (Kd.R_lt (rz HO362.out))) (Kd.R_lt (rz HO399.out))) (below_size bs))
                 have n8_:=Aside0.mk (kb BK313.out hb)
                 have n9_:=Aside0.mk (kb BK314.out hb)
                 have n10_:=Aside0.mk (kb BK339.out hb)
                 have n11_:=Aside0.mk (kb BK364.out hb)
                 have n12_:=Aside0.mk (kb BK415.out hb)
                 have n13_:=Aside0.mk (below_step bs hb)
                 clear HO334
                 clear HO337
                 clear HO359
                 clear HO362
                 clear HO396
                 clear HO399
                 clear BK313
                 clear BK314
                 clear BK339
                 clear BK364
                 clear BK415
                 clear HB
                 have HO334:=n0_
                 have HO337:=n1_
                 have HO359:=n2_
                 have HO362:=n3_
                 have HO396:=n4_
                 have HO399:=n5_
                 have HO403:=n6_
                 have HO406:=n7_
                 have BK313:=n8_
                 have BK314:=n9_
                 have BK339:=n10_
                 have BK364:=n11_
                 have BK415:=n12_
                 have HB:=n13_
                 clear n0_ n1_ n2_ n3_ n4_ n5_ n6_ n7_ n8_ n9_ n10_ n11_ n12_ n13_
                 (try clear hb)
                 (try clear ho0)
                 (try clear ho1)
                 obtain ⟨Ao132,co132,eo132⟩:=Kd.R_slice HO396.out
                 (first|subst eo132|(injection eo132 with f1_ f2_ f3_;have f4_:=f1_.symm;have f5_:=f3_.symm;clear f1_ f2_ f3_;subst f4_;subst f5_))
                 obtain ⟨Ao133,co133,eo133⟩:=Kd.R_slice HO399.out
                 (first|subst eo133|(injection eo133 with f1_ f2_ f3_;have f4_:=f1_.symm;have f5_:=f3_.symm;clear f1_ f2_ f3_;subst f4_;subst f5_))
                 obtain ⟨Ao134,co134,eo134⟩:=Kd.R_slice HO403.out
                 (first|subst eo134|(injection eo134 with f1_ f2_ f3_;have f4_:=f1_.symm;have f5_:=f3_.symm;clear f1_ f2_ f3_;subst f4_;subst f5_))
                 obtain ⟨Ao135,co135,eo135⟩:=Kd.R_slice HO406.out
                 (first|subst eo135|(injection eo135 with f1_ f2_ f3_;have f4_:=f1_.symm;have f5_:=f3_.symm;clear f1_ f2_ f3_;subst f4_;subst f5_))
                 refine hK.out _ _ ⟨(blk_cell BK313.out 0).trans rfl,(blk_cell BK313.out 1).trans rfl,(blk_cell BK313.out 2).trans rfl,(blk_cell BK314.out 0).trans rfl,(blk_cell BK314.out 1).trans rfl,(blk_cell BK314.out 2).trans rfl⟩ (fun hHeld=>?_)
                 clear hK K
                 refine norm_ (a':=?_) ?_ ?_
                 rotate_left
                 ·show Act.put _ (some 98) _ = _
                  simp only [Act.put,xa,xb,xc,i64_w,i32_w]
                  rfl
                 refine one_ (i:=4) (N:=some 99) #[true,true,true,true,true,false,false,false,true,false,false] rfl rfl (one_of HT_.out (by kernel_rfl)) (by decide) (fun K hK=>?_)
                 refine goes_ Try.func13 (by kernel_rfl) rfl #[.agg #[.int .i64 t393,.slice Ao132 t394.length co132,.slice Ao133 t397.length co133],.agg #[.int .i64 t400,.slice Ao134 t401.length co134,.slice Ao135 t404.length co135]] (by rfl) rfl rfl mz ?_
                 with_reducible refine (impl_JoinPlans.calls k t393 _ _ t394 _ _ t397 t400 _ _ t401 _ _ t404 t407 t408 t411 t414 _ ?side1 ?side2 ?side3 ?side4 ?side5 ?side6 ?side7 ?side8 A44.out).mono ?_
                 (case side1=>exact cz (Kd.R_reads' HO396.out).2.2)
                 (case side2=>exact (Kd.R_reads' HO396.out).2.1)
                 (case side3=>exact cz (Kd.R_reads' HO399.out).2.2)
                 (case side4=>exact (Kd.R_reads' HO399.out).2.1)
                 (case side5=>exact cz (Kd.R_reads' HO403.out).2.2)
                 (case side6=>exact (Kd.R_reads' HO403.out).2.1)
                 (case side7=>exact cz (Kd.R_reads' HO406.out).2.2)
                 (case side8=>exact (Kd.R_reads' HO406.out).2.1)
                 rintro e w136 ⟨v409,v412,rfl,ho0,ho1,hb⟩
                 refine ⟨_,rfl,?_⟩
                 have n0_:=Aside0.mk (Kd.R_elder' (rz HO334.out) (Kd.R_base ho0) hb)
                 have n1_:=Aside0.mk (Kd.R_elder' (rz HO337.out) (Kd.R_base ho1) hb)
                 have n2_:=Aside0.mk (Kd.R_elder' (rz HO359.out) (Kd.R_base ho0) hb)
                 have n3_:=Aside0.mk (Kd.R_elder' (rz HO362.out) (Kd.R_base ho1) hb)
                 have n4_:=Aside0.mk (Kd.R_elder' (rz HO396.out) (Kd.R_base ho0) hb)
                 have n5_:=Aside0.mk (Kd.R_elder' (rz HO399.out) (Kd.R_base ho1) hb)
                 have n6_:=Aside0.mk (Kd.R_elder' (rz HO403.out) (Kd.R_base ho0) hb)
                 have n7_:=Aside0.mk (Kd.R_elder' (rz HO406.out) (Kd.R_base ho1) hb)
                 have n8_:=Aside0.mk (Kd.R_lower (Kd.R_new' (Kd.R_new' (Kd.R_new' (Kd.R_new' ho0 (Kd.R_lt (rz HO334.out))) (Kd.R_lt (rz HO359.out))) (Kd.R_lt (rz HO396.out))) (Kd.R_lt (rz HO403.out))) (below_size bs))
                 have n9_:=Aside0.mk (Kd.R_lower (Kd.R_new' (Kd.R_new' (Kd.R_new' (Kd.R_new' ho1 (Kd.R_lt (rz HO337.out))) (Kd.R_lt (rz HO362.out))) (Kd.R_lt (rz HO399.out))) (Kd.R_lt (rz HO406.out))) (below_size bs))
                 have n10_:=Aside0.mk (kb BK313.out hb)
                 have n11_:=Aside0.mk (kb BK314.out hb)
                 have n12_:=Aside0.mk (kb BK339.out hb)
                 have n13_:=Aside0.mk (kb BK364.out hb)
                 have n14_:=Aside0.mk (kb BK415.out hb)
                 have n15_:=Aside0.mk (below_step bs hb)
                 clear HO334
                 clear HO337
                 clear HO359
                 clear HO362
                 clear HO396
                 clear HO399
                 clear HO403
                 clear HO406
                 clear BK313
                 clear BK314
                 clear BK339
                 clear BK364
                 clear BK415
                 clear HB
                 have HO334:=n0_
                 have HO337:=n1_
                 have HO359:=n2_
                 have HO362:=n3_
                 have HO396:=n4_
                 have HO399:=n5_
                 have HO403:=n6_
                 have HO406:=n7_
                 have HO410:=n8_
                 have HO413:=n9_
                 have BK313:=n10_
                 have BK314:=n11_
                 have BK339:=n12_
                 have BK364:=n13_
                 have BK415:=n14_
                 have HB:=n15_
                 clear n0_ n1_ n2_ n3_ n4_ n5_ n6_ n7_ n8_ n9_ n10_ n11_ n12_ n13_ n14_ n15_
                 (try clear hb)
                 (try clear ho0)
                 (try clear ho1)
                 refine hK.out _ _ ⟨(blk_cell BK313.out 0).trans rfl,(blk_cell BK313.out 1).trans rfl,(blk_cell BK313.out 2).trans rfl,(blk_cell BK314.out 0).trans rfl,(blk_cell BK314.out 1).trans rfl,(blk_cell BK314.out 2).trans rfl⟩ (fun hHeld=>?_)
                 clear hK K
                 refine norm_ (a':=?_) ?_ ?_
                 rotate_left
                 ·show Act.put _ (some 99) _ = _
                  simp only [Act.put,xa,xb,xc,i64_w,i32_w]
                  rfl
                 refine pure_ (i:=5) (N:=some 94) (v:=?_) (a':=?_) #[true,true,true,true,true,true,false,false,true,false,false] rfl rfl (any_of HT_.out (by kernel_rfl)) (fun _ _ _ h=>h) (Or.inl ⟨by rfl,?_⟩) ?_ ?_
                 rotate_left
                 ·intro w'
                  go_simp
                  with_reducible rfl
                 rotate_left
                 ·simp only [Act.put,xa,xb,xc,i64_w,i32_w]
                  rfl
                 refine pure_ (i:=6) (N:=some 100) (v:=?_) (a':=?_) #[true,true,true,true,true,true,true,false,true,false,false] rfl rfl (any_of HT_.out (by kernel_rfl)) (fun _ _ _ h=>h) (Or.inl ⟨by rfl,?_⟩) ?_ ?_
                 rotate_left
                 ·intro w'
                  go_simp
                  with_reducible rfl
                 rotate_left
                 ·simp only [Act.put,xa,xb,xc,i64_w,i32_w]
                  rfl
                 refine pure_ (i:=7) (N:=some 101) (v:=?_) (a':=?_) #[true,true,true,true,true,true,true,true,true,false,false] rfl rfl (any_of HT_.out (by kernel_rfl)) (fun _ _ _ h=>h) (Or.inl ⟨by rfl,?_⟩) ?_ ?_
                 rotate_left
                 ·intro w'
                  go_simp
                  with_reducible rfl
                 rotate_left
                 ·simp only [Act.put,xa,xb,xc,i64_w,i32_w]
                  rfl
                 exact norm_ (by simp only [putAll,Act.put,xa,xb,xc]) (hCont (.slice Ao132 t394.length co132,.slice Ao133 t397.length co133,.slice Ao134 t401.length co134,.slice Ao135 t404.length co135,v409,v412,gb415) _ ⟨hHeld,(by (with_reducible repeat (first|apply Kd.R_alloc|apply Kd.R_drewN|apply Kd.R_drew));exact Kd.R_mono HO334.out (fun _ hk=>⟨hk.1.1.1,⟨hk.1.1.2,⟨hk.1.2,hk.2⟩⟩⟩)),(by (with_reducible repeat (first|apply Kd.R_alloc|apply Kd.R_drewN|apply Kd.R_drew));exact Kd.R_mono HO337.out (fun _ hk=>⟨hk.1.1.1,⟨hk.1.1.2,⟨hk.1.2,hk.2⟩⟩⟩)),(by (with_reducible repeat (first|apply Kd.R_alloc|apply Kd.R_drewN|apply Kd.R_drew));exact Kd.R_mono HO359.out (fun _ hk=>⟨hk.1.1.1.1,⟨hk.1.1.2,⟨hk.1.2,hk.2⟩⟩⟩)),(by (with_reducible repeat (first|apply Kd.R_alloc|apply Kd.R_drewN|apply Kd.R_drew));exact Kd.R_mono HO362.out (fun _ hk=>⟨hk.1.1.1.1,⟨hk.1.1.2,⟨hk.1.2,hk.2⟩⟩⟩)),(by (with_reducible repeat (first|apply Kd.R_alloc|apply Kd.R_drewN|apply Kd.R_drew));exact Kd.R_mono HO396.out (fun _ hk=>⟨hk.1.1.1.2,⟨hk.1.1.2,⟨hk.1.2,hk.2⟩⟩⟩)),(by (with_reducible repeat (first|apply Kd.R_alloc|apply Kd.R_drewN|apply Kd.R_drew));exact Kd.R_mono HO399.out (fun _ hk=>⟨hk.1.1.1.2,⟨hk.1.1.2,⟨hk.1.2,hk.2⟩⟩⟩)),(by (with_reducible repeat (first|apply Kd.R_alloc|apply Kd.R_drewN|apply Kd.R_drew));exact Kd.R_mono HO403.out (fun _ hk=>⟨hk.1.1.1.2,⟨hk.1.1.2,⟨hk.1.2,hk.2⟩⟩⟩)),(by (with_reducible repeat (first|apply Kd.R_alloc|apply Kd.R_drewN|apply Kd.R_drew));exact Kd.R_mono HO406.out (fun _ hk=>⟨hk.1.1.1.2,⟨hk.1.1.2,⟨hk.1.2,hk.2⟩⟩⟩)),(by (with_reducible repeat (first|apply Kd.R_alloc|apply Kd.R_drewN|apply Kd.R_drew));exact Kd.R_mono HO410.out (fun _ hk=>⟨hk.1.1.1.2,⟨hk.1.1.2,⟨hk.1.2,hk.2⟩⟩⟩)),(by (with_reducible repeat (first|apply Kd.R_alloc|apply Kd.R_drewN|apply Kd.R_drew));exact Kd.R_mono HO413.out (fun _ hk=>⟨hk.1.1.1.2,⟨hk.1.1.2,⟨hk.1.2,hk.2⟩⟩⟩)),(kz BK313.out),(kz BK314.out),(kz BK339.out),(kz BK364.out),(kz BK415.out),GW415.out,GE415.out,NB313_415.out,NB415_313.out,NB314_415.out,NB415_314.out,NB339_415.out,NB415_339.out,NB364_415.out,NB415_364.out,bs⟩)
               rintro ⟨v395,v398,v402,v405,v409,v412,gb415⟩ w137 ⟨hS_,h0_,h1_,h2_,h3_,h4_,h5_,h6_,h7_,h8_,h9_,h10_,h11_,h12_,h13_,h14_,h15_,h16_,h17_,h18_,h19_,h20_,h21_,h22_,h23_,h24_,h25_⟩
               have n0_ : Aside0 (Kd.R k73 73 w137 w.heap.size (fun k_=>some k_ ≠ (.slice Ao103 t357.length co103 : Value).ownBlock ∧ some k_ ≠ (v395 : Value).ownBlock ∧ some k_ ≠ (v402 : Value).ownBlock ∧ some k_ ≠ (v409 : Value).ownBlock) (.slice Ao69 t332.length co69) t332):=⟨h0_⟩
               have n1_ : Aside0 (Kd.R (Kd.int .i64) 3 w137 w.heap.size (fun k_=>some k_ ≠ (.slice Ao104 t360.length co104 : Value).ownBlock ∧ some k_ ≠ (v398 : Value).ownBlock ∧ some k_ ≠ (v405 : Value).ownBlock ∧ some k_ ≠ (v412 : Value).ownBlock) (.slice Ao71 t335.length co71) t335):=⟨h1_⟩
               have n2_ : Aside0 (Kd.R k73 73 w137 w.heap.size (fun k_=>some k_ ≠ (.slice Ao69 t332.length co69 : Value).ownBlock ∧ some k_ ≠ (v395 : Value).ownBlock ∧ some k_ ≠ (v402 : Value).ownBlock ∧ some k_ ≠ (v409 : Value).ownBlock) (.slice Ao103 t357.length co103) t390):=⟨h2_⟩
               have n3_ : Aside0 (Kd.R (Kd.int .i64) 3 w137 w.heap.size (fun k_=>some k_ ≠ (.slice Ao71 t335.length co71 : Value).ownBlock ∧ some k_ ≠ (v398 : Value).ownBlock ∧ some k_ ≠ (v405 : Value).ownBlock ∧ some k_ ≠ (v412 : Value).ownBlock) (.slice Ao104 t360.length co104) t391):=⟨h3_⟩
               have n8_ : Aside0 (Kd.R k73 73 w137 w.heap.size (fun k_=>some k_ ≠ (.slice Ao69 t332.length co69 : Value).ownBlock ∧ some k_ ≠ (.slice Ao103 t357.length co103 : Value).ownBlock ∧ some k_ ≠ (v395 : Value).ownBlock ∧ some k_ ≠ (v402 : Value).ownBlock) v409 t408):=⟨h8_⟩
               have n9_ : Aside0 (Kd.R (Kd.int .i64) 3 w137 w.heap.size (fun k_=>some k_ ≠ (.slice Ao71 t335.length co71 : Value).ownBlock ∧ some k_ ≠ (.slice Ao104 t360.length co104 : Value).ownBlock ∧ some k_ ≠ (v398 : Value).ownBlock ∧ some k_ ≠ (v405 : Value).ownBlock) v412 t411):=⟨h9_⟩
               have n12_ : Aside0 (w137.heap[gb339]? = some (.cells #[.int .i64 t331,.slice Ao69 t332.length co69,.slice Ao71 t335.length co71] 29 (0,0))):=⟨h12_⟩
               have n13_ : Aside0 (w137.heap[gb364]? = some (.cells #[.int .i64 t356,.slice Ao103 t357.length co103,.slice Ao104 t360.length co104] 29 (0,0))):=⟨h13_⟩
               have n14_ : Aside0 (w137.heap[gb415]? = some (.cells #[.int .i64 0,.slice none 0 0,.slice none 0 0] 29 (0,0))):=⟨h14_⟩
               have n16_ : Aside0 (w.heap.size ≤ gb415):=⟨h16_⟩
               have n17_ : Aside0 (gb313 ≠ gb415):=⟨h17_⟩
               have n18_ : Aside0 (gb415 ≠ gb313):=⟨h18_⟩
               have n19_ : Aside0 (gb314 ≠ gb415):=⟨h19_⟩
               have n20_ : Aside0 (gb415 ≠ gb314):=⟨h20_⟩
               have n21_ : Aside0 (gb339 ≠ gb415):=⟨h21_⟩
               have n22_ : Aside0 (gb415 ≠ gb339):=⟨h22_⟩
               have n23_ : Aside0 (gb364 ≠ gb415):=⟨h23_⟩
               have n24_ : Aside0 (gb415 ≠ gb364):=⟨h24_⟩
               have n25_ : Aside0 (Below w.heap.size w w137):=⟨h25_⟩
               clear HO334
               clear HO337
               clear HO359
               clear HO362
               clear BK313
               clear BK314
               clear BK339
               clear BK364
               clear HB
               clear h0_ h1_ h2_ h3_ h4_ h5_ h6_ h7_ h8_ h9_ h10_ h11_ h12_ h13_ h14_ h15_ h16_ h17_ h18_ h19_ h20_ h21_ h22_ h23_ h24_ h25_
               have HO334:=n0_
               have HO337:=n1_
               have HO359:=n2_
               have HO362:=n3_
               have HO410:=n8_
               have HO413:=n9_
               have BK339:=n12_
               have BK364:=n13_
               have BK415:=n14_
               have GE415:=n16_
               have NB313_415:=n17_
               have NB415_313:=n18_
               have NB314_415:=n19_
               have NB415_314:=n20_
               have NB339_415:=n21_
               have NB415_339:=n22_
               have NB364_415:=n23_
               have NB415_364:=n24_
               have HB:=n25_
               clear n0_ n1_ n2_ n3_ n8_ n9_ n12_ n13_ n14_ n16_ n17_ n18_ n19_ n20_ n21_ n22_ n23_ n24_ n25_
               have hHeld : w137.cell? ⟨gb313,0,none⟩ = some (.int .i64 a0_0) ∧ w137.cell? ⟨gb313,1,none⟩ = some (.slice A0_1 l0_1.length c0_1) ∧ w137.cell? ⟨gb313,2,none⟩ = some (.slice A0_2 l0_2.length c0_2) ∧ w137.cell? ⟨gb314,0,none⟩ = some (.int .i64 a1_0) ∧ w137.cell? ⟨gb314,1,none⟩ = some (.slice A1_1 l1_1.length c1_1) ∧ w137.cell? ⟨gb314,2,none⟩ = some (.slice A1_2 l1_2.length c1_2):=hS_
               obtain ⟨Ao139,co139,eo139⟩:=Kd.R_slice HO410.out
               (first|subst eo139|(injection eo139 with f1_ f2_ f3_;have f4_:=f1_.symm;have f5_:=f3_.symm;clear f1_ f2_ f3_;subst f4_;subst f5_))
               obtain ⟨Ao141,co141,eo141⟩:=Kd.R_slice HO413.out
               (first|subst eo141|(injection eo141 with f1_ f2_ f3_;have f4_:=f1_.symm;have f5_:=f3_.symm;clear f1_ f2_ f3_;subst f4_;subst f5_))
               refine norm_ (a':=?_) ?_ ?_
               rotate_left
               ·simp only [putAll,Act.put,xa,xb,xc]
                rfl
               refine one_ (i:=9) (N:=none) #[true,true,true,true,true,true,true,true,true,true,false] rfl rfl (one_of HT_.out (by kernel_rfl)) (by decide) (fun K hK=>?_)
               have hs138 : w137.cell? ⟨gb415,0,none⟩ = some (.int .i64 0):=(blk_cell BK415.out 0).trans rfl
               have hfs138:=blk_frozen BK415.out 0
               have hns138_0:=NB313_415.out
               have hns138_1:=NB314_415.out
               have hns138_2:=NB339_415.out
               have hns138_3:=NB364_415.out
               have hms138_0:=NB415_313.out
               have hms138_1:=NB415_314.out
               have hms138_2:=NB415_339.out
               have hms138_3:=NB415_364.out
               have hs140 : w137.cell? ⟨gb415,1,none⟩ = some (.slice none 0 0):=(blk_cell BK415.out 1).trans rfl
               have hfs140:=blk_frozen BK415.out 1
               have hns140_0:=NB313_415.out
               have hns140_1:=NB314_415.out
               have hns140_2:=NB339_415.out
               have hns140_3:=NB364_415.out
               have hms140_0:=NB415_313.out
               have hms140_1:=NB415_314.out
               have hms140_2:=NB415_339.out
               have hms140_3:=NB415_364.out
               have hs142 : w137.cell? ⟨gb415,2,none⟩ = some (.slice none 0 0):=(blk_cell BK415.out 2).trans rfl
               have hfs142:=blk_frozen BK415.out 2
               have hns142_0:=NB313_415.out
               have hns142_1:=NB314_415.out
               have hns142_2:=NB339_415.out
               have hns142_3:=NB364_415.out
               have hms142_0:=NB415_313.out
               have hms142_1:=NB415_314.out
               have hms142_2:=NB415_339.out
               have hms142_3:=NB415_364.out
               refine skip_ (w1:=?_) (by rfl) rfl ?_ ?_
               rotate_left
               ·go_simp
                rfl
               refine hK.out _ _ ⟨((cell_far (p:=⟨gb415,_,none⟩) NB313_415.out _).trans (((cell_far (p:=⟨gb415,_,none⟩) NB313_415.out _).trans (((cell_far (p:=⟨gb415,_,none⟩) NB313_415.out _).trans (hHeld.1)))))),((cell_far (p:=⟨gb415,_,none⟩) NB313_415.out _).trans (((cell_far (p:=⟨gb415,_,none⟩) NB313_415.out _).trans (((cell_far (p:=⟨gb415,_,none⟩) NB313_415.out _).trans (hHeld.2.1)))))),((cell_far (p:=⟨gb415,_,none⟩) NB313_415.out _).trans (((cell_far (p:=⟨gb415,_,none⟩) NB313_415.out _).trans (((cell_far (p:=⟨gb415,_,none⟩) NB313_415.out _).trans (hHeld.2.2.1)))))),((cell_far (p:=⟨gb415,_,none⟩) NB314_415.out _).trans (((cell_far (p:=⟨gb415,_,none⟩) NB314_415.out _).trans (((cell_far (p:=⟨gb415,_,none⟩) NB314_415.out _).trans (hHeld.2.2.2.1)))))),((cell_far (p:=⟨gb415,_,none⟩) NB314_415.out _).trans (((cell_far (p:=⟨gb415,_,none⟩) NB314_415.out _).trans (((cell_far (p:=⟨gb415,_,none⟩) NB314_415.out _).trans (hHeld.2.2.2.2.1)))))),((cell_far (p:=⟨gb415,_,none⟩) NB314_415.out _).trans (((cell_far (p:=⟨gb415,_,none⟩) NB314_415.out _).trans (((cell_far (p:=⟨gb415,_,none⟩) NB314_415.out _).trans (hHeld.2.2.2.2.2))))))⟩ (fun hHeld=>?_)
               clear hK K
               refine pure_ (i:=10) (N:=some 16) (v:=?_) (a':=?_) #[true,true,true,true,true,true,true,true,true,true,true] rfl rfl (any_of HT_.out (by kernel_rfl)) (fun _ _ _ h=>h) (Or.inl ⟨by rfl,?_⟩) ?_ ?_
               rotate_left
               ·intro w'
                go_simp
                with_reducible rfl
               rotate_left
               ·simp only [Act.put,xa,xb,xc,i64_w,i32_w]
                rfl
               refine done_ (done_of HT_.out (by kernel_rfl)) ?_
               have hnb143:=NB415_313.out
               have hnc143:=NB313_415.out
               have hnb144:=NB415_314.out
               have hnc144:=NB314_415.out
               have hnb145:=NB415_339.out
               have hnc145:=NB339_415.out
               have hnb146:=NB415_364.out
               have hnc146:=NB364_415.out
               have hcz147_0 : w137.cell? ⟨gb415,0,none⟩ = some (.int .i64 0):=(blk_cell BK415.out 0).trans rfl
               have hcz147_1 : w137.cell? ⟨gb415,1,none⟩ = some (.slice none 0 0):=(blk_cell BK415.out 1).trans rfl
               have hcz147_2 : w137.cell? ⟨gb415,2,none⟩ = some (.slice none 0 0):=(blk_cell BK415.out 2).trans rfl
               have hfz147_0:=blk_frozen BK415.out 0
               have hfz147_1:=blk_frozen BK415.out 1
               have hfz147_2:=blk_frozen BK415.out 2
               have hcz148_0 : w137.cell? ⟨gb339,0,none⟩ = some (.int .i64 t331):=(blk_cell BK339.out 0).trans rfl
               have hcz148_1 : w137.cell? ⟨gb339,1,none⟩ = some (.slice Ao69 t332.length co69):=(blk_cell BK339.out 1).trans rfl
               have hcz148_2 : w137.cell? ⟨gb339,2,none⟩ = some (.slice Ao71 t335.length co71):=(blk_cell BK339.out 2).trans rfl
               have hfz148_0:=blk_frozen BK339.out 0
               have hfz148_1:=blk_frozen BK339.out 1
               have hfz148_2:=blk_frozen BK339.out 2
               try go_wp2_with (first|((with_reducible refine gate_callee (f:=14) rfl ?_);refine goesL_ (some 104) rfl rfl Try.func14 (by kernel_rfl) rfl #[.agg #[.int .i64 t407,.slice Ao139 t408.length co139,.slice Ao141 t411.length co141],.agg #[.int .i64 t331,.slice Ao69 t332.length co69,.slice Ao71 t335.length co71]] rfl mz ?_;(with_reducible refine (laws_eqPlan.calls k t407 _ _ t408 _ _ t411 t331 _ _ t332 _ _ t335 true _ ?side1 ?side2 ?side3 ?side4 ?side5 ?side6 ?side7 ?side8 A45.out).mono ?_);(case side1=>refine (Kd.R_reads' (e:=73) (base:=w.heap.size) (ok:=fun k_=>(some k_ ≠ (.slice Ao69 t332.length co69 : Value).ownBlock ∧ (some k_ ≠ (.slice Ao103 t357.length co103 : Value).ownBlock ∧ (some k_ ≠ (v395 : Value).ownBlock ∧ some k_ ≠ (v402 : Value).ownBlock)))) (n:=t408.length) (c:=co139) ?_).2.2;exact (by (with_reducible repeat (first|apply Kd.R_alloc|apply Kd.R_drewN|apply Kd.R_drew));exact (Kd.R_mono (Kd.R_far (p:=⟨gb415,2,none⟩) (Kd.R_far (p:=⟨gb415,1,none⟩) (Kd.R_far (p:=⟨gb415,0,none⟩) (Kd.R_types HO410.out BK415.out (by decide)) (fun _ hk=>hk.2) (.int .i64 t407)) (fun _ hk=>hk.2) (.slice Ao139 t408.length co139)) (fun _ hk=>hk.2) (.slice Ao141 t411.length co141)) (fun _ h_=>h_.1))));(case side2=>exact (Kd.R_reads' HO410.out).2.1);(case side3=>refine (Kd.R_reads' (e:=3) (base:=w.heap.size) (ok:=fun k_=>(some k_ ≠ (.slice Ao71 t335.length co71 : Value).ownBlock ∧ (some k_ ≠ (.slice Ao104 t360.length co104 : Value).ownBlock ∧ (some k_ ≠ (v398 : Value).ownBlock ∧ some k_ ≠ (v405 : Value).ownBlock)))) (n:=t411.length) (c:=co141) ?_).2.2;exact (by (with_reducible repeat (first|apply Kd.R_alloc|apply Kd.R_drewN|apply Kd.R_drew));exact (Kd.R_mono (Kd.R_far (p:=⟨gb415,2,none⟩) (Kd.R_far (p:=⟨gb415,1,none⟩) (Kd.R_far (p:=⟨gb415,0,none⟩) (Kd.R_types HO413.out BK415.out (by decide)) (fun _ hk=>hk.2) (.int .i64 t407)) (fun _ hk=>hk.2) (.slice Ao139 t408.length co139)) (fun _ hk=>hk.2) (.slice Ao141 t411.length co141)) (fun _ h_=>h_.1))));(case side4=>exact (Kd.R_reads' HO413.out).2.1);(case side5=>refine (Kd.R_reads' (e:=73) (base:=w.heap.size) (ok:=fun k_=>(some k_ ≠ (.slice Ao103 t357.length co103 : Value).ownBlock ∧ (some k_ ≠ (v395 : Value).ownBlock ∧ (some k_ ≠ (v402 : Value).ownBlock ∧ some k_ ≠ (.slice Ao139 t408.length co139 : Value).ownBlock)))) (n:=t332.length) (c:=co69) ?_).2.2;exact (by (with_reducible repeat (first|apply Kd.R_alloc|apply Kd.R_drewN|apply Kd.R_drew));exact (Kd.R_mono (Kd.R_far (p:=⟨gb415,2,none⟩) (Kd.R_far (p:=⟨gb415,1,none⟩) (Kd.R_far (p:=⟨gb415,0,none⟩) (Kd.R_types HO334.out BK415.out (by decide)) (fun _ hk=>hk.2) (.int .i64 t407)) (fun _ hk=>hk.2) (.slice Ao139 t408.length co139)) (fun _ hk=>hk.2) (.slice Ao141 t411.length co141)) (fun _ h_=>h_.1))));(case side6=>exact (Kd.R_reads' HO334.out).2.1);(case side7=>refine (Kd.R_reads' (e:=3) (base:=w.heap.size) (ok:=fun k_=>(some k_ ≠ (.slice Ao104 t360.length co104 : Value).ownBlock ∧ (some k_ ≠ (v398 : Value).ownBlock ∧ (some k_ ≠ (v405 : Value).ownBlock ∧ some k_ ≠ (.slice Ao141 t411.length co141 : Value).ownBlock)))) (n:=t335.length) (c:=co71) ?_).2.2;exact (by (with_reducible repeat (first|apply Kd.R_alloc|apply Kd.R_drewN|apply Kd.R_drew));exact (Kd.R_mono (Kd.R_far (p:=⟨gb415,2,none⟩) (Kd.R_far (p:=⟨gb415,1,none⟩) (Kd.R_far (p:=⟨gb415,0,none⟩) (Kd.R_types HO337.out BK415.out (by decide)) (fun _ hk=>hk.2) (.int .i64 t407)) (fun _ hk=>hk.2) (.slice Ao139 t408.length co139)) (fun _ hk=>hk.2) (.slice Ao141 t411.length co141)) (fun _ h_=>h_.1))));(case side8=>exact (Kd.R_reads' HO337.out).2.1);rintro e w149 ⟨rfl,hb⟩;refine ⟨_,rfl,?_⟩;have n2_:=Aside0.mk (Kd.R_below (by (with_reducible repeat (first|apply Kd.R_alloc|apply Kd.R_drewN|apply Kd.R_drew));exact (Kd.R_mono (Kd.R_far (p:=⟨gb415,2,none⟩) (Kd.R_far (p:=⟨gb415,1,none⟩) (Kd.R_far (p:=⟨gb415,0,none⟩) (Kd.R_types HO359.out BK415.out (by decide)) (fun _ hk=>hk.2) (.int .i64 t407)) (fun _ hk=>hk.2) (.slice Ao139 t408.length co139)) (fun _ hk=>hk.2) (.slice Ao141 t411.length co141)) (fun _ h_=>h_.1))) hb);have n3_:=Aside0.mk (Kd.R_below (by (with_reducible repeat (first|apply Kd.R_alloc|apply Kd.R_drewN|apply Kd.R_drew));exact (Kd.R_mono (Kd.R_far (p:=⟨gb415,2,none⟩) (Kd.R_far (p:=⟨gb415,1,none⟩) (Kd.R_far (p:=⟨gb415,0,none⟩) (Kd.R_types HO362.out BK415.out (by decide)) (fun _ hk=>hk.2) (.int .i64 t407)) (fun _ hk=>hk.2) (.slice Ao139 t408.length co139)) (fun _ hk=>hk.2) (.slice Ao141 t411.length co141)) (fun _ h_=>h_.1))) hb);have n13_:=Aside0.mk (blk_below (g:=gb364) (o:=.cells #[.int .i64 t356,.slice Ao103 t357.length co103,.slice Ao104 t360.length co104] 29 (0,0)) (by (with_reducible repeat (first|refine blk_drewN ?_ _|refine blk_drew ?_|refine blk_alloc ?_ _));refine blk_far ?_ NB364_415.out _;(with_reducible repeat (first|refine blk_drewN ?_ _|refine blk_drew ?_|refine blk_alloc ?_ _));refine blk_far ?_ NB364_415.out _;(with_reducible repeat (first|refine blk_drewN ?_ _|refine blk_drew ?_|refine blk_alloc ?_ _));refine blk_far ?_ NB364_415.out _;(with_reducible repeat (first|refine blk_drewN ?_ _|refine blk_drew ?_|refine blk_alloc ?_ _));exact BK364.out) hb);have n15_:=Aside0.mk (below_step bs hb);clear HO334 HO337 HO359 HO362 HO410 HO413 BK339 BK364 BK415 HB;have HO359:=n2_;have HO362:=n3_;have BK364:=n13_;have HB:=n15_;clear n2_ n3_ n13_ n15_;(try clear hb);have hcz150_0 : w149.cell? ⟨gb364,0,none⟩ = some (.int .i64 t356):=(blk_cell BK364.out 0).trans rfl;have hcz150_1 : w149.cell? ⟨gb364,1,none⟩ = some (.slice Ao103 t357.length co103):=(blk_cell BK364.out 1).trans rfl;have hcz150_2 : w149.cell? ⟨gb364,2,none⟩ = some (.slice Ao104 t360.length co104):=(blk_cell BK364.out 2).trans rfl;have hfz150_0:=blk_frozen BK364.out 0;have hfz150_1:=blk_frozen BK364.out 1;have hfz150_2:=blk_frozen BK364.out 2)|((with_reducible refine gate_callee (f:=16) rfl ?_);refine goesL_ (some 113) rfl rfl Try.func16 (by kernel_rfl) rfl #[.agg #[.int .i64 t356,.slice Ao103 t390.length co103,.slice Ao104 t391.length co104],.int .i64 1] rfl (by (try simp only [List.map_toArray,List.map_cons,List.map_nil]);first|done|(rw [show t390.length = t357.length from (Kd.R_reads' HO359.out).1.symm,show t391.length = t360.length from (Kd.R_reads' HO362.out).1.symm] <;> rfl)|rfl|(simp only [List.length_drop,List.length_take];rfl)) ?_;(with_reducible refine (laws_heldPlan.calls k t356 _ _ t390 _ _ t391 1 t417 _ ?side1 ?side2 ?side3 ?side4 A48.out).mono ?_);(case side1=>exact cz (Kd.R_reads' HO359.out).2.2);(case side2=>rw [show t390.length = t357.length from (Kd.R_reads' HO359.out).1.symm];exact (Kd.R_reads' HO359.out).2.1);(case side3=>exact cz (Kd.R_reads' HO362.out).2.2);(case side4=>rw [show t391.length = t360.length from (Kd.R_reads' HO362.out).1.symm];exact (Kd.R_reads' HO362.out).2.1);rintro e w151 ⟨rfl,hb⟩;refine ⟨_,rfl,?_⟩;have n2_:=Aside0.mk (below_step bz hb);clear HO359 HO362 HB;have HB:=n2_;clear n2_;(try clear hb)))
               go_ret
               exact ⟨by first|rfl|(simp [errW_none,errW_some] <;> rfl)|(simp [*,errW_none,errW_some] <;> rfl),by repeat (first|(with_reducible first|exact HB.out|apply below_alloc|apply pw_below_drewN|apply below_drew1)|exact HB.out)⟩
              ·rw [if_neg c50] at H
               exact absurd H (by simp)
           ·replace c46:=Bool.eq_false_iff.mpr c46
            subst c46
            rw [if_neg (show ¬ (false = true) by decide)] at H
            exact absurd H (by simp)
          ·rw [if_neg c41] at H
           exact absurd H (by simp)
        ·replace c37:=Bool.eq_false_iff.mpr c37
         subst c37
         rw [if_neg (show ¬ (false = true) by decide)] at H
         exact absurd H (by simp)
      ·replace c32:=Bool.eq_false_iff.mpr c32
       subst c32
       rw [if_neg (show ¬ (false = true) by decide)] at H
       exact absurd H (by simp)
     ·replace c29:=Bool.eq_false_iff.mpr c29
      subst c29
      rw [if_neg (show ¬ (false = true) by decide)] at H
      exact absurd H (by simp)
   ·replace c25:=Bool.eq_false_iff.mpr c25
    subst c25
    rw [if_neg (show ¬ (false = true) by decide)] at H
    exact absurd H (by simp)
end Go.Proofs.Ytdcdaoancmpbeaa.MFnExactJoinPlans
--sq
