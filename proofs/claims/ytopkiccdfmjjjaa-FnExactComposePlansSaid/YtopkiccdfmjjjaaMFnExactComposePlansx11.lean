import Derived.Test.YtopkiccdfmjjjaaMFnExactComposePlansx0
import Derived.Test.YtopkiccdfmjjjaaMFnExactComposePlansx1
import Derived.Test.YtopkiccdfmjjjaaMFnExactComposePlansx2
import Derived.Test.YtopkiccdfmjjjaaMFnExactComposePlansx3
import Derived.Test.YtopkiccdfmjjjaaMFnExactComposePlansx6
import Derived.Test.YtopkiccdfmjjjaaMFnExactComposePlansx10
namespace Go.Proofs.Ytopkiccdfmjjjaa.MFnExactComposePlans
open Go.RowKit Go.Proofs.YtopkiccdfmjjjaaW.PrintWords Go.Proofs.YtopkiccdfmjjjaaW.PrintLast Go.Proofs.YtopkiccdfmjjjaaW.PrintMore Go.Proofs.YtopkiccdfmjjjaaV Go.Proofs.YtopkiccdfmjjjaaZ
attribute [local go_sem] max2_int min2_int max_two min_two max_three min_three max_four min_four   -- for this text's walks alone
set_option linter.unusedVariables false
set_option linter.unusedSimpArgs false
/-! ### laws_FnExactComposePlans: function 14 -/
def laws_FnExactComposePlans.f (k : Nat) (a0_0 : Int) (l0_1 : List (S92)) (l0_2 : List Int) (a1_0 : Int) (l1_1 : List (S92)) (l1_2 : List Int) : Option (Bool):=(laws_szPlan.f a0_0 l0_1 l0_2 1048576).bind fun t297=>(if t297 < 0 then (some true) else ((laws_szPlan.f a1_0 l1_1 l1_2 t297).bind fun t298=>(if t298 < 0 then (some true) else ((laws_toPlan.f k a0_0 l0_1 l0_2).bind fun bt299=>((laws_toPlan.f k a1_0 l1_1 l1_2).bind fun bt306=>((spec_ComposePlans.f k bt299.1 bt299.2.1 bt299.2.2 bt306.1 bt306.2.1 bt306.2.2).bind fun bt313=>((laws_toPlan.f k a0_0 l0_1 l0_2).bind fun bt322=>((laws_toPlan.f k a1_0 l1_1 l1_2).bind fun bt330=>((impl_ComposePlans.f k bt322.1 bt322.2.1 bt322.2.2 bt330.1 bt330.2.1 bt330.2.2).bind fun bt338=>((laws_eqPlan.f k bt338.1 bt338.2.1 bt338.2.2.1 bt313.1 bt313.2.1 bt313.2.2.1).bind fun t347=>(if t347 = true then (if (bt338.2.2.2 != bt313.2.2.2) = true then (none) else ((laws_toPlan.f k a0_0 l0_1 l0_2).bind fun bt348=>((laws_eqPlan.f k bt322.1 bt322.2.1 bt322.2.2 bt348.1 bt348.2.1 bt348.2.2).bind fun t355=>(if t355 = true then ((laws_toPlan.f k a1_0 l1_1 l1_2).bind fun bt356=>((laws_eqPlan.f k bt330.1 bt330.2.1 bt330.2.2 bt356.1 bt356.2.1 bt356.2.2).bind fun t363=>(if t363 = true then ((laws_markPlan.f k bt322.1 bt322.2.1 bt322.2.2 1).bind fun bt364=>((laws_markPlan.f k bt330.1 bt330.2.1 bt330.2.2 bt364.1).bind fun bt367=>(if bt367.1 < 0 then (none) else ((laws_eqPlan.f k bt338.1 bt338.2.1 bt338.2.2.1 bt313.1 bt313.2.1 bt313.2.2.1).bind fun t370=>(if t370 = true then ((laws_markPlan.f k bt338.1 bt338.2.1 bt338.2.2.1 1).bind fun bt371=>((laws_heldPlan.f k bt338.1 bt371.2.1 bt371.2.2 1).bind fun t374=>(if t374 < 0 then (none) else (if t374 = bt371.1 then ((laws_toPlan.f k a0_0 l0_1 l0_2).bind fun bt375=>((laws_toPlan.f k a1_0 l1_1 l1_2).bind fun bt382=>((impl_ComposePlans.f k bt375.1 bt375.2.1 bt375.2.2 bt382.1 bt382.2.1 bt382.2.2).bind fun bt389=>((laws_eqPlan.f k bt389.1 bt389.2.1 bt389.2.2.1 bt313.1 bt313.2.1 bt313.2.2.1).bind fun t398=>(if t398 = true then (if (bt389.2.2.2 != bt313.2.2.2) = true then (none) else ((laws_heldPlan.f k bt338.1 bt371.2.1 bt371.2.2 1).bind fun t399=>(if t399 < 0 then (none) else (if t399 = bt371.1 then (some true) else (none))))) else (none)))))) else (none))))) else (none)))))) else (none)))) else (none))))) else (none))))))))))))
theorem laws_FnExactComposePlans.mono : ∀ a0 a1 a2 a3 a4 a5 k,LeO (laws_FnExactComposePlans.f k a0 a1 a2 a3 a4 a5) (laws_FnExactComposePlans.f (k + 1) a0 a1 a2 a3 a4 a5):=by
 intro a0 a1 a2 a3 a4 a5 k
 unfold laws_FnExactComposePlans.f
 repeat' first
   | (with_reducible exact impl_ComposePlans.mono _ _ _ _ _ _ _)
   | (with_reducible exact laws_eqPlan.mono _ _ _ _ _ _ _)
   | (with_reducible exact laws_heldPlan.mono _ _ _ _ _)
   | (with_reducible exact laws_markPlan.mono _ _ _ _ _)
   | (with_reducible exact laws_toPlan.mono _ _ _ _)
   | (with_reducible exact spec_ComposePlans.mono _ _ _ _ _ _ _)
   | (with_reducible exact LeO.refl _)
   | (with_reducible exact LeO.none _)
   | (with_reducible refine LeO.ite ?_ ?_)
   | (with_reducible refine LeO.bind ?_ (fun _=>?_))
   | exact impl_ComposePlans.mono _ _ _ _ _ _ _
   | exact laws_eqPlan.mono _ _ _ _ _ _ _
   | exact laws_heldPlan.mono _ _ _ _ _
   | exact laws_markPlan.mono _ _ _ _ _
   | exact laws_toPlan.mono _ _ _ _
   | exact spec_ComposePlans.mono _ _ _ _ _ _ _
   | exact LeO.none _
   | refine LeO.ite ?_ ?_
   | refine LeO.bind ?_ (fun _=>?_)
def laws_FnExactComposePlans.T8 : Bool × List (List Nat × List Nat):=(true,[([],[]),([0],[0]),([],[]),([2,1],[2]),([1,3,3],[1,3]),([4],[4]),([5],[5]),([5],[5]),([],[]),([8,6,4,0,1,2,3,4,5,6,8],[6,8]),([7,9,0,1,2,3,4,5,6,7,8,9],[7])])
def laws_FnExactComposePlans.B8 : List Nat:=[0,1,0,7,15,31,63,63,0,383,1023]
theorem laws_FnExactComposePlans.tab8 : rtab .any (opsOf Try.f14 8) = laws_FnExactComposePlans.T8:=by kernel_rfl
theorem laws_FnExactComposePlans.bits8 : waitsOk laws_FnExactComposePlans.T8.2 laws_FnExactComposePlans.B8 = true:=by kernel_rfl
def laws_FnExactComposePlans.T31 : Bool × List (List Nat × List Nat):=(true,[([],[]),([0],[0]),([],[]),([2,1],[2]),([1,3,3],[1,3]),([4],[4]),([5],[5]),([5],[5]),([],[]),([8,6,4,0,1,2,3,4,5,6,8],[6,8]),([7,9,0,1,2,3,4,5,6,7,8,9],[7])])
def laws_FnExactComposePlans.B31 : List Nat:=[0,1,0,7,15,31,63,63,0,383,1023]
theorem laws_FnExactComposePlans.tab31 : rtab .any (opsOf Try.f14 31) = laws_FnExactComposePlans.T31:=by kernel_rfl
theorem laws_FnExactComposePlans.bits31 : waitsOk laws_FnExactComposePlans.T31.2 laws_FnExactComposePlans.B31 = true:=by kernel_rfl
set_option maxHeartbeats 8000000 in
set_option maxRecDepth 100000 in
theorem laws_FnExactComposePlans.calls (k : Nat) (a0_0 : Int) (A0_1 : Option Addr) (c0_1 : Nat) (l0_1 : List (S92)) (A0_2 : Option Addr) (c0_2 : Nat) (l0_2 : List Int) (a1_0 : Int) (A1_1 : Option Addr) (c1_1 : Nat) (l1_1 : List (S92)) (A1_2 : Option Addr) (c1_2 : Nat) (l1_2 : List Int) (r : Bool) (w : World) (hr0_1 : Kd.C k92 w A0_1 l0_1.length l0_1) (hc0_1 : l0_1.length ≤ c0_1) (hr0_2 : Kd.C (Kd.int .i64) w A0_2 l0_2.length l0_2) (hc0_2 : l0_2.length ≤ c0_2) (hr1_1 : Kd.C k92 w A1_1 l1_1.length l1_1) (hc1_1 : l1_1.length ≤ c1_1) (hr1_2 : Kd.C (Kd.int .i64) w A1_2 l1_2.length l1_2) (hc1_2 : l1_2.length ≤ c1_2) (h : laws_FnExactComposePlans.f k a0_0 l0_1 l0_2 a1_0 l1_1 l1_2 = some r) :
  Calls Try.prog 14 #[.agg #[.int .i64 a0_0,.slice A0_1 l0_1.length c0_1,.slice A0_2 l0_2.length c0_2],.agg #[.int .i64 a1_0,.slice A1_1 l1_1.length c1_1,.slice A1_2 l1_2.length c1_2]] w fun e w'=>e = .returned (.bool r) ∧ Below w.heap.size w w':=by
 have hu25:=Try.underlying25
 have hu30:=Try.underlying30
 have HR0_1:=Aside0.mk hr0_1
 have HC0_1:=Aside0.mk hc0_1
 clear hr0_1 hc0_1
 have HR0_2:=Aside0.mk hr0_2
 have HC0_2:=Aside0.mk hc0_2
 clear hr0_2 hc0_2
 have HR1_1:=Aside0.mk hr1_1
 have HC1_1:=Aside0.mk hc1_1
 clear hr1_1 hc1_1
 have HR1_2:=Aside0.mk hr1_2
 have HC1_2:=Aside0.mk hc1_2
 clear hr1_2 hc1_2
 have HB:=Aside0.mk (Below.refl w.heap.size w)
 have H : ((laws_szPlan.f a0_0 l0_1 l0_2 1048576).bind fun t297=>(if t297 < 0 then (some true) else ((laws_szPlan.f a1_0 l1_1 l1_2 t297).bind fun t298=>(if t298 < 0 then (some true) else ((laws_toPlan.f k a0_0 l0_1 l0_2).bind fun bt299=>((laws_toPlan.f k a1_0 l1_1 l1_2).bind fun bt306=>((spec_ComposePlans.f k bt299.1 bt299.2.1 bt299.2.2 bt306.1 bt306.2.1 bt306.2.2).bind fun bt313=>((laws_toPlan.f k a0_0 l0_1 l0_2).bind fun bt322=>((laws_toPlan.f k a1_0 l1_1 l1_2).bind fun bt330=>((impl_ComposePlans.f k bt322.1 bt322.2.1 bt322.2.2 bt330.1 bt330.2.1 bt330.2.2).bind fun bt338=>((laws_eqPlan.f k bt338.1 bt338.2.1 bt338.2.2.1 bt313.1 bt313.2.1 bt313.2.2.1).bind fun t347=>(if t347 = true then (if (bt338.2.2.2 != bt313.2.2.2) = true then (none) else ((laws_toPlan.f k a0_0 l0_1 l0_2).bind fun bt348=>((laws_eqPlan.f k bt322.1 bt322.2.1 bt322.2.2 bt348.1 bt348.2.1 bt348.2.2).bind fun t355=>(if t355 = true then ((laws_toPlan.f k a1_0 l1_1 l1_2).bind fun bt356=>((laws_eqPlan.f k bt330.1 bt330.2.1 bt330.2.2 bt356.1 bt356.2.1 bt356.2.2).bind fun t363=>(if t363 = true then ((laws_markPlan.f k bt322.1 bt322.2.1 bt322.2.2 1).bind fun bt364=>((laws_markPlan.f k bt330.1 bt330.2.1 bt330.2.2 bt364.1).bind fun bt367=>(if bt367.1 < 0 then (none) else ((laws_eqPlan.f k bt338.1 bt338.2.1 bt338.2.2.1 bt313.1 bt313.2.1 bt313.2.2.1).bind fun t370=>(if t370 = true then ((laws_markPlan.f k bt338.1 bt338.2.1 bt338.2.2.1 1).bind fun bt371=>((laws_heldPlan.f k bt338.1 bt371.2.1 bt371.2.2 1).bind fun t374=>(if t374 < 0 then (none) else (if t374 = bt371.1 then ((laws_toPlan.f k a0_0 l0_1 l0_2).bind fun bt375=>((laws_toPlan.f k a1_0 l1_1 l1_2).bind fun bt382=>((impl_ComposePlans.f k bt375.1 bt375.2.1 bt375.2.2 bt382.1 bt382.2.1 bt382.2.2).bind fun bt389=>((laws_eqPlan.f k bt389.1 bt389.2.1 bt389.2.2.1 bt313.1 bt313.2.1 bt313.2.2.1).bind fun t398=>(if t398 = true then (if (bt389.2.2.2 != bt313.2.2.2) = true then (none) else ((laws_heldPlan.f k bt338.1 bt371.2.1 bt371.2.2 1).bind fun t399=>(if t399 < 0 then (none) else (if t399 = bt371.1 then (some true) else (none))))) else (none)))))) else (none))))) else (none)))))) else (none)))) else (none))))) else (none))))))))))))) = some r:=h
 clear h
 obtain ⟨t297,A3,H⟩:=bd H
 by_cases c4 : t297 < 0
 ·rw [if_pos c4] at H
  have c4b0 : decide (t297 < 0) = true:=decide_eq_true c4
  clear c4
  obtain rfl:=Option.some.inj H
  go_enter Try.func14,Try.ntmps14
  go_wp2_with (first|((with_reducible refine gate_dst (N:=2) rfl ?_);refine box_event ?hg (N:=2) ?hd (cs:=#[.int .i64 a0_0,.slice A0_1 l0_1.length c0_1,.slice A0_2 l0_2.length c0_2]) (t:=25) ?hr ?_;(case hd=>rfl);(case hg=>rfl);(case hr=>first|(go_simp;done)|(go_simp;rfl));intro gb295 hg w5 hbox hb;have n0_:=Aside0.mk (below_step bz hb);have n1_:=Aside0.mk (hbox);have n3_:=Aside0.mk ((by rw [hg];exact (below_size bz) : w.heap.size ≤ gb295));clear HB;have HB:=n0_;have BK295:=n1_;have GE295:=n3_;clear n0_ n1_ n3_;clear hb hbox hg)|((with_reducible refine gate_dst (N:=3) rfl ?_);refine box_event ?hg (N:=3) ?hd (cs:=#[.int .i64 a1_0,.slice A1_1 l1_1.length c1_1,.slice A1_2 l1_2.length c1_2]) (t:=25) ?hr ?_;(case hd=>rfl);(case hg=>rfl);(case hr=>first|(go_simp;done)|(go_simp;rfl));intro gb296 hg w6 hbox hb;have n0_:=Aside0.mk (kb BK295.out hb);have n1_:=Aside0.mk (below_step bs hb);clear BK295 HB;have BK295:=n0_;have HB:=n1_;clear n0_ n1_;clear hb hbox hg;have hcz7_0 : w6.cell? ⟨gb295,0,none⟩ = some (.int .i64 a0_0):=(blk_cell BK295.out 0).trans rfl;have hcz7_1 : w6.cell? ⟨gb295,1,none⟩ = some (.slice A0_1 l0_1.length c0_1):=(blk_cell BK295.out 1).trans rfl;have hcz7_2 : w6.cell? ⟨gb295,2,none⟩ = some (.slice A0_2 l0_2.length c0_2):=(blk_cell BK295.out 2).trans rfl;have hfz7_0:=blk_frozen BK295.out 0;have hfz7_1:=blk_frozen BK295.out 1;have hfz7_2:=blk_frozen BK295.out 2)|((with_reducible refine gate_callee (f:=15) rfl ?_);refine goesL_ (some 19) rfl rfl Try.func15 (by kernel_rfl) rfl #[.agg #[.int .i64 a0_0,.slice A0_1 l0_1.length c0_1,.slice A0_2 l0_2.length c0_2],.int .i64 1048576] rfl mz ?_;(with_reducible refine (laws_szPlan.calls a0_0 _ _ l0_1 _ _ l0_2 1048576 t297 _ ?side1 ?side2 ?side3 ?side4 A3.out).mono ?_);(case side1=>exact cz (Kd.C_below HR0_1.out HB.out));(case side2=>exact HC0_1.out);(case side3=>exact cz (Kd.C_below HR0_2.out HB.out));(case side4=>exact HC0_2.out);rintro e w8 ⟨rfl,hb⟩;refine ⟨_,rfl,?_⟩;have n0_:=Aside0.mk (below_step bz hb);clear HB;have HB:=n0_;clear n0_;(try clear hb)))
  go_ret
  exact ⟨by first|rfl|(simp [errW_none,errW_some] <;> rfl)|(simp [*,errW_none,errW_some] <;> rfl),by repeat (first|(with_reducible first|exact HB.out|apply below_alloc|apply pw_below_drewN|apply below_drew1)|exact HB.out)⟩
 ·rw [if_neg c4] at H
  have c4b0 : decide (t297 < 0) = false:=decide_eq_false c4
  clear c4
  obtain ⟨t298,A9,H⟩:=bd H
  by_cases c10 : t298 < 0
  ·rw [if_pos c10] at H
   have c10b0 : decide (t298 < 0) = true:=decide_eq_true c10
   clear c10
   obtain rfl:=Option.some.inj H
   go_enter Try.func14,Try.ntmps14
   go_wp2_with (first|((with_reducible refine gate_dst (N:=2) rfl ?_);refine box_event ?hg (N:=2) ?hd (cs:=#[.int .i64 a0_0,.slice A0_1 l0_1.length c0_1,.slice A0_2 l0_2.length c0_2]) (t:=25) ?hr ?_;(case hd=>rfl);(case hg=>rfl);(case hr=>first|(go_simp;done)|(go_simp;rfl));intro gb295 hg w11 hbox hb;have n0_:=Aside0.mk (below_step bz hb);have n1_:=Aside0.mk (hbox);have n3_:=Aside0.mk ((by rw [hg];exact (below_size bz) : w.heap.size ≤ gb295));clear HB;have HB:=n0_;have BK295:=n1_;have GE295:=n3_;clear n0_ n1_ n3_;clear hb hbox hg)|((with_reducible refine gate_dst (N:=3) rfl ?_);refine box_event ?hg (N:=3) ?hd (cs:=#[.int .i64 a1_0,.slice A1_1 l1_1.length c1_1,.slice A1_2 l1_2.length c1_2]) (t:=25) ?hr ?_;(case hd=>rfl);(case hg=>rfl);(case hr=>first|(go_simp;done)|(go_simp;rfl));intro gb296 hg w12 hbox hb;have n0_:=Aside0.mk (kb BK295.out hb);have n1_:=Aside0.mk (below_step bs hb);have n2_:=Aside0.mk (hbox);have n4_:=Aside0.mk ((by rw [hg];exact (below_size bs) : w.heap.size ≤ gb296));have n5_:=Aside0.mk (kn hg BK295.out);have n6_:=Aside0.mk (km hg BK295.out);clear BK295 HB;have BK295:=n0_;have HB:=n1_;have BK296:=n2_;have GE296:=n4_;have NB295_296:=n5_;have NB296_295:=n6_;clear n0_ n1_ n2_ n4_ n5_ n6_;clear hb hbox hg;have hnb13:=NB295_296.out;have hnc13:=NB296_295.out;have hcz14_0 : w12.cell? ⟨gb295,0,none⟩ = some (.int .i64 a0_0):=(blk_cell BK295.out 0).trans rfl;have hcz14_1 : w12.cell? ⟨gb295,1,none⟩ = some (.slice A0_1 l0_1.length c0_1):=(blk_cell BK295.out 1).trans rfl;have hcz14_2 : w12.cell? ⟨gb295,2,none⟩ = some (.slice A0_2 l0_2.length c0_2):=(blk_cell BK295.out 2).trans rfl;have hfz14_0:=blk_frozen BK295.out 0;have hfz14_1:=blk_frozen BK295.out 1;have hfz14_2:=blk_frozen BK295.out 2)|((with_reducible refine gate_callee (f:=15) rfl ?_);refine goesL_ (some 19) rfl rfl Try.func15 (by kernel_rfl) rfl #[.agg #[.int .i64 a0_0,.slice A0_1 l0_1.length c0_1,.slice A0_2 l0_2.length c0_2],.int .i64 1048576] rfl mz ?_;(with_reducible refine (laws_szPlan.calls a0_0 _ _ l0_1 _ _ l0_2 1048576 t297 _ ?side1 ?side2 ?side3 ?side4 A3.out).mono ?_);(case side1=>exact cz (Kd.C_below HR0_1.out HB.out));(case side2=>exact HC0_1.out);(case side3=>exact cz (Kd.C_below HR0_2.out HB.out));(case side4=>exact HC0_2.out);rintro e w15 ⟨rfl,hb⟩;refine ⟨_,rfl,?_⟩;have n0_:=Aside0.mk (kb BK296.out hb);have n1_:=Aside0.mk (below_step bs hb);clear BK296 HB;have BK296:=n0_;have HB:=n1_;clear n0_ n1_;(try clear hb);have hcz16_0 : w15.cell? ⟨gb296,0,none⟩ = some (.int .i64 a1_0):=(blk_cell BK296.out 0).trans rfl;have hcz16_1 : w15.cell? ⟨gb296,1,none⟩ = some (.slice A1_1 l1_1.length c1_1):=(blk_cell BK296.out 1).trans rfl;have hcz16_2 : w15.cell? ⟨gb296,2,none⟩ = some (.slice A1_2 l1_2.length c1_2):=(blk_cell BK296.out 2).trans rfl;have hfz16_0:=blk_frozen BK296.out 0;have hfz16_1:=blk_frozen BK296.out 1;have hfz16_2:=blk_frozen BK296.out 2)|((with_reducible refine gate_callee (f:=15) rfl ?_);refine goesL_ (some 24) rfl rfl Try.func15 (by kernel_rfl) rfl #[.agg #[.int .i64 a1_0,.slice A1_1 l1_1.length c1_1,.slice A1_2 l1_2.length c1_2],.int .i64 t297] rfl mz ?_;(with_reducible refine (laws_szPlan.calls a1_0 _ _ l1_1 _ _ l1_2 t297 t298 _ ?side1 ?side2 ?side3 ?side4 A9.out).mono ?_);(case side1=>exact cz (Kd.C_below HR1_1.out HB.out));(case side2=>exact HC1_1.out);(case side3=>exact cz (Kd.C_below HR1_2.out HB.out));(case side4=>exact HC1_2.out);rintro e w17 ⟨rfl,hb⟩;refine ⟨_,rfl,?_⟩;have n0_:=Aside0.mk (below_step bz hb);clear HB;have HB:=n0_;clear n0_;(try clear hb)))
   go_ret
   exact ⟨by first|rfl|(simp [errW_none,errW_some] <;> rfl)|(simp [*,errW_none,errW_some] <;> rfl),by repeat (first|(with_reducible first|exact HB.out|apply below_alloc|apply pw_below_drewN|apply below_drew1)|exact HB.out)⟩
  ·rw [if_neg c10] at H
   have c10b0 : decide (t298 < 0) = false:=decide_eq_false c10
   clear c10
   obtain ⟨⟨t299,t300,t303⟩,A18,H⟩:=bd H
   try dsimp only at H
   obtain ⟨⟨t306,t307,t310⟩,A19,H⟩:=bd H
   try dsimp only at H
   obtain ⟨⟨t313,t314,t317,t320⟩,A20,H⟩:=bd H
   try dsimp only at H
   obtain ⟨⟨t322,t323,t326⟩,A21,H⟩:=bd H
   try dsimp only at H
   obtain ⟨⟨t330,t331,t334⟩,A22,H⟩:=bd H
   try dsimp only at H
   obtain ⟨⟨t338,t339,t342,t345⟩,A23,H⟩:=bd H
   try dsimp only at H
   obtain ⟨t347,A24,H⟩:=bd H
   by_cases c25 : t347 = true
   ·subst c25
    rw [if_pos rfl] at H
    by_cases c26 : (t345 != t320) = true
    ·rw [if_pos c26] at H
     exact absurd H (by simp)
    ·rw [if_neg c26] at H
     have c26b0 : (t345 != t320) = false:=by simpa using c26
     (try (have c26b1 : decide (t345 = t320) = true:=by simpa using c26))
     (try (have c26b2 : (t345 == t320) = true:=by simpa using c26))
     clear c26
     obtain ⟨⟨t348,t349,t352⟩,A27,H⟩:=bd H
     try dsimp only at H
     obtain ⟨t355,A28,H⟩:=bd H
     by_cases c29 : t355 = true
     ·subst c29
      rw [if_pos rfl] at H
      obtain ⟨⟨t356,t357,t360⟩,A30,H⟩:=bd H
      try dsimp only at H
      obtain ⟨t363,A31,H⟩:=bd H
      by_cases c32 : t363 = true
      ·subst c32
       rw [if_pos rfl] at H
       obtain ⟨⟨t364,t365,t366⟩,A33,H⟩:=bd H
       try dsimp only at H
       obtain ⟨⟨t367,t368,t369⟩,A34,H⟩:=bd H
       try dsimp only at H
       by_cases c35 : t367 < 0
       ·rw [if_pos c35] at H
        exact absurd H (by simp)
       ·rw [if_neg c35] at H
        have c35b0 : decide (t367 < 0) = false:=decide_eq_false c35
        clear c35
        obtain ⟨t370,A36,H⟩:=bd H
        by_cases c37 : t370 = true
        ·subst c37
         rw [if_pos rfl] at H
         obtain ⟨⟨t371,t372,t373⟩,A38,H⟩:=bd H
         try dsimp only at H
         obtain ⟨t374,A39,H⟩:=bd H
         by_cases c40 : t374 < 0
         ·rw [if_pos c40] at H
          exact absurd H (by simp)
         ·rw [if_neg c40] at H
          have c40b0 : decide (t374 < 0) = false:=decide_eq_false c40
          clear c40
          by_cases c41 : t374 = t371
          ·rw [if_pos c41] at H
           have c41b0 : (t374 == t371) = true:=beq_iff_eq.mpr c41
           have c41b1 : (t374 != t371) = false:=bne_eq_false_iff_eq.mpr c41
           clear c41
           obtain ⟨⟨t375,t376,t379⟩,A42,H⟩:=bd H
           try dsimp only at H
           obtain ⟨⟨t382,t383,t386⟩,A43,H⟩:=bd H
           try dsimp only at H
           obtain ⟨⟨t389,t390,t393,t396⟩,A44,H⟩:=bd H
           try dsimp only at H
           obtain ⟨t398,A45,H⟩:=bd H
           by_cases c46 : t398 = true
           ·subst c46
            rw [if_pos rfl] at H
            by_cases c47 : (t396 != t320) = true
            ·rw [if_pos c47] at H
             exact absurd H (by simp)
            ·rw [if_neg c47] at H
             have c47b0 : (t396 != t320) = false:=by simpa using c47
             (try (have c47b1 : decide (t396 = t320) = true:=by simpa using c47))
             (try (have c47b2 : (t396 == t320) = true:=by simpa using c47))
             clear c47
             obtain ⟨t399,A48,H⟩:=bd H
             by_cases c49 : t399 < 0
             ·rw [if_pos c49] at H
              exact absurd H (by simp)
             ·rw [if_neg c49] at H
              have c49b0 : decide (t399 < 0) = false:=decide_eq_false c49
              clear c49
              by_cases c50 : t399 = t371
              ·rw [if_pos c50] at H
               have c50b0 : (t399 == t371) = true:=beq_iff_eq.mpr c50
               have c50b1 : (t399 != t371) = false:=bne_eq_false_iff_eq.mpr c50
               clear c50
               obtain rfl:=Option.some.inj H
               go_enter Try.func14,Try.ntmps14
               try go_wp2_with (first|((with_reducible refine gate_dst (N:=2) rfl ?_);refine box_event ?hg (N:=2) ?hd (cs:=#[.int .i64 a0_0,.slice A0_1 l0_1.length c0_1,.slice A0_2 l0_2.length c0_2]) (t:=25) ?hr ?_;(case hd=>rfl);(case hg=>rfl);(case hr=>first|(go_simp;done)|(go_simp;rfl));intro gb295 hg w51 hbox hb;have n0_:=Aside0.mk (below_step bz hb);have n1_:=Aside0.mk (hbox);have n3_:=Aside0.mk ((by rw [hg];exact (below_size bz) : w.heap.size ≤ gb295));clear HB;have HB:=n0_;have BK295:=n1_;have GE295:=n3_;clear n0_ n1_ n3_;clear hb hbox hg)|((with_reducible refine gate_dst (N:=3) rfl ?_);refine box_event ?hg (N:=3) ?hd (cs:=#[.int .i64 a1_0,.slice A1_1 l1_1.length c1_1,.slice A1_2 l1_2.length c1_2]) (t:=25) ?hr ?_;(case hd=>rfl);(case hg=>rfl);(case hr=>first|(go_simp;done)|(go_simp;rfl));intro gb296 hg w52 hbox hb;have n0_:=Aside0.mk (kb BK295.out hb);have n1_:=Aside0.mk (below_step bs hb);have n2_:=Aside0.mk (hbox);have n4_:=Aside0.mk ((by rw [hg];exact (below_size bs) : w.heap.size ≤ gb296));have n5_:=Aside0.mk (kn hg BK295.out);have n6_:=Aside0.mk (km hg BK295.out);clear BK295 HB;have BK295:=n0_;have HB:=n1_;have BK296:=n2_;have GE296:=n4_;have NB295_296:=n5_;have NB296_295:=n6_;clear n0_ n1_ n2_ n4_ n5_ n6_;clear hb hbox hg;have hnb53:=NB295_296.out;have hnc53:=NB296_295.out;have hcz54_0 : w52.cell? ⟨gb295,0,none⟩ = some (.int .i64 a0_0):=(blk_cell BK295.out 0).trans rfl;have hcz54_1 : w52.cell? ⟨gb295,1,none⟩ = some (.slice A0_1 l0_1.length c0_1):=(blk_cell BK295.out 1).trans rfl;have hcz54_2 : w52.cell? ⟨gb295,2,none⟩ = some (.slice A0_2 l0_2.length c0_2):=(blk_cell BK295.out 2).trans rfl;have hfz54_0:=blk_frozen BK295.out 0;have hfz54_1:=blk_frozen BK295.out 1;have hfz54_2:=blk_frozen BK295.out 2)|((with_reducible refine gate_callee (f:=15) rfl ?_);refine goesL_ (some 19) rfl rfl Try.func15 (by kernel_rfl) rfl #[.agg #[.int .i64 a0_0,.slice A0_1 l0_1.length c0_1,.slice A0_2 l0_2.length c0_2],.int .i64 1048576] rfl mz ?_;(with_reducible refine (laws_szPlan.calls a0_0 _ _ l0_1 _ _ l0_2 1048576 t297 _ ?side1 ?side2 ?side3 ?side4 A3.out).mono ?_);(case side1=>exact cz (Kd.C_below HR0_1.out HB.out));(case side2=>exact HC0_1.out);(case side3=>exact cz (Kd.C_below HR0_2.out HB.out));(case side4=>exact HC0_2.out);rintro e w55 ⟨rfl,hb⟩;refine ⟨_,rfl,?_⟩;have n0_:=Aside0.mk (kb BK295.out hb);have n1_:=Aside0.mk (kb BK296.out hb);have n2_:=Aside0.mk (below_step bs hb);clear BK295 BK296 HB;have BK295:=n0_;have BK296:=n1_;have HB:=n2_;clear n0_ n1_ n2_;(try clear hb);have hcz56_0 : w55.cell? ⟨gb296,0,none⟩ = some (.int .i64 a1_0):=(blk_cell BK296.out 0).trans rfl;have hcz56_1 : w55.cell? ⟨gb296,1,none⟩ = some (.slice A1_1 l1_1.length c1_1):=(blk_cell BK296.out 1).trans rfl;have hcz56_2 : w55.cell? ⟨gb296,2,none⟩ = some (.slice A1_2 l1_2.length c1_2):=(blk_cell BK296.out 2).trans rfl;have hfz56_0:=blk_frozen BK296.out 0;have hfz56_1:=blk_frozen BK296.out 1;have hfz56_2:=blk_frozen BK296.out 2)|((with_reducible refine gate_callee (f:=15) rfl ?_);refine goesL_ (some 24) rfl rfl Try.func15 (by kernel_rfl) rfl #[.agg #[.int .i64 a1_0,.slice A1_1 l1_1.length c1_1,.slice A1_2 l1_2.length c1_2],.int .i64 t297] rfl mz ?_;(with_reducible refine (laws_szPlan.calls a1_0 _ _ l1_1 _ _ l1_2 t297 t298 _ ?side1 ?side2 ?side3 ?side4 A9.out).mono ?_);(case side1=>exact cz (Kd.C_below HR1_1.out HB.out));(case side2=>exact HC1_1.out);(case side3=>exact cz (Kd.C_below HR1_2.out HB.out));(case side4=>exact HC1_2.out);rintro e w57 ⟨rfl,hb⟩;refine ⟨_,rfl,?_⟩;have n0_:=Aside0.mk (kb BK295.out hb);have n1_:=Aside0.mk (kb BK296.out hb);have n2_:=Aside0.mk (below_step bs hb);clear BK295 BK296 HB;have BK295:=n0_;have BK296:=n1_;have HB:=n2_;clear n0_ n1_ n2_;(try clear hb)))
               have n0_:=Aside0.mk (blk_drew BK295.out)
               have n1_:=Aside0.mk (blk_drew BK296.out)
               have n2_:=Aside0.mk (below_drew1 HB.out)
               clear BK295
               clear BK296
               clear HB
               have BK295:=n0_
               have BK296:=n1_
               have HB:=n2_
               clear n0_ n1_ n2_
               refine start_ (n:=11) (S:=fun w'=>w'.cell? ⟨gb295,0,none⟩ = some (.int .i64 a0_0) ∧ w'.cell? ⟨gb295,1,none⟩ = some (.slice A0_1 l0_1.length c0_1) ∧ w'.cell? ⟨gb295,2,none⟩ = some (.slice A0_2 l0_2.length c0_2) ∧ w'.cell? ⟨gb296,0,none⟩ = some (.int .i64 a1_0) ∧ w'.cell? ⟨gb296,1,none⟩ = some (.slice A1_1 l1_1.length c1_1) ∧ w'.cell? ⟨gb296,2,none⟩ = some (.slice A1_2 l1_2.length c1_2)) (ds:=[]) #[false,false,false,false,false,false,false,false,false,false,false] (by kernel_rfl) rfl rfl ⟨(blk_cell BK295.out 0).trans rfl,(blk_cell BK295.out 1).trans rfl,(blk_cell BK295.out 2).trans rfl,(blk_cell BK296.out 0).trans rfl,(blk_cell BK296.out 1).trans rfl,(blk_cell BK296.out 2).trans rfl⟩ (fun hHeld=>?_);refine with_tabW laws_FnExactComposePlans.tab8 laws_FnExactComposePlans.bits8 (fun HT_ HW_=>?_)
               generalize w57.drew = w58 at BK295 BK296 HB hHeld ⊢
               refine take_ (i:=0) (N:=some 28) (v:=?_) (a':=?_) #[true,false,false,false,false,false,false,false,false,false,false] rfl rfl (take_ofW HT_.out HW_.out (by kernel_rfl)) (fun _ _ _ h=>h) (Or.inl ⟨by rfl,?_⟩) hHeld ?_ ?_
               rotate_left
               ·rintro w' ⟨s0,s1,s2,s3,s4,s5⟩
                go_simp
                with_reducible rfl
               rotate_left
               ·simp only [Act.put,xa,xb,xc,i64_w,i32_w]
                rfl
               refine take_ (i:=2) (N:=some 30) (v:=?_) (a':=?_) #[true,false,true,false,false,false,false,false,false,false,false] rfl rfl (take_ofW HT_.out HW_.out (by kernel_rfl)) (fun _ _ _ h=>h) (Or.inl ⟨by rfl,?_⟩) hHeld ?_ ?_
               rotate_left
               ·rintro w' ⟨s0,s1,s2,s3,s4,s5⟩
                go_simp
                with_reducible rfl
               rotate_left
               ·simp only [Act.put,xa,xb,xc,i64_w,i32_w]
                rfl
               refine join_ (σ:=Value × Value × Value × Value × Value × Value × Nat) 2 #[true,true,true,true,true,true,true,true,true,false,false] (fun s_=>[(29,.agg #[.int .i64 t299,s_.1,s_.2.1]),(31,.agg #[.int .i64 t306,s_.2.2.1,s_.2.2.2.1]),(32,.tuple #[.agg #[.int .i64 t313,s_.2.2.2.2.1,s_.2.2.2.2.2.1],.bool t320]),(6,.pointer (some ⟨s_.2.2.2.2.2.2,0,none⟩)),(27,.tuple #[.agg #[.int .i64 t313,s_.2.2.2.2.1,s_.2.2.2.2.2.1],.bool t320]),(33,.agg #[.int .i64 t313,s_.2.2.2.2.1,s_.2.2.2.2.2.1]),(34,.bool t320)]) (fun s_ w'=>(w'.cell? ⟨gb295,0,none⟩ = some (.int .i64 a0_0) ∧ w'.cell? ⟨gb295,1,none⟩ = some (.slice A0_1 l0_1.length c0_1) ∧ w'.cell? ⟨gb295,2,none⟩ = some (.slice A0_2 l0_2.length c0_2) ∧ w'.cell? ⟨gb296,0,none⟩ = some (.int .i64 a1_0) ∧ w'.cell? ⟨gb296,1,none⟩ = some (.slice A1_1 l1_1.length c1_1) ∧ w'.cell? ⟨gb296,2,none⟩ = some (.slice A1_2 l1_2.length c1_2)) ∧ (Kd.R k69 69 w' w.heap.size (fun k_=>some k_ ≠ (s_.2.2.1 : Value).ownBlock ∧ some k_ ≠ (s_.2.2.2.2.1 : Value).ownBlock) s_.1 t300) ∧ (Kd.R (Kd.int .i64) 3 w' w.heap.size (fun k_=>some k_ ≠ (s_.2.2.2.1 : Value).ownBlock ∧ some k_ ≠ (s_.2.2.2.2.2.1 : Value).ownBlock) s_.2.1 t303) ∧ (Kd.R k69 69 w' w.heap.size (fun k_=>some k_ ≠ (s_.1 : Value).ownBlock ∧ some k_ ≠ (s_.2.2.2.2.1 : Value).ownBlock) s_.2.2.1 t307) ∧ (Kd.R (Kd.int .i64) 3 w' w.heap.size (fun k_=>some k_ ≠ (s_.2.1 : Value).ownBlock ∧ some k_ ≠ (s_.2.2.2.2.2.1 : Value).ownBlock) s_.2.2.2.1 t310) ∧ (Kd.R k69 69 w' w.heap.size (fun k_=>some k_ ≠ (s_.1 : Value).ownBlock ∧ some k_ ≠ (s_.2.2.1 : Value).ownBlock) s_.2.2.2.2.1 t314) ∧ (Kd.R (Kd.int .i64) 3 w' w.heap.size (fun k_=>some k_ ≠ (s_.2.1 : Value).ownBlock ∧ some k_ ≠ (s_.2.2.2.1 : Value).ownBlock) s_.2.2.2.2.2.1 t317) ∧ (w'.heap[gb295]? = some (.cells #[.int .i64 a0_0,.slice A0_1 l0_1.length c0_1,.slice A0_2 l0_2.length c0_2] 25 (0,0))) ∧ (w'.heap[gb296]? = some (.cells #[.int .i64 a1_0,.slice A1_1 l1_1.length c1_1,.slice A1_2 l1_2.length c1_2] 25 (0,0))) ∧ (w'.heap[s_.2.2.2.2.2.2]? = some (.cells #[.int .i64 0,.slice none 0 0,.slice none 0 0] 30 (0,0))) ∧ (w.heap.size ≤ s_.2.2.2.2.2.2) ∧ (w.heap.size ≤ s_.2.2.2.2.2.2) ∧ (gb295 ≠ s_.2.2.2.2.2.2) ∧ (s_.2.2.2.2.2.2 ≠ gb295) ∧ (gb296 ≠ s_.2.2.2.2.2.2) ∧ (s_.2.2.2.2.2.2 ≠ gb296) ∧ (Below w.heap.size w w')) ?_ ?_
               rotate_left
               ·intro hCont
                refine two_ (i:=1) (j:=8) (Ni:=some 29) (Nj:=some 6) #[true,true,true,false,false,false,false,false,false,false,false] #[true,false,true,false,false,false,false,false,true,false,false] rfl rfl rfl rfl (two_of HT_.out (by kernel_rfl)) (by decide) (by decide) (fun K hK=>?_) (fun K hK=>?_)
                ·skip
                 refine goes_ Try.func17 (by kernel_rfl) rfl #[.agg #[.int .i64 a0_0,.slice A0_1 l0_1.length c0_1,.slice A0_2 l0_2.length c0_2]] (by rfl) rfl rfl mz ?_
                 with_reducible refine (laws_toPlan.calls k a0_0 _ _ l0_1 _ _ l0_2 t299 t300 t303 _ ?side1 ?side2 ?side3 ?side4 A18.out).mono ?_
                 (case side1=>exact cz (Kd.C_below HR0_1.out HB.out))
                 (case side2=>exact HC0_1.out)
                 (case side3=>exact cz (Kd.C_below HR0_2.out HB.out))
                 (case side4=>exact HC0_2.out)
                 rintro e w59 ⟨v301,v304,rfl,ho0,ho1,hb⟩
                 refine ⟨_,rfl,?_⟩
                 have n0_:=Aside0.mk (Kd.R_lower ho0 (below_size bs))
                 have n1_:=Aside0.mk (Kd.R_lower ho1 (below_size bs))
                 have n2_:=Aside0.mk (kb BK295.out hb)
                 have n3_:=Aside0.mk (kb BK296.out hb)
                 have n4_:=Aside0.mk (below_step bs hb)
                 clear BK295
                 clear BK296
                 clear HB
                 have HO302:=n0_
                 have HO305:=n1_
                 have BK295:=n2_
                 have BK296:=n3_
                 have HB:=n4_
                 clear n0_ n1_ n2_ n3_ n4_
                 (try clear hb)
                 (try clear ho0)
                 (try clear ho1)
                 refine hK.out _ _ ⟨(blk_cell BK295.out 0).trans rfl,(blk_cell BK295.out 1).trans rfl,(blk_cell BK295.out 2).trans rfl,(blk_cell BK296.out 0).trans rfl,(blk_cell BK296.out 1).trans rfl,(blk_cell BK296.out 2).trans rfl⟩ (fun hHeld=>?_)
                 clear hK K
                 refine norm_ (a':=?_) ?_ ?_
                 rotate_left
                 ·show Act.put _ (some 29) _ = _
                  simp only [Act.put,xa,xb,xc,i64_w,i32_w]
                  rfl
                 refine two_ (i:=3) (j:=8) (Ni:=some 31) (Nj:=some 6) #[true,true,true,true,false,false,false,false,false,false,false] #[true,true,true,false,false,false,false,false,true,false,false] rfl rfl rfl rfl (two_of HT_.out (by kernel_rfl)) (by decide) (by decide) (fun K hK=>?_) (fun K hK=>?_)
                 ·skip
                  refine goes_ Try.func17 (by kernel_rfl) rfl #[.agg #[.int .i64 a1_0,.slice A1_1 l1_1.length c1_1,.slice A1_2 l1_2.length c1_2]] (by rfl) rfl rfl mz ?_
                  with_reducible refine (laws_toPlan.calls k a1_0 _ _ l1_1 _ _ l1_2 t306 t307 t310 _ ?side1 ?side2 ?side3 ?side4 A19.out).mono ?_
                  (case side1=>exact cz (Kd.C_below HR1_1.out HB.out))
                  (case side2=>exact HC1_1.out)
                  (case side3=>exact cz (Kd.C_below HR1_2.out HB.out))
                  (case side4=>exact HC1_2.out)
                  rintro e w60 ⟨v308,v311,rfl,ho0,ho1,hb⟩
                  refine ⟨_,rfl,?_⟩
                  have n0_:=Aside0.mk (Kd.R_elder' (rz HO302.out) (Kd.R_base ho0) hb)
                  have n1_:=Aside0.mk (Kd.R_elder' (rz HO305.out) (Kd.R_base ho1) hb)
                  have n2_:=Aside0.mk (Kd.R_lower (Kd.R_new' ho0 (Kd.R_lt (rz HO302.out))) (below_size bs))
                  have n3_:=Aside0.mk (Kd.R_lower (Kd.R_new' ho1 (Kd.R_lt (rz HO305.out))) (below_size bs))
                  have n4_:=Aside0.mk (kb BK295.out hb)
                  have n5_:=Aside0.mk (kb BK296.out hb)
                  have n6_:=Aside0.mk (below_step bs hb)
                  clear HO302
                  clear HO305
                  clear BK295
                  clear BK296
                  clear HB
                  have HO302:=n0_
                  have HO305:=n1_
                  have HO309:=n2_
                  have HO312:=n3_
                  have BK295:=n4_
                  have BK296:=n5_
                  have HB:=n6_
                  clear n0_ n1_ n2_ n3_ n4_ n5_ n6_
                  (try clear hb)
                  (try clear ho0)
                  (try clear ho1)
                  obtain ⟨Ao61,co61,eo61⟩:=Kd.R_slice HO302.out
                  (first|subst eo61|(injection eo61 with f1_ f2_ f3_;have f4_:=f1_.symm;have f5_:=f3_.symm;clear f1_ f2_ f3_;subst f4_;subst f5_))
                  obtain ⟨Ao62,co62,eo62⟩:=Kd.R_slice HO305.out
                  (first|subst eo62|(injection eo62 with f1_ f2_ f3_;have f4_:=f1_.symm;have f5_:=f3_.symm;clear f1_ f2_ f3_;subst f4_;subst f5_))
                  obtain ⟨Ao63,co63,eo63⟩:=Kd.R_slice HO309.out
                  (first|subst eo63|(injection eo63 with f1_ f2_ f3_;have f4_:=f1_.symm;have f5_:=f3_.symm;clear f1_ f2_ f3_;subst f4_;subst f5_))
                  obtain ⟨Ao64,co64,eo64⟩:=Kd.R_slice HO312.out
                  (first|subst eo64|(injection eo64 with f1_ f2_ f3_;have f4_:=f1_.symm;have f5_:=f3_.symm;clear f1_ f2_ f3_;subst f4_;subst f5_))
                  refine hK.out _ _ ⟨(blk_cell BK295.out 0).trans rfl,(blk_cell BK295.out 1).trans rfl,(blk_cell BK295.out 2).trans rfl,(blk_cell BK296.out 0).trans rfl,(blk_cell BK296.out 1).trans rfl,(blk_cell BK296.out 2).trans rfl⟩ (fun hHeld=>?_)
                  clear hK K
                  refine norm_ (a':=?_) ?_ ?_
                  rotate_left
                  ·show Act.put _ (some 31) _ = _
                   simp only [Act.put,xa,xb,xc,i64_w,i32_w]
                   rfl
                  refine two_ (i:=4) (j:=8) (Ni:=some 32) (Nj:=some 6) #[true,true,true,true,true,false,false,false,false,false,false] #[true,true,true,true,false,false,false,false,true,false,false] rfl rfl rfl rfl (two_of HT_.out (by kernel_rfl)) (by decide) (by decide) (fun K hK=>?_) (fun K hK=>?_)
                  ·skip
                   refine goes_ Try.func49 (by kernel_rfl) rfl #[.agg #[.int .i64 t299,.slice Ao61 t300.length co61,.slice Ao62 t303.length co62],.agg #[.int .i64 t306,.slice Ao63 t307.length co63,.slice Ao64 t310.length co64]] (by rfl) rfl rfl mz ?_
                   with_reducible refine (spec_ComposePlans.calls k t299 _ _ t300 _ _ t303 t306 _ _ t307 _ _ t310 t313 t314 t317 t320 _ ?side1 ?side2 ?side3 ?side4 ?side5 ?side6 ?side7 ?side8 A20.out).mono ?_
                   (case side1=>exact cz (Kd.R_reads' HO302.out).2.2)
                   (case side2=>exact (Kd.R_reads' HO302.out).2.1)
                   (case side3=>exact cz (Kd.R_reads' HO305.out).2.2)
                   (case side4=>exact (Kd.R_reads' HO305.out).2.1)
                   (case side5=>exact cz (Kd.R_reads' HO309.out).2.2)
                   (case side6=>exact (Kd.R_reads' HO309.out).2.1)
                   (case side7=>exact cz (Kd.R_reads' HO312.out).2.2)
                   (case side8=>exact (Kd.R_reads' HO312.out).2.1)
                   rintro e w65 ⟨v315,v318,rfl,ho0,ho1,hb⟩
                   refine ⟨_,rfl,?_⟩
                   have n0_:=Aside0.mk (Kd.R_elder' (rz HO302.out) (Kd.R_base ho0) hb)
                   have n1_:=Aside0.mk (Kd.R_elder' (rz HO305.out) (Kd.R_base ho1) hb)
                   have n2_:=Aside0.mk (Kd.R_elder' (rz HO309.out) (Kd.R_base ho0) hb)
                   have n3_:=Aside0.mk (Kd.R_elder' (rz HO312.out) (Kd.R_base ho1) hb)
                   have n4_:=Aside0.mk (Kd.R_lower (Kd.R_new' (Kd.R_new' ho0 (Kd.R_lt (rz HO302.out))) (Kd.R_lt (rz HO309.out))) (below_size bs))
                   have n5_:=Aside0.mk (Kd.R_lower (Kd.R_new' (Kd.R_new' ho1 (Kd.R_lt (rz HO305.out))) (Kd.R_lt (rz HO312.out))) (below_size bs))
                   have n6_:=Aside0.mk (kb BK295.out hb)
                   have n7_:=Aside0.mk (kb BK296.out hb)
                   have n8_:=Aside0.mk (below_step bs hb)
                   clear HO302
                   clear HO305
                   clear HO309
                   clear HO312
                   clear BK295
                   clear BK296
                   clear HB
                   have HO302:=n0_
                   have HO305:=n1_
                   have HO309:=n2_
                   have HO312:=n3_
                   have HO316:=n4_
                   have HO319:=n5_
                   have BK295:=n6_
                   have BK296:=n7_
                   have HB:=n8_
                   clear n0_ n1_ n2_ n3_ n4_ n5_ n6_ n7_ n8_
                   (try clear hb)
                   (try clear ho0)
                   (try clear ho1)
                   refine hK.out _ _ ⟨(blk_cell BK295.out 0).trans rfl,(blk_cell BK295.out 1).trans rfl,(blk_cell BK295.out 2).trans rfl,(blk_cell BK296.out 0).trans rfl,(blk_cell BK296.out 1).trans rfl,(blk_cell BK296.out 2).trans rfl⟩ (fun hHeld=>?_)
                   clear hK K
                   refine norm_ (a':=?_) ?_ ?_
                   rotate_left
                   ·show Act.put _ (some 32) _ = _
                    simp only [Act.put,xa,xb,xc,i64_w,i32_w]
                    rfl
                   refine pure_ (i:=5) (N:=some 27) (v:=?_) (a':=?_) #[true,true,true,true,true,true,false,false,false,false,false] rfl rfl (any_of HT_.out (by kernel_rfl)) (fun _ _ _ h=>h) (Or.inl ⟨by rfl,?_⟩) ?_ ?_
                   rotate_left
                   ·intro w'
                    go_simp
                    with_reducible rfl
                   rotate_left
                   ·simp only [Act.put,xa,xb,xc,i64_w,i32_w]
                    rfl
                   refine pure_ (i:=6) (N:=some 33) (v:=?_) (a':=?_) #[true,true,true,true,true,true,true,false,false,false,false] rfl rfl (any_of HT_.out (by kernel_rfl)) (fun _ _ _ h=>h) (Or.inl ⟨by rfl,?_⟩) ?_ ?_
                   rotate_left
                   ·intro w'
                    go_simp
                    with_reducible rfl
                   rotate_left
                   ·simp only [Act.put,xa,xb,xc,i64_w,i32_w]
                    rfl
                   refine pure_ (i:=7) (N:=some 34) (v:=?_) (a':=?_) #[true,true,true,true,true,true,true,true,false,false,false] rfl rfl (any_of HT_.out (by kernel_rfl)) (fun _ _ _ h=>h) (Or.inl ⟨by rfl,?_⟩) ?_ ?_
                   rotate_left
                   ·intro w'
                    go_simp
                    with_reducible rfl
                   rotate_left
                   ·simp only [Act.put,xa,xb,xc,i64_w,i32_w]
                    rfl
                   refine one_ (i:=8) (N:=some 6) #[true,true,true,true,true,true,true,true,true,false,false] rfl rfl (one_of HT_.out (by kernel_rfl)) (by decide) (fun K hK=>?_)
                   refine box_step ?hg (N:=6) ?hd (cs:=#[.int .i64 0,.slice none 0 0,.slice none 0 0]) (t:=30) ?hr ?_;(case hd=>rfl);(case hg=>rfl);(case hr=>first|(go_simp;done)|(go_simp;rfl))
                   intro gb321 hg w66 hbox hb
                   have n0_:=Aside0.mk (Kd.R_below (rz HO302.out) hb)
                   have n1_:=Aside0.mk (Kd.R_below (rz HO305.out) hb)
                   have n2_:=Aside0.mk (Kd.R_below (rz HO309.out) hb)
                   have n3_:=Aside0.mk (Kd.R_below (rz HO312.out) hb)
                   have n4_:=Aside0.mk (Kd.R_below (rz HO316.out) hb)
                   have n5_:=Aside0.mk (Kd.R_below (rz HO319.out) hb)
                   have n6_:=Aside0.mk (kb BK295.out hb)
                   have n7_:=Aside0.mk (kb BK296.out hb)
                   have n8_:=Aside0.mk (below_step bs hb)
                   have n9_:=Aside0.mk (hbox)
                   have n10_:=Aside0.mk ((by rw [hg];exact (below_size bs) : w.heap.size ≤ gb321))
                   have n11_:=Aside0.mk ((by rw [hg];exact (below_size bs) : w.heap.size ≤ gb321))
                   have n12_:=Aside0.mk (kn hg BK295.out)
                   have n13_:=Aside0.mk (km hg BK295.out)
                   have n14_:=Aside0.mk (kn hg BK296.out)
                   have n15_:=Aside0.mk (km hg BK296.out)
                   clear HO302
                   clear HO305
                   clear HO309
                   clear HO312
                   clear HO316
                   clear HO319
                   clear BK295
                   clear BK296
                   clear HB
                   have HO302:=n0_
                   have HO305:=n1_
                   have HO309:=n2_
                   have HO312:=n3_
                   have HO316:=n4_
                   have HO319:=n5_
                   have BK295:=n6_
                   have BK296:=n7_
                   have HB:=n8_
                   have BK321:=n9_
                   have GW321:=n10_
                   have GE321:=n11_
                   have NB295_321:=n12_
                   have NB321_295:=n13_
                   have NB296_321:=n14_
                   have NB321_296:=n15_
                   clear n0_ n1_ n2_ n3_ n4_ n5_ n6_ n7_ n8_ n9_ n10_ n11_ n12_ n13_ n14_ n15_
                   clear hb hbox hg
                   refine hK.out _ _ ⟨(blk_cell BK295.out 0).trans rfl,(blk_cell BK295.out 1).trans rfl,(blk_cell BK295.out 2).trans rfl,(blk_cell BK296.out 0).trans rfl,(blk_cell BK296.out 1).trans rfl,(blk_cell BK296.out 2).trans rfl⟩ (fun hHeld=>?_)
                   clear hK K
                   refine norm_ (a':=?_) ?_ ?_
                   rotate_left
                   ·show Act.put _ (some 6) _ = _
                    simp only [Act.put,xa,xb,xc,i64_w,i32_w]
                    rfl
                   exact norm_ (by simp only [putAll,Act.put,xa,xb,xc]) (hCont (.slice Ao61 t300.length co61,.slice Ao62 t303.length co62,.slice Ao63 t307.length co63,.slice Ao64 t310.length co64,v315,v318,gb321) _ ⟨hHeld,(by (with_reducible repeat (first|apply Kd.R_alloc|apply Kd.R_drewN|apply Kd.R_drew));exact Kd.R_mono HO302.out (fun _ hk=>⟨hk.1.2,hk.2⟩)),(by (with_reducible repeat (first|apply Kd.R_alloc|apply Kd.R_drewN|apply Kd.R_drew));exact Kd.R_mono HO305.out (fun _ hk=>⟨hk.1.2,hk.2⟩)),(by (with_reducible repeat (first|apply Kd.R_alloc|apply Kd.R_drewN|apply Kd.R_drew));exact Kd.R_mono HO309.out (fun _ hk=>⟨hk.1.2,hk.2⟩)),(by (with_reducible repeat (first|apply Kd.R_alloc|apply Kd.R_drewN|apply Kd.R_drew));exact Kd.R_mono HO312.out (fun _ hk=>⟨hk.1.2,hk.2⟩)),(by (with_reducible repeat (first|apply Kd.R_alloc|apply Kd.R_drewN|apply Kd.R_drew));exact Kd.R_mono HO316.out (fun _ hk=>⟨hk.1.2,hk.2⟩)),(by (with_reducible repeat (first|apply Kd.R_alloc|apply Kd.R_drewN|apply Kd.R_drew));exact Kd.R_mono HO319.out (fun _ hk=>⟨hk.1.2,hk.2⟩)),(kz BK295.out),(kz BK296.out),(kz BK321.out),GW321.out,GE321.out,NB295_321.out,NB321_295.out,NB296_321.out,NB321_296.out,bs⟩)
                  ·skip
                   refine box_step ?hg (N:=6) ?hd (cs:=#[.int .i64 0,.slice none 0 0,.slice none 0 0]) (t:=30) ?hr ?_;(case hd=>rfl);(case hg=>rfl);(case hr=>first|(go_simp;done)|(go_simp;rfl))
                   intro gb321 hg w61 hbox hb
                   have n0_:=Aside0.mk (Kd.R_below (rz HO302.out) hb)
                   have n1_:=Aside0.mk (Kd.R_below (rz HO305.out) hb)
                   have n2_:=Aside0.mk (Kd.R_below (rz HO309.out) hb)
                   have n3_:=Aside0.mk (Kd.R_below (rz HO312.out) hb)
                   have n4_:=Aside0.mk (kb BK295.out hb)
                   have n5_:=Aside0.mk (kb BK296.out hb)
                   have n6_:=Aside0.mk (below_step bs hb)
                   have n7_:=Aside0.mk (hbox)
                   have n8_:=Aside0.mk ((by rw [hg];exact (below_size bs) : w.heap.size ≤ gb321))
                   have n9_:=Aside0.mk ((by rw [hg];exact (below_size bs) : w.heap.size ≤ gb321))
                   have n10_:=Aside0.mk (kn hg BK295.out)
                   have n11_:=Aside0.mk (km hg BK295.out)
                   have n12_:=Aside0.mk (kn hg BK296.out)
                   have n13_:=Aside0.mk (km hg BK296.out)
                   clear HO302
                   clear HO305
                   clear HO309
                   clear HO312
                   clear BK295
                   clear BK296
                   clear HB
                   have HO302:=n0_
                   have HO305:=n1_
                   have HO309:=n2_
                   have HO312:=n3_
                   have BK295:=n4_
                   have BK296:=n5_
                   have HB:=n6_
                   have BK321:=n7_
                   have GW321:=n8_
                   have GE321:=n9_
                   have NB295_321:=n10_
                   have NB321_295:=n11_
                   have NB296_321:=n12_
                   have NB321_296:=n13_
                   clear n0_ n1_ n2_ n3_ n4_ n5_ n6_ n7_ n8_ n9_ n10_ n11_ n12_ n13_
                   clear hb hbox hg
                   obtain ⟨Ao62,co62,eo62⟩:=Kd.R_slice HO302.out
                   (first|subst eo62|(injection eo62 with f1_ f2_ f3_;have f4_:=f1_.symm;have f5_:=f3_.symm;clear f1_ f2_ f3_;subst f4_;subst f5_))
                   obtain ⟨Ao63,co63,eo63⟩:=Kd.R_slice HO305.out
                   (first|subst eo63|(injection eo63 with f1_ f2_ f3_;have f4_:=f1_.symm;have f5_:=f3_.symm;clear f1_ f2_ f3_;subst f4_;subst f5_))
                   obtain ⟨Ao64,co64,eo64⟩:=Kd.R_slice HO309.out
                   (first|subst eo64|(injection eo64 with f1_ f2_ f3_;have f4_:=f1_.symm;have f5_:=f3_.symm;clear f1_ f2_ f3_;subst f4_;subst f5_))
                   obtain ⟨Ao65,co65,eo65⟩:=Kd.R_slice HO312.out
                   (first|subst eo65|(injection eo65 with f1_ f2_ f3_;have f4_:=f1_.symm;have f5_:=f3_.symm;clear f1_ f2_ f3_;subst f4_;subst f5_))
                   refine hK.out _ _ ⟨(blk_cell BK295.out 0).trans rfl,(blk_cell BK295.out 1).trans rfl,(blk_cell BK295.out 2).trans rfl,(blk_cell BK296.out 0).trans rfl,(blk_cell BK296.out 1).trans rfl,(blk_cell BK296.out 2).trans rfl⟩ (fun hHeld=>?_)
                   clear hK K
                   refine norm_ (a':=?_) ?_ ?_
                   rotate_left
                   ·show Act.put _ (some 6) _ = _
                    simp only [Act.put,xa,xb,xc,i64_w,i32_w]
                    rfl
                   refine one_ (i:=4) (N:=some 32) #[true,true,true,true,true,false,false,false,true,false,false] rfl rfl (one_of HT_.out (by kernel_rfl)) (by decide) (fun K hK=>?_)
                   refine goes_ Try.func49 (by kernel_rfl) rfl #[.agg #[.int .i64 t299,.slice Ao62 t300.length co62,.slice Ao63 t303.length co63],.agg #[.int .i64 t306,.slice Ao64 t307.length co64,.slice Ao65 t310.length co65]] (by rfl) rfl rfl mz ?_
                   with_reducible refine (spec_ComposePlans.calls k t299 _ _ t300 _ _ t303 t306 _ _ t307 _ _ t310 t313 t314 t317 t320 _ ?side1 ?side2 ?side3 ?side4 ?side5 ?side6 ?side7 ?side8 A20.out).mono ?_
                   (case side1=>exact cz (Kd.R_reads' HO302.out).2.2)
                   (case side2=>exact (Kd.R_reads' HO302.out).2.1)
                   (case side3=>exact cz (Kd.R_reads' HO305.out).2.2)
                   (case side4=>exact (Kd.R_reads' HO305.out).2.1)
                   (case side5=>exact cz (Kd.R_reads' HO309.out).2.2)
                   (case side6=>exact (Kd.R_reads' HO309.out).2.1)
                   (case side7=>exact cz (Kd.R_reads' HO312.out).2.2)
                   (case side8=>exact (Kd.R_reads' HO312.out).2.1)
                   rintro e w66 ⟨v315,v318,rfl,ho0,ho1,hb⟩
                   refine ⟨_,rfl,?_⟩
                   have n0_:=Aside0.mk (Kd.R_elder' (rz HO302.out) (Kd.R_base ho0) hb)
                   have n1_:=Aside0.mk (Kd.R_elder' (rz HO305.out) (Kd.R_base ho1) hb)
                   have n2_:=Aside0.mk (Kd.R_elder' (rz HO309.out) (Kd.R_base ho0) hb)
                   have n3_:=Aside0.mk (Kd.R_elder' (rz HO312.out) (Kd.R_base ho1) hb)
                   have n4_:=Aside0.mk (Kd.R_lower (Kd.R_new' (Kd.R_new' ho0 (Kd.R_lt (rz HO302.out))) (Kd.R_lt (rz HO309.out))) (below_size bs))
                   have n5_:=Aside0.mk (Kd.R_lower (Kd.R_new' (Kd.R_new' ho1 (Kd.R_lt (rz HO305.out))) (Kd.R_lt (rz HO312.out))) (below_size bs))
                   have n6_:=Aside0.mk (kb BK295.out hb)
                   have n7_:=Aside0.mk (kb BK296.out hb)
                   have n8_:=Aside0.mk (kb BK321.out hb)
                   have n9_:=Aside0.mk (below_step bs hb)
                   clear HO302
                   clear HO305
                   clear HO309
                   clear HO312
                   clear BK295
                   clear BK296
                   clear BK321
                   clear HB
                   have HO302:=n0_
                   have HO305:=n1_
                   have HO309:=n2_
                   have HO312:=n3_
                   have HO316:=n4_
                   have HO319:=n5_
                   have BK295:=n6_
                   have BK296:=n7_
                   have BK321:=n8_
                   have HB:=n9_
                   clear n0_ n1_ n2_ n3_ n4_ n5_ n6_ n7_ n8_ n9_
                   (try clear hb)
                   (try clear ho0)
                   (try clear ho1)
                   refine hK.out _ _ ⟨(blk_cell BK295.out 0).trans rfl,(blk_cell BK295.out 1).trans rfl,(blk_cell BK295.out 2).trans rfl,(blk_cell BK296.out 0).trans rfl,(blk_cell BK296.out 1).trans rfl,(blk_cell BK296.out 2).trans rfl⟩ (fun hHeld=>?_)
                   clear hK K
                   refine norm_ (a':=?_) ?_ ?_
                   rotate_left
                   ·show Act.put _ (some 32) _ = _
                    simp only [Act.put,xa,xb,xc,i64_w,i32_w]
                    rfl
                   refine pure_ (i:=5) (N:=some 27) (v:=?_) (a':=?_) #[true,true,true,true,true,true,false,false,true,false,false] rfl rfl (any_of HT_.out (by kernel_rfl)) (fun _ _ _ h=>h) (Or.inl ⟨by rfl,?_⟩) ?_ ?_
                   rotate_left
                   ·intro w'
                    go_simp
                    with_reducible rfl
                   rotate_left
                   ·simp only [Act.put,xa,xb,xc,i64_w,i32_w]
                    rfl
                   refine pure_ (i:=6) (N:=some 33) (v:=?_) (a':=?_) #[true,true,true,true,true,true,true,false,true,false,false] rfl rfl (any_of HT_.out (by kernel_rfl)) (fun _ _ _ h=>h) (Or.inl ⟨by rfl,?_⟩) ?_ ?_
                   rotate_left
                   ·intro w'
                    go_simp
                    with_reducible rfl
                   rotate_left
                   ·simp only [Act.put,xa,xb,xc,i64_w,i32_w]
                    rfl
                   refine pure_ (i:=7) (N:=some 34) (v:=?_) (a':=?_) #[true,true,true,true,true,true,true,true,true,false,false] rfl rfl (any_of HT_.out (by kernel_rfl)) (fun _ _ _ h=>h) (Or.inl ⟨by rfl,?_⟩) ?_ ?_
                   rotate_left
                   ·intro w'
                    go_simp
                    with_reducible rfl
                   rotate_left
                   ·simp only [Act.put,xa,xb,xc,i64_w,i32_w]
                    rfl
                   exact norm_ (by simp only [putAll,Act.put,xa,xb,xc]) (hCont (.slice Ao62 t300.length co62,.slice Ao63 t303.length co63,.slice Ao64 t307.length co64,.slice Ao65 t310.length co65,v315,v318,gb321) _ ⟨hHeld,(by (with_reducible repeat (first|apply Kd.R_alloc|apply Kd.R_drewN|apply Kd.R_drew));exact Kd.R_mono HO302.out (fun _ hk=>⟨hk.1.2,hk.2⟩)),(by (with_reducible repeat (first|apply Kd.R_alloc|apply Kd.R_drewN|apply Kd.R_drew));exact Kd.R_mono HO305.out (fun _ hk=>⟨hk.1.2,hk.2⟩)),(by (with_reducible repeat (first|apply Kd.R_alloc|apply Kd.R_drewN|apply Kd.R_drew));exact Kd.R_mono HO309.out (fun _ hk=>⟨hk.1.2,hk.2⟩)),(by (with_reducible repeat (first|apply Kd.R_alloc|apply Kd.R_drewN|apply Kd.R_drew));exact Kd.R_mono HO312.out (fun _ hk=>⟨hk.1.2,hk.2⟩)),(by (with_reducible repeat (first|apply Kd.R_alloc|apply Kd.R_drewN|apply Kd.R_drew));exact Kd.R_mono HO316.out (fun _ hk=>⟨hk.1.2,hk.2⟩)),(by (with_reducible repeat (first|apply Kd.R_alloc|apply Kd.R_drewN|apply Kd.R_drew));exact Kd.R_mono HO319.out (fun _ hk=>⟨hk.1.2,hk.2⟩)),(kz BK295.out),(kz BK296.out),(kz BK321.out),GW321.out,GE321.out,NB295_321.out,NB321_295.out,NB296_321.out,NB321_296.out,bs⟩)
                 ·skip
                  refine box_step ?hg (N:=6) ?hd (cs:=#[.int .i64 0,.slice none 0 0,.slice none 0 0]) (t:=30) ?hr ?_;(case hd=>rfl);(case hg=>rfl);(case hr=>first|(go_simp;done)|(go_simp;rfl))
                  intro gb321 hg w60 hbox hb
                  have n0_:=Aside0.mk (Kd.R_below (rz HO302.out) hb)
                  have n1_:=Aside0.mk (Kd.R_below (rz HO305.out) hb)
                  have n2_:=Aside0.mk (kb BK295.out hb)
                  have n3_:=Aside0.mk (kb BK296.out hb)
                  have n4_:=Aside0.mk (below_step bs hb)
                  have n5_:=Aside0.mk (hbox)
                  have n6_:=Aside0.mk ((by rw [hg];exact (below_size bs) : w.heap.size ≤ gb321))
                  have n7_:=Aside0.mk ((by rw [hg];exact (below_size bs) : w.heap.size ≤ gb321))
                  have n8_:=Aside0.mk (kn hg BK295.out)
                  have n9_:=Aside0.mk (km hg BK295.out)
                  have n10_:=Aside0.mk (kn hg BK296.out)
                  have n11_:=Aside0.mk (km hg BK296.out)
                  clear HO302
                  clear HO305
                  clear BK295
                  clear BK296
                  clear HB
                  have HO302:=n0_
                  have HO305:=n1_
                  have BK295:=n2_
                  have BK296:=n3_
                  have HB:=n4_
                  have BK321:=n5_
                  have GW321:=n6_
                  have GE321:=n7_
                  have NB295_321:=n8_
                  have NB321_295:=n9_
                  have NB296_321:=n10_
                  have NB321_296:=n11_
                  clear n0_ n1_ n2_ n3_ n4_ n5_ n6_ n7_ n8_ n9_ n10_ n11_
                  clear hb hbox hg
                  refine hK.out _ _ ⟨(blk_cell BK295.out 0).trans rfl,(blk_cell BK295.out 1).trans rfl,(blk_cell BK295.out 2).trans rfl,(blk_cell BK296.out 0).trans rfl,(blk_cell BK296.out 1).trans rfl,(blk_cell BK296.out 2).trans rfl⟩ (fun hHeld=>?_)
                  clear hK K
                  refine norm_ (a':=?_) ?_ ?_
                  rotate_left
                  ·show Act.put _ (some 6) _ = _
                   simp only [Act.put,xa,xb,xc,i64_w,i32_w]
                   rfl
                  refine one_ (i:=3) (N:=some 31) #[true,true,true,true,false,false,false,false,true,false,false] rfl rfl (one_of HT_.out (by kernel_rfl)) (by decide) (fun K hK=>?_)
                  refine goes_ Try.func17 (by kernel_rfl) rfl #[.agg #[.int .i64 a1_0,.slice A1_1 l1_1.length c1_1,.slice A1_2 l1_2.length c1_2]] (by rfl) rfl rfl mz ?_
                  with_reducible refine (laws_toPlan.calls k a1_0 _ _ l1_1 _ _ l1_2 t306 t307 t310 _ ?side1 ?side2 ?side3 ?side4 A19.out).mono ?_
                  (case side1=>exact cz (Kd.C_below HR1_1.out HB.out))
                  (case side2=>exact HC1_1.out)
                  (case side3=>exact cz (Kd.C_below HR1_2.out HB.out))
                  (case side4=>exact HC1_2.out)
                  rintro e w61 ⟨v308,v311,rfl,ho0,ho1,hb⟩
                  refine ⟨_,rfl,?_⟩
                  have n0_:=Aside0.mk (Kd.R_elder' (rz HO302.out) (Kd.R_base ho0) hb)
                  have n1_:=Aside0.mk (Kd.R_elder' (rz HO305.out) (Kd.R_base ho1) hb)
                  have n2_:=Aside0.mk (Kd.R_lower (Kd.R_new' ho0 (Kd.R_lt (rz HO302.out))) (below_size bs))
                  have n3_:=Aside0.mk (Kd.R_lower (Kd.R_new' ho1 (Kd.R_lt (rz HO305.out))) (below_size bs))
                  have n4_:=Aside0.mk (kb BK295.out hb)
                  have n5_:=Aside0.mk (kb BK296.out hb)
                  have n6_:=Aside0.mk (kb BK321.out hb)
                  have n7_:=Aside0.mk (below_step bs hb)
                  clear HO302
                  clear HO305
                  clear BK295
                  clear BK296
                  clear BK321
                  clear HB
                  have HO302:=n0_
                  have HO305:=n1_
                  have HO309:=n2_
                  have HO312:=n3_
                  have BK295:=n4_
                  have BK296:=n5_
                  have BK321:=n6_
                  have HB:=n7_
                  clear n0_ n1_ n2_ n3_ n4_ n5_ n6_ n7_
                  (try clear hb)
                  (try clear ho0)
                  (try clear ho1)
                  obtain ⟨Ao62,co62,eo62⟩:=Kd.R_slice HO302.out
                  (first|subst eo62|(injection eo62 with f1_ f2_ f3_;have f4_:=f1_.symm;have f5_:=f3_.symm;clear f1_ f2_ f3_;subst f4_;subst f5_))
                  obtain ⟨Ao63,co63,eo63⟩:=Kd.R_slice HO305.out
                  (first|subst eo63|(injection eo63 with f1_ f2_ f3_;have f4_:=f1_.symm;have f5_:=f3_.symm;clear f1_ f2_ f3_;subst f4_;subst f5_))
                  obtain ⟨Ao64,co64,eo64⟩:=Kd.R_slice HO309.out
                  (first|subst eo64|(injection eo64 with f1_ f2_ f3_;have f4_:=f1_.symm;have f5_:=f3_.symm;clear f1_ f2_ f3_;subst f4_;subst f5_))
                  obtain ⟨Ao65,co65,eo65⟩:=Kd.R_slice HO312.out
                  (first|subst eo65|(injection eo65 with f1_ f2_ f3_;have f4_:=f1_.symm;have f5_:=f3_.symm;clear f1_ f2_ f3_;subst f4_;subst f5_))
                  refine hK.out _ _ ⟨(blk_cell BK295.out 0).trans rfl,(blk_cell BK295.out 1).trans rfl,(blk_cell BK295.out 2).trans rfl,(blk_cell BK296.out 0).trans rfl,(blk_cell BK296.out 1).trans rfl,(blk_cell BK296.out 2).trans rfl⟩ (fun hHeld=>?_)
                  clear hK K
                  refine norm_ (a':=?_) ?_ ?_
                  rotate_left
                  ·show Act.put _ (some 31) _ = _
                   simp only [Act.put,xa,xb,xc,i64_w,i32_w]
                   rfl
                  refine one_ (i:=4) (N:=some 32) #[true,true,true,true,true,false,false,false,true,false,false] rfl rfl (one_of HT_.out (by kernel_rfl)) (by decide) (fun K hK=>?_)
                  refine goes_ Try.func49 (by kernel_rfl) rfl #[.agg #[.int .i64 t299,.slice Ao62 t300.length co62,.slice Ao63 t303.length co63],.agg #[.int .i64 t306,.slice Ao64 t307.length co64,.slice Ao65 t310.length co65]] (by rfl) rfl rfl mz ?_
                  with_reducible refine (spec_ComposePlans.calls k t299 _ _ t300 _ _ t303 t306 _ _ t307 _ _ t310 t313 t314 t317 t320 _ ?side1 ?side2 ?side3 ?side4 ?side5 ?side6 ?side7 ?side8 A20.out).mono ?_
                  (case side1=>exact cz (Kd.R_reads' HO302.out).2.2)
                  (case side2=>exact (Kd.R_reads' HO302.out).2.1)
                  (case side3=>exact cz (Kd.R_reads' HO305.out).2.2)
                  (case side4=>exact (Kd.R_reads' HO305.out).2.1)
                  (case side5=>exact cz (Kd.R_reads' HO309.out).2.2)
                  (case side6=>exact (Kd.R_reads' HO309.out).2.1)
                  (case side7=>exact cz (Kd.R_reads' HO312.out).2.2)
                  (case side8=>exact (Kd.R_reads' HO312.out).2.1)
                  rintro e w66 ⟨v315,v318,rfl,ho0,ho1,hb⟩
                  refine ⟨_,rfl,?_⟩
                  have n0_:=Aside0.mk (Kd.R_elder' (rz HO302.out) (Kd.R_base ho0) hb)
                  have n1_:=Aside0.mk (Kd.R_elder' (rz HO305.out) (Kd.R_base ho1) hb)
                  have n2_:=Aside0.mk (Kd.R_elder' (rz HO309.out) (Kd.R_base ho0) hb)
                  have n3_:=Aside0.mk (Kd.R_elder' (rz HO312.out) (Kd.R_base ho1) hb)
                  have n4_:=Aside0.mk (Kd.R_lower (Kd.R_new' (Kd.R_new' ho0 (Kd.R_lt (rz HO302.out))) (Kd.R_lt (rz HO309.out))) (below_size bs))
                  have n5_:=Aside0.mk (Kd.R_lower (Kd.R_new' (Kd.R_new' ho1 (Kd.R_lt (rz HO305.out))) (Kd.R_lt (rz HO312.out))) (below_size bs))
                  have n6_:=Aside0.mk (kb BK295.out hb)
                  have n7_:=Aside0.mk (kb BK296.out hb)
                  have n8_:=Aside0.mk (kb BK321.out hb)
                  have n9_:=Aside0.mk (below_step bs hb)
                  clear HO302
                  clear HO305
                  clear HO309
                  clear HO312
                  clear BK295
                  clear BK296
                  clear BK321
                  clear HB
                  have HO302:=n0_
                  have HO305:=n1_
                  have HO309:=n2_
                  have HO312:=n3_
                  have HO316:=n4_
                  have HO319:=n5_
                  have BK295:=n6_
                  have BK296:=n7_
                  have BK321:=n8_
                  have HB:=n9_
                  clear n0_ n1_ n2_ n3_ n4_ n5_ n6_ n7_ n8_ n9_
                  (try clear hb)
                  (try clear ho0)
                  (try clear ho1)
                  refine hK.out _ _ ⟨(blk_cell BK295.out 0).trans rfl,(blk_cell BK295.out 1).trans rfl,(blk_cell BK295.out 2).trans rfl,(blk_cell BK296.out 0).trans rfl,(blk_cell BK296.out 1).trans rfl,(blk_cell BK296.out 2).trans rfl⟩ (fun hHeld=>?_)
                  clear hK K
                  refine norm_ (a':=?_) ?_ ?_
                  rotate_left
                  ·show Act.put _ (some 32) _ = _
                   simp only [Act.put,xa,xb,xc,i64_w,i32_w]
                   rfl
                  refine pure_ (i:=5) (N:=some 27) (v:=?_) (a':=?_) #[true,true,true,true,true,true,false,false,true,false,false] rfl rfl (any_of HT_.out (by kernel_rfl)) (fun _ _ _ h=>h) (Or.inl ⟨by rfl,?_⟩) ?_ ?_
                  rotate_left
                  ·intro w'
                   go_simp
                   with_reducible rfl
                  rotate_left
                  ·simp only [Act.put,xa,xb,xc,i64_w,i32_w]
                   rfl
                  refine pure_ (i:=6) (N:=some 33) (v:=?_) (a':=?_) #[true,true,true,true,true,true,true,false,true,false,false] rfl rfl (any_of HT_.out (by kernel_rfl)) (fun _ _ _ h=>h) (Or.inl ⟨by rfl,?_⟩) ?_ ?_
                  rotate_left
                  ·intro w'
                   go_simp
                   with_reducible rfl
                  rotate_left
                  ·simp only [Act.put,xa,xb,xc,i64_w,i32_w]
                   rfl
                  refine pure_ (i:=7) (N:=some 34) (v:=?_) (a':=?_) #[true,true,true,true,true,true,true,true,true,false,false] rfl rfl (any_of HT_.out (by kernel_rfl)) (fun _ _ _ h=>h) (Or.inl ⟨by rfl,?_⟩) ?_ ?_
                  rotate_left
                  ·intro w'
                   go_simp
                   with_reducible rfl
                  rotate_left
                  ·simp only [Act.put,xa,xb,xc,i64_w,i32_w]
                   rfl
                  exact norm_ (by simp only [putAll,Act.put,xa,xb,xc]) (hCont (.slice Ao62 t300.length co62,.slice Ao63 t303.length co63,.slice Ao64 t307.length co64,.slice Ao65 t310.length co65,v315,v318,gb321) _ ⟨hHeld,(by (with_reducible repeat (first|apply Kd.R_alloc|apply Kd.R_drewN|apply Kd.R_drew));exact Kd.R_mono HO302.out (fun _ hk=>⟨hk.1.2,hk.2⟩)),(by (with_reducible repeat (first|apply Kd.R_alloc|apply Kd.R_drewN|apply Kd.R_drew));exact Kd.R_mono HO305.out (fun _ hk=>⟨hk.1.2,hk.2⟩)),(by (with_reducible repeat (first|apply Kd.R_alloc|apply Kd.R_drewN|apply Kd.R_drew));exact Kd.R_mono HO309.out (fun _ hk=>⟨hk.1.2,hk.2⟩)),(by (with_reducible repeat (first|apply Kd.R_alloc|apply Kd.R_drewN|apply Kd.R_drew));exact Kd.R_mono HO312.out (fun _ hk=>⟨hk.1.2,hk.2⟩)),(by (with_reducible repeat (first|apply Kd.R_alloc|apply Kd.R_drewN|apply Kd.R_drew));exact Kd.R_mono HO316.out (fun _ hk=>⟨hk.1.2,hk.2⟩)),(by (with_reducible repeat (first|apply Kd.R_alloc|apply Kd.R_drewN|apply Kd.R_drew));exact Kd.R_mono HO319.out (fun _ hk=>⟨hk.1.2,hk.2⟩)),(kz BK295.out),(kz BK296.out),(kz BK321.out),GW321.out,GE321.out,NB295_321.out,NB321_295.out,NB296_321.out,NB321_296.out,bs⟩)
                ·skip
                 refine box_step ?hg (N:=6) ?hd (cs:=#[.int .i64 0,.slice none 0 0,.slice none 0 0]) (t:=30) ?hr ?_;(case hd=>rfl);(case hg=>rfl);(case hr=>first|(go_simp;done)|(go_simp;rfl))
                 intro gb321 hg w59 hbox hb
                 have n0_:=Aside0.mk (kb BK295.out hb)
                 have n1_:=Aside0.mk (kb BK296.out hb)
                 have n2_:=Aside0.mk (below_step bs hb)
                 have n3_:=Aside0.mk (hbox)
                 have n4_:=Aside0.mk ((by rw [hg];exact (below_size bs) : w.heap.size ≤ gb321))
                 have n5_:=Aside0.mk ((by rw [hg];exact (below_size bs) : w.heap.size ≤ gb321))
                 have n6_:=Aside0.mk (kn hg BK295.out)
                 have n7_:=Aside0.mk (km hg BK295.out)
                 have n8_:=Aside0.mk (kn hg BK296.out)
                 have n9_:=Aside0.mk (km hg BK296.out)
                 clear BK295
                 clear BK296
                 clear HB
                 have BK295:=n0_
                 have BK296:=n1_
                 have HB:=n2_
                 have BK321:=n3_
                 have GW321:=n4_
                 have GE321:=n5_
                 have NB295_321:=n6_
                 have NB321_295:=n7_
                 have NB296_321:=n8_
                 have NB321_296:=n9_
                 clear n0_ n1_ n2_ n3_ n4_ n5_ n6_ n7_ n8_ n9_
                 clear hb hbox hg
                 refine hK.out _ _ ⟨(blk_cell BK295.out 0).trans rfl,(blk_cell BK295.out 1).trans rfl,(blk_cell BK295.out 2).trans rfl,(blk_cell BK296.out 0).trans rfl,(blk_cell BK296.out 1).trans rfl,(blk_cell BK296.out 2).trans rfl⟩ (fun hHeld=>?_)
                 clear hK K
                 refine norm_ (a':=?_) ?_ ?_
                 rotate_left
                 ·show Act.put _ (some 6) _ = _
                  simp only [Act.put,xa,xb,xc,i64_w,i32_w]
                  rfl
                 refine one_ (i:=1) (N:=some 29) #[true,true,true,false,false,false,false,false,true,false,false] rfl rfl (one_of HT_.out (by kernel_rfl)) (by decide) (fun K hK=>?_)
                 refine goes_ Try.func17 (by kernel_rfl) rfl #[.agg #[.int .i64 a0_0,.slice A0_1 l0_1.length c0_1,.slice A0_2 l0_2.length c0_2]] (by rfl) rfl rfl mz ?_
                 with_reducible refine (laws_toPlan.calls k a0_0 _ _ l0_1 _ _ l0_2 t299 t300 t303 _ ?side1 ?side2 ?side3 ?side4 A18.out).mono ?_
                 (case side1=>exact cz (Kd.C_below HR0_1.out HB.out))
                 (case side2=>exact HC0_1.out)
                 (case side3=>exact cz (Kd.C_below HR0_2.out HB.out))
                 (case side4=>exact HC0_2.out)
                 rintro e w60 ⟨v301,v304,rfl,ho0,ho1,hb⟩
                 refine ⟨_,rfl,?_⟩
                 have n0_:=Aside0.mk (Kd.R_lower ho0 (below_size bs))
                 have n1_:=Aside0.mk (Kd.R_lower ho1 (below_size bs))
                 have n2_:=Aside0.mk (kb BK295.out hb)
                 have n3_:=Aside0.mk (kb BK296.out hb)
                 have n4_:=Aside0.mk (kb BK321.out hb)
                 have n5_:=Aside0.mk (below_step bs hb)
                 clear BK295
                 clear BK296
                 clear BK321
                 clear HB
                 have HO302:=n0_
                 have HO305:=n1_
                 have BK295:=n2_
                 have BK296:=n3_
                 have BK321:=n4_
                 have HB:=n5_
                 clear n0_ n1_ n2_ n3_ n4_ n5_
                 (try clear hb)
                 (try clear ho0)
                 (try clear ho1)
                 refine hK.out _ _ ⟨(blk_cell BK295.out 0).trans rfl,(blk_cell BK295.out 1).trans rfl,(blk_cell BK295.out 2).trans rfl,(blk_cell BK296.out 0).trans rfl,(blk_cell BK296.out 1).trans rfl,(blk_cell BK296.out 2).trans rfl⟩ (fun hHeld=>?_)
                 clear hK K
                 refine norm_ (a':=?_) ?_ ?_
                 rotate_left
                 ·show Act.put _ (some 29) _ = _
                  simp only [Act.put,xa,xb,xc,i64_w,i32_w]
                  rfl
                 refine one_ (i:=3) (N:=some 31) #[true,true,true,true,false,false,false,false,true,false,false] rfl rfl (one_of HT_.out (by kernel_rfl)) (by decide) (fun K hK=>?_)
                 refine goes_ Try.func17 (by kernel_rfl) rfl #[.agg #[.int .i64 a1_0,.slice A1_1 l1_1.length c1_1,.slice A1_2 l1_2.length c1_2]] (by rfl) rfl rfl mz ?_
                 with_reducible refine (laws_toPlan.calls k a1_0 _ _ l1_1 _ _ l1_2 t306 t307 t310 _ ?side1 ?side2 ?side3 ?side4 A19.out).mono ?_
                 (case side1=>exact cz (Kd.C_below HR1_1.out HB.out))
                 (case side2=>exact HC1_1.out)
                 (case side3=>exact cz (Kd.C_below HR1_2.out HB.out))
                 (case side4=>exact HC1_2.out)
                 rintro e w61 ⟨v308,v311,rfl,ho0,ho1,hb⟩
                 refine ⟨_,rfl,?_⟩
                 have n0_:=Aside0.mk (Kd.R_elder' (rz HO302.out) (Kd.R_base ho0) hb)
                 have n1_:=Aside0.mk (Kd.R_elder' (rz HO305.out) (Kd.R_base ho1) hb)
                 have n2_:=Aside0.mk (Kd.R_lower (Kd.R_new' ho0 (Kd.R_lt (rz HO302.out))) (below_size bs))
                 have n3_:=Aside0.mk (Kd.R_lower (Kd.R_new' ho1 (Kd.R_lt (rz HO305.out))) (below_size bs))
                 have n4_:=Aside0.mk (kb BK295.out hb)
                 have n5_:=Aside0.mk (kb BK296.out hb)
                 have n6_:=Aside0.mk (kb BK321.out hb)
                 have n7_:=Aside0.mk (below_step bs hb)
                 clear HO302
                 clear HO305
                 clear BK295
                 clear BK296
                 clear BK321
                 clear HB
                 have HO302:=n0_
                 have HO305:=n1_
                 have HO309:=n2_
                 have HO312:=n3_
                 have BK295:=n4_
                 have BK296:=n5_
                 have BK321:=n6_
                 have HB:=n7_
                 clear n0_ n1_ n2_ n3_ n4_ n5_ n6_ n7_
                 (try clear hb)
                 (try clear ho0)
                 (try clear ho1)
                 obtain ⟨Ao62,co62,eo62⟩:=Kd.R_slice HO302.out
                 (first|subst eo62|(injection eo62 with f1_ f2_ f3_;have f4_:=f1_.symm;have f5_:=f3_.symm;clear f1_ f2_ f3_;subst f4_;subst f5_))
                 obtain ⟨Ao63,co63,eo63⟩:=Kd.R_slice HO305.out
                 (first|subst eo63|(injection eo63 with f1_ f2_ f3_;have f4_:=f1_.symm;have f5_:=f3_.symm;clear f1_ f2_ f3_;subst f4_;subst f5_))
                 obtain ⟨Ao64,co64,eo64⟩:=Kd.R_slice HO309.out
                 (first|subst eo64|(injection eo64 with f1_ f2_ f3_;have f4_:=f1_.symm;have f5_:=f3_.symm;clear f1_ f2_ f3_;subst f4_;subst f5_))
                 obtain ⟨Ao65,co65,eo65⟩:=Kd.R_slice HO312.out
                 (first|subst eo65|(injection eo65 with f1_ f2_ f3_;have f4_:=f1_.symm;have f5_:=f3_.symm;clear f1_ f2_ f3_;subst f4_;subst f5_))
                 refine hK.out _ _ ⟨(blk_cell BK295.out 0).trans rfl,(blk_cell BK295.out 1).trans rfl,(blk_cell BK295.out 2).trans rfl,(blk_cell BK296.out 0).trans rfl,(blk_cell BK296.out 1).trans rfl,(blk_cell BK296.out 2).trans rfl⟩ (fun hHeld=>?_)
                 clear hK K
                 refine norm_ (a':=?_) ?_ ?_
                 rotate_left
                 ·show Act.put _ (some 31) _ = _
                  simp only [Act.put,xa,xb,xc,i64_w,i32_w]
                  rfl
                 refine one_ (i:=4) (N:=some 32) #[true,true,true,true,true,false,false,false,true,false,false] rfl rfl (one_of HT_.out (by kernel_rfl)) (by decide) (fun K hK=>?_)
                 refine goes_ Try.func49 (by kernel_rfl) rfl #[.agg #[.int .i64 t299,.slice Ao62 t300.length co62,.slice Ao63 t303.length co63],.agg #[.int .i64 t306,.slice Ao64 t307.length co64,.slice Ao65 t310.length co65]] (by rfl) rfl rfl mz ?_
                 with_reducible refine (spec_ComposePlans.calls k t299 _ _ t300 _ _ t303 t306 _ _ t307 _ _ t310 t313 t314 t317 t320 _ ?side1 ?side2 ?side3 ?side4 ?side5 ?side6 ?side7 ?side8 A20.out).mono ?_
                 (case side1=>exact cz (Kd.R_reads' HO302.out).2.2)
                 (case side2=>exact (Kd.R_reads' HO302.out).2.1)
                 (case side3=>exact cz (Kd.R_reads' HO305.out).2.2)
                 (case side4=>exact (Kd.R_reads' HO305.out).2.1)
                 (case side5=>exact cz (Kd.R_reads' HO309.out).2.2)
                 (case side6=>exact (Kd.R_reads' HO309.out).2.1)
                 (case side7=>exact cz (Kd.R_reads' HO312.out).2.2)
                 (case side8=>exact (Kd.R_reads' HO312.out).2.1)
                 rintro e w66 ⟨v315,v318,rfl,ho0,ho1,hb⟩
                 refine ⟨_,rfl,?_⟩
                 have n0_:=Aside0.mk (Kd.R_elder' (rz HO302.out) (Kd.R_base ho0) hb)
                 have n1_:=Aside0.mk (Kd.R_elder' (rz HO305.out) (Kd.R_base ho1) hb)
                 have n2_:=Aside0.mk (Kd.R_elder' (rz HO309.out) (Kd.R_base ho0) hb)
                 have n3_:=Aside0.mk (Kd.R_elder' (rz HO312.out) (Kd.R_base ho1) hb)
                 have n4_:=Aside0.mk (Kd.R_lower (Kd.R_new' (Kd.R_new' ho0 (Kd.R_lt (rz HO302.out))) (Kd.R_lt (rz HO309.out))) (below_size bs))
                 have n5_:=Aside0.mk (Kd.R_lower (Kd.R_new' (Kd.R_new' ho1 (Kd.R_lt (rz HO305.out))) (Kd.R_lt (rz HO312.out))) (below_size bs))
                 have n6_:=Aside0.mk (kb BK295.out hb)
                 have n7_:=Aside0.mk (kb BK296.out hb)
                 have n8_:=Aside0.mk (kb BK321.out hb)
                 have n9_:=Aside0.mk (below_step bs hb)
                 clear HO302
                 clear HO305
                 clear HO309
                 clear HO312
                 clear BK295
                 clear BK296
                 clear BK321
                 clear HB
                 have HO302:=n0_
                 have HO305:=n1_
                 have HO309:=n2_
                 have HO312:=n3_
                 have HO316:=n4_
                 have HO319:=n5_
                 have BK295:=n6_
                 have BK296:=n7_
                 have BK321:=n8_
                 have HB:=n9_
                 clear n0_ n1_ n2_ n3_ n4_ n5_ n6_ n7_ n8_ n9_
                 (try clear hb)
                 (try clear ho0)
                 (try clear ho1)
                 refine hK.out _ _ ⟨(blk_cell BK295.out 0).trans rfl,(blk_cell BK295.out 1).trans rfl,(blk_cell BK295.out 2).trans rfl,(blk_cell BK296.out 0).trans rfl,(blk_cell BK296.out 1).trans rfl,(blk_cell BK296.out 2).trans rfl⟩ (fun hHeld=>?_)
                 clear hK K
                 refine norm_ (a':=?_) ?_ ?_
                 rotate_left
                 ·show Act.put _ (some 32) _ = _
                  simp only [Act.put,xa,xb,xc,i64_w,i32_w]
                  rfl
                 refine pure_ (i:=5) (N:=some 27) (v:=?_) (a':=?_) #[true,true,true,true,true,true,false,false,true,false,false] rfl rfl (any_of HT_.out (by kernel_rfl)) (fun _ _ _ h=>h) (Or.inl ⟨by rfl,?_⟩) ?_ ?_
                 rotate_left
                 ·intro w'
                  go_simp
                  with_reducible rfl
                 rotate_left
                 ·simp only [Act.put,xa,xb,xc,i64_w,i32_w]
                  rfl
                 refine pure_ (i:=6) (N:=some 33) (v:=?_) (a':=?_) #[true,true,true,true,true,true,true,false,true,false,false] rfl rfl (any_of HT_.out (by kernel_rfl)) (fun _ _ _ h=>h) (Or.inl ⟨by rfl,?_⟩) ?_ ?_
                 rotate_left
                 ·intro w'
                  go_simp
                  with_reducible rfl
                 rotate_left
                 ·simp only [Act.put,xa,xb,xc,i64_w,i32_w]
                  rfl
                 refine pure_ (i:=7) (N:=some 34) (v:=?_) (a':=?_) #[true,true,true,true,true,true,true,true,true,false,false] rfl rfl (any_of HT_.out (by kernel_rfl)) (fun _ _ _ h=>h) (Or.inl ⟨by rfl,?_⟩) ?_ ?_
                 rotate_left
                 ·intro w'
                  go_simp
                  with_reducible rfl
                 rotate_left
                 ·simp only [Act.put,xa,xb,xc,i64_w,i32_w]
                  rfl
                 exact norm_ (by simp only [putAll,Act.put,xa,xb,xc]) (hCont (.slice Ao62 t300.length co62,.slice Ao63 t303.length co63,.slice Ao64 t307.length co64,.slice Ao65 t310.length co65,v315,v318,gb321) _ ⟨hHeld,(by (with_reducible repeat (first|apply Kd.R_alloc|apply Kd.R_drewN|apply Kd.R_drew));exact Kd.R_mono HO302.out (fun _ hk=>⟨hk.1.2,hk.2⟩)),(by (with_reducible repeat (first|apply Kd.R_alloc|apply Kd.R_drewN|apply Kd.R_drew));exact Kd.R_mono HO305.out (fun _ hk=>⟨hk.1.2,hk.2⟩)),(by (with_reducible repeat (first|apply Kd.R_alloc|apply Kd.R_drewN|apply Kd.R_drew));exact Kd.R_mono HO309.out (fun _ hk=>⟨hk.1.2,hk.2⟩)),(by (with_reducible repeat (first|apply Kd.R_alloc|apply Kd.R_drewN|apply Kd.R_drew));exact Kd.R_mono HO312.out (fun _ hk=>⟨hk.1.2,hk.2⟩)),(by (with_reducible repeat (first|apply Kd.R_alloc|apply Kd.R_drewN|apply Kd.R_drew));exact Kd.R_mono HO316.out (fun _ hk=>⟨hk.1.2,hk.2⟩)),(by (with_reducible repeat (first|apply Kd.R_alloc|apply Kd.R_drewN|apply Kd.R_drew));exact Kd.R_mono HO319.out (fun _ hk=>⟨hk.1.2,hk.2⟩)),(kz BK295.out),(kz BK296.out),(kz BK321.out),GW321.out,GE321.out,NB295_321.out,NB321_295.out,NB296_321.out,NB321_296.out,bs⟩)
               rintro ⟨v301,v304,v308,v311,v315,v318,gb321⟩ w67 ⟨hS_,h0_,h1_,h2_,h3_,h4_,h5_,h6_,h7_,h8_,h9_,h10_,h11_,h12_,h13_,h14_,h15_⟩
               have n0_ : Aside0 (Kd.R k69 69 w67 w.heap.size (fun k_=>some k_ ≠ (v308 : Value).ownBlock ∧ some k_ ≠ (v315 : Value).ownBlock) v301 t300):=⟨h0_⟩
               have n1_ : Aside0 (Kd.R (Kd.int .i64) 3 w67 w.heap.size (fun k_=>some k_ ≠ (v311 : Value).ownBlock ∧ some k_ ≠ (v318 : Value).ownBlock) v304 t303):=⟨h1_⟩
               have n2_ : Aside0 (Kd.R k69 69 w67 w.heap.size (fun k_=>some k_ ≠ (v301 : Value).ownBlock ∧ some k_ ≠ (v315 : Value).ownBlock) v308 t307):=⟨h2_⟩
               have n3_ : Aside0 (Kd.R (Kd.int .i64) 3 w67 w.heap.size (fun k_=>some k_ ≠ (v304 : Value).ownBlock ∧ some k_ ≠ (v318 : Value).ownBlock) v311 t310):=⟨h3_⟩
               have n4_ : Aside0 (Kd.R k69 69 w67 w.heap.size (fun k_=>some k_ ≠ (v301 : Value).ownBlock ∧ some k_ ≠ (v308 : Value).ownBlock) v315 t314):=⟨h4_⟩
               have n5_ : Aside0 (Kd.R (Kd.int .i64) 3 w67 w.heap.size (fun k_=>some k_ ≠ (v304 : Value).ownBlock ∧ some k_ ≠ (v311 : Value).ownBlock) v318 t317):=⟨h5_⟩
               have n6_ : Aside0 (w67.heap[gb295]? = some (.cells #[.int .i64 a0_0,.slice A0_1 l0_1.length c0_1,.slice A0_2 l0_2.length c0_2] 25 (0,0))):=⟨h6_⟩
               have n7_ : Aside0 (w67.heap[gb296]? = some (.cells #[.int .i64 a1_0,.slice A1_1 l1_1.length c1_1,.slice A1_2 l1_2.length c1_2] 25 (0,0))):=⟨h7_⟩
               have n8_ : Aside0 (w67.heap[gb321]? = some (.cells #[.int .i64 0,.slice none 0 0,.slice none 0 0] 30 (0,0))):=⟨h8_⟩
               have n10_ : Aside0 (w.heap.size ≤ gb321):=⟨h10_⟩
               have n11_ : Aside0 (gb295 ≠ gb321):=⟨h11_⟩
               have n12_ : Aside0 (gb321 ≠ gb295):=⟨h12_⟩
               have n13_ : Aside0 (gb296 ≠ gb321):=⟨h13_⟩
               have n14_ : Aside0 (gb321 ≠ gb296):=⟨h14_⟩
               have n15_ : Aside0 (Below w.heap.size w w67):=⟨h15_⟩
               clear BK295
               clear BK296
               clear HB
               clear h0_ h1_ h2_ h3_ h4_ h5_ h6_ h7_ h8_ h9_ h10_ h11_ h12_ h13_ h14_ h15_
               have HO302:=n0_
               have HO305:=n1_
               have HO309:=n2_
               have HO312:=n3_
               have HO316:=n4_
               have HO319:=n5_
               have BK295:=n6_
               have BK296:=n7_
               have BK321:=n8_
               have GE321:=n10_
               have NB295_321:=n11_
               have NB321_295:=n12_
               have NB296_321:=n13_
               have NB321_296:=n14_
               have HB:=n15_
               clear n0_ n1_ n2_ n3_ n4_ n5_ n6_ n7_ n8_ n10_ n11_ n12_ n13_ n14_ n15_
               have hHeld : w67.cell? ⟨gb295,0,none⟩ = some (.int .i64 a0_0) ∧ w67.cell? ⟨gb295,1,none⟩ = some (.slice A0_1 l0_1.length c0_1) ∧ w67.cell? ⟨gb295,2,none⟩ = some (.slice A0_2 l0_2.length c0_2) ∧ w67.cell? ⟨gb296,0,none⟩ = some (.int .i64 a1_0) ∧ w67.cell? ⟨gb296,1,none⟩ = some (.slice A1_1 l1_1.length c1_1) ∧ w67.cell? ⟨gb296,2,none⟩ = some (.slice A1_2 l1_2.length c1_2):=hS_
               obtain ⟨Ao69,co69,eo69⟩:=Kd.R_slice HO316.out
               (first|subst eo69|(injection eo69 with f1_ f2_ f3_;have f4_:=f1_.symm;have f5_:=f3_.symm;clear f1_ f2_ f3_;subst f4_;subst f5_))
               obtain ⟨Ao71,co71,eo71⟩:=Kd.R_slice HO319.out
               (first|subst eo71|(injection eo71 with f1_ f2_ f3_;have f4_:=f1_.symm;have f5_:=f3_.symm;clear f1_ f2_ f3_;subst f4_;subst f5_))
               refine norm_ (a':=?_) ?_ ?_
               rotate_left
               ·simp only [putAll,Act.put,xa,xb,xc]
                rfl
               refine one_ (i:=9) (N:=none) #[true,true,true,true,true,true,true,true,true,true,false] rfl rfl (one_of HT_.out (by kernel_rfl)) (by decide) (fun K hK=>?_)
               have hs68 : w67.cell? ⟨gb321,0,none⟩ = some (.int .i64 0):=(blk_cell BK321.out 0).trans rfl
               have hfs68:=blk_frozen BK321.out 0
               have hns68_0:=NB295_321.out
               have hns68_1:=NB296_321.out
               have hms68_0:=NB321_295.out
               have hms68_1:=NB321_296.out
               have hs70 : w67.cell? ⟨gb321,1,none⟩ = some (.slice none 0 0):=(blk_cell BK321.out 1).trans rfl
               have hfs70:=blk_frozen BK321.out 1
               have hns70_0:=NB295_321.out
               have hns70_1:=NB296_321.out
               have hms70_0:=NB321_295.out
               have hms70_1:=NB321_296.out
               have hs72 : w67.cell? ⟨gb321,2,none⟩ = some (.slice none 0 0):=(blk_cell BK321.out 2).trans rfl
               have hfs72:=blk_frozen BK321.out 2
               have hns72_0:=NB295_321.out
               have hns72_1:=NB296_321.out
               have hms72_0:=NB321_295.out
               have hms72_1:=NB321_296.out
               refine skip_ (w1:=?_) (by rfl) rfl ?_ ?_
               rotate_left
               ·go_simp
                rfl
               refine hK.out _ _ ⟨((cell_far (p:=⟨gb321,_,none⟩) NB295_321.out _).trans (((cell_far (p:=⟨gb321,_,none⟩) NB295_321.out _).trans (((cell_far (p:=⟨gb321,_,none⟩) NB295_321.out _).trans (hHeld.1)))))),((cell_far (p:=⟨gb321,_,none⟩) NB295_321.out _).trans (((cell_far (p:=⟨gb321,_,none⟩) NB295_321.out _).trans (((cell_far (p:=⟨gb321,_,none⟩) NB295_321.out _).trans (hHeld.2.1)))))),((cell_far (p:=⟨gb321,_,none⟩) NB295_321.out _).trans (((cell_far (p:=⟨gb321,_,none⟩) NB295_321.out _).trans (((cell_far (p:=⟨gb321,_,none⟩) NB295_321.out _).trans (hHeld.2.2.1)))))),((cell_far (p:=⟨gb321,_,none⟩) NB296_321.out _).trans (((cell_far (p:=⟨gb321,_,none⟩) NB296_321.out _).trans (((cell_far (p:=⟨gb321,_,none⟩) NB296_321.out _).trans (hHeld.2.2.2.1)))))),((cell_far (p:=⟨gb321,_,none⟩) NB296_321.out _).trans (((cell_far (p:=⟨gb321,_,none⟩) NB296_321.out _).trans (((cell_far (p:=⟨gb321,_,none⟩) NB296_321.out _).trans (hHeld.2.2.2.2.1)))))),((cell_far (p:=⟨gb321,_,none⟩) NB296_321.out _).trans (((cell_far (p:=⟨gb321,_,none⟩) NB296_321.out _).trans (((cell_far (p:=⟨gb321,_,none⟩) NB296_321.out _).trans (hHeld.2.2.2.2.2))))))⟩ (fun hHeld=>?_)
               clear hK K
               refine pure_ (i:=10) (N:=some 7) (v:=?_) (a':=?_) #[true,true,true,true,true,true,true,true,true,true,true] rfl rfl (any_of HT_.out (by kernel_rfl)) (fun _ _ _ h=>h) (Or.inl ⟨by rfl,?_⟩) ?_ ?_
               rotate_left
               ·intro w'
                go_simp
                with_reducible rfl
               rotate_left
               ·simp only [Act.put,xa,xb,xc,i64_w,i32_w]
                rfl
               refine done_ (done_of HT_.out (by kernel_rfl)) ?_
               have hnb73:=NB295_321.out
               have hnc73:=NB321_295.out
               have hcz74_0 : w67.cell? ⟨gb295,0,none⟩ = some (.int .i64 a0_0):=(blk_cell BK295.out 0).trans rfl
               have hcz74_1 : w67.cell? ⟨gb295,1,none⟩ = some (.slice A0_1 l0_1.length c0_1):=(blk_cell BK295.out 1).trans rfl
               have hcz74_2 : w67.cell? ⟨gb295,2,none⟩ = some (.slice A0_2 l0_2.length c0_2):=(blk_cell BK295.out 2).trans rfl
               have hfz74_0:=blk_frozen BK295.out 0
               have hfz74_1:=blk_frozen BK295.out 1
               have hfz74_2:=blk_frozen BK295.out 2
               try go_wp2_with (first|((with_reducible refine gate_callee (f:=17) rfl ?_);refine goesL_ (some 36) rfl rfl Try.func17 (by kernel_rfl) rfl #[.agg #[.int .i64 a0_0,.slice A0_1 l0_1.length c0_1,.slice A0_2 l0_2.length c0_2]] rfl mz ?_;(with_reducible refine (laws_toPlan.calls k a0_0 _ _ l0_1 _ _ l0_2 t322 t323 t326 _ ?side1 ?side2 ?side3 ?side4 A21.out).mono ?_);(case side1=>exact Kd.C_below HR0_1.out bs);(case side2=>exact HC0_1.out);(case side3=>exact Kd.C_below HR0_2.out bs);(case side4=>exact HC0_2.out);rintro e w75 ⟨v324,v327,rfl,ho0,ho1,hb⟩;refine ⟨_,rfl,?_⟩;have n4_:=Aside0.mk (Kd.R_elder' (by (with_reducible repeat (first|apply Kd.R_alloc|apply Kd.R_drewN|apply Kd.R_drew));exact (Kd.R_mono (Kd.R_far (p:=⟨gb321,2,none⟩) (Kd.R_far (p:=⟨gb321,1,none⟩) (Kd.R_far (p:=⟨gb321,0,none⟩) (Kd.R_types HO316.out BK321.out (by decide)) (fun _ hk=>hk.2) (.int .i64 t313)) (fun _ hk=>hk.2) (.slice Ao69 t314.length co69)) (fun _ hk=>hk.2) (.slice Ao71 t317.length co71)) (fun _ h_=>h_.1))) (Kd.R_base ho0) hb);have n5_:=Aside0.mk (Kd.R_elder' (by (with_reducible repeat (first|apply Kd.R_alloc|apply Kd.R_drewN|apply Kd.R_drew));exact (Kd.R_mono (Kd.R_far (p:=⟨gb321,2,none⟩) (Kd.R_far (p:=⟨gb321,1,none⟩) (Kd.R_far (p:=⟨gb321,0,none⟩) (Kd.R_types HO319.out BK321.out (by decide)) (fun _ hk=>hk.2) (.int .i64 t313)) (fun _ hk=>hk.2) (.slice Ao69 t314.length co69)) (fun _ hk=>hk.2) (.slice Ao71 t317.length co71)) (fun _ h_=>h_.1))) (Kd.R_base ho1) hb);have n6_:=Aside0.mk (Kd.R_lower (Kd.R_new' (Kd.R_new' (Kd.R_new' ho0 (Kd.R_lt (by (with_reducible repeat (first|apply Kd.R_alloc|apply Kd.R_drewN|apply Kd.R_drew));exact (Kd.R_mono (Kd.R_far (p:=⟨gb321,2,none⟩) (Kd.R_far (p:=⟨gb321,1,none⟩) (Kd.R_far (p:=⟨gb321,0,none⟩) (Kd.R_types HO302.out BK321.out (by decide)) (fun _ hk=>hk.2) (.int .i64 t313)) (fun _ hk=>hk.2) (.slice Ao69 t314.length co69)) (fun _ hk=>hk.2) (.slice Ao71 t317.length co71)) (fun _ h_=>h_.1))))) (Kd.R_lt (by (with_reducible repeat (first|apply Kd.R_alloc|apply Kd.R_drewN|apply Kd.R_drew));exact (Kd.R_mono (Kd.R_far (p:=⟨gb321,2,none⟩) (Kd.R_far (p:=⟨gb321,1,none⟩) (Kd.R_far (p:=⟨gb321,0,none⟩) (Kd.R_types HO309.out BK321.out (by decide)) (fun _ hk=>hk.2) (.int .i64 t313)) (fun _ hk=>hk.2) (.slice Ao69 t314.length co69)) (fun _ hk=>hk.2) (.slice Ao71 t317.length co71)) (fun _ h_=>h_.1))))) (Kd.R_lt (by (with_reducible repeat (first|apply Kd.R_alloc|apply Kd.R_drewN|apply Kd.R_drew));exact (Kd.R_mono (Kd.R_far (p:=⟨gb321,2,none⟩) (Kd.R_far (p:=⟨gb321,1,none⟩) (Kd.R_far (p:=⟨gb321,0,none⟩) (Kd.R_types HO316.out BK321.out (by decide)) (fun _ hk=>hk.2) (.int .i64 t313)) (fun _ hk=>hk.2) (.slice Ao69 t314.length co69)) (fun _ hk=>hk.2) (.slice Ao71 t317.length co71)) (fun _ h_=>h_.1))))) (below_size bs));have n7_:=Aside0.mk (Kd.R_lower (Kd.R_new' (Kd.R_new' (Kd.R_new' ho1 (Kd.R_lt (by (with_reducible repeat (first|apply Kd.R_alloc|apply Kd.R_drewN|apply Kd.R_drew));exact (Kd.R_mono (Kd.R_far (p:=⟨gb321,2,none⟩) (Kd.R_far (p:=⟨gb321,1,none⟩) (Kd.R_far (p:=⟨gb321,0,none⟩) (Kd.R_types HO305.out BK321.out (by decide)) (fun _ hk=>hk.2) (.int .i64 t313)) (fun _ hk=>hk.2) (.slice Ao69 t314.length co69)) (fun _ hk=>hk.2) (.slice Ao71 t317.length co71)) (fun _ h_=>h_.1))))) (Kd.R_lt (by (with_reducible repeat (first|apply Kd.R_alloc|apply Kd.R_drewN|apply Kd.R_drew));exact (Kd.R_mono (Kd.R_far (p:=⟨gb321,2,none⟩) (Kd.R_far (p:=⟨gb321,1,none⟩) (Kd.R_far (p:=⟨gb321,0,none⟩) (Kd.R_types HO312.out BK321.out (by decide)) (fun _ hk=>hk.2) (.int .i64 t313)) (fun _ hk=>hk.2) (.slice Ao69 t314.length co69)) (fun _ hk=>hk.2) (.slice Ao71 t317.length co71)) (fun _ h_=>h_.1))))) (Kd.R_lt (by (with_reducible repeat (first|apply Kd.R_alloc|apply Kd.R_drewN|apply Kd.R_drew));exact (Kd.R_mono (Kd.R_far (p:=⟨gb321,2,none⟩) (Kd.R_far (p:=⟨gb321,1,none⟩) (Kd.R_far (p:=⟨gb321,0,none⟩) (Kd.R_types HO319.out BK321.out (by decide)) (fun _ hk=>hk.2) (.int .i64 t313)) (fun _ hk=>hk.2) (.slice Ao69 t314.length co69)) (fun _ hk=>hk.2) (.slice Ao71 t317.length co71)) (fun _ h_=>h_.1))))) (below_size bs));have n8_:=Aside0.mk (blk_below (g:=gb295) (o:=.cells #[.int .i64 a0_0,.slice A0_1 l0_1.length c0_1,.slice A0_2 l0_2.length c0_2] 25 (0,0)) (by (with_reducible repeat (first|refine blk_drewN ?_ _|refine blk_drew ?_|refine blk_alloc ?_ _));refine blk_far ?_ NB295_321.out _;(with_reducible repeat (first|refine blk_drewN ?_ _|refine blk_drew ?_|refine blk_alloc ?_ _));refine blk_far ?_ NB295_321.out _;(with_reducible repeat (first|refine blk_drewN ?_ _|refine blk_drew ?_|refine blk_alloc ?_ _));refine blk_far ?_ NB295_321.out _;(with_reducible repeat (first|refine blk_drewN ?_ _|refine blk_drew ?_|refine blk_alloc ?_ _));exact BK295.out) hb);have n9_:=Aside0.mk (blk_below (g:=gb296) (o:=.cells #[.int .i64 a1_0,.slice A1_1 l1_1.length c1_1,.slice A1_2 l1_2.length c1_2] 25 (0,0)) (by (with_reducible repeat (first|refine blk_drewN ?_ _|refine blk_drew ?_|refine blk_alloc ?_ _));refine blk_far ?_ NB296_321.out _;(with_reducible repeat (first|refine blk_drewN ?_ _|refine blk_drew ?_|refine blk_alloc ?_ _));refine blk_far ?_ NB296_321.out _;(with_reducible repeat (first|refine blk_drewN ?_ _|refine blk_drew ?_|refine blk_alloc ?_ _));refine blk_far ?_ NB296_321.out _;(with_reducible repeat (first|refine blk_drewN ?_ _|refine blk_drew ?_|refine blk_alloc ?_ _));exact BK296.out) hb);have n10_:=Aside0.mk (blk_below (g:=gb321) (o:=.cells #[.int .i64 t313,.slice Ao69 t314.length co69,.slice Ao71 t317.length co71] 30 (0,0)) (by (with_reducible repeat (first|refine blk_drewN ?_ _|refine blk_drew ?_|refine blk_alloc ?_ _));refine blk_put (cs:=#[.int .i64 t313,.slice Ao69 t314.length co69,.slice none 0 0]) ?_ 2 _ rfl;(with_reducible repeat (first|refine blk_drewN ?_ _|refine blk_drew ?_|refine blk_alloc ?_ _));refine blk_put (cs:=#[.int .i64 t313,.slice none 0 0,.slice none 0 0]) ?_ 1 _ rfl;(with_reducible repeat (first|refine blk_drewN ?_ _|refine blk_drew ?_|refine blk_alloc ?_ _));refine blk_put (cs:=#[.int .i64 0,.slice none 0 0,.slice none 0 0]) ?_ 0 _ rfl;(with_reducible repeat (first|refine blk_drewN ?_ _|refine blk_drew ?_|refine blk_alloc ?_ _));exact BK321.out) hb);have n11_:=Aside0.mk (below_step bs hb);clear HO302 HO305 HO309 HO312 HO316 HO319 BK295 BK296 BK321 HB;have HO316:=n4_;have HO319:=n5_;have HO325:=n6_;have HO328:=n7_;have BK295:=n8_;have BK296:=n9_;have BK321:=n10_;have HB:=n11_;clear n4_ n5_ n6_ n7_ n8_ n9_ n10_ n11_;(try clear hb);(try clear ho0);(try clear ho1))|((with_reducible refine gate_dst (N:=8) rfl ?_);refine box_event ?hg (N:=8) ?hd (cs:=#[.int .i64 0,.slice none 0 0,.slice none 0 0]) (t:=30) ?hr ?_;(case hd=>rfl);(case hg=>rfl);(case hr=>first|(go_simp;done)|(go_simp;rfl));intro gb329 hg w76 hbox hb;have n0_:=Aside0.mk (Kd.R_below (rz HO316.out) hb);have n1_:=Aside0.mk (Kd.R_below (rz HO319.out) hb);have n2_:=Aside0.mk (Kd.R_below (rz HO325.out) hb);have n3_:=Aside0.mk (Kd.R_below (rz HO328.out) hb);have n4_:=Aside0.mk (kb BK295.out hb);have n5_:=Aside0.mk (kb BK296.out hb);have n6_:=Aside0.mk (kb BK321.out hb);have n7_:=Aside0.mk (below_step bs hb);have n8_:=Aside0.mk (hbox);have n10_:=Aside0.mk ((by rw [hg];exact (below_size bs) : w.heap.size ≤ gb329));have n11_:=Aside0.mk (kn hg BK295.out);have n12_:=Aside0.mk (km hg BK295.out);have n13_:=Aside0.mk (kn hg BK296.out);have n14_:=Aside0.mk (km hg BK296.out);have n15_:=Aside0.mk (kn hg BK321.out);have n16_:=Aside0.mk (km hg BK321.out);clear HO316 HO319 HO325 HO328 BK295 BK296 BK321 HB;have HO316:=n0_;have HO319:=n1_;have HO325:=n2_;have HO328:=n3_;have BK295:=n4_;have BK296:=n5_;have BK321:=n6_;have HB:=n7_;have BK329:=n8_;have GE329:=n10_;have NB295_329:=n11_;have NB329_295:=n12_;have NB296_329:=n13_;have NB329_296:=n14_;have NB321_329:=n15_;have NB329_321:=n16_;clear n0_ n1_ n2_ n3_ n4_ n5_ n6_ n7_ n8_ n10_ n11_ n12_ n13_ n14_ n15_ n16_;clear hb hbox hg;have hnb77:=NB329_295.out;have hnc77:=NB295_329.out;have hnb78:=NB329_296.out;have hnc78:=NB296_329.out;have hnb79:=NB329_321.out;have hnc79:=NB321_329.out;have hcz80_0 : w76.cell? ⟨gb329,0,none⟩ = some (.int .i64 0):=(blk_cell BK329.out 0).trans rfl;have hcz80_1 : w76.cell? ⟨gb329,1,none⟩ = some (.slice none 0 0):=(blk_cell BK329.out 1).trans rfl;have hcz80_2 : w76.cell? ⟨gb329,2,none⟩ = some (.slice none 0 0):=(blk_cell BK329.out 2).trans rfl;have hfz80_0:=blk_frozen BK329.out 0;have hfz80_1:=blk_frozen BK329.out 1;have hfz80_2:=blk_frozen BK329.out 2;obtain ⟨Ao81,co81,eo81⟩:=Kd.R_slice HO325.out;subst eo81;obtain ⟨Ao82,co82,eo82⟩:=Kd.R_slice HO328.out;subst eo82;have hnb83:=NB296_321.out;have hnc83:=NB321_296.out;have hcz84_0 : w76.cell? ⟨gb296,0,none⟩ = some (.int .i64 a1_0):=(blk_cell BK296.out 0).trans rfl;have hcz84_1 : w76.cell? ⟨gb296,1,none⟩ = some (.slice A1_1 l1_1.length c1_1):=(blk_cell BK296.out 1).trans rfl;have hcz84_2 : w76.cell? ⟨gb296,2,none⟩ = some (.slice A1_2 l1_2.length c1_2):=(blk_cell BK296.out 2).trans rfl;have hfz84_0:=blk_frozen BK296.out 0;have hfz84_1:=blk_frozen BK296.out 1;have hfz84_2:=blk_frozen BK296.out 2)|((with_reducible refine gate_callee (f:=17) rfl ?_);refine goesL_ (some 38) rfl rfl Try.func17 (by kernel_rfl) rfl #[.agg #[.int .i64 a1_0,.slice A1_1 l1_1.length c1_1,.slice A1_2 l1_2.length c1_2]] rfl mz ?_;(with_reducible refine (laws_toPlan.calls k a1_0 _ _ l1_1 _ _ l1_2 t330 t331 t334 _ ?side1 ?side2 ?side3 ?side4 A22.out).mono ?_);(case side1=>exact Kd.C_below HR1_1.out bs);(case side2=>exact HC1_1.out);(case side3=>exact Kd.C_below HR1_2.out bs);(case side4=>exact HC1_2.out);rintro e w85 ⟨v332,v335,rfl,ho0,ho1,hb⟩;refine ⟨_,rfl,?_⟩;have n0_:=Aside0.mk (Kd.R_elder' (by (with_reducible repeat (first|apply Kd.R_alloc|apply Kd.R_drewN|apply Kd.R_drew));exact (Kd.R_mono (Kd.R_far (p:=⟨gb329,2,none⟩) (Kd.R_far (p:=⟨gb329,1,none⟩) (Kd.R_far (p:=⟨gb329,0,none⟩) (Kd.R_types HO316.out BK329.out (by decide)) (fun _ hk=>hk.2) (.int .i64 t322)) (fun _ hk=>hk.2) (.slice Ao81 t323.length co81)) (fun _ hk=>hk.2) (.slice Ao82 t326.length co82)) (fun _ h_=>h_.1))) (Kd.R_base ho0) hb);have n1_:=Aside0.mk (Kd.R_elder' (by (with_reducible repeat (first|apply Kd.R_alloc|apply Kd.R_drewN|apply Kd.R_drew));exact (Kd.R_mono (Kd.R_far (p:=⟨gb329,2,none⟩) (Kd.R_far (p:=⟨gb329,1,none⟩) (Kd.R_far (p:=⟨gb329,0,none⟩) (Kd.R_types HO319.out BK329.out (by decide)) (fun _ hk=>hk.2) (.int .i64 t322)) (fun _ hk=>hk.2) (.slice Ao81 t323.length co81)) (fun _ hk=>hk.2) (.slice Ao82 t326.length co82)) (fun _ h_=>h_.1))) (Kd.R_base ho1) hb);have n2_:=Aside0.mk (Kd.R_elder' (by (with_reducible repeat (first|apply Kd.R_alloc|apply Kd.R_drewN|apply Kd.R_drew));exact (Kd.R_mono (Kd.R_far (p:=⟨gb329,2,none⟩) (Kd.R_far (p:=⟨gb329,1,none⟩) (Kd.R_far (p:=⟨gb329,0,none⟩) (Kd.R_types HO325.out BK329.out (by decide)) (fun _ hk=>hk.2) (.int .i64 t322)) (fun _ hk=>hk.2) (.slice Ao81 t323.length co81)) (fun _ hk=>hk.2) (.slice Ao82 t326.length co82)) (fun _ h_=>h_.1))) (Kd.R_base ho0) hb);have n3_:=Aside0.mk (Kd.R_elder' (by (with_reducible repeat (first|apply Kd.R_alloc|apply Kd.R_drewN|apply Kd.R_drew));exact (Kd.R_mono (Kd.R_far (p:=⟨gb329,2,none⟩) (Kd.R_far (p:=⟨gb329,1,none⟩) (Kd.R_far (p:=⟨gb329,0,none⟩) (Kd.R_types HO328.out BK329.out (by decide)) (fun _ hk=>hk.2) (.int .i64 t322)) (fun _ hk=>hk.2) (.slice Ao81 t323.length co81)) (fun _ hk=>hk.2) (.slice Ao82 t326.length co82)) (fun _ h_=>h_.1))) (Kd.R_base ho1) hb);have n4_:=Aside0.mk (Kd.R_lower (Kd.R_new' (Kd.R_new' ho0 (Kd.R_lt (by (with_reducible repeat (first|apply Kd.R_alloc|apply Kd.R_drewN|apply Kd.R_drew));exact (Kd.R_mono (Kd.R_far (p:=⟨gb329,2,none⟩) (Kd.R_far (p:=⟨gb329,1,none⟩) (Kd.R_far (p:=⟨gb329,0,none⟩) (Kd.R_types HO316.out BK329.out (by decide)) (fun _ hk=>hk.2) (.int .i64 t322)) (fun _ hk=>hk.2) (.slice Ao81 t323.length co81)) (fun _ hk=>hk.2) (.slice Ao82 t326.length co82)) (fun _ h_=>h_.1))))) (Kd.R_lt (by (with_reducible repeat (first|apply Kd.R_alloc|apply Kd.R_drewN|apply Kd.R_drew));exact (Kd.R_mono (Kd.R_far (p:=⟨gb329,2,none⟩) (Kd.R_far (p:=⟨gb329,1,none⟩) (Kd.R_far (p:=⟨gb329,0,none⟩) (Kd.R_types HO325.out BK329.out (by decide)) (fun _ hk=>hk.2) (.int .i64 t322)) (fun _ hk=>hk.2) (.slice Ao81 t323.length co81)) (fun _ hk=>hk.2) (.slice Ao82 t326.length co82)) (fun _ h_=>h_.1))))) (below_size bs));have n5_:=Aside0.mk (Kd.R_lower (Kd.R_new' (Kd.R_new' ho1 (Kd.R_lt (by (with_reducible repeat (first|apply Kd.R_alloc|apply Kd.R_drewN|apply Kd.R_drew));exact (Kd.R_mono (Kd.R_far (p:=⟨gb329,2,none⟩) (Kd.R_far (p:=⟨gb329,1,none⟩) (Kd.R_far (p:=⟨gb329,0,none⟩) (Kd.R_types HO319.out BK329.out (by decide)) (fun _ hk=>hk.2) (.int .i64 t322)) (fun _ hk=>hk.2) (.slice Ao81 t323.length co81)) (fun _ hk=>hk.2) (.slice Ao82 t326.length co82)) (fun _ h_=>h_.1))))) (Kd.R_lt (by (with_reducible repeat (first|apply Kd.R_alloc|apply Kd.R_drewN|apply Kd.R_drew));exact (Kd.R_mono (Kd.R_far (p:=⟨gb329,2,none⟩) (Kd.R_far (p:=⟨gb329,1,none⟩) (Kd.R_far (p:=⟨gb329,0,none⟩) (Kd.R_types HO328.out BK329.out (by decide)) (fun _ hk=>hk.2) (.int .i64 t322)) (fun _ hk=>hk.2) (.slice Ao81 t323.length co81)) (fun _ hk=>hk.2) (.slice Ao82 t326.length co82)) (fun _ h_=>h_.1))))) (below_size bs));have n6_:=Aside0.mk (blk_below (g:=gb295) (o:=.cells #[.int .i64 a0_0,.slice A0_1 l0_1.length c0_1,.slice A0_2 l0_2.length c0_2] 25 (0,0)) (by (with_reducible repeat (first|refine blk_drewN ?_ _|refine blk_drew ?_|refine blk_alloc ?_ _));refine blk_far ?_ NB295_329.out _;(with_reducible repeat (first|refine blk_drewN ?_ _|refine blk_drew ?_|refine blk_alloc ?_ _));refine blk_far ?_ NB295_329.out _;(with_reducible repeat (first|refine blk_drewN ?_ _|refine blk_drew ?_|refine blk_alloc ?_ _));refine blk_far ?_ NB295_329.out _;(with_reducible repeat (first|refine blk_drewN ?_ _|refine blk_drew ?_|refine blk_alloc ?_ _));exact BK295.out) hb);have n7_:=Aside0.mk (blk_below (g:=gb296) (o:=.cells #[.int .i64 a1_0,.slice A1_1 l1_1.length c1_1,.slice A1_2 l1_2.length c1_2] 25 (0,0)) (by (with_reducible repeat (first|refine blk_drewN ?_ _|refine blk_drew ?_|refine blk_alloc ?_ _));refine blk_far ?_ NB296_329.out _;(with_reducible repeat (first|refine blk_drewN ?_ _|refine blk_drew ?_|refine blk_alloc ?_ _));refine blk_far ?_ NB296_329.out _;(with_reducible repeat (first|refine blk_drewN ?_ _|refine blk_drew ?_|refine blk_alloc ?_ _));refine blk_far ?_ NB296_329.out _;(with_reducible repeat (first|refine blk_drewN ?_ _|refine blk_drew ?_|refine blk_alloc ?_ _));exact BK296.out) hb);have n8_:=Aside0.mk (blk_below (g:=gb321) (o:=.cells #[.int .i64 t313,.slice Ao69 t314.length co69,.slice Ao71 t317.length co71] 30 (0,0)) (by (with_reducible repeat (first|refine blk_drewN ?_ _|refine blk_drew ?_|refine blk_alloc ?_ _));refine blk_far ?_ NB321_329.out _;(with_reducible repeat (first|refine blk_drewN ?_ _|refine blk_drew ?_|refine blk_alloc ?_ _));refine blk_far ?_ NB321_329.out _;(with_reducible repeat (first|refine blk_drewN ?_ _|refine blk_drew ?_|refine blk_alloc ?_ _));refine blk_far ?_ NB321_329.out _;(with_reducible repeat (first|refine blk_drewN ?_ _|refine blk_drew ?_|refine blk_alloc ?_ _));exact BK321.out) hb);have n9_:=Aside0.mk (blk_below (g:=gb329) (o:=.cells #[.int .i64 t322,.slice Ao81 t323.length co81,.slice Ao82 t326.length co82] 30 (0,0)) (by (with_reducible repeat (first|refine blk_drewN ?_ _|refine blk_drew ?_|refine blk_alloc ?_ _));refine blk_put (cs:=#[.int .i64 t322,.slice Ao81 t323.length co81,.slice none 0 0]) ?_ 2 _ rfl;(with_reducible repeat (first|refine blk_drewN ?_ _|refine blk_drew ?_|refine blk_alloc ?_ _));refine blk_put (cs:=#[.int .i64 t322,.slice none 0 0,.slice none 0 0]) ?_ 1 _ rfl;(with_reducible repeat (first|refine blk_drewN ?_ _|refine blk_drew ?_|refine blk_alloc ?_ _));refine blk_put (cs:=#[.int .i64 0,.slice none 0 0,.slice none 0 0]) ?_ 0 _ rfl;(with_reducible repeat (first|refine blk_drewN ?_ _|refine blk_drew ?_|refine blk_alloc ?_ _));exact BK329.out) hb);have n10_:=Aside0.mk (below_step bs hb);clear HO316 HO319 HO325 HO328 BK295 BK296 BK321 BK329 HB;have HO316:=n0_;have HO319:=n1_;have HO325:=n2_;have HO328:=n3_;have HO333:=n4_;have HO336:=n5_;have BK295:=n6_;have BK296:=n7_;have BK321:=n8_;have BK329:=n9_;have HB:=n10_;clear n0_ n1_ n2_ n3_ n4_ n5_ n6_ n7_ n8_ n9_ n10_;(try clear hb);(try clear ho0);(try clear ho1))|((with_reducible refine gate_dst (N:=9) rfl ?_);refine box_event ?hg (N:=9) ?hd (cs:=#[.int .i64 0,.slice none 0 0,.slice none 0 0]) (t:=30) ?hr ?_;(case hd=>rfl);(case hg=>rfl);(case hr=>first|(go_simp;done)|(go_simp;rfl));intro gb337 hg w86 hbox hb;have n0_:=Aside0.mk (Kd.R_below (rz HO316.out) hb);have n1_:=Aside0.mk (Kd.R_below (rz HO319.out) hb);have n2_:=Aside0.mk (Kd.R_below (rz HO325.out) hb);have n3_:=Aside0.mk (Kd.R_below (rz HO328.out) hb);have n4_:=Aside0.mk (Kd.R_below (rz HO333.out) hb);have n5_:=Aside0.mk (Kd.R_below (rz HO336.out) hb);have n6_:=Aside0.mk (kb BK295.out hb);have n7_:=Aside0.mk (kb BK296.out hb);have n8_:=Aside0.mk (kb BK321.out hb);have n9_:=Aside0.mk (kb BK329.out hb);have n10_:=Aside0.mk (below_step bs hb);have n11_:=Aside0.mk (hbox);have n13_:=Aside0.mk ((by rw [hg];exact (below_size bs) : w.heap.size ≤ gb337));have n14_:=Aside0.mk (kn hg BK295.out);have n15_:=Aside0.mk (km hg BK295.out);have n16_:=Aside0.mk (kn hg BK296.out);have n17_:=Aside0.mk (km hg BK296.out);have n18_:=Aside0.mk (kn hg BK321.out);have n19_:=Aside0.mk (km hg BK321.out);have n20_:=Aside0.mk (kn hg BK329.out);have n21_:=Aside0.mk (km hg BK329.out);clear HO316 HO319 HO325 HO328 HO333 HO336 BK295 BK296 BK321 BK329 HB;have HO316:=n0_;have HO319:=n1_;have HO325:=n2_;have HO328:=n3_;have HO333:=n4_;have HO336:=n5_;have BK295:=n6_;have BK296:=n7_;have BK321:=n8_;have BK329:=n9_;have HB:=n10_;have BK337:=n11_;have GE337:=n13_;have NB295_337:=n14_;have NB337_295:=n15_;have NB296_337:=n16_;have NB337_296:=n17_;have NB321_337:=n18_;have NB337_321:=n19_;have NB329_337:=n20_;have NB337_329:=n21_;clear n0_ n1_ n2_ n3_ n4_ n5_ n6_ n7_ n8_ n9_ n10_ n11_ n13_ n14_ n15_ n16_ n17_ n18_ n19_ n20_ n21_;clear hb hbox hg;have hnb87:=NB337_295.out;have hnc87:=NB295_337.out;have hnb88:=NB337_296.out;have hnc88:=NB296_337.out;have hnb89:=NB337_321.out;have hnc89:=NB321_337.out;have hnb90:=NB337_329.out;have hnc90:=NB329_337.out;have hcz91_0 : w86.cell? ⟨gb337,0,none⟩ = some (.int .i64 0):=(blk_cell BK337.out 0).trans rfl;have hcz91_1 : w86.cell? ⟨gb337,1,none⟩ = some (.slice none 0 0):=(blk_cell BK337.out 1).trans rfl;have hcz91_2 : w86.cell? ⟨gb337,2,none⟩ = some (.slice none 0 0):=(blk_cell BK337.out 2).trans rfl;have hfz91_0:=blk_frozen BK337.out 0;have hfz91_1:=blk_frozen BK337.out 1;have hfz91_2:=blk_frozen BK337.out 2;obtain ⟨Ao92,co92,eo92⟩:=Kd.R_slice HO333.out;subst eo92;obtain ⟨Ao93,co93,eo93⟩:=Kd.R_slice HO336.out;subst eo93;have hcz94_0 : w86.cell? ⟨gb329,0,none⟩ = some (.int .i64 t322):=(blk_cell BK329.out 0).trans rfl;have hcz94_1 : w86.cell? ⟨gb329,1,none⟩ = some (.slice Ao81 t323.length co81):=(blk_cell BK329.out 1).trans rfl;have hcz94_2 : w86.cell? ⟨gb329,2,none⟩ = some (.slice Ao82 t326.length co82):=(blk_cell BK329.out 2).trans rfl;have hfz94_0:=blk_frozen BK329.out 0;have hfz94_1:=blk_frozen BK329.out 1;have hfz94_2:=blk_frozen BK329.out 2)|((with_reducible refine gate_callee (f:=50) rfl ?_);refine goesL_ (some 42) rfl rfl Try.func50 (by kernel_rfl) rfl #[.agg #[.int .i64 t322,.slice Ao81 t323.length co81,.slice Ao82 t326.length co82],.agg #[.int .i64 t330,.slice Ao92 t331.length co92,.slice Ao93 t334.length co93]] rfl mz ?_;(with_reducible refine (impl_ComposePlans.calls k t322 _ _ t323 _ _ t326 t330 _ _ t331 _ _ t334 t338 t339 t342 t345 _ ?side1 ?side2 ?side3 ?side4 ?side5 ?side6 ?side7 ?side8 A23.out).mono ?_);(case side1=>refine (Kd.R_reads' (e:=69) (base:=w.heap.size) (ok:=fun k_=>((((True ∧ some k_ ≠ (v301 : Value).ownBlock) ∧ some k_ ≠ (v308 : Value).ownBlock) ∧ some k_ ≠ (.slice Ao69 t314.length co69 : Value).ownBlock) ∧ some k_ ≠ (.slice Ao92 t331.length co92 : Value).ownBlock)) (n:=t323.length) (c:=co81) ?_).2.2;exact (by (with_reducible repeat (first|apply Kd.R_alloc|apply Kd.R_drewN|apply Kd.R_drew));exact (Kd.R_mono (Kd.R_far (p:=⟨gb337,2,none⟩) (Kd.R_far (p:=⟨gb337,1,none⟩) (Kd.R_far (p:=⟨gb337,0,none⟩) (Kd.R_types HO325.out BK337.out (by decide)) (fun _ hk=>hk.2) (.int .i64 t330)) (fun _ hk=>hk.2) (.slice Ao92 t331.length co92)) (fun _ hk=>hk.2) (.slice Ao93 t334.length co93)) (fun _ h_=>h_.1))));(case side2=>exact (Kd.R_reads' HO325.out).2.1);(case side3=>refine (Kd.R_reads' (e:=3) (base:=w.heap.size) (ok:=fun k_=>((((True ∧ some k_ ≠ (v304 : Value).ownBlock) ∧ some k_ ≠ (v311 : Value).ownBlock) ∧ some k_ ≠ (.slice Ao71 t317.length co71 : Value).ownBlock) ∧ some k_ ≠ (.slice Ao93 t334.length co93 : Value).ownBlock)) (n:=t326.length) (c:=co82) ?_).2.2;exact (by (with_reducible repeat (first|apply Kd.R_alloc|apply Kd.R_drewN|apply Kd.R_drew));exact (Kd.R_mono (Kd.R_far (p:=⟨gb337,2,none⟩) (Kd.R_far (p:=⟨gb337,1,none⟩) (Kd.R_far (p:=⟨gb337,0,none⟩) (Kd.R_types HO328.out BK337.out (by decide)) (fun _ hk=>hk.2) (.int .i64 t330)) (fun _ hk=>hk.2) (.slice Ao92 t331.length co92)) (fun _ hk=>hk.2) (.slice Ao93 t334.length co93)) (fun _ h_=>h_.1))));(case side4=>exact (Kd.R_reads' HO328.out).2.1);(case side5=>refine (Kd.R_reads' (e:=69) (base:=w.heap.size) (ok:=fun k_=>((True ∧ some k_ ≠ (.slice Ao69 t314.length co69 : Value).ownBlock) ∧ some k_ ≠ (.slice Ao81 t323.length co81 : Value).ownBlock)) (n:=t331.length) (c:=co92) ?_).2.2;exact (by (with_reducible repeat (first|apply Kd.R_alloc|apply Kd.R_drewN|apply Kd.R_drew));exact (Kd.R_mono (Kd.R_far (p:=⟨gb337,2,none⟩) (Kd.R_far (p:=⟨gb337,1,none⟩) (Kd.R_far (p:=⟨gb337,0,none⟩) (Kd.R_types HO333.out BK337.out (by decide)) (fun _ hk=>hk.2) (.int .i64 t330)) (fun _ hk=>hk.2) (.slice Ao92 t331.length co92)) (fun _ hk=>hk.2) (.slice Ao93 t334.length co93)) (fun _ h_=>h_.1))));(case side6=>exact (Kd.R_reads' HO333.out).2.1);(case side7=>refine (Kd.R_reads' (e:=3) (base:=w.heap.size) (ok:=fun k_=>((True ∧ some k_ ≠ (.slice Ao71 t317.length co71 : Value).ownBlock) ∧ some k_ ≠ (.slice Ao82 t326.length co82 : Value).ownBlock)) (n:=t334.length) (c:=co93) ?_).2.2;exact (by (with_reducible repeat (first|apply Kd.R_alloc|apply Kd.R_drewN|apply Kd.R_drew));exact (Kd.R_mono (Kd.R_far (p:=⟨gb337,2,none⟩) (Kd.R_far (p:=⟨gb337,1,none⟩) (Kd.R_far (p:=⟨gb337,0,none⟩) (Kd.R_types HO336.out BK337.out (by decide)) (fun _ hk=>hk.2) (.int .i64 t330)) (fun _ hk=>hk.2) (.slice Ao92 t331.length co92)) (fun _ hk=>hk.2) (.slice Ao93 t334.length co93)) (fun _ h_=>h_.1))));(case side8=>exact (Kd.R_reads' HO336.out).2.1);rintro e w95 ⟨v340,v343,rfl,ho0,ho1,hb⟩;refine ⟨_,rfl,?_⟩;have n0_:=Aside0.mk (Kd.R_elder' (by (with_reducible repeat (first|apply Kd.R_alloc|apply Kd.R_drewN|apply Kd.R_drew));exact (Kd.R_mono (Kd.R_far (p:=⟨gb337,2,none⟩) (Kd.R_far (p:=⟨gb337,1,none⟩) (Kd.R_far (p:=⟨gb337,0,none⟩) (Kd.R_types HO316.out BK337.out (by decide)) (fun _ hk=>hk.2) (.int .i64 t330)) (fun _ hk=>hk.2) (.slice Ao92 t331.length co92)) (fun _ hk=>hk.2) (.slice Ao93 t334.length co93)) (fun _ h_=>h_.1))) (Kd.R_base ho0) hb);have n1_:=Aside0.mk (Kd.R_elder' (by (with_reducible repeat (first|apply Kd.R_alloc|apply Kd.R_drewN|apply Kd.R_drew));exact (Kd.R_mono (Kd.R_far (p:=⟨gb337,2,none⟩) (Kd.R_far (p:=⟨gb337,1,none⟩) (Kd.R_far (p:=⟨gb337,0,none⟩) (Kd.R_types HO319.out BK337.out (by decide)) (fun _ hk=>hk.2) (.int .i64 t330)) (fun _ hk=>hk.2) (.slice Ao92 t331.length co92)) (fun _ hk=>hk.2) (.slice Ao93 t334.length co93)) (fun _ h_=>h_.1))) (Kd.R_base ho1) hb);have n2_:=Aside0.mk (Kd.R_elder' (by (with_reducible repeat (first|apply Kd.R_alloc|apply Kd.R_drewN|apply Kd.R_drew));exact (Kd.R_mono (Kd.R_far (p:=⟨gb337,2,none⟩) (Kd.R_far (p:=⟨gb337,1,none⟩) (Kd.R_far (p:=⟨gb337,0,none⟩) (Kd.R_types HO325.out BK337.out (by decide)) (fun _ hk=>hk.2) (.int .i64 t330)) (fun _ hk=>hk.2) (.slice Ao92 t331.length co92)) (fun _ hk=>hk.2) (.slice Ao93 t334.length co93)) (fun _ h_=>h_.1))) (Kd.R_base ho0) hb);have n3_:=Aside0.mk (Kd.R_elder' (by (with_reducible repeat (first|apply Kd.R_alloc|apply Kd.R_drewN|apply Kd.R_drew));exact (Kd.R_mono (Kd.R_far (p:=⟨gb337,2,none⟩) (Kd.R_far (p:=⟨gb337,1,none⟩) (Kd.R_far (p:=⟨gb337,0,none⟩) (Kd.R_types HO328.out BK337.out (by decide)) (fun _ hk=>hk.2) (.int .i64 t330)) (fun _ hk=>hk.2) (.slice Ao92 t331.length co92)) (fun _ hk=>hk.2) (.slice Ao93 t334.length co93)) (fun _ h_=>h_.1))) (Kd.R_base ho1) hb);have n4_:=Aside0.mk (Kd.R_elder' (by (with_reducible repeat (first|apply Kd.R_alloc|apply Kd.R_drewN|apply Kd.R_drew));exact (Kd.R_mono (Kd.R_far (p:=⟨gb337,2,none⟩) (Kd.R_far (p:=⟨gb337,1,none⟩) (Kd.R_far (p:=⟨gb337,0,none⟩) (Kd.R_types HO333.out BK337.out (by decide)) (fun _ hk=>hk.2) (.int .i64 t330)) (fun _ hk=>hk.2) (.slice Ao92 t331.length co92)) (fun _ hk=>hk.2) (.slice Ao93 t334.length co93)) (fun _ h_=>h_.1))) (Kd.R_base ho0) hb);have n5_:=Aside0.mk (Kd.R_elder' (by (with_reducible repeat (first|apply Kd.R_alloc|apply Kd.R_drewN|apply Kd.R_drew));exact (Kd.R_mono (Kd.R_far (p:=⟨gb337,2,none⟩) (Kd.R_far (p:=⟨gb337,1,none⟩) (Kd.R_far (p:=⟨gb337,0,none⟩) (Kd.R_types HO336.out BK337.out (by decide)) (fun _ hk=>hk.2) (.int .i64 t330)) (fun _ hk=>hk.2) (.slice Ao92 t331.length co92)) (fun _ hk=>hk.2) (.slice Ao93 t334.length co93)) (fun _ h_=>h_.1))) (Kd.R_base ho1) hb);have n6_:=Aside0.mk (Kd.R_lower (Kd.R_new' (Kd.R_new' (Kd.R_new' ho0 (Kd.R_lt (by (with_reducible repeat (first|apply Kd.R_alloc|apply Kd.R_drewN|apply Kd.R_drew));exact (Kd.R_mono (Kd.R_far (p:=⟨gb337,2,none⟩) (Kd.R_far (p:=⟨gb337,1,none⟩) (Kd.R_far (p:=⟨gb337,0,none⟩) (Kd.R_types HO316.out BK337.out (by decide)) (fun _ hk=>hk.2) (.int .i64 t330)) (fun _ hk=>hk.2) (.slice Ao92 t331.length co92)) (fun _ hk=>hk.2) (.slice Ao93 t334.length co93)) (fun _ h_=>h_.1))))) (Kd.R_lt (by (with_reducible repeat (first|apply Kd.R_alloc|apply Kd.R_drewN|apply Kd.R_drew));exact (Kd.R_mono (Kd.R_far (p:=⟨gb337,2,none⟩) (Kd.R_far (p:=⟨gb337,1,none⟩) (Kd.R_far (p:=⟨gb337,0,none⟩) (Kd.R_types HO325.out BK337.out (by decide)) (fun _ hk=>hk.2) (.int .i64 t330)) (fun _ hk=>hk.2) (.slice Ao92 t331.length co92)) (fun _ hk=>hk.2) (.slice Ao93 t334.length co93)) (fun _ h_=>h_.1))))) (Kd.R_lt (by (with_reducible repeat (first|apply Kd.R_alloc|apply Kd.R_drewN|apply Kd.R_drew));exact (Kd.R_mono (Kd.R_far (p:=⟨gb337,2,none⟩) (Kd.R_far (p:=⟨gb337,1,none⟩) (Kd.R_far (p:=⟨gb337,0,none⟩) (Kd.R_types HO333.out BK337.out (by decide)) (fun _ hk=>hk.2) (.int .i64 t330)) (fun _ hk=>hk.2) (.slice Ao92 t331.length co92)) (fun _ hk=>hk.2) (.slice Ao93 t334.length co93)) (fun _ h_=>h_.1))))) (below_size bs));have n7_:=Aside0.mk (Kd.R_lower (Kd.R_new' (Kd.R_new' (Kd.R_new' ho1 (Kd.R_lt (by (with_reducible repeat (first|apply Kd.R_alloc|apply Kd.R_drewN|apply Kd.R_drew));exact (Kd.R_mono (Kd.R_far (p:=⟨gb337,2,none⟩) (Kd.R_far (p:=⟨gb337,1,none⟩) (Kd.R_far (p:=⟨gb337,0,none⟩) (Kd.R_types HO319.out BK337.out (by decide)) (fun _ hk=>hk.2) (.int .i64 t330)) (fun _ hk=>hk.2) (.slice Ao92 t331.length co92)) (fun _ hk=>hk.2) (.slice Ao93 t334.length co93)) (fun _ h_=>h_.1))))) (Kd.R_lt (by (with_reducible repeat (first|apply Kd.R_alloc|apply Kd.R_drewN|apply Kd.R_drew));exact (Kd.R_mono (Kd.R_far (p:=⟨gb337,2,none⟩) (Kd.R_far (p:=⟨gb337,1,none⟩) (Kd.R_far (p:=⟨gb337,0,none⟩) (Kd.R_types HO328.out BK337.out (by decide)) (fun _ hk=>hk.2) (.int .i64 t330)) (fun _ hk=>hk.2) (.slice Ao92 t331.length co92)) (fun _ hk=>hk.2) (.slice Ao93 t334.length co93)) (fun _ h_=>h_.1))))) (Kd.R_lt (by (with_reducible repeat (first|apply Kd.R_alloc|apply Kd.R_drewN|apply Kd.R_drew));exact (Kd.R_mono (Kd.R_far (p:=⟨gb337,2,none⟩) (Kd.R_far (p:=⟨gb337,1,none⟩) (Kd.R_far (p:=⟨gb337,0,none⟩) (Kd.R_types HO336.out BK337.out (by decide)) (fun _ hk=>hk.2) (.int .i64 t330)) (fun _ hk=>hk.2) (.slice Ao92 t331.length co92)) (fun _ hk=>hk.2) (.slice Ao93 t334.length co93)) (fun _ h_=>h_.1))))) (below_size bs));have n8_:=Aside0.mk (blk_below (g:=gb295) (o:=.cells #[.int .i64 a0_0,.slice A0_1 l0_1.length c0_1,.slice A0_2 l0_2.length c0_2] 25 (0,0)) (by (with_reducible repeat (first|refine blk_drewN ?_ _|refine blk_drew ?_|refine blk_alloc ?_ _));refine blk_far ?_ NB295_337.out _;(with_reducible repeat (first|refine blk_drewN ?_ _|refine blk_drew ?_|refine blk_alloc ?_ _));refine blk_far ?_ NB295_337.out _;(with_reducible repeat (first|refine blk_drewN ?_ _|refine blk_drew ?_|refine blk_alloc ?_ _));refine blk_far ?_ NB295_337.out _;(with_reducible repeat (first|refine blk_drewN ?_ _|refine blk_drew ?_|refine blk_alloc ?_ _));exact BK295.out) hb);have n9_:=Aside0.mk (blk_below (g:=gb296) (o:=.cells #[.int .i64 a1_0,.slice A1_1 l1_1.length c1_1,.slice A1_2 l1_2.length c1_2] 25 (0,0)) (by (with_reducible repeat (first|refine blk_drewN ?_ _|refine blk_drew ?_|refine blk_alloc ?_ _));refine blk_far ?_ NB296_337.out _;(with_reducible repeat (first|refine blk_drewN ?_ _|refine blk_drew ?_|refine blk_alloc ?_ _));refine blk_far ?_ NB296_337.out _;(with_reducible repeat (first|refine blk_drewN ?_ _|refine blk_drew ?_|refine blk_alloc ?_ _));refine blk_far ?_ NB296_337.out _;(with_reducible repeat (first|refine blk_drewN ?_ _|refine blk_drew ?_|refine blk_alloc ?_ _));exact BK296.out) hb);have n10_:=Aside0.mk (blk_below (g:=gb321) (o:=.cells #[.int .i64 t313,.slice Ao69 t314.length co69,.slice Ao71 t317.length co71] 30 (0,0)) (by (with_reducible repeat (first|refine blk_drewN ?_ _|refine blk_drew ?_|refine blk_alloc ?_ _));refine blk_far ?_ NB321_337.out _;(with_reducible repeat (first|refine blk_drewN ?_ _|refine blk_drew ?_|refine blk_alloc ?_ _));refine blk_far ?_ NB321_337.out _;(with_reducible repeat (first|refine blk_drewN ?_ _|refine blk_drew ?_|refine blk_alloc ?_ _));refine blk_far ?_ NB321_337.out _;(with_reducible repeat (first|refine blk_drewN ?_ _|refine blk_drew ?_|refine blk_alloc ?_ _));exact BK321.out) hb);have n11_:=Aside0.mk (blk_below (g:=gb329) (o:=.cells #[.int .i64 t322,.slice Ao81 t323.length co81,.slice Ao82 t326.length co82] 30 (0,0)) (by (with_reducible repeat (first|refine blk_drewN ?_ _|refine blk_drew ?_|refine blk_alloc ?_ _));refine blk_far ?_ NB329_337.out _;(with_reducible repeat (first|refine blk_drewN ?_ _|refine blk_drew ?_|refine blk_alloc ?_ _));refine blk_far ?_ NB329_337.out _;(with_reducible repeat (first|refine blk_drewN ?_ _|refine blk_drew ?_|refine blk_alloc ?_ _));refine blk_far ?_ NB329_337.out _;(with_reducible repeat (first|refine blk_drewN ?_ _|refine blk_drew ?_|refine blk_alloc ?_ _));exact BK329.out) hb);have n12_:=Aside0.mk (blk_below (g:=gb337) (o:=.cells #[.int .i64 t330,.slice Ao92 t331.length co92,.slice Ao93 t334.length co93] 30 (0,0)) (by (with_reducible repeat (first|refine blk_drewN ?_ _|refine blk_drew ?_|refine blk_alloc ?_ _));refine blk_put (cs:=#[.int .i64 t330,.slice Ao92 t331.length co92,.slice none 0 0]) ?_ 2 _ rfl;(with_reducible repeat (first|refine blk_drewN ?_ _|refine blk_drew ?_|refine blk_alloc ?_ _));refine blk_put (cs:=#[.int .i64 t330,.slice none 0 0,.slice none 0 0]) ?_ 1 _ rfl;(with_reducible repeat (first|refine blk_drewN ?_ _|refine blk_drew ?_|refine blk_alloc ?_ _));refine blk_put (cs:=#[.int .i64 0,.slice none 0 0,.slice none 0 0]) ?_ 0 _ rfl;(with_reducible repeat (first|refine blk_drewN ?_ _|refine blk_drew ?_|refine blk_alloc ?_ _));exact BK337.out) hb);have n13_:=Aside0.mk (below_step bs hb);clear HO316 HO319 HO325 HO328 HO333 HO336 BK295 BK296 BK321 BK329 BK337 HB;have HO316:=n0_;have HO319:=n1_;have HO325:=n2_;have HO328:=n3_;have HO333:=n4_;have HO336:=n5_;have HO341:=n6_;have HO344:=n7_;have BK295:=n8_;have BK296:=n9_;have BK321:=n10_;have BK329:=n11_;have BK337:=n12_;have HB:=n13_;clear n0_ n1_ n2_ n3_ n4_ n5_ n6_ n7_ n8_ n9_ n10_ n11_ n12_ n13_;(try clear hb);(try clear ho0);(try clear ho1))|((with_reducible refine gate_dst (N:=10) rfl ?_);refine box_event ?hg (N:=10) ?hd (cs:=#[.int .i64 0,.slice none 0 0,.slice none 0 0]) (t:=30) ?hr ?_;(case hd=>rfl);(case hg=>rfl);(case hr=>first|(go_simp;done)|(go_simp;rfl));intro gb346 hg w96 hbox hb;have n0_:=Aside0.mk (Kd.R_below (rz HO316.out) hb);have n1_:=Aside0.mk (Kd.R_below (rz HO319.out) hb);have n2_:=Aside0.mk (Kd.R_below (rz HO325.out) hb);have n3_:=Aside0.mk (Kd.R_below (rz HO328.out) hb);have n4_:=Aside0.mk (Kd.R_below (rz HO333.out) hb);have n5_:=Aside0.mk (Kd.R_below (rz HO336.out) hb);have n6_:=Aside0.mk (Kd.R_below (rz HO341.out) hb);have n7_:=Aside0.mk (Kd.R_below (rz HO344.out) hb);have n8_:=Aside0.mk (kb BK295.out hb);have n9_:=Aside0.mk (kb BK296.out hb);have n10_:=Aside0.mk (kb BK321.out hb);have n11_:=Aside0.mk (kb BK329.out hb);have n12_:=Aside0.mk (kb BK337.out hb);have n13_:=Aside0.mk (below_step bs hb);have n14_:=Aside0.mk (hbox);have n16_:=Aside0.mk ((by rw [hg];exact (below_size bs) : w.heap.size ≤ gb346));have n17_:=Aside0.mk (kn hg BK295.out);have n18_:=Aside0.mk (km hg BK295.out);have n19_:=Aside0.mk (kn hg BK296.out);have n20_:=Aside0.mk (km hg BK296.out);have n21_:=Aside0.mk (kn hg BK321.out);have n22_:=Aside0.mk (km hg BK321.out);have n23_:=Aside0.mk (kn hg BK329.out);have n24_:=Aside0.mk (km hg BK329.out);have n25_:=Aside0.mk (kn hg BK337.out);have n26_:=Aside0.mk (km hg BK337.out);clear HO316 HO319 HO325 HO328 HO333 HO336 HO341 HO344 BK295 BK296 BK321 BK329 BK337 HB;have HO316:=n0_;have HO319:=n1_;have HO325:=n2_;have HO328:=n3_;have HO333:=n4_;have HO336:=n5_;have HO341:=n6_;have HO344:=n7_;have BK295:=n8_;have BK296:=n9_;have BK321:=n10_;have BK329:=n11_;have BK337:=n12_;have HB:=n13_;have BK346:=n14_;have GE346:=n16_;have NB295_346:=n17_;have NB346_295:=n18_;have NB296_346:=n19_;have NB346_296:=n20_;have NB321_346:=n21_;have NB346_321:=n22_;have NB329_346:=n23_;have NB346_329:=n24_;have NB337_346:=n25_;have NB346_337:=n26_;clear n0_ n1_ n2_ n3_ n4_ n5_ n6_ n7_ n8_ n9_ n10_ n11_ n12_ n13_ n14_ n16_ n17_ n18_ n19_ n20_ n21_ n22_ n23_ n24_ n25_ n26_;clear hb hbox hg;have hnb97:=NB346_295.out;have hnc97:=NB295_346.out;have hnb98:=NB346_296.out;have hnc98:=NB296_346.out;have hnb99:=NB346_321.out;have hnc99:=NB321_346.out;have hnb100:=NB346_329.out;have hnc100:=NB329_346.out;have hnb101:=NB346_337.out;have hnc101:=NB337_346.out;have hcz102_0 : w96.cell? ⟨gb346,0,none⟩ = some (.int .i64 0):=(blk_cell BK346.out 0).trans rfl;have hcz102_1 : w96.cell? ⟨gb346,1,none⟩ = some (.slice none 0 0):=(blk_cell BK346.out 1).trans rfl;have hcz102_2 : w96.cell? ⟨gb346,2,none⟩ = some (.slice none 0 0):=(blk_cell BK346.out 2).trans rfl;have hfz102_0:=blk_frozen BK346.out 0;have hfz102_1:=blk_frozen BK346.out 1;have hfz102_2:=blk_frozen BK346.out 2;obtain ⟨Ao103,co103,eo103⟩:=Kd.R_slice HO341.out;subst eo103;obtain ⟨Ao104,co104,eo104⟩:=Kd.R_slice HO344.out;subst eo104;have hcz105_0 : w96.cell? ⟨gb321,0,none⟩ = some (.int .i64 t313):=(blk_cell BK321.out 0).trans rfl;have hcz105_1 : w96.cell? ⟨gb321,1,none⟩ = some (.slice Ao69 t314.length co69):=(blk_cell BK321.out 1).trans rfl;have hcz105_2 : w96.cell? ⟨gb321,2,none⟩ = some (.slice Ao71 t317.length co71):=(blk_cell BK321.out 2).trans rfl;have hfz105_0:=blk_frozen BK321.out 0;have hfz105_1:=blk_frozen BK321.out 1;have hfz105_2:=blk_frozen BK321.out 2)|((with_reducible refine gate_callee (f:=19) rfl ?_);refine goesL_ (some 47) rfl rfl Try.func19 (by kernel_rfl) rfl #[.agg #[.int .i64 t338,.slice Ao103 t339.length co103,.slice Ao104 t342.length co104],.agg #[.int .i64 t313,.slice Ao69 t314.length co69,.slice Ao71 t317.length co71]] rfl mz ?_;(with_reducible refine (laws_eqPlan.calls k t338 _ _ t339 _ _ t342 t313 _ _ t314 _ _ t317 true _ ?side1 ?side2 ?side3 ?side4 ?side5 ?side6 ?side7 ?side8 A24.out).mono ?_);(case side1=>refine (Kd.R_reads' (e:=69) (base:=w.heap.size) (ok:=fun k_=>(((True ∧ some k_ ≠ (.slice Ao69 t314.length co69 : Value).ownBlock) ∧ some k_ ≠ (.slice Ao81 t323.length co81 : Value).ownBlock) ∧ some k_ ≠ (.slice Ao92 t331.length co92 : Value).ownBlock)) (n:=t339.length) (c:=co103) ?_).2.2;exact (by (with_reducible repeat (first|apply Kd.R_alloc|apply Kd.R_drewN|apply Kd.R_drew));exact (Kd.R_mono (Kd.R_far (p:=⟨gb346,2,none⟩) (Kd.R_far (p:=⟨gb346,1,none⟩) (Kd.R_far (p:=⟨gb346,0,none⟩) (Kd.R_types HO341.out BK346.out (by decide)) (fun _ hk=>hk.2) (.int .i64 t338)) (fun _ hk=>hk.2) (.slice Ao103 t339.length co103)) (fun _ hk=>hk.2) (.slice Ao104 t342.length co104)) (fun _ h_=>h_.1))));(case side2=>exact (Kd.R_reads' HO341.out).2.1);(case side3=>refine (Kd.R_reads' (e:=3) (base:=w.heap.size) (ok:=fun k_=>(((True ∧ some k_ ≠ (.slice Ao71 t317.length co71 : Value).ownBlock) ∧ some k_ ≠ (.slice Ao82 t326.length co82 : Value).ownBlock) ∧ some k_ ≠ (.slice Ao93 t334.length co93 : Value).ownBlock)) (n:=t342.length) (c:=co104) ?_).2.2;exact (by (with_reducible repeat (first|apply Kd.R_alloc|apply Kd.R_drewN|apply Kd.R_drew));exact (Kd.R_mono (Kd.R_far (p:=⟨gb346,2,none⟩) (Kd.R_far (p:=⟨gb346,1,none⟩) (Kd.R_far (p:=⟨gb346,0,none⟩) (Kd.R_types HO344.out BK346.out (by decide)) (fun _ hk=>hk.2) (.int .i64 t338)) (fun _ hk=>hk.2) (.slice Ao103 t339.length co103)) (fun _ hk=>hk.2) (.slice Ao104 t342.length co104)) (fun _ h_=>h_.1))));(case side4=>exact (Kd.R_reads' HO344.out).2.1);(case side5=>refine (Kd.R_reads' (e:=69) (base:=w.heap.size) (ok:=fun k_=>((((some k_ ≠ (v301 : Value).ownBlock ∧ some k_ ≠ (v308 : Value).ownBlock) ∧ some k_ ≠ (.slice Ao81 t323.length co81 : Value).ownBlock) ∧ some k_ ≠ (.slice Ao92 t331.length co92 : Value).ownBlock) ∧ some k_ ≠ (.slice Ao103 t339.length co103 : Value).ownBlock)) (n:=t314.length) (c:=co69) ?_).2.2;exact (by (with_reducible repeat (first|apply Kd.R_alloc|apply Kd.R_drewN|apply Kd.R_drew));exact (Kd.R_mono (Kd.R_far (p:=⟨gb346,2,none⟩) (Kd.R_far (p:=⟨gb346,1,none⟩) (Kd.R_far (p:=⟨gb346,0,none⟩) (Kd.R_types HO316.out BK346.out (by decide)) (fun _ hk=>hk.2) (.int .i64 t338)) (fun _ hk=>hk.2) (.slice Ao103 t339.length co103)) (fun _ hk=>hk.2) (.slice Ao104 t342.length co104)) (fun _ h_=>h_.1))));(case side6=>exact (Kd.R_reads' HO316.out).2.1);(case side7=>refine (Kd.R_reads' (e:=3) (base:=w.heap.size) (ok:=fun k_=>((((some k_ ≠ (v304 : Value).ownBlock ∧ some k_ ≠ (v311 : Value).ownBlock) ∧ some k_ ≠ (.slice Ao82 t326.length co82 : Value).ownBlock) ∧ some k_ ≠ (.slice Ao93 t334.length co93 : Value).ownBlock) ∧ some k_ ≠ (.slice Ao104 t342.length co104 : Value).ownBlock)) (n:=t317.length) (c:=co71) ?_).2.2;exact (by (with_reducible repeat (first|apply Kd.R_alloc|apply Kd.R_drewN|apply Kd.R_drew));exact (Kd.R_mono (Kd.R_far (p:=⟨gb346,2,none⟩) (Kd.R_far (p:=⟨gb346,1,none⟩) (Kd.R_far (p:=⟨gb346,0,none⟩) (Kd.R_types HO319.out BK346.out (by decide)) (fun _ hk=>hk.2) (.int .i64 t338)) (fun _ hk=>hk.2) (.slice Ao103 t339.length co103)) (fun _ hk=>hk.2) (.slice Ao104 t342.length co104)) (fun _ h_=>h_.1))));(case side8=>exact (Kd.R_reads' HO319.out).2.1);rintro e w106 ⟨rfl,hb⟩;refine ⟨_,rfl,?_⟩;have n0_:=Aside0.mk (Kd.R_below (by (with_reducible repeat (first|apply Kd.R_alloc|apply Kd.R_drewN|apply Kd.R_drew));exact (Kd.R_mono (Kd.R_far (p:=⟨gb346,2,none⟩) (Kd.R_far (p:=⟨gb346,1,none⟩) (Kd.R_far (p:=⟨gb346,0,none⟩) (Kd.R_types HO316.out BK346.out (by decide)) (fun _ hk=>hk.2) (.int .i64 t338)) (fun _ hk=>hk.2) (.slice Ao103 t339.length co103)) (fun _ hk=>hk.2) (.slice Ao104 t342.length co104)) (fun _ h_=>h_.1))) hb);have n1_:=Aside0.mk (Kd.R_below (by (with_reducible repeat (first|apply Kd.R_alloc|apply Kd.R_drewN|apply Kd.R_drew));exact (Kd.R_mono (Kd.R_far (p:=⟨gb346,2,none⟩) (Kd.R_far (p:=⟨gb346,1,none⟩) (Kd.R_far (p:=⟨gb346,0,none⟩) (Kd.R_types HO319.out BK346.out (by decide)) (fun _ hk=>hk.2) (.int .i64 t338)) (fun _ hk=>hk.2) (.slice Ao103 t339.length co103)) (fun _ hk=>hk.2) (.slice Ao104 t342.length co104)) (fun _ h_=>h_.1))) hb);have n2_:=Aside0.mk (Kd.R_below (by (with_reducible repeat (first|apply Kd.R_alloc|apply Kd.R_drewN|apply Kd.R_drew));exact (Kd.R_mono (Kd.R_far (p:=⟨gb346,2,none⟩) (Kd.R_far (p:=⟨gb346,1,none⟩) (Kd.R_far (p:=⟨gb346,0,none⟩) (Kd.R_types HO325.out BK346.out (by decide)) (fun _ hk=>hk.2) (.int .i64 t338)) (fun _ hk=>hk.2) (.slice Ao103 t339.length co103)) (fun _ hk=>hk.2) (.slice Ao104 t342.length co104)) (fun _ h_=>h_.1))) hb);have n3_:=Aside0.mk (Kd.R_below (by (with_reducible repeat (first|apply Kd.R_alloc|apply Kd.R_drewN|apply Kd.R_drew));exact (Kd.R_mono (Kd.R_far (p:=⟨gb346,2,none⟩) (Kd.R_far (p:=⟨gb346,1,none⟩) (Kd.R_far (p:=⟨gb346,0,none⟩) (Kd.R_types HO328.out BK346.out (by decide)) (fun _ hk=>hk.2) (.int .i64 t338)) (fun _ hk=>hk.2) (.slice Ao103 t339.length co103)) (fun _ hk=>hk.2) (.slice Ao104 t342.length co104)) (fun _ h_=>h_.1))) hb);have n4_:=Aside0.mk (Kd.R_below (by (with_reducible repeat (first|apply Kd.R_alloc|apply Kd.R_drewN|apply Kd.R_drew));exact (Kd.R_mono (Kd.R_far (p:=⟨gb346,2,none⟩) (Kd.R_far (p:=⟨gb346,1,none⟩) (Kd.R_far (p:=⟨gb346,0,none⟩) (Kd.R_types HO333.out BK346.out (by decide)) (fun _ hk=>hk.2) (.int .i64 t338)) (fun _ hk=>hk.2) (.slice Ao103 t339.length co103)) (fun _ hk=>hk.2) (.slice Ao104 t342.length co104)) (fun _ h_=>h_.1))) hb);have n5_:=Aside0.mk (Kd.R_below (by (with_reducible repeat (first|apply Kd.R_alloc|apply Kd.R_drewN|apply Kd.R_drew));exact (Kd.R_mono (Kd.R_far (p:=⟨gb346,2,none⟩) (Kd.R_far (p:=⟨gb346,1,none⟩) (Kd.R_far (p:=⟨gb346,0,none⟩) (Kd.R_types HO336.out BK346.out (by decide)) (fun _ hk=>hk.2) (.int .i64 t338)) (fun _ hk=>hk.2) (.slice Ao103 t339.length co103)) (fun _ hk=>hk.2) (.slice Ao104 t342.length co104)) (fun _ h_=>h_.1))) hb);have n6_:=Aside0.mk (Kd.R_below (by (with_reducible repeat (first|apply Kd.R_alloc|apply Kd.R_drewN|apply Kd.R_drew));exact (Kd.R_mono (Kd.R_far (p:=⟨gb346,2,none⟩) (Kd.R_far (p:=⟨gb346,1,none⟩) (Kd.R_far (p:=⟨gb346,0,none⟩) (Kd.R_types HO341.out BK346.out (by decide)) (fun _ hk=>hk.2) (.int .i64 t338)) (fun _ hk=>hk.2) (.slice Ao103 t339.length co103)) (fun _ hk=>hk.2) (.slice Ao104 t342.length co104)) (fun _ h_=>h_.1))) hb);have n7_:=Aside0.mk (Kd.R_below (by (with_reducible repeat (first|apply Kd.R_alloc|apply Kd.R_drewN|apply Kd.R_drew));exact (Kd.R_mono (Kd.R_far (p:=⟨gb346,2,none⟩) (Kd.R_far (p:=⟨gb346,1,none⟩) (Kd.R_far (p:=⟨gb346,0,none⟩) (Kd.R_types HO344.out BK346.out (by decide)) (fun _ hk=>hk.2) (.int .i64 t338)) (fun _ hk=>hk.2) (.slice Ao103 t339.length co103)) (fun _ hk=>hk.2) (.slice Ao104 t342.length co104)) (fun _ h_=>h_.1))) hb);have n8_:=Aside0.mk (blk_below (g:=gb295) (o:=.cells #[.int .i64 a0_0,.slice A0_1 l0_1.length c0_1,.slice A0_2 l0_2.length c0_2] 25 (0,0)) (by (with_reducible repeat (first|refine blk_drewN ?_ _|refine blk_drew ?_|refine blk_alloc ?_ _));refine blk_far ?_ NB295_346.out _;(with_reducible repeat (first|refine blk_drewN ?_ _|refine blk_drew ?_|refine blk_alloc ?_ _));refine blk_far ?_ NB295_346.out _;(with_reducible repeat (first|refine blk_drewN ?_ _|refine blk_drew ?_|refine blk_alloc ?_ _));refine blk_far ?_ NB295_346.out _;(with_reducible repeat (first|refine blk_drewN ?_ _|refine blk_drew ?_|refine blk_alloc ?_ _));exact BK295.out) hb);have n9_:=Aside0.mk (blk_below (g:=gb296) (o:=.cells #[.int .i64 a1_0,.slice A1_1 l1_1.length c1_1,.slice A1_2 l1_2.length c1_2] 25 (0,0)) (by (with_reducible repeat (first|refine blk_drewN ?_ _|refine blk_drew ?_|refine blk_alloc ?_ _));refine blk_far ?_ NB296_346.out _;(with_reducible repeat (first|refine blk_drewN ?_ _|refine blk_drew ?_|refine blk_alloc ?_ _));refine blk_far ?_ NB296_346.out _;(with_reducible repeat (first|refine blk_drewN ?_ _|refine blk_drew ?_|refine blk_alloc ?_ _));refine blk_far ?_ NB296_346.out _;(with_reducible repeat (first|refine blk_drewN ?_ _|refine blk_drew ?_|refine blk_alloc ?_ _));exact BK296.out) hb);have n10_:=Aside0.mk (blk_below (g:=gb321) (o:=.cells #[.int .i64 t313,.slice Ao69 t314.length co69,.slice Ao71 t317.length co71] 30 (0,0)) (by (with_reducible repeat (first|refine blk_drewN ?_ _|refine blk_drew ?_|refine blk_alloc ?_ _));refine blk_far ?_ NB321_346.out _;(with_reducible repeat (first|refine blk_drewN ?_ _|refine blk_drew ?_|refine blk_alloc ?_ _));refine blk_far ?_ NB321_346.out _;(with_reducible repeat (first|refine blk_drewN ?_ _|refine blk_drew ?_|refine blk_alloc ?_ _));refine blk_far ?_ NB321_346.out _;(with_reducible repeat (first|refine blk_drewN ?_ _|refine blk_drew ?_|refine blk_alloc ?_ _));exact BK321.out) hb);have n11_:=Aside0.mk (blk_below (g:=gb329) (o:=.cells #[.int .i64 t322,.slice Ao81 t323.length co81,.slice Ao82 t326.length co82] 30 (0,0)) (by (with_reducible repeat (first|refine blk_drewN ?_ _|refine blk_drew ?_|refine blk_alloc ?_ _));refine blk_far ?_ NB329_346.out _;(with_reducible repeat (first|refine blk_drewN ?_ _|refine blk_drew ?_|refine blk_alloc ?_ _));refine blk_far ?_ NB329_346.out _;(with_reducible repeat (first|refine blk_drewN ?_ _|refine blk_drew ?_|refine blk_alloc ?_ _));refine blk_far ?_ NB329_346.out _;(with_reducible repeat (first|refine blk_drewN ?_ _|refine blk_drew ?_|refine blk_alloc ?_ _));exact BK329.out) hb);have n12_:=Aside0.mk (blk_below (g:=gb337) (o:=.cells #[.int .i64 t330,.slice Ao92 t331.length co92,.slice Ao93 t334.length co93] 30 (0,0)) (by (with_reducible repeat (first|refine blk_drewN ?_ _|refine blk_drew ?_|refine blk_alloc ?_ _));refine blk_far ?_ NB337_346.out _;(with_reducible repeat (first|refine blk_drewN ?_ _|refine blk_drew ?_|refine blk_alloc ?_ _));refine blk_far ?_ NB337_346.out _;(with_reducible repeat (first|refine blk_drewN ?_ _|refine blk_drew ?_|refine blk_alloc ?_ _));refine blk_far ?_ NB337_346.out _;(with_reducible repeat (first|refine blk_drewN ?_ _|refine blk_drew ?_|refine blk_alloc ?_ _));exact BK337.out) hb);have n13_:=Aside0.mk (blk_below (g:=gb346) (o:=.cells #[.int .i64 t338,.slice Ao103 t339.length co103,.slice Ao104 t342.length co104] 30 (0,0)) (by (with_reducible repeat (first|refine blk_drewN ?_ _|refine blk_drew ?_|refine blk_alloc ?_ _));refine blk_put (cs:=#[.int .i64 t338,.slice Ao103 t339.length co103,.slice none 0 0]) ?_ 2 _ rfl;(with_reducible repeat (first|refine blk_drewN ?_ _|refine blk_drew ?_|refine blk_alloc ?_ _));refine blk_put (cs:=#[.int .i64 t338,.slice none 0 0,.slice none 0 0]) ?_ 1 _ rfl;(with_reducible repeat (first|refine blk_drewN ?_ _|refine blk_drew ?_|refine blk_alloc ?_ _));refine blk_put (cs:=#[.int .i64 0,.slice none 0 0,.slice none 0 0]) ?_ 0 _ rfl;(with_reducible repeat (first|refine blk_drewN ?_ _|refine blk_drew ?_|refine blk_alloc ?_ _));exact BK346.out) hb);have n14_:=Aside0.mk (below_step bs hb);clear HO316 HO319 HO325 HO328 HO333 HO336 HO341 HO344 BK295 BK296 BK321 BK329 BK337 BK346 HB;have HO316:=n0_;have HO319:=n1_;have HO325:=n2_;have HO328:=n3_;have HO333:=n4_;have HO336:=n5_;have HO341:=n6_;have HO344:=n7_;have BK295:=n8_;have BK296:=n9_;have BK321:=n10_;have BK329:=n11_;have BK337:=n12_;have BK346:=n13_;have HB:=n14_;clear n0_ n1_ n2_ n3_ n4_ n5_ n6_ n7_ n8_ n9_ n10_ n11_ n12_ n13_ n14_;(try clear hb)))
               have n0_:=Aside0.mk (Kd.R_drew HO316.out)
               have n1_:=Aside0.mk (Kd.R_drew HO319.out)
               have n2_:=Aside0.mk (Kd.R_drew HO325.out)
               have n3_:=Aside0.mk (Kd.R_drew HO328.out)
               have n4_:=Aside0.mk (Kd.R_drew HO333.out)
               have n5_:=Aside0.mk (Kd.R_drew HO336.out)
               have n6_:=Aside0.mk (Kd.R_drew HO341.out)
               have n7_:=Aside0.mk (Kd.R_drew HO344.out)
               have n8_:=Aside0.mk (blk_drew BK295.out)
               have n9_:=Aside0.mk (blk_drew BK296.out)
               have n10_:=Aside0.mk (blk_drew BK321.out)
               have n11_:=Aside0.mk (blk_drew BK329.out)
               have n12_:=Aside0.mk (blk_drew BK337.out)
               have n13_:=Aside0.mk (blk_drew BK346.out)
               have n14_:=Aside0.mk (below_drew1 HB.out)
               clear HO316
               clear HO319
               clear HO325
               clear HO328
               clear HO333
               clear HO336
               clear HO341
               clear HO344
               clear BK295
               clear BK296
               clear BK321
               clear BK329
               clear BK337
               clear BK346
               clear HB
               have HO316:=n0_
               have HO319:=n1_
               have HO325:=n2_
               have HO328:=n3_
               have HO333:=n4_
               have HO336:=n5_
               have HO341:=n6_
               have HO344:=n7_
               have BK295:=n8_
               have BK296:=n9_
               have BK321:=n10_
               have BK329:=n11_
               have BK337:=n12_
               have BK346:=n13_
               have HB:=n14_
               clear n0_ n1_ n2_ n3_ n4_ n5_ n6_ n7_ n8_ n9_ n10_ n11_ n12_ n13_ n14_
               refine start_ (n:=5) (S:=fun w'=>w'.cell? ⟨gb329,0,none⟩ = some (.int .i64 t322) ∧ w'.cell? ⟨gb329,1,none⟩ = some (.slice Ao81 t323.length co81) ∧ w'.cell? ⟨gb329,2,none⟩ = some (.slice Ao82 t326.length co82) ∧ w'.cell? ⟨gb295,0,none⟩ = some (.int .i64 a0_0) ∧ w'.cell? ⟨gb295,1,none⟩ = some (.slice A0_1 l0_1.length c0_1) ∧ w'.cell? ⟨gb295,2,none⟩ = some (.slice A0_2 l0_2.length c0_2)) (ds:=[]) #[false,false,false,false,false] (by kernel_rfl) rfl rfl ⟨(blk_cell BK329.out 0).trans rfl,(blk_cell BK329.out 1).trans rfl,(blk_cell BK329.out 2).trans rfl,(blk_cell BK295.out 0).trans rfl,(blk_cell BK295.out 1).trans rfl,(blk_cell BK295.out 2).trans rfl⟩ (fun hHeld=>?_)
               generalize w106.drew = w107 at HO316 HO319 HO325 HO328 HO333 HO336 HO341 HO344 BK295 BK296 BK321 BK329 BK337 BK346 HB hHeld ⊢
               refine take_ (i:=0) (N:=some 54) (v:=?_) (a':=?_) #[true,false,false,false,false] rfl rfl (by kernel_rfl) (fun _ _ _ h=>h) (Or.inl ⟨by rfl,?_⟩) hHeld ?_ ?_
               rotate_left
               ·rintro w' ⟨s0,s1,s2,s3,s4,s5⟩
                go_simp
                with_reducible rfl
               rotate_left
               ·simp only [Act.put,xa,xb,xc,i64_w,i32_w]
                rfl
               refine take_ (i:=1) (N:=some 55) (v:=?_) (a':=?_) #[true,true,false,false,false] rfl rfl (by kernel_rfl) (fun _ _ _ h=>h) (Or.inl ⟨by rfl,?_⟩) hHeld ?_ ?_
               rotate_left
               ·rintro w' ⟨s0,s1,s2,s3,s4,s5⟩
                go_simp
                with_reducible rfl
               rotate_left
               ·simp only [Act.put,xa,xb,xc,i64_w,i32_w]
                rfl
               refine one_ (i:=2) (N:=some 56) #[true,true,true,false,false] rfl rfl (by kernel_rfl) (by decide) (fun K hK=>?_)
               refine goes_ Try.func17 (by kernel_rfl) rfl #[.agg #[.int .i64 a0_0,.slice A0_1 l0_1.length c0_1,.slice A0_2 l0_2.length c0_2]] (by rfl) rfl rfl mz ?_
               with_reducible refine (laws_toPlan.calls k a0_0 _ _ l0_1 _ _ l0_2 t348 t349 t352 _ ?side1 ?side2 ?side3 ?side4 A27.out).mono ?_
               (case side1=>exact cz (Kd.C_below HR0_1.out HB.out))
               (case side2=>exact HC0_1.out)
               (case side3=>exact cz (Kd.C_below HR0_2.out HB.out))
               (case side4=>exact HC0_2.out)
               rintro e w108 ⟨v350,v353,rfl,ho0,ho1,hb⟩
               refine ⟨_,rfl,?_⟩
               have n0_:=Aside0.mk (Kd.R_elder' (rz HO316.out) (Kd.R_base ho0) hb)
               have n1_:=Aside0.mk (Kd.R_elder' (rz HO319.out) (Kd.R_base ho1) hb)
               have n2_:=Aside0.mk (Kd.R_elder' (rz HO325.out) (Kd.R_base ho0) hb)
               have n3_:=Aside0.mk (Kd.R_elder' (rz HO328.out) (Kd.R_base ho1) hb)
               have n4_:=Aside0.mk (Kd.R_elder' (rz HO333.out) (Kd.R_base ho0) hb)
               have n5_:=Aside0.mk (Kd.R_elder' (rz HO336.out) (Kd.R_base ho1) hb)
               have n6_:=Aside0.mk (Kd.R_elder' (rz HO341.out) (Kd.R_base ho0) hb)
               have n7_:=Aside0.mk (Kd.R_elder' (rz HO344.out) (Kd.R_base ho1) hb)
               have n8_:=Aside0.mk (Kd.R_lower (Kd.R_new' (Kd.R_new' (Kd.R_new' (Kd.R_new' ho0 (Kd.R_lt (rz HO316.out))) (Kd.R_lt (rz HO325.out))) (Kd.R_lt (rz HO333.out))) (Kd.R_lt (rz HO341.out))) (below_size bs))
               have n9_:=Aside0.mk (Kd.R_lower (Kd.R_new' (Kd.R_new' (Kd.R_new' (Kd.R_new' ho1 (Kd.R_lt (rz HO319.out))) (Kd.R_lt (rz HO328.out))) (Kd.R_lt (rz HO336.out))) (Kd.R_lt (rz HO344.out))) (below_size bs))
               have n10_:=Aside0.mk (kb BK295.out hb)
               have n11_:=Aside0.mk (kb BK296.out hb)
               have n12_:=Aside0.mk (kb BK321.out hb)
               have n13_:=Aside0.mk (kb BK329.out hb)
               have n14_:=Aside0.mk (kb BK337.out hb)
               have n15_:=Aside0.mk (kb BK346.out hb)
               have n16_:=Aside0.mk (below_step bs hb)
               clear HO316
               clear HO319
               clear HO325
               clear HO328
               clear HO333
               clear HO336
               clear HO341
               clear HO344
               clear BK295
               clear BK296
               clear BK321
               clear BK329
               clear BK337
               clear BK346
               clear HB
               have HO316:=n0_
               have HO319:=n1_
               have HO325:=n2_
               have HO328:=n3_
               have HO333:=n4_
               have HO336:=n5_
               have HO341:=n6_
               have HO344:=n7_
               have HO351:=n8_
               have HO354:=n9_
               have BK295:=n10_
               have BK296:=n11_
               have BK321:=n12_
               have BK329:=n13_
               have BK337:=n14_
               have BK346:=n15_
               have HB:=n16_
               clear n0_ n1_ n2_ n3_ n4_ n5_ n6_ n7_ n8_ n9_ n10_ n11_ n12_ n13_ n14_ n15_ n16_
               (try clear hb)
               (try clear ho0)
               (try clear ho1)
               obtain ⟨Ao109,co109,eo109⟩:=Kd.R_slice HO351.out
               (first|subst eo109|(injection eo109 with f1_ f2_ f3_;have f4_:=f1_.symm;have f5_:=f3_.symm;clear f1_ f2_ f3_;subst f4_;subst f5_))
               obtain ⟨Ao110,co110,eo110⟩:=Kd.R_slice HO354.out
               (first|subst eo110|(injection eo110 with f1_ f2_ f3_;have f4_:=f1_.symm;have f5_:=f3_.symm;clear f1_ f2_ f3_;subst f4_;subst f5_))
               refine hK.out _ _ ⟨(blk_cell BK329.out 0).trans rfl,(blk_cell BK329.out 1).trans rfl,(blk_cell BK329.out 2).trans rfl,(blk_cell BK295.out 0).trans rfl,(blk_cell BK295.out 1).trans rfl,(blk_cell BK295.out 2).trans rfl⟩ (fun hHeld=>?_)
               clear hK K
               refine norm_ (a':=?_) ?_ ?_
               rotate_left
               ·show Act.put _ (some 56) _ = _
                simp only [Act.put,xa,xb,xc,i64_w,i32_w]
                rfl
               refine one_ (i:=3) (N:=some 57) #[true,true,true,true,false] rfl rfl (by kernel_rfl) (by decide) (fun K hK=>?_)
               refine goes_ Try.func19 (by kernel_rfl) rfl #[.agg #[.int .i64 t322,.slice Ao81 t323.length co81,.slice Ao82 t326.length co82],.agg #[.int .i64 t348,.slice Ao109 t349.length co109,.slice Ao110 t352.length co110]] (by rfl) rfl rfl mz ?_
               with_reducible refine (laws_eqPlan.calls k t322 _ _ t323 _ _ t326 t348 _ _ t349 _ _ t352 true _ ?side1 ?side2 ?side3 ?side4 ?side5 ?side6 ?side7 ?side8 A28.out).mono ?_
               (case side1=>exact cz (Kd.R_reads' HO325.out).2.2)
               (case side2=>exact (Kd.R_reads' HO325.out).2.1)
               (case side3=>exact cz (Kd.R_reads' HO328.out).2.2)
               (case side4=>exact (Kd.R_reads' HO328.out).2.1)
               (case side5=>exact cz (Kd.R_reads' HO351.out).2.2)
               (case side6=>exact (Kd.R_reads' HO351.out).2.1)
               (case side7=>exact cz (Kd.R_reads' HO354.out).2.2)
               (case side8=>exact (Kd.R_reads' HO354.out).2.1)
               rintro e w111 ⟨rfl,hb⟩
               refine ⟨_,rfl,?_⟩
               have n0_:=Aside0.mk (Kd.R_below (rz HO316.out) hb)
               have n1_:=Aside0.mk (Kd.R_below (rz HO319.out) hb)
               have n2_:=Aside0.mk (Kd.R_below (rz HO325.out) hb)
               have n3_:=Aside0.mk (Kd.R_below (rz HO328.out) hb)
               have n4_:=Aside0.mk (Kd.R_below (rz HO333.out) hb)
               have n5_:=Aside0.mk (Kd.R_below (rz HO336.out) hb)
               have n6_:=Aside0.mk (Kd.R_below (rz HO341.out) hb)
               have n7_:=Aside0.mk (Kd.R_below (rz HO344.out) hb)
               have n10_:=Aside0.mk (kb BK295.out hb)
               have n11_:=Aside0.mk (kb BK296.out hb)
               have n12_:=Aside0.mk (kb BK321.out hb)
               have n13_:=Aside0.mk (kb BK329.out hb)
               have n14_:=Aside0.mk (kb BK337.out hb)
               have n15_:=Aside0.mk (kb BK346.out hb)
               have n16_:=Aside0.mk (below_step bs hb)
               clear HO316
               clear HO319
               clear HO325
               clear HO328
               clear HO333
               clear HO336
               clear HO341
               clear HO344
               clear HO351
               clear HO354
               clear BK295
               clear BK296
               clear BK321
               clear BK329
               clear BK337
               clear BK346
               clear HB
               have HO316:=n0_
               have HO319:=n1_
               have HO325:=n2_
               have HO328:=n3_
               have HO333:=n4_
               have HO336:=n5_
               have HO341:=n6_
               have HO344:=n7_
               have BK295:=n10_
               have BK296:=n11_
               have BK321:=n12_
               have BK329:=n13_
               have BK337:=n14_
               have BK346:=n15_
               have HB:=n16_
               clear n0_ n1_ n2_ n3_ n4_ n5_ n6_ n7_ n10_ n11_ n12_ n13_ n14_ n15_ n16_
               (try clear hb)
               refine hK.out _ _ ⟨(blk_cell BK329.out 0).trans rfl,(blk_cell BK329.out 1).trans rfl,(blk_cell BK329.out 2).trans rfl,(blk_cell BK295.out 0).trans rfl,(blk_cell BK295.out 1).trans rfl,(blk_cell BK295.out 2).trans rfl⟩ (fun hHeld=>?_)
               clear hK K
               refine norm_ (a':=?_) ?_ ?_
               rotate_left
               ·show Act.put _ (some 57) _ = _
                simp only [Act.put,xa,xb,xc,i64_w,i32_w]
                rfl
               refine pure_ (i:=4) (N:=some 58) (v:=?_) (a':=?_) #[true,true,true,true,true] rfl rfl (by kernel_rfl) (fun _ _ _ h=>h) (Or.inl ⟨by rfl,?_⟩) ?_ ?_
               rotate_left
               ·intro w'
                go_simp
                with_reducible rfl
               rotate_left
               ·simp only [Act.put,xa,xb,xc,i64_w,i32_w]
                rfl
               refine done_ (by kernel_rfl) ?_
               try go_wp2
               have n0_:=Aside0.mk (Kd.R_drew HO316.out)
               have n1_:=Aside0.mk (Kd.R_drew HO319.out)
               have n2_:=Aside0.mk (Kd.R_drew HO325.out)
               have n3_:=Aside0.mk (Kd.R_drew HO328.out)
               have n4_:=Aside0.mk (Kd.R_drew HO333.out)
               have n5_:=Aside0.mk (Kd.R_drew HO336.out)
               have n6_:=Aside0.mk (Kd.R_drew HO341.out)
               have n7_:=Aside0.mk (Kd.R_drew HO344.out)
               have n8_:=Aside0.mk (blk_drew BK295.out)
               have n9_:=Aside0.mk (blk_drew BK296.out)
               have n10_:=Aside0.mk (blk_drew BK321.out)
               have n11_:=Aside0.mk (blk_drew BK329.out)
               have n12_:=Aside0.mk (blk_drew BK337.out)
               have n13_:=Aside0.mk (blk_drew BK346.out)
               have n14_:=Aside0.mk (below_drew1 HB.out)
               clear HO316
               clear HO319
               clear HO325
               clear HO328
               clear HO333
               clear HO336
               clear HO341
               clear HO344
               clear BK295
               clear BK296
               clear BK321
               clear BK329
               clear BK337
               clear BK346
               clear HB
               have HO316:=n0_
               have HO319:=n1_
               have HO325:=n2_
               have HO328:=n3_
               have HO333:=n4_
               have HO336:=n5_
               have HO341:=n6_
               have HO344:=n7_
               have BK295:=n8_
               have BK296:=n9_
               have BK321:=n10_
               have BK329:=n11_
               have BK337:=n12_
               have BK346:=n13_
               have HB:=n14_
               clear n0_ n1_ n2_ n3_ n4_ n5_ n6_ n7_ n8_ n9_ n10_ n11_ n12_ n13_ n14_
               refine start_ (n:=5) (S:=fun w'=>w'.cell? ⟨gb337,0,none⟩ = some (.int .i64 t330) ∧ w'.cell? ⟨gb337,1,none⟩ = some (.slice Ao92 t331.length co92) ∧ w'.cell? ⟨gb337,2,none⟩ = some (.slice Ao93 t334.length co93) ∧ w'.cell? ⟨gb296,0,none⟩ = some (.int .i64 a1_0) ∧ w'.cell? ⟨gb296,1,none⟩ = some (.slice A1_1 l1_1.length c1_1) ∧ w'.cell? ⟨gb296,2,none⟩ = some (.slice A1_2 l1_2.length c1_2)) (ds:=[]) #[false,false,false,false,false] (by kernel_rfl) rfl rfl ⟨(blk_cell BK337.out 0).trans rfl,(blk_cell BK337.out 1).trans rfl,(blk_cell BK337.out 2).trans rfl,(blk_cell BK296.out 0).trans rfl,(blk_cell BK296.out 1).trans rfl,(blk_cell BK296.out 2).trans rfl⟩ (fun hHeld=>?_)
               generalize w111.drew = w112 at HO316 HO319 HO325 HO328 HO333 HO336 HO341 HO344 BK295 BK296 BK321 BK329 BK337 BK346 HB hHeld ⊢
               refine take_ (i:=0) (N:=some 59) (v:=?_) (a':=?_) #[true,false,false,false,false] rfl rfl (by kernel_rfl) (fun _ _ _ h=>h) (Or.inl ⟨by rfl,?_⟩) hHeld ?_ ?_
               rotate_left
               ·rintro w' ⟨s0,s1,s2,s3,s4,s5⟩
                go_simp
                with_reducible rfl
               rotate_left
               ·simp only [Act.put,xa,xb,xc,i64_w,i32_w]
                rfl
               refine take_ (i:=1) (N:=some 60) (v:=?_) (a':=?_) #[true,true,false,false,false] rfl rfl (by kernel_rfl) (fun _ _ _ h=>h) (Or.inl ⟨by rfl,?_⟩) hHeld ?_ ?_
               rotate_left
               ·rintro w' ⟨s0,s1,s2,s3,s4,s5⟩
                go_simp
                with_reducible rfl
               rotate_left
               ·simp only [Act.put,xa,xb,xc,i64_w,i32_w]
                rfl
               refine one_ (i:=2) (N:=some 61) #[true,true,true,false,false] rfl rfl (by kernel_rfl) (by decide) (fun K hK=>?_)
               refine goes_ Try.func17 (by kernel_rfl) rfl #[.agg #[.int .i64 a1_0,.slice A1_1 l1_1.length c1_1,.slice A1_2 l1_2.length c1_2]] (by rfl) rfl rfl mz ?_
               with_reducible refine (laws_toPlan.calls k a1_0 _ _ l1_1 _ _ l1_2 t356 t357 t360 _ ?side1 ?side2 ?side3 ?side4 A30.out).mono ?_
               (case side1=>exact cz (Kd.C_below HR1_1.out HB.out))
               (case side2=>exact HC1_1.out)
               (case side3=>exact cz (Kd.C_below HR1_2.out HB.out))
               (case side4=>exact HC1_2.out)
               rintro e w113 ⟨v358,v361,rfl,ho0,ho1,hb⟩
               refine ⟨_,rfl,?_⟩
               have n0_:=Aside0.mk (Kd.R_elder' (rz HO316.out) (Kd.R_base ho0) hb)
               have n1_:=Aside0.mk (Kd.R_elder' (rz HO319.out) (Kd.R_base ho1) hb)
               have n2_:=Aside0.mk (Kd.R_elder' (rz HO325.out) (Kd.R_base ho0) hb)
               have n3_:=Aside0.mk (Kd.R_elder' (rz HO328.out) (Kd.R_base ho1) hb)
               have n4_:=Aside0.mk (Kd.R_elder' (rz HO333.out) (Kd.R_base ho0) hb)
               have n5_:=Aside0.mk (Kd.R_elder' (rz HO336.out) (Kd.R_base ho1) hb)
               have n6_:=Aside0.mk (Kd.R_elder' (rz HO341.out) (Kd.R_base ho0) hb)
               have n7_:=Aside0.mk (Kd.R_elder' (rz HO344.out) (Kd.R_base ho1) hb)
               have n8_:=Aside0.mk (Kd.R_lower (Kd.R_new' (Kd.R_new' (Kd.R_new' (Kd.R_new' ho0 (Kd.R_lt (rz HO316.out))) (Kd.R_lt (rz HO325.out))) (Kd.R_lt (rz HO333.out))) (Kd.R_lt (rz HO341.out))) (below_size bs))
               have n9_:=Aside0.mk (Kd.R_lower (Kd.R_new' (Kd.R_new' (Kd.R_new' (Kd.R_new' ho1 (Kd.R_lt (rz HO319.out))) (Kd.R_lt (rz HO328.out))) (Kd.R_lt (rz HO336.out))) (Kd.R_lt (rz HO344.out))) (below_size bs))
               have n10_:=Aside0.mk (kb BK295.out hb)
               have n11_:=Aside0.mk (kb BK296.out hb)
               have n12_:=Aside0.mk (kb BK321.out hb)
               have n13_:=Aside0.mk (kb BK329.out hb)
               have n14_:=Aside0.mk (kb BK337.out hb)
               have n15_:=Aside0.mk (kb BK346.out hb)
               have n16_:=Aside0.mk (below_step bs hb)
               clear HO316
               clear HO319
               clear HO325
               clear HO328
               clear HO333
               clear HO336
               clear HO341
               clear HO344
               clear BK295
               clear BK296
               clear BK321
               clear BK329
               clear BK337
               clear BK346
               clear HB
               have HO316:=n0_
               have HO319:=n1_
               have HO325:=n2_
               have HO328:=n3_
               have HO333:=n4_
               have HO336:=n5_
               have HO341:=n6_
               have HO344:=n7_
               have HO359:=n8_
               have HO362:=n9_
               have BK295:=n10_
               have BK296:=n11_
               have BK321:=n12_
               have BK329:=n13_
               have BK337:=n14_
               have BK346:=n15_
               have HB:=n16_
               clear n0_ n1_ n2_ n3_ n4_ n5_ n6_ n7_ n8_ n9_ n10_ n11_ n12_ n13_ n14_ n15_ n16_
               (try clear hb)
               (try clear ho0)
               (try clear ho1)
               obtain ⟨Ao114,co114,eo114⟩:=Kd.R_slice HO359.out
               (first|subst eo114|(injection eo114 with f1_ f2_ f3_;have f4_:=f1_.symm;have f5_:=f3_.symm;clear f1_ f2_ f3_;subst f4_;subst f5_))
               obtain ⟨Ao115,co115,eo115⟩:=Kd.R_slice HO362.out
               (first|subst eo115|(injection eo115 with f1_ f2_ f3_;have f4_:=f1_.symm;have f5_:=f3_.symm;clear f1_ f2_ f3_;subst f4_;subst f5_))
               refine hK.out _ _ ⟨(blk_cell BK337.out 0).trans rfl,(blk_cell BK337.out 1).trans rfl,(blk_cell BK337.out 2).trans rfl,(blk_cell BK296.out 0).trans rfl,(blk_cell BK296.out 1).trans rfl,(blk_cell BK296.out 2).trans rfl⟩ (fun hHeld=>?_)
               clear hK K
               refine norm_ (a':=?_) ?_ ?_
               rotate_left
               ·show Act.put _ (some 61) _ = _
                simp only [Act.put,xa,xb,xc,i64_w,i32_w]
                rfl
               refine one_ (i:=3) (N:=some 62) #[true,true,true,true,false] rfl rfl (by kernel_rfl) (by decide) (fun K hK=>?_)
               refine goes_ Try.func19 (by kernel_rfl) rfl #[.agg #[.int .i64 t330,.slice Ao92 t331.length co92,.slice Ao93 t334.length co93],.agg #[.int .i64 t356,.slice Ao114 t357.length co114,.slice Ao115 t360.length co115]] (by rfl) rfl rfl mz ?_
               with_reducible refine (laws_eqPlan.calls k t330 _ _ t331 _ _ t334 t356 _ _ t357 _ _ t360 true _ ?side1 ?side2 ?side3 ?side4 ?side5 ?side6 ?side7 ?side8 A31.out).mono ?_
               (case side1=>exact cz (Kd.R_reads' HO333.out).2.2)
               (case side2=>exact (Kd.R_reads' HO333.out).2.1)
               (case side3=>exact cz (Kd.R_reads' HO336.out).2.2)
               (case side4=>exact (Kd.R_reads' HO336.out).2.1)
               (case side5=>exact cz (Kd.R_reads' HO359.out).2.2)
               (case side6=>exact (Kd.R_reads' HO359.out).2.1)
               (case side7=>exact cz (Kd.R_reads' HO362.out).2.2)
               (case side8=>exact (Kd.R_reads' HO362.out).2.1)
               rintro e w116 ⟨rfl,hb⟩
               refine ⟨_,rfl,?_⟩
               have n0_:=Aside0.mk (Kd.R_below (rz HO316.out) hb)
               have n1_:=Aside0.mk (Kd.R_below (rz HO319.out) hb)
               have n2_:=Aside0.mk (Kd.R_below (rz HO325.out) hb)
               have n3_:=Aside0.mk (Kd.R_below (rz HO328.out) hb)
               have n4_:=Aside0.mk (Kd.R_below (rz HO333.out) hb)
               have n5_:=Aside0.mk (Kd.R_below (rz HO336.out) hb)
               have n6_:=Aside0.mk (Kd.R_below (rz HO341.out) hb)
               have n7_:=Aside0.mk (Kd.R_below (rz HO344.out) hb)
               have n10_:=Aside0.mk (kb BK295.out hb)
               have n11_:=Aside0.mk (kb BK296.out hb)
               have n12_:=Aside0.mk (kb BK321.out hb)
               have n13_:=Aside0.mk (kb BK329.out hb)
               have n14_:=Aside0.mk (kb BK337.out hb)
               have n15_:=Aside0.mk (kb BK346.out hb)
               have n16_:=Aside0.mk (below_step bs hb)
               clear HO316
               clear HO319
               clear HO325
               clear HO328
               clear HO333
               clear HO336
               clear HO341
               clear HO344
               clear HO359
               clear HO362
               clear BK295
               clear BK296
               clear BK321
               clear BK329
               clear BK337
               clear BK346
               clear HB
               have HO316:=n0_
               have HO319:=n1_
               have HO325:=n2_
               have HO328:=n3_
               have HO333:=n4_
               have HO336:=n5_
               have HO341:=n6_
               have HO344:=n7_
               have BK295:=n10_
               have BK296:=n11_
               have BK321:=n12_
               have BK329:=n13_
               have BK337:=n14_
               have BK346:=n15_
               have HB:=n16_
               clear n0_ n1_ n2_ n3_ n4_ n5_ n6_ n7_ n10_ n11_ n12_ n13_ n14_ n15_ n16_
               (try clear hb)
               refine hK.out _ _ ⟨(blk_cell BK337.out 0).trans rfl,(blk_cell BK337.out 1).trans rfl,(blk_cell BK337.out 2).trans rfl,(blk_cell BK296.out 0).trans rfl,(blk_cell BK296.out 1).trans rfl,(blk_cell BK296.out 2).trans rfl⟩ (fun hHeld=>?_)
               clear hK K
               refine norm_ (a':=?_) ?_ ?_
               rotate_left
               ·show Act.put _ (some 62) _ = _
                simp only [Act.put,xa,xb,xc,i64_w,i32_w]
                rfl
               refine pure_ (i:=4) (N:=some 63) (v:=?_) (a':=?_) #[true,true,true,true,true] rfl rfl (by kernel_rfl) (fun _ _ _ h=>h) (Or.inl ⟨by rfl,?_⟩) ?_ ?_
               rotate_left
               ·intro w'
                go_simp
                with_reducible rfl
               rotate_left
               ·simp only [Act.put,xa,xb,xc,i64_w,i32_w]
                rfl
               refine done_ (by kernel_rfl) ?_
               have hcz117_0 : w116.cell? ⟨gb329,0,none⟩ = some (.int .i64 t322):=(blk_cell BK329.out 0).trans rfl
               have hcz117_1 : w116.cell? ⟨gb329,1,none⟩ = some (.slice Ao81 t323.length co81):=(blk_cell BK329.out 1).trans rfl
               have hcz117_2 : w116.cell? ⟨gb329,2,none⟩ = some (.slice Ao82 t326.length co82):=(blk_cell BK329.out 2).trans rfl
               have hfz117_0:=blk_frozen BK329.out 0
               have hfz117_1:=blk_frozen BK329.out 1
               have hfz117_2:=blk_frozen BK329.out 2
               try go_wp2_with (first|((with_reducible refine gate_callee (f:=27) rfl ?_);refine goesL_ (some 66) rfl rfl Try.func27 (by kernel_rfl) rfl #[.agg #[.int .i64 t322,.slice Ao81 t323.length co81,.slice Ao82 t326.length co82],.int .i64 1] rfl mz ?_;(with_reducible refine (laws_markPlan.calls k t322 (fun k_=>some k_ = (.slice Ao81 t323.length co81 : Value).ownBlock) (.slice Ao81 t323.length co81) t323 (fun k_=>some k_ = (.slice Ao82 t326.length co82 : Value).ownBlock) (.slice Ao82 t326.length co82) t326 1 t364 t365 t366 w _ ?side1 ?side2 ?side3 A33.out).mono ?_);(case side1=>repeat (first|(with_reducible first|exact HB.out|apply below_alloc|apply pw_below_drewN|apply below_drew1|refine below_set ?_ GE295.out|refine below_set ?_ GE296.out|refine below_set ?_ GE321.out|refine below_set ?_ GE337.out|refine below_set ?_ GE346.out)|exact HB.out));(case side2=>exact Kd.R_tight rfl HO325.out);(case side3=>exact Kd.R_tight rfl HO328.out);rintro e w118 ⟨rfl,hy0,hy1,hb,hkp⟩;refine ⟨_,rfl,?_⟩;have n0_:=Aside0.mk (blk_kept (kz BK295.out) hkp (fun hs_=>Or.elim hs_ (fun e_=>(fun e_=>(Kd.R_ne HO325.out BK295.out (by decide)) e_) e_) (fun e_=>(fun e_=>(Kd.R_ne HO328.out BK295.out (by decide)) e_) e_)));have n1_:=Aside0.mk (blk_kept (kz BK296.out) hkp (fun hs_=>Or.elim hs_ (fun e_=>(fun e_=>(Kd.R_ne HO325.out BK296.out (by decide)) e_) e_) (fun e_=>(fun e_=>(Kd.R_ne HO328.out BK296.out (by decide)) e_) e_)));have n2_:=Aside0.mk (Kd.R_mono (ok':=fun k_=>some k_ ≠ (.slice Ao81 t323.length co81 : Value).ownBlock ∧ some k_ ≠ (.slice Ao92 t331.length co92 : Value).ownBlock ∧ some k_ ≠ (.slice Ao103 t339.length co103 : Value).ownBlock) (Kd.R_keptB ((Kd.R_apart' HO316.out (Kd.R_typed HO328.out) (by decide))) hkp (fun k_ hk_ hs_=>Or.elim hs_ (fun e_=>(hk_.1.1.1.1.1.2) e_) (fun e_=>(hk_.2) e_))) (fun k_ hk_=>⟨hk_.1.1.1.1.1.1.2,hk_.1.1.1.1.1.2,hk_.1.1.1.1.2⟩));have n3_:=Aside0.mk (Kd.R_mono (ok':=fun k_=>some k_ ≠ (.slice Ao82 t326.length co82 : Value).ownBlock ∧ some k_ ≠ (.slice Ao93 t334.length co93 : Value).ownBlock ∧ some k_ ≠ (.slice Ao104 t342.length co104 : Value).ownBlock) (Kd.R_keptB ((Kd.R_apart' HO319.out (Kd.R_typed HO325.out) (by decide))) hkp (fun k_ hk_ hs_=>Or.elim hs_ (fun e_=>(hk_.2) e_) (fun e_=>(hk_.1.1.1.1.1.2) e_))) (fun k_ hk_=>⟨hk_.1.1.1.1.1.1.2,hk_.1.1.1.1.1.2,hk_.1.1.1.1.2⟩));have n4_:=Aside0.mk (blk_kept (kz BK321.out) hkp (fun hs_=>Or.elim hs_ (fun e_=>(fun e_=>(Kd.R_ne HO325.out BK321.out (by decide)) e_) e_) (fun e_=>(fun e_=>(Kd.R_ne HO328.out BK321.out (by decide)) e_) e_)));have n7_:=Aside0.mk (Kd.R_mono (ok':=fun k_=>some k_ ≠ (.slice Ao69 t314.length co69 : Value).ownBlock ∧ some k_ ≠ (.slice Ao81 t323.length co81 : Value).ownBlock ∧ some k_ ≠ (.slice Ao103 t339.length co103 : Value).ownBlock) (Kd.R_keptB ((Kd.R_apart' HO333.out (Kd.R_typed HO328.out) (by decide))) hkp (fun k_ hk_ hs_=>Or.elim hs_ (fun e_=>(hk_.1.1.1.1.2) e_) (fun e_=>(hk_.2) e_))) (fun k_ hk_=>⟨hk_.1.1.1.1.1.1.2,hk_.1.1.1.1.1.2,hk_.1.1.1.1.2⟩));have n8_:=Aside0.mk (Kd.R_mono (ok':=fun k_=>some k_ ≠ (.slice Ao71 t317.length co71 : Value).ownBlock ∧ some k_ ≠ (.slice Ao82 t326.length co82 : Value).ownBlock ∧ some k_ ≠ (.slice Ao104 t342.length co104 : Value).ownBlock) (Kd.R_keptB ((Kd.R_apart' HO336.out (Kd.R_typed HO325.out) (by decide))) hkp (fun k_ hk_ hs_=>Or.elim hs_ (fun e_=>(hk_.2) e_) (fun e_=>(hk_.1.1.1.1.2) e_))) (fun k_ hk_=>⟨hk_.1.1.1.1.1.1.2,hk_.1.1.1.1.1.2,hk_.1.1.1.1.2⟩));have n9_:=Aside0.mk (blk_kept (kz BK337.out) hkp (fun hs_=>Or.elim hs_ (fun e_=>(fun e_=>(Kd.R_ne HO325.out BK337.out (by decide)) e_) e_) (fun e_=>(fun e_=>(Kd.R_ne HO328.out BK337.out (by decide)) e_) e_)));have n10_:=Aside0.mk (Kd.R_mono (ok':=fun k_=>some k_ ≠ (.slice Ao69 t314.length co69 : Value).ownBlock ∧ some k_ ≠ (.slice Ao81 t323.length co81 : Value).ownBlock ∧ some k_ ≠ (.slice Ao92 t331.length co92 : Value).ownBlock) (Kd.R_keptB ((Kd.R_apart' HO341.out (Kd.R_typed HO328.out) (by decide))) hkp (fun k_ hk_ hs_=>Or.elim hs_ (fun e_=>(hk_.1.1.1.1.2) e_) (fun e_=>(hk_.2) e_))) (fun k_ hk_=>⟨hk_.1.1.1.1.1.1.2,hk_.1.1.1.1.1.2,hk_.1.1.1.1.2⟩));have n11_:=Aside0.mk (Kd.R_mono (ok':=fun k_=>some k_ ≠ (.slice Ao71 t317.length co71 : Value).ownBlock ∧ some k_ ≠ (.slice Ao82 t326.length co82 : Value).ownBlock ∧ some k_ ≠ (.slice Ao93 t334.length co93 : Value).ownBlock) (Kd.R_keptB ((Kd.R_apart' HO344.out (Kd.R_typed HO325.out) (by decide))) hkp (fun k_ hk_ hs_=>Or.elim hs_ (fun e_=>(hk_.2) e_) (fun e_=>(hk_.1.1.1.1.2) e_))) (fun k_ hk_=>⟨hk_.1.1.1.1.1.1.2,hk_.1.1.1.1.1.2,hk_.1.1.1.1.2⟩));have n12_:=Aside0.mk (blk_kept (kz BK346.out) hkp (fun hs_=>Or.elim hs_ (fun e_=>(fun e_=>(Kd.R_ne HO325.out BK346.out (by decide)) e_) e_) (fun e_=>(fun e_=>(Kd.R_ne HO328.out BK346.out (by decide)) e_) e_)));have n13_:=Aside0.mk (hb);clear BK295 BK296 HO316 HO319 BK321 HO325 HO328 HO333 HO336 BK337 HO341 HO344 BK346 HB;have BK295:=n0_;have BK296:=n1_;have HO316:=n2_;have HO319:=n3_;have BK321:=n4_;have HO333:=n7_;have HO336:=n8_;have BK337:=n9_;have HO341:=n10_;have HO344:=n11_;have BK346:=n12_;have HB:=n13_;clear n0_ n1_ n2_ n3_ n4_ n7_ n8_ n9_ n10_ n11_ n12_ n13_;(try clear hb);(try clear hkp);(try clear hy0);(try clear hy1);have hcz119_0 : w118.cell? ⟨gb337,0,none⟩ = some (.int .i64 t330):=(blk_cell BK337.out 0).trans rfl;have hcz119_1 : w118.cell? ⟨gb337,1,none⟩ = some (.slice Ao92 t331.length co92):=(blk_cell BK337.out 1).trans rfl;have hcz119_2 : w118.cell? ⟨gb337,2,none⟩ = some (.slice Ao93 t334.length co93):=(blk_cell BK337.out 2).trans rfl;have hfz119_0:=blk_frozen BK337.out 0;have hfz119_1:=blk_frozen BK337.out 1;have hfz119_2:=blk_frozen BK337.out 2)|((with_reducible refine gate_callee (f:=27) rfl ?_);refine goesL_ (some 69) rfl rfl Try.func27 (by kernel_rfl) rfl #[.agg #[.int .i64 t330,.slice Ao92 t331.length co92,.slice Ao93 t334.length co93],.int .i64 t364] rfl mz ?_;(with_reducible refine (laws_markPlan.calls k t330 (fun k_=>some k_ = (.slice Ao92 t331.length co92 : Value).ownBlock) (.slice Ao92 t331.length co92) t331 (fun k_=>some k_ = (.slice Ao93 t334.length co93 : Value).ownBlock) (.slice Ao93 t334.length co93) t334 t364 t367 t368 t369 w _ ?side1 ?side2 ?side3 A34.out).mono ?_);(case side1=>repeat (first|(with_reducible first|exact HB.out|apply below_alloc|apply pw_below_drewN|apply below_drew1|refine below_set ?_ GE295.out|refine below_set ?_ GE296.out|refine below_set ?_ GE321.out|refine below_set ?_ GE346.out)|exact HB.out));(case side2=>exact Kd.R_tight rfl HO333.out);(case side3=>exact Kd.R_tight rfl HO336.out);rintro e w120 ⟨rfl,hy0,hy1,hb,hkp⟩;refine ⟨_,rfl,?_⟩;have n0_:=Aside0.mk (blk_kept (kz BK295.out) hkp (fun hs_=>Or.elim hs_ (fun e_=>(fun e_=>(Kd.R_ne HO333.out BK295.out (by decide)) e_) e_) (fun e_=>(fun e_=>(Kd.R_ne HO336.out BK295.out (by decide)) e_) e_)));have n1_:=Aside0.mk (blk_kept (kz BK296.out) hkp (fun hs_=>Or.elim hs_ (fun e_=>(fun e_=>(Kd.R_ne HO333.out BK296.out (by decide)) e_) e_) (fun e_=>(fun e_=>(Kd.R_ne HO336.out BK296.out (by decide)) e_) e_)));have n2_:=Aside0.mk (Kd.R_mono (ok':=fun k_=>some k_ ≠ (.slice Ao92 t331.length co92 : Value).ownBlock ∧ some k_ ≠ (.slice Ao103 t339.length co103 : Value).ownBlock) (Kd.R_keptB ((Kd.R_apart' HO316.out (Kd.R_typed HO336.out) (by decide))) hkp (fun k_ hk_ hs_=>Or.elim hs_ (fun e_=>(hk_.1.2.1) e_) (fun e_=>(hk_.2) e_))) (fun k_ hk_=>⟨hk_.1.1.2.1,hk_.1.1.2.2⟩));have n3_:=Aside0.mk (Kd.R_mono (ok':=fun k_=>some k_ ≠ (.slice Ao93 t334.length co93 : Value).ownBlock ∧ some k_ ≠ (.slice Ao104 t342.length co104 : Value).ownBlock) (Kd.R_keptB ((Kd.R_apart' HO319.out (Kd.R_typed HO333.out) (by decide))) hkp (fun k_ hk_ hs_=>Or.elim hs_ (fun e_=>(hk_.2) e_) (fun e_=>(hk_.1.2.1) e_))) (fun k_ hk_=>⟨hk_.1.1.2.1,hk_.1.1.2.2⟩));have n4_:=Aside0.mk (blk_kept (kz BK321.out) hkp (fun hs_=>Or.elim hs_ (fun e_=>(fun e_=>(Kd.R_ne HO333.out BK321.out (by decide)) e_) e_) (fun e_=>(fun e_=>(Kd.R_ne HO336.out BK321.out (by decide)) e_) e_)));have n7_:=Aside0.mk (Kd.R_mono (ok':=fun k_=>some k_ ≠ (.slice Ao69 t314.length co69 : Value).ownBlock ∧ some k_ ≠ (.slice Ao92 t331.length co92 : Value).ownBlock) (Kd.R_keptB ((Kd.R_apart' HO341.out (Kd.R_typed HO336.out) (by decide))) hkp (fun k_ hk_ hs_=>Or.elim hs_ (fun e_=>(hk_.1.2.2) e_) (fun e_=>(hk_.2) e_))) (fun k_ hk_=>⟨hk_.1.1.1,hk_.1.1.2.2⟩));have n8_:=Aside0.mk (Kd.R_mono (ok':=fun k_=>some k_ ≠ (.slice Ao71 t317.length co71 : Value).ownBlock ∧ some k_ ≠ (.slice Ao93 t334.length co93 : Value).ownBlock) (Kd.R_keptB ((Kd.R_apart' HO344.out (Kd.R_typed HO333.out) (by decide))) hkp (fun k_ hk_ hs_=>Or.elim hs_ (fun e_=>(hk_.2) e_) (fun e_=>(hk_.1.2.2) e_))) (fun k_ hk_=>⟨hk_.1.1.1,hk_.1.1.2.2⟩));have n9_:=Aside0.mk (blk_kept (kz BK346.out) hkp (fun hs_=>Or.elim hs_ (fun e_=>(fun e_=>(Kd.R_ne HO333.out BK346.out (by decide)) e_) e_) (fun e_=>(fun e_=>(Kd.R_ne HO336.out BK346.out (by decide)) e_) e_)));have n10_:=Aside0.mk (hb);clear BK295 BK296 HO316 HO319 BK321 HO333 HO336 HO341 HO344 BK346 HB;have BK295:=n0_;have BK296:=n1_;have HO316:=n2_;have HO319:=n3_;have BK321:=n4_;have HO341:=n7_;have HO344:=n8_;have BK346:=n9_;have HB:=n10_;clear n0_ n1_ n2_ n3_ n4_ n7_ n8_ n9_ n10_;(try clear hb);(try clear hkp);(try clear hy0);(try clear hy1);have hcz121_0 : w120.cell? ⟨gb346,0,none⟩ = some (.int .i64 t338):=(blk_cell BK346.out 0).trans rfl;have hcz121_1 : w120.cell? ⟨gb346,1,none⟩ = some (.slice Ao103 t339.length co103):=(blk_cell BK346.out 1).trans rfl;have hcz121_2 : w120.cell? ⟨gb346,2,none⟩ = some (.slice Ao104 t342.length co104):=(blk_cell BK346.out 2).trans rfl;have hfz121_0:=blk_frozen BK346.out 0;have hfz121_1:=blk_frozen BK346.out 1;have hfz121_2:=blk_frozen BK346.out 2;have hcz122_0 : w120.cell? ⟨gb321,0,none⟩ = some (.int .i64 t313):=(blk_cell BK321.out 0).trans rfl;have hcz122_1 : w120.cell? ⟨gb321,1,none⟩ = some (.slice Ao69 t314.length co69):=(blk_cell BK321.out 1).trans rfl;have hcz122_2 : w120.cell? ⟨gb321,2,none⟩ = some (.slice Ao71 t317.length co71):=(blk_cell BK321.out 2).trans rfl;have hfz122_0:=blk_frozen BK321.out 0;have hfz122_1:=blk_frozen BK321.out 1;have hfz122_2:=blk_frozen BK321.out 2)|(go_at_call 19;(with_reducible refine (laws_eqPlan.calls k t338 _ _ t339 _ _ t342 t313 _ _ t314 _ _ t317 true _ ?side1 ?side2 ?side3 ?side4 ?side5 ?side6 ?side7 ?side8 A36.out).mono ?_);(case side1=>exact cz (Kd.R_reads' HO341.out).2.2);(case side2=>exact (Kd.R_reads' HO341.out).2.1);(case side3=>exact cz (Kd.R_reads' HO344.out).2.2);(case side4=>exact (Kd.R_reads' HO344.out).2.1);(case side5=>exact cz (Kd.R_reads' HO316.out).2.2);(case side6=>exact (Kd.R_reads' HO316.out).2.1);(case side7=>exact cz (Kd.R_reads' HO319.out).2.2);(case side8=>exact (Kd.R_reads' HO319.out).2.1);rintro e w123 ⟨rfl,hb⟩;have n0_:=Aside0.mk (Kd.R_below (rz HO316.out) hb);have n1_:=Aside0.mk (Kd.R_below (rz HO319.out) hb);have n2_:=Aside0.mk (Kd.R_below (rz HO341.out) hb);have n3_:=Aside0.mk (Kd.R_below (rz HO344.out) hb);have n4_:=Aside0.mk (kb BK295.out hb);have n5_:=Aside0.mk (kb BK296.out hb);have n6_:=Aside0.mk (kb BK321.out hb);have n7_:=Aside0.mk (kb BK346.out hb);have n8_:=Aside0.mk (below_step bs hb);clear HO316 HO319 HO341 HO344 BK295 BK296 BK321 BK346 HB;have HO316:=n0_;have HO319:=n1_;have HO341:=n2_;have HO344:=n3_;have BK295:=n4_;have BK296:=n5_;have BK321:=n6_;have BK346:=n7_;have HB:=n8_;clear n0_ n1_ n2_ n3_ n4_ n5_ n6_ n7_ n8_;(try clear hb);have hcz124_0 : w123.cell? ⟨gb346,0,none⟩ = some (.int .i64 t338):=(blk_cell BK346.out 0).trans rfl;have hcz124_1 : w123.cell? ⟨gb346,1,none⟩ = some (.slice Ao103 t339.length co103):=(blk_cell BK346.out 1).trans rfl;have hcz124_2 : w123.cell? ⟨gb346,2,none⟩ = some (.slice Ao104 t342.length co104):=(blk_cell BK346.out 2).trans rfl;have hfz124_0:=blk_frozen BK346.out 0;have hfz124_1:=blk_frozen BK346.out 1;have hfz124_2:=blk_frozen BK346.out 2)|((with_reducible refine gate_callee (f:=27) rfl ?_);refine goesL_ (some 85) rfl rfl Try.func27 (by kernel_rfl) rfl #[.agg #[.int .i64 t338,.slice Ao103 t339.length co103,.slice Ao104 t342.length co104],.int .i64 1] rfl mz ?_;(with_reducible refine (laws_markPlan.calls k t338 (fun k_=>some k_ = (.slice Ao103 t339.length co103 : Value).ownBlock) (.slice Ao103 t339.length co103) t339 (fun k_=>some k_ = (.slice Ao104 t342.length co104 : Value).ownBlock) (.slice Ao104 t342.length co104) t342 1 t371 t372 t373 w _ ?side1 ?side2 ?side3 A38.out).mono ?_);(case side1=>repeat (first|(with_reducible first|exact HB.out|apply below_alloc|apply pw_below_drewN|apply below_drew1|refine below_set ?_ GE295.out|refine below_set ?_ GE296.out|refine below_set ?_ GE321.out|refine below_set ?_ GE346.out)|exact HB.out));(case side2=>exact Kd.R_tight rfl HO341.out);(case side3=>exact Kd.R_tight rfl HO344.out);rintro e w125 ⟨rfl,hy0,hy1,hb,hkp⟩;refine ⟨_,rfl,?_⟩;have n0_:=Aside0.mk (blk_kept (kz BK295.out) hkp (fun hs_=>Or.elim hs_ (fun e_=>(fun e_=>(Kd.R_ne HO341.out BK295.out (by decide)) e_) e_) (fun e_=>(fun e_=>(Kd.R_ne HO344.out BK295.out (by decide)) e_) e_)));have n1_:=Aside0.mk (blk_kept (kz BK296.out) hkp (fun hs_=>Or.elim hs_ (fun e_=>(fun e_=>(Kd.R_ne HO341.out BK296.out (by decide)) e_) e_) (fun e_=>(fun e_=>(Kd.R_ne HO344.out BK296.out (by decide)) e_) e_)));have n2_:=Aside0.mk (Kd.R_mono (ok':=fun k_=>some k_ ≠ (.slice Ao103 t339.length co103 : Value).ownBlock) (Kd.R_keptB ((Kd.R_apart' HO316.out (Kd.R_typed HO344.out) (by decide))) hkp (fun k_ hk_ hs_=>Or.elim hs_ (fun e_=>(hk_.1.2) e_) (fun e_=>(hk_.2) e_))) (fun k_ hk_=>hk_.1.1.2));have n3_:=Aside0.mk (Kd.R_mono (ok':=fun k_=>some k_ ≠ (.slice Ao104 t342.length co104 : Value).ownBlock) (Kd.R_keptB ((Kd.R_apart' HO319.out (Kd.R_typed HO341.out) (by decide))) hkp (fun k_ hk_ hs_=>Or.elim hs_ (fun e_=>(hk_.2) e_) (fun e_=>(hk_.1.2) e_))) (fun k_ hk_=>hk_.1.1.2));have n4_:=Aside0.mk (blk_kept (kz BK321.out) hkp (fun hs_=>Or.elim hs_ (fun e_=>(fun e_=>(Kd.R_ne HO341.out BK321.out (by decide)) e_) e_) (fun e_=>(fun e_=>(Kd.R_ne HO344.out BK321.out (by decide)) e_) e_)));have n5_:=Aside0.mk (Kd.R_reok rfl hy0 (fun k_ e_=>HO341.out.1 k_ e_));have n6_:=Aside0.mk (Kd.R_reok rfl hy1 (fun k_ e_=>HO344.out.1 k_ e_));have n7_:=Aside0.mk (blk_kept (kz BK346.out) hkp (fun hs_=>Or.elim hs_ (fun e_=>(fun e_=>(Kd.R_ne HO341.out BK346.out (by decide)) e_) e_) (fun e_=>(fun e_=>(Kd.R_ne HO344.out BK346.out (by decide)) e_) e_)));have n8_:=Aside0.mk (hb);clear BK295 BK296 HO316 HO319 BK321 HO341 HO344 BK346 HB;have BK295:=n0_;have BK296:=n1_;have HO316:=n2_;have HO319:=n3_;have BK321:=n4_;have HO341:=n5_;have HO344:=n6_;have BK346:=n7_;have HB:=n8_;clear n0_ n1_ n2_ n3_ n4_ n5_ n6_ n7_ n8_;(try clear hb);(try clear hkp);(try clear hy0);(try clear hy1);have hcz126_0 : w125.cell? ⟨gb346,0,none⟩ = some (.int .i64 t338):=(blk_cell BK346.out 0).trans rfl;have hcz126_1 : w125.cell? ⟨gb346,1,none⟩ = some (.slice Ao103 t339.length co103):=(blk_cell BK346.out 1).trans rfl;have hcz126_2 : w125.cell? ⟨gb346,2,none⟩ = some (.slice Ao104 t342.length co104):=(blk_cell BK346.out 2).trans rfl;have hfz126_0:=blk_frozen BK346.out 0;have hfz126_1:=blk_frozen BK346.out 1;have hfz126_2:=blk_frozen BK346.out 2)|((with_reducible refine gate_callee (f:=33) rfl ?_);refine goesL_ (some 88) rfl rfl Try.func33 (by kernel_rfl) rfl #[.agg #[.int .i64 t338,.slice Ao103 t372.length co103,.slice Ao104 t373.length co104],.int .i64 1] rfl (by (try simp only [List.map_toArray,List.map_cons,List.map_nil]);first|done|(rw [show t372.length = t339.length from (Kd.R_reads' HO341.out).1.symm,show t373.length = t342.length from (Kd.R_reads' HO344.out).1.symm] <;> rfl)|rfl|(simp only [List.length_drop,List.length_take];rfl)) ?_;(with_reducible refine (laws_heldPlan.calls k t338 _ _ t372 _ _ t373 1 t374 _ ?side1 ?side2 ?side3 ?side4 A39.out).mono ?_);(case side1=>exact cz (Kd.R_reads' HO341.out).2.2);(case side2=>rw [show t372.length = t339.length from (Kd.R_reads' HO341.out).1.symm];exact (Kd.R_reads' HO341.out).2.1);(case side3=>exact cz (Kd.R_reads' HO344.out).2.2);(case side4=>rw [show t373.length = t342.length from (Kd.R_reads' HO344.out).1.symm];exact (Kd.R_reads' HO344.out).2.1);rintro e w127 ⟨rfl,hb⟩;refine ⟨_,rfl,?_⟩;have n0_:=Aside0.mk (Kd.R_below (rz HO316.out) hb);have n1_:=Aside0.mk (Kd.R_below (rz HO319.out) hb);have n2_:=Aside0.mk (Kd.R_below (rz HO341.out) hb);have n3_:=Aside0.mk (Kd.R_below (rz HO344.out) hb);have n4_:=Aside0.mk (kb BK295.out hb);have n5_:=Aside0.mk (kb BK296.out hb);have n6_:=Aside0.mk (kb BK321.out hb);have n7_:=Aside0.mk (kb BK346.out hb);have n8_:=Aside0.mk (below_step bs hb);clear HO316 HO319 HO341 HO344 BK295 BK296 BK321 BK346 HB;have HO316:=n0_;have HO319:=n1_;have HO341:=n2_;have HO344:=n3_;have BK295:=n4_;have BK296:=n5_;have BK321:=n6_;have BK346:=n7_;have HB:=n8_;clear n0_ n1_ n2_ n3_ n4_ n5_ n6_ n7_ n8_;(try clear hb)))
               have n0_:=Aside0.mk (Kd.R_drew HO316.out)
               have n1_:=Aside0.mk (Kd.R_drew HO319.out)
               have n2_:=Aside0.mk (Kd.R_drew HO341.out)
               have n3_:=Aside0.mk (Kd.R_drew HO344.out)
               have n4_:=Aside0.mk (blk_drew BK295.out)
               have n5_:=Aside0.mk (blk_drew BK296.out)
               have n6_:=Aside0.mk (blk_drew BK321.out)
               have n7_:=Aside0.mk (blk_drew BK346.out)
               have n8_:=Aside0.mk (below_drew1 HB.out)
               clear HO316
               clear HO319
               clear HO341
               clear HO344
               clear BK295
               clear BK296
               clear BK321
               clear BK346
               clear HB
               have HO316:=n0_
               have HO319:=n1_
               have HO341:=n2_
               have HO344:=n3_
               have BK295:=n4_
               have BK296:=n5_
               have BK321:=n6_
               have BK346:=n7_
               have HB:=n8_
               clear n0_ n1_ n2_ n3_ n4_ n5_ n6_ n7_ n8_
               refine start_ (n:=11) (S:=fun w'=>w'.cell? ⟨gb295,0,none⟩ = some (.int .i64 a0_0) ∧ w'.cell? ⟨gb295,1,none⟩ = some (.slice A0_1 l0_1.length c0_1) ∧ w'.cell? ⟨gb295,2,none⟩ = some (.slice A0_2 l0_2.length c0_2) ∧ w'.cell? ⟨gb296,0,none⟩ = some (.int .i64 a1_0) ∧ w'.cell? ⟨gb296,1,none⟩ = some (.slice A1_1 l1_1.length c1_1) ∧ w'.cell? ⟨gb296,2,none⟩ = some (.slice A1_2 l1_2.length c1_2)) (ds:=[]) #[false,false,false,false,false,false,false,false,false,false,false] (by kernel_rfl) rfl rfl ⟨(blk_cell BK295.out 0).trans rfl,(blk_cell BK295.out 1).trans rfl,(blk_cell BK295.out 2).trans rfl,(blk_cell BK296.out 0).trans rfl,(blk_cell BK296.out 1).trans rfl,(blk_cell BK296.out 2).trans rfl⟩ (fun hHeld=>?_);refine with_tabW laws_FnExactComposePlans.tab31 laws_FnExactComposePlans.bits31 (fun HT_ HW_=>?_)
               generalize w127.drew = w128 at HO316 HO319 HO341 HO344 BK295 BK296 BK321 BK346 HB hHeld ⊢
               refine take_ (i:=0) (N:=some 95) (v:=?_) (a':=?_) #[true,false,false,false,false,false,false,false,false,false,false] rfl rfl (take_ofW HT_.out HW_.out (by kernel_rfl)) (fun _ _ _ h=>h) (Or.inl ⟨by rfl,?_⟩) hHeld ?_ ?_
               rotate_left
               ·rintro w' ⟨s0,s1,s2,s3,s4,s5⟩
                go_simp
                with_reducible rfl
               rotate_left
               ·simp only [Act.put,xa,xb,xc,i64_w,i32_w]
                rfl
               refine take_ (i:=2) (N:=some 97) (v:=?_) (a':=?_) #[true,false,true,false,false,false,false,false,false,false,false] rfl rfl (take_ofW HT_.out HW_.out (by kernel_rfl)) (fun _ _ _ h=>h) (Or.inl ⟨by rfl,?_⟩) hHeld ?_ ?_
               rotate_left
               ·rintro w' ⟨s0,s1,s2,s3,s4,s5⟩
                go_simp
                with_reducible rfl
               rotate_left
               ·simp only [Act.put,xa,xb,xc,i64_w,i32_w]
                rfl
               refine join_ (σ:=Value × Value × Value × Value × Value × Value × Nat) 2 #[true,true,true,true,true,true,true,true,true,false,false] (fun s_=>[(96,.agg #[.int .i64 t375,s_.1,s_.2.1]),(98,.agg #[.int .i64 t382,s_.2.2.1,s_.2.2.2.1]),(99,.tuple #[.agg #[.int .i64 t389,s_.2.2.2.2.1,s_.2.2.2.2.2.1],.bool t396]),(15,.pointer (some ⟨s_.2.2.2.2.2.2,0,none⟩)),(94,.tuple #[.agg #[.int .i64 t389,s_.2.2.2.2.1,s_.2.2.2.2.2.1],.bool t396]),(100,.agg #[.int .i64 t389,s_.2.2.2.2.1,s_.2.2.2.2.2.1]),(101,.bool t396)]) (fun s_ w'=>(w'.cell? ⟨gb295,0,none⟩ = some (.int .i64 a0_0) ∧ w'.cell? ⟨gb295,1,none⟩ = some (.slice A0_1 l0_1.length c0_1) ∧ w'.cell? ⟨gb295,2,none⟩ = some (.slice A0_2 l0_2.length c0_2) ∧ w'.cell? ⟨gb296,0,none⟩ = some (.int .i64 a1_0) ∧ w'.cell? ⟨gb296,1,none⟩ = some (.slice A1_1 l1_1.length c1_1) ∧ w'.cell? ⟨gb296,2,none⟩ = some (.slice A1_2 l1_2.length c1_2)) ∧ (Kd.R k69 69 w' w.heap.size (fun k_=>some k_ ≠ (.slice Ao103 t339.length co103 : Value).ownBlock ∧ some k_ ≠ (s_.1 : Value).ownBlock ∧ some k_ ≠ (s_.2.2.1 : Value).ownBlock ∧ some k_ ≠ (s_.2.2.2.2.1 : Value).ownBlock) (.slice Ao69 t314.length co69) t314) ∧ (Kd.R (Kd.int .i64) 3 w' w.heap.size (fun k_=>some k_ ≠ (.slice Ao104 t342.length co104 : Value).ownBlock ∧ some k_ ≠ (s_.2.1 : Value).ownBlock ∧ some k_ ≠ (s_.2.2.2.1 : Value).ownBlock ∧ some k_ ≠ (s_.2.2.2.2.2.1 : Value).ownBlock) (.slice Ao71 t317.length co71) t317) ∧ (Kd.R k69 69 w' w.heap.size (fun k_=>some k_ ≠ (.slice Ao69 t314.length co69 : Value).ownBlock ∧ some k_ ≠ (s_.1 : Value).ownBlock ∧ some k_ ≠ (s_.2.2.1 : Value).ownBlock ∧ some k_ ≠ (s_.2.2.2.2.1 : Value).ownBlock) (.slice Ao103 t339.length co103) t372) ∧ (Kd.R (Kd.int .i64) 3 w' w.heap.size (fun k_=>some k_ ≠ (.slice Ao71 t317.length co71 : Value).ownBlock ∧ some k_ ≠ (s_.2.1 : Value).ownBlock ∧ some k_ ≠ (s_.2.2.2.1 : Value).ownBlock ∧ some k_ ≠ (s_.2.2.2.2.2.1 : Value).ownBlock) (.slice Ao104 t342.length co104) t373) ∧ (Kd.R k69 69 w' w.heap.size (fun k_=>some k_ ≠ (.slice Ao69 t314.length co69 : Value).ownBlock ∧ some k_ ≠ (.slice Ao103 t339.length co103 : Value).ownBlock ∧ some k_ ≠ (s_.2.2.1 : Value).ownBlock ∧ some k_ ≠ (s_.2.2.2.2.1 : Value).ownBlock) s_.1 t376) ∧ (Kd.R (Kd.int .i64) 3 w' w.heap.size (fun k_=>some k_ ≠ (.slice Ao71 t317.length co71 : Value).ownBlock ∧ some k_ ≠ (.slice Ao104 t342.length co104 : Value).ownBlock ∧ some k_ ≠ (s_.2.2.2.1 : Value).ownBlock ∧ some k_ ≠ (s_.2.2.2.2.2.1 : Value).ownBlock) s_.2.1 t379) ∧ (Kd.R k69 69 w' w.heap.size (fun k_=>some k_ ≠ (.slice Ao69 t314.length co69 : Value).ownBlock ∧ some k_ ≠ (.slice Ao103 t339.length co103 : Value).ownBlock ∧ some k_ ≠ (s_.1 : Value).ownBlock ∧ some k_ ≠ (s_.2.2.2.2.1 : Value).ownBlock) s_.2.2.1 t383) ∧ (Kd.R (Kd.int .i64) 3 w' w.heap.size (fun k_=>some k_ ≠ (.slice Ao71 t317.length co71 : Value).ownBlock ∧ some k_ ≠ (.slice Ao104 t342.length co104 : Value).ownBlock ∧ some k_ ≠ (s_.2.1 : Value).ownBlock ∧ some k_ ≠ (s_.2.2.2.2.2.1 : Value).ownBlock) s_.2.2.2.1 t386) ∧ (Kd.R k69 69 w' w.heap.size (fun k_=>some k_ ≠ (.slice Ao69 t314.length co69 : Value).ownBlock ∧ some k_ ≠ (.slice Ao103 t339.length co103 : Value).ownBlock ∧ some k_ ≠ (s_.1 : Value).ownBlock ∧ some k_ ≠ (s_.2.2.1 : Value).ownBlock) s_.2.2.2.2.1 t390) ∧ (Kd.R (Kd.int .i64) 3 w' w.heap.size (fun k_=>some k_ ≠ (.slice Ao71 t317.length co71 : Value).ownBlock ∧ some k_ ≠ (.slice Ao104 t342.length co104 : Value).ownBlock ∧ some k_ ≠ (s_.2.1 : Value).ownBlock ∧ some k_ ≠ (s_.2.2.2.1 : Value).ownBlock) s_.2.2.2.2.2.1 t393) ∧ (w'.heap[gb295]? = some (.cells #[.int .i64 a0_0,.slice A0_1 l0_1.length c0_1,.slice A0_2 l0_2.length c0_2] 25 (0,0))) ∧ (w'.heap[gb296]? = some (.cells #[.int .i64 a1_0,.slice A1_1 l1_1.length c1_1,.slice A1_2 l1_2.length c1_2] 25 (0,0))) ∧ (w'.heap[gb321]? = some (.cells #[.int .i64 t313,.slice Ao69 t314.length co69,.slice Ao71 t317.length co71] 30 (0,0))) ∧ (w'.heap[gb346]? = some (.cells #[.int .i64 t338,.slice Ao103 t339.length co103,.slice Ao104 t342.length co104] 30 (0,0))) ∧ (w'.heap[s_.2.2.2.2.2.2]? = some (.cells #[.int .i64 0,.slice none 0 0,.slice none 0 0] 30 (0,0))) ∧ (w.heap.size ≤ s_.2.2.2.2.2.2) ∧ (w.heap.size ≤ s_.2.2.2.2.2.2) ∧ (gb295 ≠ s_.2.2.2.2.2.2) ∧ (s_.2.2.2.2.2.2 ≠ gb295) ∧ (gb296 ≠ s_.2.2.2.2.2.2) ∧ (s_.2.2.2.2.2.2 ≠ gb296) ∧ (gb321 ≠ s_.2.2.2.2.2.2) ∧ (s_.2.2.2.2.2.2 ≠ gb321) ∧ (gb346 ≠ s_.2.2.2.2.2.2) ∧ (s_.2.2.2.2.2.2 ≠ gb346) ∧ (Below w.heap.size w w')) ?_ ?_
               rotate_left
               ·intro hCont
                refine two_ (i:=1) (j:=8) (Ni:=some 96) (Nj:=some 15) #[true,true,true,false,false,false,false,false,false,false,false] #[true,false,true,false,false,false,false,false,true,false,false] rfl rfl rfl rfl (two_of HT_.out (by kernel_rfl)) (by decide) (by decide) (fun K hK=>?_) (fun K hK=>?_)
                ·skip
                 refine goes_ Try.func17 (by kernel_rfl) rfl #[.agg #[.int .i64 a0_0,.slice A0_1 l0_1.length c0_1,.slice A0_2 l0_2.length c0_2]] (by rfl) rfl rfl mz ?_
                 with_reducible refine (laws_toPlan.calls k a0_0 _ _ l0_1 _ _ l0_2 t375 t376 t379 _ ?side1 ?side2 ?side3 ?side4 A42.out).mono ?_
                 (case side1=>exact cz (Kd.C_below HR0_1.out HB.out))
                 (case side2=>exact HC0_1.out)
                 (case side3=>exact cz (Kd.C_below HR0_2.out HB.out))
                 (case side4=>exact HC0_2.out)
                 rintro e w129 ⟨v377,v380,rfl,ho0,ho1,hb⟩
                 refine ⟨_,rfl,?_⟩
                 have n0_:=Aside0.mk (Kd.R_elder' (rz HO316.out) (Kd.R_base ho0) hb)
                 have n1_:=Aside0.mk (Kd.R_elder' (rz HO319.out) (Kd.R_base ho1) hb)
                 have n2_:=Aside0.mk (Kd.R_elder' (rz HO341.out) (Kd.R_base ho0) hb)
                 have n3_:=Aside0.mk (Kd.R_elder' (rz HO344.out) (Kd.R_base ho1) hb)
                 have n4_:=Aside0.mk (Kd.R_lower (Kd.R_new' (Kd.R_new' ho0 (Kd.R_lt (rz HO316.out))) (Kd.R_lt (rz HO341.out))) (below_size bs))
                 have n5_:=Aside0.mk (Kd.R_lower (Kd.R_new' (Kd.R_new' ho1 (Kd.R_lt (rz HO319.out))) (Kd.R_lt (rz HO344.out))) (below_size bs))
                 have n6_:=Aside0.mk (kb BK295.out hb)
                 have n7_:=Aside0.mk (kb BK296.out hb)
                 have n8_:=Aside0.mk (kb BK321.out hb)
                 have n9_:=Aside0.mk (kb BK346.out hb)
                 have n10_:=Aside0.mk (below_step bs hb)
                 clear HO316
                 clear HO319
                 clear HO341
                 clear HO344
                 clear BK295
                 clear BK296
                 clear BK321
                 clear BK346
                 clear HB
                 have HO316:=n0_
                 have HO319:=n1_
                 have HO341:=n2_
                 have HO344:=n3_
                 have HO378:=n4_
                 have HO381:=n5_
                 have BK295:=n6_
                 have BK296:=n7_
                 have BK321:=n8_
                 have BK346:=n9_
                 have HB:=n10_
                 clear n0_ n1_ n2_ n3_ n4_ n5_ n6_ n7_ n8_ n9_ n10_
                 (try clear hb)
                 (try clear ho0)
                 (try clear ho1)
                 refine hK.out _ _ ⟨(blk_cell BK295.out 0).trans rfl,(blk_cell BK295.out 1).trans rfl,(blk_cell BK295.out 2).trans rfl,(blk_cell BK296.out 0).trans rfl,(blk_cell BK296.out 1).trans rfl,(blk_cell BK296.out 2).trans rfl⟩ (fun hHeld=>?_)
                 clear hK K
                 refine norm_ (a':=?_) ?_ ?_
                 rotate_left
                 ·show Act.put _ (some 96) _ = _
                  simp only [Act.put,xa,xb,xc,i64_w,i32_w]
                  rfl
                 refine two_ (i:=3) (j:=8) (Ni:=some 98) (Nj:=some 15) #[true,true,true,true,false,false,false,false,false,false,false] #[true,true,true,false,false,false,false,false,true,false,false] rfl rfl rfl rfl (two_of HT_.out (by kernel_rfl)) (by decide) (by decide) (fun K hK=>?_) (fun K hK=>?_)
                 ·skip
                  refine goes_ Try.func17 (by kernel_rfl) rfl #[.agg #[.int .i64 a1_0,.slice A1_1 l1_1.length c1_1,.slice A1_2 l1_2.length c1_2]] (by rfl) rfl rfl mz ?_
                  with_reducible refine (laws_toPlan.calls k a1_0 _ _ l1_1 _ _ l1_2 t382 t383 t386 _ ?side1 ?side2 ?side3 ?side4 A43.out).mono ?_
                  (case side1=>exact cz (Kd.C_below HR1_1.out HB.out))
                  (case side2=>exact HC1_1.out)
                  (case side3=>exact cz (Kd.C_below HR1_2.out HB.out))
                  (case side4=>exact HC1_2.out)
                  rintro e w130 ⟨v384,v387,rfl,ho0,ho1,hb⟩
                  refine ⟨_,rfl,?_⟩
                  have n0_:=Aside0.mk (Kd.R_elder' (rz HO316.out) (Kd.R_base ho0) hb)
                  have n1_:=Aside0.mk (Kd.R_elder' (rz HO319.out) (Kd.R_base ho1) hb)
                  have n2_:=Aside0.mk (Kd.R_elder' (rz HO341.out) (Kd.R_base ho0) hb)
                  have n3_:=Aside0.mk (Kd.R_elder' (rz HO344.out) (Kd.R_base ho1) hb)
                  have n4_:=Aside0.mk (Kd.R_elder' (rz HO378.out) (Kd.R_base ho0) hb)
                  have n5_:=Aside0.mk (Kd.R_elder' (rz HO381.out) (Kd.R_base ho1) hb)
                  have n6_:=Aside0.mk (Kd.R_lower (Kd.R_new' (Kd.R_new' (Kd.R_new' ho0 (Kd.R_lt (rz HO316.out))) (Kd.R_lt (rz HO341.out))) (Kd.R_lt (rz HO378.out))) (below_size bs))
                  have n7_:=Aside0.mk (Kd.R_lower (Kd.R_new' (Kd.R_new' (Kd.R_new' ho1 (Kd.R_lt (rz HO319.out))) (Kd.R_lt (rz HO344.out))) (Kd.R_lt (rz HO381.out))) (below_size bs))
                  have n8_:=Aside0.mk (kb BK295.out hb)
                  have n9_:=Aside0.mk (kb BK296.out hb)
                  have n10_:=Aside0.mk (kb BK321.out hb)
                  have n11_:=Aside0.mk (kb BK346.out hb)
                  have n12_:=Aside0.mk (below_step bs hb)
                  clear HO316
                  clear HO319
                  clear HO341
                  clear HO344
                  clear HO378
                  clear HO381
                  clear BK295
                  clear BK296
                  clear BK321
                  clear BK346
                  clear HB
                  have HO316:=n0_
                  have HO319:=n1_
                  have HO341:=n2_
                  have HO344:=n3_
                  have HO378:=n4_
                  have HO381:=n5_
                  have HO385:=n6_
                  have HO388:=n7_
                  have BK295:=n8_
                  have BK296:=n9_
                  have BK321:=n10_
                  have BK346:=n11_
                  have HB:=n12_
                  clear n0_ n1_ n2_ n3_ n4_ n5_ n6_ n7_ n8_ n9_ n10_ n11_ n12_
                  (try clear hb)
                  (try clear ho0)
                  (try clear ho1)
                  obtain ⟨Ao131,co131,eo131⟩:=Kd.R_slice HO378.out
                  (first|subst eo131|(injection eo131 with f1_ f2_ f3_;have f4_:=f1_.symm;have f5_:=f3_.symm;clear f1_ f2_ f3_;subst f4_;subst f5_))
                  obtain ⟨Ao132,co132,eo132⟩:=Kd.R_slice HO381.out
                  (first|subst eo132|(injection eo132 with f1_ f2_ f3_;have f4_:=f1_.symm;have f5_:=f3_.symm;clear f1_ f2_ f3_;subst f4_;subst f5_))
                  obtain ⟨Ao133,co133,eo133⟩:=Kd.R_slice HO385.out
                  (first|subst eo133|(injection eo133 with f1_ f2_ f3_;have f4_:=f1_.symm;have f5_:=f3_.symm;clear f1_ f2_ f3_;subst f4_;subst f5_))
                  obtain ⟨Ao134,co134,eo134⟩:=Kd.R_slice HO388.out
                  (first|subst eo134|(injection eo134 with f1_ f2_ f3_;have f4_:=f1_.symm;have f5_:=f3_.symm;clear f1_ f2_ f3_;subst f4_;subst f5_))
                  refine hK.out _ _ ⟨(blk_cell BK295.out 0).trans rfl,(blk_cell BK295.out 1).trans rfl,(blk_cell BK295.out 2).trans rfl,(blk_cell BK296.out 0).trans rfl,(blk_cell BK296.out 1).trans rfl,(blk_cell BK296.out 2).trans rfl⟩ (fun hHeld=>?_)
                  clear hK K
                  refine norm_ (a':=?_) ?_ ?_
                  rotate_left
                  ·show Act.put _ (some 98) _ = _
                   simp only [Act.put,xa,xb,xc,i64_w,i32_w]
                   rfl
                  refine two_ (i:=4) (j:=8) (Ni:=some 99) (Nj:=some 15) #[true,true,true,true,true,false,false,false,false,false,false] #[true,true,true,true,false,false,false,false,true,false,false] rfl rfl rfl rfl (two_of HT_.out (by kernel_rfl)) (by decide) (by decide) (fun K hK=>?_) (fun K hK=>?_)
                  ·skip
                   refine goes_ Try.func50 (by kernel_rfl) rfl #[.agg #[.int .i64 t375,.slice Ao131 t376.length co131,.slice Ao132 t379.length co132],.agg #[.int .i64 t382,.slice Ao133 t383.length co133,.slice Ao134 t386.length co134]] (by rfl) rfl rfl mz ?_
                   with_reducible refine (impl_ComposePlans.calls k t375 _ _ t376 _ _ t379 t382 _ _ t383 _ _ t386 t389 t390 t393 t396 _ ?side1 ?side2 ?side3 ?side4 ?side5 ?side6 ?side7 ?side8 A44.out).mono ?_
                   (case side1=>exact cz (Kd.R_reads' HO378.out).2.2)
                   (case side2=>exact (Kd.R_reads' HO378.out).2.1)
                   (case side3=>exact cz (Kd.R_reads' HO381.out).2.2)
                   (case side4=>exact (Kd.R_reads' HO381.out).2.1)
                   (case side5=>exact cz (Kd.R_reads' HO385.out).2.2)
                   (case side6=>exact (Kd.R_reads' HO385.out).2.1)
                   (case side7=>exact cz (Kd.R_reads' HO388.out).2.2)
                   (case side8=>exact (Kd.R_reads' HO388.out).2.1)
                   rintro e w135 ⟨v391,v394,rfl,ho0,ho1,hb⟩
                   refine ⟨_,rfl,?_⟩
                   have n0_:=Aside0.mk (Kd.R_elder' (rz HO316.out) (Kd.R_base ho0) hb)
                   have n1_:=Aside0.mk (Kd.R_elder' (rz HO319.out) (Kd.R_base ho1) hb)
                   have n2_:=Aside0.mk (Kd.R_elder' (rz HO341.out) (Kd.R_base ho0) hb)
                   have n3_:=Aside0.mk (Kd.R_elder' (rz HO344.out) (Kd.R_base ho1) hb)
                   have n4_:=Aside0.mk (Kd.R_elder' (rz HO378.out) (Kd.R_base ho0) hb)
                   have n5_:=Aside0.mk (Kd.R_elder' (rz HO381.out) (Kd.R_base ho1) hb)
                   have n6_:=Aside0.mk (Kd.R_elder' (rz HO385.out) (Kd.R_base ho0) hb)
                   have n7_:=Aside0.mk (Kd.R_elder' (rz HO388.out) (Kd.R_base ho1) hb)
                   have n8_:=Aside0.mk (Kd.R_lower (Kd.R_new' (Kd.R_new' (Kd.R_new' (Kd.R_new' ho0 (Kd.R_lt (rz HO316.out))) (Kd.R_lt (rz HO341.out))) (Kd.R_lt (rz HO378.out))) (Kd.R_lt (rz HO385.out))) (below_size bs))
                   have n9_:=Aside0.mk (Kd.R_lower (Kd.R_new' (Kd.R_new' (Kd.R_new' (Kd.R_new' ho1 (Kd.R_lt (rz HO319.out))) (Kd.R_lt (rz HO344.out))) (Kd.R_lt (rz HO381.out))) (Kd.R_lt (rz HO388.out))) (below_size bs))
                   have n10_:=Aside0.mk (kb BK295.out hb)
                   have n11_:=Aside0.mk (kb BK296.out hb)
                   have n12_:=Aside0.mk (kb BK321.out hb)
                   have n13_:=Aside0.mk (kb BK346.out hb)
                   have n14_:=Aside0.mk (below_step bs hb)
                   clear HO316
                   clear HO319
                   clear HO341
                   clear HO344
                   clear HO378
                   clear HO381
                   clear HO385
                   clear HO388
                   clear BK295
                   clear BK296
                   clear BK321
                   clear BK346
                   clear HB
                   have HO316:=n0_
                   have HO319:=n1_
                   have HO341:=n2_
                   have HO344:=n3_
                   have HO378:=n4_
                   have HO381:=n5_
                   have HO385:=n6_
                   have HO388:=n7_
                   have HO392:=n8_
                   have HO395:=n9_
                   have BK295:=n10_
                   have BK296:=n11_
                   have BK321:=n12_
                   have BK346:=n13_
                   have HB:=n14_
                   clear n0_ n1_ n2_ n3_ n4_ n5_ n6_ n7_ n8_ n9_ n10_ n11_ n12_ n13_ n14_
                   (try clear hb)
                   (try clear ho0)
                   (try clear ho1)
                   refine hK.out _ _ ⟨(blk_cell BK295.out 0).trans rfl,(blk_cell BK295.out 1).trans rfl,(blk_cell BK295.out 2).trans rfl,(blk_cell BK296.out 0).trans rfl,(blk_cell BK296.out 1).trans rfl,(blk_cell BK296.out 2).trans rfl⟩ (fun hHeld=>?_)
                   clear hK K
                   refine norm_ (a':=?_) ?_ ?_
                   rotate_left
                   ·show Act.put _ (some 99) _ = _
                    simp only [Act.put,xa,xb,xc,i64_w,i32_w]
                    rfl
                   refine pure_ (i:=5) (N:=some 94) (v:=?_) (a':=?_) #[true,true,true,true,true,true,false,false,false,false,false] rfl rfl (any_of HT_.out (by kernel_rfl)) (fun _ _ _ h=>h) (Or.inl ⟨by rfl,?_⟩) ?_ ?_
                   rotate_left
                   ·intro w'
                    go_simp
                    with_reducible rfl
                   rotate_left
                   ·simp only [Act.put,xa,xb,xc,i64_w,i32_w]
                    rfl
                   refine pure_ (i:=6) (N:=some 100) (v:=?_) (a':=?_) #[true,true,true,true,true,true,true,false,false,false,false] rfl rfl (any_of HT_.out (by kernel_rfl)) (fun _ _ _ h=>h) (Or.inl ⟨by rfl,?_⟩) ?_ ?_
                   rotate_left
                   ·intro w'
                    go_simp
                    with_reducible rfl
                   rotate_left
                   ·simp only [Act.put,xa,xb,xc,i64_w,i32_w]
                    rfl
                   refine pure_ (i:=7) (N:=some 101) (v:=?_) (a':=?_) #[true,true,true,true,true,true,true,true,false,false,false] rfl rfl (any_of HT_.out (by kernel_rfl)) (fun _ _ _ h=>h) (Or.inl ⟨by rfl,?_⟩) ?_ ?_
                   rotate_left
                   ·intro w'
                    go_simp
                    with_reducible rfl
                   rotate_left
                   ·simp only [Act.put,xa,xb,xc,i64_w,i32_w]
                    rfl
                   refine one_ (i:=8) (N:=some 15) #[true,true,true,true,true,true,true,true,true,false,false] rfl rfl (one_of HT_.out (by kernel_rfl)) (by decide) (fun K hK=>?_)
                   refine box_step ?hg (N:=15) ?hd (cs:=#[.int .i64 0,.slice none 0 0,.slice none 0 0]) (t:=30) ?hr ?_;(case hd=>rfl);(case hg=>rfl);(case hr=>first|(go_simp;done)|(go_simp;rfl))
                   intro gb397 hg w136 hbox hb
                   have n0_:=Aside0.mk (Kd.R_below (rz HO316.out) hb)
                   have n1_:=Aside0.mk (Kd.R_below (rz HO319.out) hb)
                   have n2_:=Aside0.mk (Kd.R_below (rz HO341.out) hb)
                   have n3_:=Aside0.mk (Kd.R_below (rz HO344.out) hb)
                   have n4_:=Aside0.mk (Kd.R_below (rz HO378.out) hb)
                   have n5_:=Aside0.mk (Kd.R_below (rz HO381.out) hb)
                   have n6_:=Aside0.mk (Kd.R_below (rz HO385.out) hb)
                   have n7_:=Aside0.mk (Kd.R_below (rz HO388.out) hb)
                   have n8_:=Aside0.mk (Kd.R_below (rz HO392.out) hb)
                   have n9_:=Aside0.mk (Kd.R_below (rz HO395.out) hb)
                   have n10_:=Aside0.mk (kb BK295.out hb)
                   have n11_:=Aside0.mk (kb BK296.out hb)
                   have n12_:=Aside0.mk (kb BK321.out hb)
                   have n13_:=Aside0.mk (kb BK346.out hb)
                   have n14_:=Aside0.mk (below_step bs hb)
                   have n15_:=Aside0.mk (hbox)
                   have n16_:=Aside0.mk ((by rw [hg];exact (below_size bs) : w.heap.size ≤ gb397))
                   have n17_:=Aside0.mk ((by rw [hg];exact (below_size bs) : w.heap.size ≤ gb397))
                   have n18_:=Aside0.mk (kn hg BK295.out)
                   have n19_:=Aside0.mk (km hg BK295.out)
                   have n20_:=Aside0.mk (kn hg BK296.out)
                   have n21_:=Aside0.mk (km hg BK296.out)
                   have n22_:=Aside0.mk (kn hg BK321.out)
                   have n23_:=Aside0.mk (km hg BK321.out)
                   have n24_:=Aside0.mk (kn hg BK346.out)
                   have n25_:=Aside0.mk (km hg BK346.out)
                   clear HO316
                   clear HO319
                   clear HO341
                   clear HO344
                   clear HO378
                   clear HO381
                   clear HO385
                   clear HO388
                   clear HO392
                   clear HO395
                   clear BK295
                   clear BK296
                   clear BK321
                   clear BK346
                   clear HB
                   have HO316:=n0_
                   have HO319:=n1_
                   have HO341:=n2_
                   have HO344:=n3_
                   have HO378:=n4_
                   have HO381:=n5_
                   have HO385:=n6_
                   have HO388:=n7_
                   have HO392:=n8_
                   have HO395:=n9_
                   have BK295:=n10_
                   have BK296:=n11_
                   have BK321:=n12_
                   have BK346:=n13_
                   have HB:=n14_
                   have BK397:=n15_
                   have GW397:=n16_
                   have GE397:=n17_
                   have NB295_397:=n18_
                   have NB397_295:=n19_
                   have NB296_397:=n20_
                   have NB397_296:=n21_
                   have NB321_397:=n22_
                   have NB397_321:=n23_
                   have NB346_397:=n24_
                   have NB397_346:=n25_
                   clear n0_ n1_ n2_ n3_ n4_ n5_ n6_ n7_ n8_ n9_ n10_ n11_ n12_ n13_ n14_ n15_ n16_ n17_ n18_ n19_ n20_ n21_ n22_ n23_ n24_ n25_
                   clear hb hbox hg
                   refine hK.out _ _ ⟨(blk_cell BK295.out 0).trans rfl,(blk_cell BK295.out 1).trans rfl,(blk_cell BK295.out 2).trans rfl,(blk_cell BK296.out 0).trans rfl,(blk_cell BK296.out 1).trans rfl,(blk_cell BK296.out 2).trans rfl⟩ (fun hHeld=>?_)
                   clear hK K
                   refine norm_ (a':=?_) ?_ ?_
                   rotate_left
                   ·show Act.put _ (some 15) _ = _
                    simp only [Act.put,xa,xb,xc,i64_w,i32_w]
                    rfl
                   exact norm_ (by simp only [putAll,Act.put,xa,xb,xc]) (hCont (.slice Ao131 t376.length co131,.slice Ao132 t379.length co132,.slice Ao133 t383.length co133,.slice Ao134 t386.length co134,v391,v394,gb397) _ ⟨hHeld,(by (with_reducible repeat (first|apply Kd.R_alloc|apply Kd.R_drewN|apply Kd.R_drew));exact Kd.R_mono HO316.out (fun _ hk=>⟨hk.1.1.1,⟨hk.1.1.2,⟨hk.1.2,hk.2⟩⟩⟩)),(by (with_reducible repeat (first|apply Kd.R_alloc|apply Kd.R_drewN|apply Kd.R_drew));exact Kd.R_mono HO319.out (fun _ hk=>⟨hk.1.1.1,⟨hk.1.1.2,⟨hk.1.2,hk.2⟩⟩⟩)),(by (with_reducible repeat (first|apply Kd.R_alloc|apply Kd.R_drewN|apply Kd.R_drew));exact Kd.R_mono HO341.out (fun _ hk=>⟨hk.1.1.1.1,⟨hk.1.1.2,⟨hk.1.2,hk.2⟩⟩⟩)),(by (with_reducible repeat (first|apply Kd.R_alloc|apply Kd.R_drewN|apply Kd.R_drew));exact Kd.R_mono HO344.out (fun _ hk=>⟨hk.1.1.1.1,⟨hk.1.1.2,⟨hk.1.2,hk.2⟩⟩⟩)),(by (with_reducible repeat (first|apply Kd.R_alloc|apply Kd.R_drewN|apply Kd.R_drew));exact Kd.R_mono HO378.out (fun _ hk=>⟨hk.1.1.1.2,⟨hk.1.1.2,⟨hk.1.2,hk.2⟩⟩⟩)),(by (with_reducible repeat (first|apply Kd.R_alloc|apply Kd.R_drewN|apply Kd.R_drew));exact Kd.R_mono HO381.out (fun _ hk=>⟨hk.1.1.1.2,⟨hk.1.1.2,⟨hk.1.2,hk.2⟩⟩⟩)),(by (with_reducible repeat (first|apply Kd.R_alloc|apply Kd.R_drewN|apply Kd.R_drew));exact Kd.R_mono HO385.out (fun _ hk=>⟨hk.1.1.1.2,⟨hk.1.1.2,⟨hk.1.2,hk.2⟩⟩⟩)),(by (with_reducible repeat (first|apply Kd.R_alloc|apply Kd.R_drewN|apply Kd.R_drew));exact Kd.R_mono HO388.out (fun _ hk=>⟨hk.1.1.1.2,⟨hk.1.1.2,⟨hk.1.2,hk.2⟩⟩⟩)),(by (with_reducible repeat (first|apply Kd.R_alloc|apply Kd.R_drewN|apply Kd.R_drew));exact Kd.R_mono HO392.out (fun _ hk=>⟨hk.1.1.1.2,⟨hk.1.1.2,⟨hk.1.2,hk.2⟩⟩⟩)),(by (with_reducible repeat (first|apply Kd.R_alloc|apply Kd.R_drewN|apply Kd.R_drew));exact Kd.R_mono HO395.out (fun _ hk=>⟨hk.1.1.1.2,⟨hk.1.1.2,⟨hk.1.2,hk.2⟩⟩⟩)),(kz BK295.out),(kz BK296.out),(kz BK321.out),(kz BK346.out),(kz BK397.out),GW397.out,GE397.out,NB295_397.out,NB397_295.out,NB296_397.out,NB397_296.out,NB321_397.out,NB397_321.out,NB346_397.out,NB397_346.out,bs⟩)
                  ·skip
                   refine box_step ?hg (N:=15) ?hd (cs:=#[.int .i64 0,.slice none 0 0,.slice none 0 0]) (t:=30) ?hr ?_;(case hd=>rfl);(case hg=>rfl);(case hr=>first|(go_simp;done)|(go_simp;rfl))
                   intro gb397 hg w131 hbox hb
                   have n0_:=Aside0.mk (Kd.R_below (rz HO316.out) hb)
                   have n1_:=Aside0.mk (Kd.R_below (rz HO319.out) hb)
                   have n2_:=Aside0.mk (Kd.R_below (rz HO341.out) hb)
                   have n3_:=Aside0.mk (Kd.R_below (rz HO344.out) hb)
                   have n4_:=Aside0.mk (Kd.R_below (rz HO378.out) hb)
                   have n5_:=Aside0.mk (Kd.R_below (rz HO381.out) hb)
                   have n6_:=Aside0.mk (Kd.R_below (rz HO385.out) hb)
                   have n7_:=Aside0.mk (Kd.R_below (rz HO388.out) hb)
                   have n8_:=Aside0.mk (kb BK295.out hb)
                   have n9_:=Aside0.mk (kb BK296.out hb)
                   have n10_:=Aside0.mk (kb BK321.out hb)
                   have n11_:=Aside0.mk (kb BK346.out hb)
                   have n12_:=Aside0.mk (below_step bs hb)
                   have n13_:=Aside0.mk (hbox)
                   have n14_:=Aside0.mk ((by rw [hg];exact (below_size bs) : w.heap.size ≤ gb397))
                   have n15_:=Aside0.mk ((by rw [hg];exact (below_size bs) : w.heap.size ≤ gb397))
                   have n16_:=Aside0.mk (kn hg BK295.out)
                   have n17_:=Aside0.mk (km hg BK295.out)
                   have n18_:=Aside0.mk (kn hg BK296.out)
                   have n19_:=Aside0.mk (km hg BK296.out)
                   have n20_:=Aside0.mk (kn hg BK321.out)
                   have n21_:=Aside0.mk (km hg BK321.out)
                   have n22_:=Aside0.mk (kn hg BK346.out)
                   have n23_:=Aside0.mk (km hg BK346.out)
                   clear HO316
                   clear HO319
                   clear HO341
                   clear HO344
                   clear HO378
                   clear HO381
                   clear HO385
                   clear HO388
                   clear BK295
                   clear BK296
                   clear BK321
                   clear BK346
                   clear HB
                   have HO316:=n0_
                   have HO319:=n1_
                   have HO341:=n2_
                   have HO344:=n3_
                   have HO378:=n4_
                   have HO381:=n5_
                   have HO385:=n6_
                   have HO388:=n7_
                   have BK295:=n8_
                   have BK296:=n9_
                   have BK321:=n10_
                   have BK346:=n11_
                   have HB:=n12_
                   have BK397:=n13_
                   have GW397:=n14_
                   have GE397:=n15_
                   have NB295_397:=n16_
                   have NB397_295:=n17_
                   have NB296_397:=n18_
                   have NB397_296:=n19_
                   have NB321_397:=n20_
                   have NB397_321:=n21_
                   have NB346_397:=n22_
                   have NB397_346:=n23_
                   clear n0_ n1_ n2_ n3_ n4_ n5_ n6_ n7_ n8_ n9_ n10_ n11_ n12_ n13_ n14_ n15_ n16_ n17_ n18_ n19_ n20_ n21_ n22_ n23_
                   clear hb hbox hg
                   obtain ⟨Ao132,co132,eo132⟩:=Kd.R_slice HO378.out
                   (first|subst eo132|(injection eo132 with f1_ f2_ f3_;have f4_:=f1_.symm;have f5_:=f3_.symm;clear f1_ f2_ f3_;subst f4_;subst f5_))
                   obtain ⟨Ao133,co133,eo133⟩:=Kd.R_slice HO381.out
                   (first|subst eo133|(injection eo133 with f1_ f2_ f3_;have f4_:=f1_.symm;have f5_:=f3_.symm;clear f1_ f2_ f3_;subst f4_;subst f5_))
                   obtain ⟨Ao134,co134,eo134⟩:=Kd.R_slice HO385.out
                   (first|subst eo134|(injection eo134 with f1_ f2_ f3_;have f4_:=f1_.symm;have f5_:=f3_.symm;clear f1_ f2_ f3_;subst f4_;subst f5_))
                   obtain ⟨Ao135,co135,eo135⟩:=Kd.R_slice HO388.out
                   (first|subst eo135|(injection eo135 with f1_ f2_ f3_;have f4_:=f1_.symm;have f5_:=f3_.symm;clear f1_ f2_ f3_;subst f4_;subst f5_))
                   refine hK.out _ _ ⟨(blk_cell BK295.out 0).trans rfl,(blk_cell BK295.out 1).trans rfl,(blk_cell BK295.out 2).trans rfl,(blk_cell BK296.out 0).trans rfl,(blk_cell BK296.out 1).trans rfl,(blk_cell BK296.out 2).trans rfl⟩ (fun hHeld=>?_)
                   clear hK K
                   refine norm_ (a':=?_) ?_ ?_
                   rotate_left
                   ·show Act.put _ (some 15) _ = _
                    simp only [Act.put,xa,xb,xc,i64_w,i32_w]
                    rfl
                   refine one_ (i:=4) (N:=some 99) #[true,true,true,true,true,false,false,false,true,false,false] rfl rfl (one_of HT_.out (by kernel_rfl)) (by decide) (fun K hK=>?_)
                   refine goes_ Try.func50 (by kernel_rfl) rfl #[.agg #[.int .i64 t375,.slice Ao132 t376.length co132,.slice Ao133 t379.length co133],.agg #[.int .i64 t382,.slice Ao134 t383.length co134,.slice Ao135 t386.length co135]] (by rfl) rfl rfl mz ?_
                   with_reducible refine (impl_ComposePlans.calls k t375 _ _ t376 _ _ t379 t382 _ _ t383 _ _ t386 t389 t390 t393 t396 _ ?side1 ?side2 ?side3 ?side4 ?side5 ?side6 ?side7 ?side8 A44.out).mono ?_
                   (case side1=>exact cz (Kd.R_reads' HO378.out).2.2)
                   (case side2=>exact (Kd.R_reads' HO378.out).2.1)
                   (case side3=>exact cz (Kd.R_reads' HO381.out).2.2)
                   (case side4=>exact (Kd.R_reads' HO381.out).2.1)
                   (case side5=>exact cz (Kd.R_reads' HO385.out).2.2)
                   (case side6=>exact (Kd.R_reads' HO385.out).2.1)
                   (case side7=>exact cz (Kd.R_reads' HO388.out).2.2)
                   (case side8=>exact (Kd.R_reads' HO388.out).2.1)
                   rintro e w136 ⟨v391,v394,rfl,ho0,ho1,hb⟩
                   refine ⟨_,rfl,?_⟩
                   have n0_:=Aside0.mk (Kd.R_elder' (rz HO316.out) (Kd.R_base ho0) hb)
                   have n1_:=Aside0.mk (Kd.R_elder' (rz HO319.out) (Kd.R_base ho1) hb)
                   have n2_:=Aside0.mk (Kd.R_elder' (rz HO341.out) (Kd.R_base ho0) hb)
                   have n3_:=Aside0.mk (Kd.R_elder' (rz HO344.out) (Kd.R_base ho1) hb)
                   have n4_:=Aside0.mk (Kd.R_elder' (rz HO378.out) (Kd.R_base ho0) hb)
                   have n5_:=Aside0.mk (Kd.R_elder' (rz HO381.out) (Kd.R_base ho1) hb)
                   have n6_:=Aside0.mk (Kd.R_elder' (rz HO385.out) (Kd.R_base ho0) hb)
                   have n7_:=Aside0.mk (Kd.R_elder' (rz HO388.out) (Kd.R_base ho1) hb)
                   have n8_:=Aside0.mk (Kd.R_lower (Kd.R_new' (Kd.R_new' (Kd.R_new' (Kd.R_new' ho0 (Kd.R_lt (rz HO316.out))) (Kd.R_lt (rz HO341.out))) (Kd.R_lt (rz HO378.out))) (Kd.R_lt (rz HO385.out))) (below_size bs))
                   have n9_:=Aside0.mk (Kd.R_lower (Kd.R_new' (Kd.R_new' (Kd.R_new' (Kd.R_new' ho1 (Kd.R_lt (rz HO319.out))) (Kd.R_lt (rz HO344.out))) (Kd.R_lt (rz HO381.out))) (Kd.R_lt (rz HO388.out))) (below_size bs))
                   have n10_:=Aside0.mk (kb BK295.out hb)
                   have n11_:=Aside0.mk (kb BK296.out hb)
                   have n12_:=Aside0.mk (kb BK321.out hb)
                   have n13_:=Aside0.mk (kb BK346.out hb)
                   have n14_:=Aside0.mk (kb BK397.out hb)
                   have n15_:=Aside0.mk (below_step bs hb)
                   clear HO316
                   clear HO319
                   clear HO341
                   clear HO344
                   clear HO378
                   clear HO381
                   clear HO385
                   clear HO388
                   clear BK295
                   clear BK296
                   clear BK321
                   clear BK346
                   clear BK397
                   clear HB
                   have HO316:=n0_
                   have HO319:=n1_
                   have HO341:=n2_
                   have HO344:=n3_
                   have HO378:=n4_
                   have HO381:=n5_
                   have HO385:=n6_
                   have HO388:=n7_
                   have HO392:=n8_
                   have HO395:=n9_
                   have BK295:=n10_
                   have BK296:=n11_
                   have BK321:=n12_
                   have BK346:=n13_
                   have BK397:=n14_
                   have HB:=n15_
                   clear n0_ n1_ n2_ n3_ n4_ n5_ n6_ n7_ n8_ n9_ n10_ n11_ n12_ n13_ n14_ n15_
                   (try clear hb)
                   (try clear ho0)
                   (try clear ho1)
                   refine hK.out _ _ ⟨(blk_cell BK295.out 0).trans rfl,(blk_cell BK295.out 1).trans rfl,(blk_cell BK295.out 2).trans rfl,(blk_cell BK296.out 0).trans rfl,(blk_cell BK296.out 1).trans rfl,(blk_cell BK296.out 2).trans rfl⟩ (fun hHeld=>?_)
                   clear hK K
                   refine norm_ (a':=?_) ?_ ?_
                   rotate_left
                   ·show Act.put _ (some 99) _ = _
                    simp only [Act.put,xa,xb,xc,i64_w,i32_w]
                    rfl
                   refine pure_ (i:=5) (N:=some 94) (v:=?_) (a':=?_) #[true,true,true,true,true,true,false,false,true,false,false] rfl rfl (any_of HT_.out (by kernel_rfl)) (fun _ _ _ h=>h) (Or.inl ⟨by rfl,?_⟩) ?_ ?_
                   rotate_left
                   ·intro w'
                    go_simp
                    with_reducible rfl
                   rotate_left
                   ·simp only [Act.put,xa,xb,xc,i64_w,i32_w]
                    rfl
                   refine pure_ (i:=6) (N:=some 100) (v:=?_) (a':=?_) #[true,true,true,true,true,true,true,false,true,false,false] rfl rfl (any_of HT_.out (by kernel_rfl)) (fun _ _ _ h=>h) (Or.inl ⟨by rfl,?_⟩) ?_ ?_
                   rotate_left
                   ·intro w'
                    go_simp
                    with_reducible rfl
                   rotate_left
                   ·simp only [Act.put,xa,xb,xc,i64_w,i32_w]
                    rfl
                   refine pure_ (i:=7) (N:=some 101) (v:=?_) (a':=?_) #[true,true,true,true,true,true,true,true,true,false,false] rfl rfl (any_of HT_.out (by kernel_rfl)) (fun _ _ _ h=>h) (Or.inl ⟨by rfl,?_⟩) ?_ ?_
                   rotate_left
                   ·intro w'
                    go_simp
                    with_reducible rfl
                   rotate_left
                   ·simp only [Act.put,xa,xb,xc,i64_w,i32_w]
                    rfl
                   exact norm_ (by simp only [putAll,Act.put,xa,xb,xc]) (hCont (.slice Ao132 t376.length co132,.slice Ao133 t379.length co133,.slice Ao134 t383.length co134,.slice Ao135 t386.length co135,v391,v394,gb397) _ ⟨hHeld,(by (with_reducible repeat (first|apply Kd.R_alloc|apply Kd.R_drewN|apply Kd.R_drew));exact Kd.R_mono HO316.out (fun _ hk=>⟨hk.1.1.1,⟨hk.1.1.2,⟨hk.1.2,hk.2⟩⟩⟩)),(by (with_reducible repeat (first|apply Kd.R_alloc|apply Kd.R_drewN|apply Kd.R_drew));exact Kd.R_mono HO319.out (fun _ hk=>⟨hk.1.1.1,⟨hk.1.1.2,⟨hk.1.2,hk.2⟩⟩⟩)),(by (with_reducible repeat (first|apply Kd.R_alloc|apply Kd.R_drewN|apply Kd.R_drew));exact Kd.R_mono HO341.out (fun _ hk=>⟨hk.1.1.1.1,⟨hk.1.1.2,⟨hk.1.2,hk.2⟩⟩⟩)),(by (with_reducible repeat (first|apply Kd.R_alloc|apply Kd.R_drewN|apply Kd.R_drew));exact Kd.R_mono HO344.out (fun _ hk=>⟨hk.1.1.1.1,⟨hk.1.1.2,⟨hk.1.2,hk.2⟩⟩⟩)),(by (with_reducible repeat (first|apply Kd.R_alloc|apply Kd.R_drewN|apply Kd.R_drew));exact Kd.R_mono HO378.out (fun _ hk=>⟨hk.1.1.1.2,⟨hk.1.1.2,⟨hk.1.2,hk.2⟩⟩⟩)),(by (with_reducible repeat (first|apply Kd.R_alloc|apply Kd.R_drewN|apply Kd.R_drew));exact Kd.R_mono HO381.out (fun _ hk=>⟨hk.1.1.1.2,⟨hk.1.1.2,⟨hk.1.2,hk.2⟩⟩⟩)),(by (with_reducible repeat (first|apply Kd.R_alloc|apply Kd.R_drewN|apply Kd.R_drew));exact Kd.R_mono HO385.out (fun _ hk=>⟨hk.1.1.1.2,⟨hk.1.1.2,⟨hk.1.2,hk.2⟩⟩⟩)),(by (with_reducible repeat (first|apply Kd.R_alloc|apply Kd.R_drewN|apply Kd.R_drew));exact Kd.R_mono HO388.out (fun _ hk=>⟨hk.1.1.1.2,⟨hk.1.1.2,⟨hk.1.2,hk.2⟩⟩⟩)),(by (with_reducible repeat (first|apply Kd.R_alloc|apply Kd.R_drewN|apply Kd.R_drew));exact Kd.R_mono HO392.out (fun _ hk=>⟨hk.1.1.1.2,⟨hk.1.1.2,⟨hk.1.2,hk.2⟩⟩⟩)),(by (with_reducible repeat (first|apply Kd.R_alloc|apply Kd.R_drewN|apply Kd.R_drew));exact Kd.R_mono HO395.out (fun _ hk=>⟨hk.1.1.1.2,⟨hk.1.1.2,⟨hk.1.2,hk.2⟩⟩⟩)),(kz BK295.out),(kz BK296.out),(kz BK321.out),(kz BK346.out),(kz BK397.out),GW397.out,GE397.out,NB295_397.out,NB397_295.out,NB296_397.out,NB397_296.out,NB321_397.out,NB397_321.out,NB346_397.out,NB397_346.out,bs⟩)
                 ·skip
                  refine box_step ?hg (N:=15) ?hd (cs:=#[.int .i64 0,.slice none 0 0,.slice none 0 0]) (t:=30) ?hr ?_;(case hd=>rfl);(case hg=>rfl);(case hr=>first|(go_simp;done)|(go_simp;rfl))
                  intro gb397 hg w130 hbox hb
                  have n0_:=Aside0.mk (Kd.R_below (rz HO316.out) hb)
                  have n1_:=Aside0.mk (Kd.R_below (rz HO319.out) hb)
                  have n2_:=Aside0.mk (Kd.R_below (rz HO341.out) hb)
                  have n3_:=Aside0.mk (Kd.R_below (rz HO344.out) hb)
                  have n4_:=Aside0.mk (Kd.R_below (rz HO378.out) hb)
                  have n5_:=Aside0.mk (Kd.R_below (rz HO381.out) hb)
                  have n6_:=Aside0.mk (kb BK295.out hb)
                  have n7_:=Aside0.mk (kb BK296.out hb)
                  have n8_:=Aside0.mk (kb BK321.out hb)
                  have n9_:=Aside0.mk (kb BK346.out hb)
                  have n10_:=Aside0.mk (below_step bs hb)
                  have n11_:=Aside0.mk (hbox)
                  have n12_:=Aside0.mk ((by rw [hg];exact (below_size bs) : w.heap.size ≤ gb397))
                  have n13_:=Aside0.mk ((by rw [hg];exact (below_size bs) : w.heap.size ≤ gb397))
                  have n14_:=Aside0.mk (kn hg BK295.out)
                  have n15_:=Aside0.mk (km hg BK295.out)
                  have n16_:=Aside0.mk (kn hg BK296.out)
                  have n17_:=Aside0.mk (km hg BK296.out)
                  have n18_:=Aside0.mk (kn hg BK321.out)
                  have n19_:=Aside0.mk (km hg BK321.out)
                  have n20_:=Aside0.mk (kn hg BK346.out)
                  have n21_:=Aside0.mk (km hg BK346.out)
                  clear HO316
                  clear HO319
                  clear HO341
                  clear HO344
                  clear HO378
                  clear HO381
                  clear BK295
                  clear BK296
                  clear BK321
                  clear BK346
                  clear HB
                  have HO316:=n0_
                  have HO319:=n1_
                  have HO341:=n2_
                  have HO344:=n3_
                  have HO378:=n4_
                  have HO381:=n5_
                  have BK295:=n6_
                  have BK296:=n7_
                  have BK321:=n8_
                  have BK346:=n9_
                  have HB:=n10_
                  have BK397:=n11_
                  have GW397:=n12_
                  have GE397:=n13_
                  have NB295_397:=n14_
                  have NB397_295:=n15_
                  have NB296_397:=n16_
                  have NB397_296:=n17_
                  have NB321_397:=n18_
                  have NB397_321:=n19_
                  have NB346_397:=n20_
                  have NB397_346:=n21_
                  clear n0_ n1_ n2_ n3_ n4_ n5_ n6_ n7_ n8_ n9_ n10_ n11_ n12_ n13_ n14_ n15_ n16_ n17_ n18_ n19_ n20_ n21_
                  clear hb hbox hg
                  refine hK.out _ _ ⟨(blk_cell BK295.out 0).trans rfl,(blk_cell BK295.out 1).trans rfl,(blk_cell BK295.out 2).trans rfl,(blk_cell BK296.out 0).trans rfl,(blk_cell BK296.out 1).trans rfl,(blk_cell BK296.out 2).trans rfl⟩ (fun hHeld=>?_)
                  clear hK K
                  refine norm_ (a':=?_) ?_ ?_
                  rotate_left
                  ·show Act.put _ (some 15) _ = _
                   simp only [Act.put,xa,xb,xc,i64_w,i32_w]
                   rfl
                  refine one_ (i:=3) (N:=some 98) #[true,true,true,true,false,false,false,false,true,false,false] rfl rfl (one_of HT_.out (by kernel_rfl)) (by decide) (fun K hK=>?_)
                  refine goes_ Try.func17 (by kernel_rfl) rfl #[.agg #[.int .i64 a1_0,.slice A1_1 l1_1.length c1_1,.slice A1_2 l1_2.length c1_2]] (by rfl) rfl rfl mz ?_
                  with_reducible refine (laws_toPlan.calls k a1_0 _ _ l1_1 _ _ l1_2 t382 t383 t386 _ ?side1 ?side2 ?side3 ?side4 A43.out).mono ?_
                  (case side1=>exact cz (Kd.C_below HR1_1.out HB.out))
                  (case side2=>exact HC1_1.out)
                  (case side3=>exact cz (Kd.C_below HR1_2.out HB.out))
                  (case side4=>exact HC1_2.out)
                  rintro e w131 ⟨v384,v387,rfl,ho0,ho1,hb⟩
                  refine ⟨_,rfl,?_⟩
                  have n0_:=Aside0.mk (Kd.R_elder' (rz HO316.out) (Kd.R_base ho0) hb)
                  have n1_:=Aside0.mk (Kd.R_elder' (rz HO319.out) (Kd.R_base ho1) hb)
                  have n2_:=Aside0.mk (Kd.R_elder' (rz HO341.out) (Kd.R_base ho0) hb)
                  have n3_:=Aside0.mk (Kd.R_elder' (rz HO344.out) (Kd.R_base ho1) hb)
                  have n4_:=Aside0.mk (Kd.R_elder' (rz HO378.out) (Kd.R_base ho0) hb)
                  have n5_:=Aside0.mk (Kd.R_elder' (rz HO381.out) (Kd.R_base ho1) hb)
                  have n6_:=Aside0.mk (Kd.R_lower (Kd.R_new' (Kd.R_new' (Kd.R_new' ho0 (Kd.R_lt (rz HO316.out))) (Kd.R_lt (rz HO341.out))) (Kd.R_lt (rz HO378.out))) (below_size bs))
                  have n7_:=Aside0.mk (Kd.R_lower (Kd.R_new' (Kd.R_new' (Kd.R_new' ho1 (Kd.R_lt (rz HO319.out))) (Kd.R_lt (rz HO344.out))) (Kd.R_lt (rz HO381.out))) (below_size bs))
                  have n8_:=Aside0.mk (kb BK295.out hb)
                  have n9_:=Aside0.mk (kb BK296.out hb)
                  have n10_:=Aside0.mk (kb BK321.out hb)
                  have n11_:=Aside0.mk (kb BK346.out hb)
                  have n12_:=Aside0.mk (kb BK397.out hb)
                  have n13_:=Aside0.mk (below_step bs hb)
                  clear HO316
                  clear HO319
                  clear HO341
                  clear HO344
                  clear HO378
                  clear HO381
                  clear BK295
                  clear BK296
                  clear BK321
                  clear BK346
                  clear BK397
                  clear HB
                  have HO316:=n0_
                  have HO319:=n1_
                  have HO341:=n2_
                  have HO344:=n3_
                  have HO378:=n4_
                  have HO381:=n5_
                  have HO385:=n6_
                  have HO388:=n7_
                  have BK295:=n8_
                  have BK296:=n9_
                  have BK321:=n10_
                  have BK346:=n11_
                  have BK397:=n12_
                  have HB:=n13_
                  clear n0_ n1_ n2_ n3_ n4_ n5_ n6_ n7_ n8_ n9_ n10_ n11_ n12_ n13_
                  (try clear hb)
                  (try clear ho0)
                  (try clear ho1)
                  obtain ⟨Ao132,co132,eo132⟩:=Kd.R_slice HO378.out
                  (first|subst eo132|(injection eo132 with f1_ f2_ f3_;have f4_:=f1_.symm;have f5_:=f3_.symm;clear f1_ f2_ f3_;subst f4_;subst f5_))
                  obtain ⟨Ao133,co133,eo133⟩:=Kd.R_slice HO381.out
                  (first|subst eo133|(injection eo133 with f1_ f2_ f3_;have f4_:=f1_.symm;have f5_:=f3_.symm;clear f1_ f2_ f3_;subst f4_;subst f5_))
                  obtain ⟨Ao134,co134,eo134⟩:=Kd.R_slice HO385.out
                  (first|subst eo134|(injection eo134 with f1_ f2_ f3_;have f4_:=f1_.symm;have f5_:=f3_.symm;clear f1_ f2_ f3_;subst f4_;subst f5_))
                  obtain ⟨Ao135,co135,eo135⟩:=Kd.R_slice HO388.out
                  (first|subst eo135|(injection eo135 with f1_ f2_ f3_;have f4_:=f1_.symm;have f5_:=f3_.symm;clear f1_ f2_ f3_;subst f4_;subst f5_))
                  refine hK.out _ _ ⟨(blk_cell BK295.out 0).trans rfl,(blk_cell BK295.out 1).trans rfl,(blk_cell BK295.out 2).trans rfl,(blk_cell BK296.out 0).trans rfl,(blk_cell BK296.out 1).trans rfl,(blk_cell BK296.out 2).trans rfl⟩ (fun hHeld=>?_)
                  clear hK K
                  refine norm_ (a':=?_) ?_ ?_
                  rotate_left
                  ·show Act.put _ (some 98) _ = _
                   simp only [Act.put,xa,xb,xc,i64_w,i32_w]
                   rfl
                  refine one_ (i:=4) (N:=some 99) #[true,true,true,true,true,false,false,false,true,false,false] rfl rfl (one_of HT_.out (by kernel_rfl)) (by decide) (fun K hK=>?_)
                  refine goes_ Try.func50 (by kernel_rfl) rfl #[.agg #[.int .i64 t375,.slice Ao132 t376.length co132,.slice Ao133 t379.length co133],.agg #[.int .i64 t382,.slice Ao134 t383.length co134,.slice Ao135 t386.length co135]] (by rfl) rfl rfl mz ?_
                  with_reducible refine (impl_ComposePlans.calls k t375 _ _ t376 _ _ t379 t382 _ _ t383 _ _ t386 t389 t390 t393 t396 _ ?side1 ?side2 ?side3 ?side4 ?side5 ?side6 ?side7 ?side8 A44.out).mono ?_
                  (case side1=>exact cz (Kd.R_reads' HO378.out).2.2)
                  (case side2=>exact (Kd.R_reads' HO378.out).2.1)
                  (case side3=>exact cz (Kd.R_reads' HO381.out).2.2)
                  (case side4=>exact (Kd.R_reads' HO381.out).2.1)
                  (case side5=>exact cz (Kd.R_reads' HO385.out).2.2)
                  (case side6=>exact (Kd.R_reads' HO385.out).2.1)
                  (case side7=>exact cz (Kd.R_reads' HO388.out).2.2)
                  (case side8=>exact (Kd.R_reads' HO388.out).2.1)
                  rintro e w136 ⟨v391,v394,rfl,ho0,ho1,hb⟩
                  refine ⟨_,rfl,?_⟩
                  have n0_:=Aside0.mk (Kd.R_elder' (rz HO316.out) (Kd.R_base ho0) hb)
                  have n1_:=Aside0.mk (Kd.R_elder' (rz HO319.out) (Kd.R_base ho1) hb)
                  have n2_:=Aside0.mk (Kd.R_elder' (rz HO341.out) (Kd.R_base ho0) hb)
                  have n3_:=Aside0.mk (Kd.R_elder' (rz HO344.out) (Kd.R_base ho1) hb)
                  have n4_:=Aside0.mk (Kd.R_elder' (rz HO378.out) (Kd.R_base ho0) hb)
                  have n5_:=Aside0.mk (Kd.R_elder' (rz HO381.out) (Kd.R_base ho1) hb)
                  have n6_:=Aside0.mk (Kd.R_elder' (rz HO385.out) (Kd.R_base ho0) hb)
                  have n7_:=Aside0.mk (Kd.R_elder' (rz HO388.out) (Kd.R_base ho1) hb)
                  have n8_:=Aside0.mk (Kd.R_lower (Kd.R_new' (Kd.R_new' (Kd.R_new' (Kd.R_new' ho0 (Kd.R_lt (rz HO316.out))) (Kd.R_lt (rz HO341.out))) (Kd.R_lt (rz HO378.out))) (Kd.R_lt (rz HO385.out))) (below_size bs))
                  have n9_:=Aside0.mk (Kd.R_lower (Kd.R_new' (Kd.R_new' (Kd.R_new' (Kd.R_new' ho1 (Kd.R_lt (rz HO319.out))) (Kd.R_lt (rz HO344.out))) (Kd.R_lt (rz HO381.out))) (Kd.R_lt (rz HO388.out))) (below_size bs))
                  have n10_:=Aside0.mk (kb BK295.out hb)
                  have n11_:=Aside0.mk (kb BK296.out hb)
                  have n12_:=Aside0.mk (kb BK321.out hb)
                  have n13_:=Aside0.mk (kb BK346.out hb)
                  have n14_:=Aside0.mk (kb BK397.out hb)
                  have n15_:=Aside0.mk (below_step bs hb)
                  clear HO316
                  clear HO319
                  clear HO341
                  clear HO344
                  clear HO378
                  clear HO381
                  clear HO385
                  clear HO388
                  clear BK295
                  clear BK296
                  clear BK321
                  clear BK346
                  clear BK397
                  clear HB
                  have HO316:=n0_
                  have HO319:=n1_
                  have HO341:=n2_
                  have HO344:=n3_
                  have HO378:=n4_
                  have HO381:=n5_
                  have HO385:=n6_
                  have HO388:=n7_
                  have HO392:=n8_
                  have HO395:=n9_
                  have BK295:=n10_
                  have BK296:=n11_
                  have BK321:=n12_
                  have BK346:=n13_
                  have BK397:=n14_
                  have HB:=n15_
                  clear n0_ n1_ n2_ n3_ n4_ n5_ n6_ n7_ n8_ n9_ n10_ n11_ n12_ n13_ n14_ n15_
                  (try clear hb)
                  (try clear ho0)
                  (try clear ho1)
                  refine hK.out _ _ ⟨(blk_cell BK295.out 0).trans rfl,(blk_cell BK295.out 1).trans rfl,(blk_cell BK295.out 2).trans rfl,(blk_cell BK296.out 0).trans rfl,(blk_cell BK296.out 1).trans rfl,(blk_cell BK296.out 2).trans rfl⟩ (fun hHeld=>?_)
                  clear hK K
                  refine norm_ (a':=?_) ?_ ?_
                  rotate_left
                  ·show Act.put _ (some 99) _ = _
                   simp only [Act.put,xa,xb,xc,i64_w,i32_w]
                   rfl
                  refine pure_ (i:=5) (N:=some 94) (v:=?_) (a':=?_) #[true,true,true,true,true,true,false,false,true,false,false] rfl rfl (any_of HT_.out (by kernel_rfl)) (fun _ _ _ h=>h) (Or.inl ⟨by rfl,?_⟩) ?_ ?_
                  rotate_left
                  ·intro w'
                   go_simp
                   with_reducible rfl
                  rotate_left
                  ·simp only [Act.put,xa,xb,xc,i64_w,i32_w]
                   rfl
                  refine pure_ (i:=6) (N:=some 100) (v:=?_) (a':=?_) #[true,true,true,true,true,true,true,false,true,false,false] rfl rfl (any_of HT_.out (by kernel_rfl)) (fun _ _ _ h=>h) (Or.inl ⟨by rfl,?_⟩) ?_ ?_
                  rotate_left
                  ·intro w'
                   go_simp
                   with_reducible rfl
                  rotate_left
                  ·simp only [Act.put,xa,xb,xc,i64_w,i32_w]
                   rfl
                  refine pure_ (i:=7) (N:=some 101) (v:=?_) (a':=?_) #[true,true,true,true,true,true,true,true,true,false,false] rfl rfl (any_of HT_.out (by kernel_rfl)) (fun _ _ _ h=>h) (Or.inl ⟨by rfl,?_⟩) ?_ ?_
                  rotate_left
                  ·intro w'
                   go_simp
                   with_reducible rfl
                  rotate_left
                  ·simp only [Act.put,xa,xb,xc,i64_w,i32_w]
                   rfl
                  exact norm_ (by simp only [putAll,Act.put,xa,xb,xc]) (hCont (.slice Ao132 t376.length co132,.slice Ao133 t379.length co133,.slice Ao134 t383.length co134,.slice Ao135 t386.length co135,v391,v394,gb397) _ ⟨hHeld,(by (with_reducible repeat (first|apply Kd.R_alloc|apply Kd.R_drewN|apply Kd.R_drew));exact Kd.R_mono HO316.out (fun _ hk=>⟨hk.1.1.1,⟨hk.1.1.2,⟨hk.1.2,hk.2⟩⟩⟩)),(by (with_reducible repeat (first|apply Kd.R_alloc|apply Kd.R_drewN|apply Kd.R_drew));exact Kd.R_mono HO319.out (fun _ hk=>⟨hk.1.1.1,⟨hk.1.1.2,⟨hk.1.2,hk.2⟩⟩⟩)),(by (with_reducible repeat (first|apply Kd.R_alloc|apply Kd.R_drewN|apply Kd.R_drew));exact Kd.R_mono HO341.out (fun _ hk=>⟨hk.1.1.1.1,⟨hk.1.1.2,⟨hk.1.2,hk.2⟩⟩⟩)),(by (with_reducible repeat (first|apply Kd.R_alloc|apply Kd.R_drewN|apply Kd.R_drew));exact Kd.R_mono HO344.out (fun _ hk=>⟨hk.1.1.1.1,⟨hk.1.1.2,⟨hk.1.2,hk.2⟩⟩⟩)),(by (with_reducible repeat (first|apply Kd.R_alloc|apply Kd.R_drewN|apply Kd.R_drew));exact Kd.R_mono HO378.out (fun _ hk=>⟨hk.1.1.1.2,⟨hk.1.1.2,⟨hk.1.2,hk.2⟩⟩⟩)),(by (with_reducible repeat (first|apply Kd.R_alloc|apply Kd.R_drewN|apply Kd.R_drew));exact Kd.R_mono HO381.out (fun _ hk=>⟨hk.1.1.1.2,⟨hk.1.1.2,⟨hk.1.2,hk.2⟩⟩⟩)),(by (with_reducible repeat (first|apply Kd.R_alloc|apply Kd.R_drewN|apply Kd.R_drew));exact Kd.R_mono HO385.out (fun _ hk=>⟨hk.1.1.1.2,⟨hk.1.1.2,⟨hk.1.2,hk.2⟩⟩⟩)),(by (with_reducible repeat (first|apply Kd.R_alloc|apply Kd.R_drewN|apply Kd.R_drew));exact Kd.R_mono HO388.out (fun _ hk=>⟨hk.1.1.1.2,⟨hk.1.1.2,⟨hk.1.2,hk.2⟩⟩⟩)),(by (with_reducible repeat (first|apply Kd.R_alloc|apply Kd.R_drewN|apply Kd.R_drew));exact Kd.R_mono HO392.out (fun _ hk=>⟨hk.1.1.1.2,⟨hk.1.1.2,⟨hk.1.2,hk.2⟩⟩⟩)),(by (with_reducible repeat (first|apply Kd.R_alloc|apply Kd.R_drewN|apply Kd.R_drew));exact Kd.R_mono HO395.out (fun _ hk=>⟨hk.1.1.1.2,⟨hk.1.1.2,⟨hk.1.2,hk.2⟩⟩⟩)),(kz BK295.out),(kz BK296.out),(kz BK321.out),(kz BK346.out),(kz BK397.out),GW397.out,GE397.out,NB295_397.out,NB397_295.out,NB296_397.out,NB397_296.out,NB321_397.out,NB397_321.out,NB346_397.out,NB397_346.out,bs⟩)
                ·skip
                 refine box_step ?hg (N:=15) ?hd (cs:=#[.int .i64 0,.slice none 0 0,.slice none 0 0]) (t:=30) ?hr ?_;(case hd=>rfl);(case hg=>rfl);(case hr=>first|(go_simp;done)|(go_simp;rfl))
                 intro gb397 hg w129 hbox hb
                 have n0_:=Aside0.mk (Kd.R_below (rz HO316.out) hb)
                 have n1_:=Aside0.mk (Kd.R_below (rz HO319.out) hb)
                 have n2_:=Aside0.mk (Kd.R_below (rz HO341.out) hb)
                 have n3_:=Aside0.mk (Kd.R_below (rz HO344.out) hb)
                 have n4_:=Aside0.mk (kb BK295.out hb)
                 have n5_:=Aside0.mk (kb BK296.out hb)
                 have n6_:=Aside0.mk (kb BK321.out hb)
                 have n7_:=Aside0.mk (kb BK346.out hb)
                 have n8_:=Aside0.mk (below_step bs hb)
                 have n9_:=Aside0.mk (hbox)
                 have n10_:=Aside0.mk ((by rw [hg];exact (below_size bs) : w.heap.size ≤ gb397))
                 have n11_:=Aside0.mk ((by rw [hg];exact (below_size bs) : w.heap.size ≤ gb397))
                 have n12_:=Aside0.mk (kn hg BK295.out)
                 have n13_:=Aside0.mk (km hg BK295.out)
                 have n14_:=Aside0.mk (kn hg BK296.out)
                 have n15_:=Aside0.mk (km hg BK296.out)
                 have n16_:=Aside0.mk (kn hg BK321.out)
                 have n17_:=Aside0.mk (km hg BK321.out)
                 have n18_:=Aside0.mk (kn hg BK346.out)
                 have n19_:=Aside0.mk (km hg BK346.out)
                 clear HO316
                 clear HO319
                 clear HO341
                 clear HO344
                 clear BK295
                 clear BK296
                 clear BK321
                 clear BK346
                 clear HB
                 have HO316:=n0_
                 have HO319:=n1_
                 have HO341:=n2_
                 have HO344:=n3_
                 have BK295:=n4_
                 have BK296:=n5_
                 have BK321:=n6_
                 have BK346:=n7_
                 have HB:=n8_
                 have BK397:=n9_
                 have GW397:=n10_
                 have GE397:=n11_
                 have NB295_397:=n12_
                 have NB397_295:=n13_
                 have NB296_397:=n14_
                 have NB397_296:=n15_
                 have NB321_397:=n16_
                 have NB397_321:=n17_
                 have NB346_397:=n18_
                 have NB397_346:=n19_
                 clear n0_ n1_ n2_ n3_ n4_ n5_ n6_ n7_ n8_ n9_ n10_ n11_ n12_ n13_ n14_ n15_ n16_ n17_ n18_ n19_
                 clear hb hbox hg
                 refine hK.out _ _ ⟨(blk_cell BK295.out 0).trans rfl,(blk_cell BK295.out 1).trans rfl,(blk_cell BK295.out 2).trans rfl,(blk_cell BK296.out 0).trans rfl,(blk_cell BK296.out 1).trans rfl,(blk_cell BK296.out 2).trans rfl⟩ (fun hHeld=>?_)
                 clear hK K
                 refine norm_ (a':=?_) ?_ ?_
                 rotate_left
                 ·show Act.put _ (some 15) _ = _
                  simp only [Act.put,xa,xb,xc,i64_w,i32_w]
                  rfl
                 refine one_ (i:=1) (N:=some 96) #[true,true,true,false,false,false,false,false,true,false,false] rfl rfl (one_of HT_.out (by kernel_rfl)) (by decide) (fun K hK=>?_)
                 refine goes_ Try.func17 (by kernel_rfl) rfl #[.agg #[.int .i64 a0_0,.slice A0_1 l0_1.length c0_1,.slice A0_2 l0_2.length c0_2]] (by rfl) rfl rfl mz ?_
                 with_reducible refine (laws_toPlan.calls k a0_0 _ _ l0_1 _ _ l0_2 t375 t376 t379 _ ?side1 ?side2 ?side3 ?side4 A42.out).mono ?_
                 (case side1=>exact cz (Kd.C_below HR0_1.out HB.out))
                 (case side2=>exact HC0_1.out)
                 (case side3=>exact cz (Kd.C_below HR0_2.out HB.out))
                 (case side4=>exact HC0_2.out)
                 rintro e w130 ⟨v377,v380,rfl,ho0,ho1,hb⟩
                 refine ⟨_,rfl,?_⟩
                 have n0_:=Aside0.mk (Kd.R_elder' (rz HO316.out) (Kd.R_base ho0) hb)
                 have n1_:=Aside0.mk (Kd.R_elder' (rz HO319.out) (Kd.R_base ho1) hb)
                 have n2_:=Aside0.mk (Kd.R_elder' (rz HO341.out) (Kd.R_base ho0) hb)
                 have n3_:=Aside0.mk (Kd.R_elder' (rz HO344.out) (Kd.R_base ho1) hb)
                 have n4_:=Aside0.mk (Kd.R_lower (Kd.R_new' (Kd.R_new' ho0 (Kd.R_lt (rz HO316.out))) (Kd.R_lt (rz HO341.out))) (below_size bs))
                 have n5_:=Aside0.mk (Kd.R_lower (Kd.R_new' (Kd.R_new' ho1 (Kd.R_lt (rz HO319.out))) (Kd.R_lt (rz HO344.out))) (below_size bs))
                 have n6_:=Aside0.mk (kb BK295.out hb)
                 have n7_:=Aside0.mk (kb BK296.out hb)
                 have n8_:=Aside0.mk (kb BK321.out hb)
                 have n9_:=Aside0.mk (kb BK346.out hb)
                 have n10_:=Aside0.mk (kb BK397.out hb)
                 have n11_:=Aside0.mk (below_step bs hb)
                 clear HO316
                 clear HO319
                 clear HO341
                 clear HO344
                 clear BK295
                 clear BK296
                 clear BK321
                 clear BK346
                 clear BK397
                 clear HB
                 have HO316:=n0_
                 have HO319:=n1_
                 have HO341:=n2_
                 have HO344:=n3_
                 have HO378:=n4_
                 have HO381:=n5_
                 have BK295:=n6_
                 have BK296:=n7_
                 have BK321:=n8_
                 have BK346:=n9_
                 have BK397:=n10_
                 have HB:=n11_
                 clear n0_ n1_ n2_ n3_ n4_ n5_ n6_ n7_ n8_ n9_ n10_ n11_
                 (try clear hb)
                 (try clear ho0)
                 (try clear ho1)
                 refine hK.out _ _ ⟨(blk_cell BK295.out 0).trans rfl,(blk_cell BK295.out 1).trans rfl,(blk_cell BK295.out 2).trans rfl,(blk_cell BK296.out 0).trans rfl,(blk_cell BK296.out 1).trans rfl,(blk_cell BK296.out 2).trans rfl⟩ (fun hHeld=>?_)
                 clear hK K
                 refine norm_ (a':=?_) ?_ ?_
                 rotate_left
                 ·show Act.put _ (some 96) _ = _
                  simp only [Act.put,xa,xb,xc,i64_w,i32_w]
                  rfl
                 refine one_ (i:=3) (N:=some 98) #[true,true,true,true,false,false,false,false,true,false,false] rfl rfl (one_of HT_.out (by kernel_rfl)) (by decide) (fun K hK=>?_)
                 refine goes_ Try.func17 (by kernel_rfl) rfl #[.agg #[.int .i64 a1_0,.slice A1_1 l1_1.length c1_1,.slice A1_2 l1_2.length c1_2]] (by rfl) rfl rfl mz ?_
                 with_reducible refine (laws_toPlan.calls k a1_0 _ _ l1_1 _ _ l1_2 t382 t383 t386 _ ?side1 ?side2 ?side3 ?side4 A43.out).mono ?_
                 (case side1=>exact cz (Kd.C_below HR1_1.out HB.out))
                 (case side2=>exact HC1_1.out)
                 (case side3=>exact cz (Kd.C_below HR1_2.out HB.out))
                 (case side4=>exact HC1_2.out)
                 rintro e w131 ⟨v384,v387,rfl,ho0,ho1,hb⟩
                 refine ⟨_,rfl,?_⟩
                 have n0_:=Aside0.mk (Kd.R_elder' (rz HO316.out) (Kd.R_base ho0) hb)
                 have n1_:=Aside0.mk (Kd.R_elder' (rz HO319.out) (Kd.R_base ho1) hb)
                 have n2_:=Aside0.mk (Kd.R_elder' (rz HO341.out) (Kd.R_base ho0) hb)
                 have n3_:=Aside0.mk (Kd.R_elder' (rz HO344.out) (Kd.R_base ho1) hb)
                 have n4_:=Aside0.mk (Kd.R_elder' (rz HO378.out) (Kd.R_base ho0) hb)
                 have n5_:=Aside0.mk (Kd.R_elder' (rz HO381.out) (Kd.R_base ho1) hb)
                 have n6_:=Aside0.mk (Kd.R_lower (Kd.R_new' (Kd.R_new' (Kd.R_new' ho0 (Kd.R_lt (rz HO316.out))) (Kd.R_lt (rz HO341.out))) (Kd.R_lt (rz HO378.out))) (below_size bs))
                 have n7_:=Aside0.mk (Kd.R_lower (Kd.R_new' (Kd.R_new' (Kd.R_new' ho1 (Kd.R_lt (rz HO319.out))) (Kd.R_lt (rz HO344.out))) (Kd.R_lt (rz HO381.out))) (below_size bs))
                 have n8_:=Aside0.mk (kb BK295.out hb)
                 have n9_:=Aside0.mk (kb BK296.out hb)
                 have n10_:=Aside0.mk (kb BK321.out hb)
                 have n11_:=Aside0.mk (kb BK346.out hb)
                 have n12_:=Aside0.mk (kb BK397.out hb)
                 have n13_:=Aside0.mk (below_step bs hb)
                 clear HO316
                 clear HO319
                 clear HO341
                 clear HO344
                 clear HO378
                 clear HO381
                 clear BK295
                 clear BK296
                 clear BK321
                 clear BK346
                 clear BK397
                 clear HB
                 have HO316:=n0_
                 have HO319:=n1_
                 have HO341:=n2_
                 have HO344:=n3_
                 have HO378:=n4_
                 have HO381:=n5_
                 have HO385:=n6_
                 have HO388:=n7_
                 have BK295:=n8_
                 have BK296:=n9_
                 have BK321:=n10_
                 have BK346:=n11_
                 have BK397:=n12_
                 have HB:=n13_
                 clear n0_ n1_ n2_ n3_ n4_ n5_ n6_ n7_ n8_ n9_ n10_ n11_ n12_ n13_
                 (try clear hb)
                 (try clear ho0)
                 (try clear ho1)
                 obtain ⟨Ao132,co132,eo132⟩:=Kd.R_slice HO378.out
                 (first|subst eo132|(injection eo132 with f1_ f2_ f3_;have f4_:=f1_.symm;have f5_:=f3_.symm;clear f1_ f2_ f3_;subst f4_;subst f5_))
                 obtain ⟨Ao133,co133,eo133⟩:=Kd.R_slice HO381.out
                 (first|subst eo133|(injection eo133 with f1_ f2_ f3_;have f4_:=f1_.symm;have f5_:=f3_.symm;clear f1_ f2_ f3_;subst f4_;subst f5_))
                 obtain ⟨Ao134,co134,eo134⟩:=Kd.R_slice HO385.out
                 (first|subst eo134|(injection eo134 with f1_ f2_ f3_;have f4_:=f1_.symm;have f5_:=f3_.symm;clear f1_ f2_ f3_;subst f4_;subst f5_))
                 obtain ⟨Ao135,co135,eo135⟩:=Kd.R_slice HO388.out
                 (first|subst eo135|(injection eo135 with f1_ f2_ f3_;have f4_:=f1_.symm;have f5_:=f3_.symm;clear f1_ f2_ f3_;subst f4_;subst f5_))
                 refine hK.out _ _ ⟨(blk_cell BK295.out 0).trans rfl,(blk_cell BK295.out 1).trans rfl,(blk_cell BK295.out 2).trans rfl,(blk_cell BK296.out 0).trans rfl,(blk_cell BK296.out 1).trans rfl,(blk_cell BK296.out 2).trans rfl⟩ (fun hHeld=>?_)
                 clear hK K
                 refine norm_ (a':=?_) ?_ ?_
                 rotate_left
                 ·show Act.put _ (some 98) _ = _
                  simp only [Act.put,xa,xb,xc,i64_w,i32_w]
                  rfl
                 refine one_ (i:=4) (N:=some 99) #[true,true,true,true,true,false,false,false,true,false,false] rfl rfl (one_of HT_.out (by kernel_rfl)) (by decide) (fun K hK=>?_)
                 refine goes_ Try.func50 (by kernel_rfl) rfl #[.agg #[.int .i64 t375,.slice Ao132 t376.length co132,.slice Ao133 t379.length co133],.agg #[.int .i64 t382,.slice Ao134 t383.length co134,.slice Ao135 t386.length co135]] (by rfl) rfl rfl mz ?_
                 with_reducible refine (impl_ComposePlans.calls k t375 _ _ t376 _ _ t379 t382 _ _ t383 _ _ t386 t389 t390 t393 t396 _ ?side1 ?side2 ?side3 ?side4 ?side5 ?side6 ?side7 ?side8 A44.out).mono ?_
                 (case side1=>exact cz (Kd.R_reads' HO378.out).2.2)
                 (case side2=>exact (Kd.R_reads' HO378.out).2.1)
                 (case side3=>exact cz (Kd.R_reads' HO381.out).2.2)
                 (case side4=>exact (Kd.R_reads' HO381.out).2.1)
                 (case side5=>exact cz (Kd.R_reads' HO385.out).2.2)
                 (case side6=>exact (Kd.R_reads' HO385.out).2.1)
                 (case side7=>exact cz (Kd.R_reads' HO388.out).2.2)
                 (case side8=>exact (Kd.R_reads' HO388.out).2.1)
                 rintro e w136 ⟨v391,v394,rfl,ho0,ho1,hb⟩
                 refine ⟨_,rfl,?_⟩
                 have n0_:=Aside0.mk (Kd.R_elder' (rz HO316.out) (Kd.R_base ho0) hb)
                 have n1_:=Aside0.mk (Kd.R_elder' (rz HO319.out) (Kd.R_base ho1) hb)
                 have n2_:=Aside0.mk (Kd.R_elder' (rz HO341.out) (Kd.R_base ho0) hb)
                 have n3_:=Aside0.mk (Kd.R_elder' (rz HO344.out) (Kd.R_base ho1) hb)
                 have n4_:=Aside0.mk (Kd.R_elder' (rz HO378.out) (Kd.R_base ho0) hb)
                 have n5_:=Aside0.mk (Kd.R_elder' (rz HO381.out) (Kd.R_base ho1) hb)
                 have n6_:=Aside0.mk (Kd.R_elder' (rz HO385.out) (Kd.R_base ho0) hb)
                 have n7_:=Aside0.mk (Kd.R_elder' (rz HO388.out) (Kd.R_base ho1) hb)
                 have n8_:=Aside0.mk (Kd.R_lower (Kd.R_new' (Kd.R_new' (Kd.R_new' (Kd.R_new' ho0 (Kd.R_lt (rz HO316.out))) (Kd.R_lt (rz HO341.out))) (Kd.R_lt (rz HO378.out))) (Kd.R_lt (rz HO385.out))) (below_size bs))
                 have n9_:=Aside0.mk (Kd.R_lower (Kd.R_new' (Kd.R_new' (Kd.R_new' (Kd.R_new' ho1 (Kd.R_lt (rz HO319.out))) (Kd.R_lt (rz HO344.out))) (Kd.R_lt (rz HO381.out))) (Kd.R_lt (rz HO388.out))) (below_size bs))
                 have n10_:=Aside0.mk (kb BK295.out hb)
                 have n11_:=Aside0.mk (kb BK296.out hb)
                 have n12_:=Aside0.mk (kb BK321.out hb)
                 have n13_:=Aside0.mk (kb BK346.out hb)
                 have n14_:=Aside0.mk (kb BK397.out hb)
                 have n15_:=Aside0.mk (below_step bs hb)
                 clear HO316
                 clear HO319
                 clear HO341
                 clear HO344
                 clear HO378
                 clear HO381
                 clear HO385
                 clear HO388
                 clear BK295
                 clear BK296
                 clear BK321
                 clear BK346
                 clear BK397
                 clear HB
                 have HO316:=n0_
                 have HO319:=n1_
                 have HO341:=n2_
                 have HO344:=n3_
                 have HO378:=n4_
                 have HO381:=n5_
                 have HO385:=n6_
                 have HO388:=n7_
                 have HO392:=n8_
                 have HO395:=n9_
                 have BK295:=n10_
                 have BK296:=n11_
                 have BK321:=n12_
                 have BK346:=n13_
                 have BK397:=n14_
                 have HB:=n15_
                 clear n0_ n1_ n2_ n3_ n4_ n5_ n6_ n7_ n8_ n9_ n10_ n11_ n12_ n13_ n14_ n15_
                 (try clear hb)
                 (try clear ho0)
                 (try clear ho1)
                 refine hK.out _ _ ⟨(blk_cell BK295.out 0).trans rfl,(blk_cell BK295.out 1).trans rfl,(blk_cell BK295.out 2).trans rfl,(blk_cell BK296.out 0).trans rfl,(blk_cell BK296.out 1).trans rfl,(blk_cell BK296.out 2).trans rfl⟩ (fun hHeld=>?_)
                 clear hK K
                 refine norm_ (a':=?_) ?_ ?_
                 rotate_left
                 ·show Act.put _ (some 99) _ = _
                  simp only [Act.put,xa,xb,xc,i64_w,i32_w]
                  rfl
                 refine pure_ (i:=5) (N:=some 94) (v:=?_) (a':=?_) #[true,true,true,true,true,true,false,false,true,false,false] rfl rfl (any_of HT_.out (by kernel_rfl)) (fun _ _ _ h=>h) (Or.inl ⟨by rfl,?_⟩) ?_ ?_
                 rotate_left
                 ·intro w'
                  go_simp
                  with_reducible rfl
                 rotate_left
                 ·simp only [Act.put,xa,xb,xc,i64_w,i32_w]
                  rfl
                 refine pure_ (i:=6) (N:=some 100) (v:=?_) (a':=?_) #[true,true,true,true,true,true,true,false,true,false,false] rfl rfl (any_of HT_.out (by kernel_rfl)) (fun _ _ _ h=>h) (Or.inl ⟨by rfl,?_⟩) ?_ ?_
                 rotate_left
                 ·intro w'
                  go_simp
                  with_reducible rfl
                 rotate_left
                 ·simp only [Act.put,xa,xb,xc,i64_w,i32_w]
                  rfl
                 refine pure_ (i:=7) (N:=some 101) (v:=?_) (a':=?_) #[true,true,true,true,true,true,true,true,true,false,false] rfl rfl (any_of HT_.out (by kernel_rfl)) (fun _ _ _ h=>h) (Or.inl ⟨by rfl,?_⟩) ?_ ?_
                 rotate_left
                 ·intro w'
                  go_simp
                  with_reducible rfl
                 rotate_left
                 ·simp only [Act.put,xa,xb,xc,i64_w,i32_w]
                  rfl
                 exact norm_ (by simp only [putAll,Act.put,xa,xb,xc]) (hCont (.slice Ao132 t376.length co132,.slice Ao133 t379.length co133,.slice Ao134 t383.length co134,.slice Ao135 t386.length co135,v391,v394,gb397) _ ⟨hHeld,(by (with_reducible repeat (first|apply Kd.R_alloc|apply Kd.R_drewN|apply Kd.R_drew));exact Kd.R_mono HO316.out (fun _ hk=>⟨hk.1.1.1,⟨hk.1.1.2,⟨hk.1.2,hk.2⟩⟩⟩)),(by (with_reducible repeat (first|apply Kd.R_alloc|apply Kd.R_drewN|apply Kd.R_drew));exact Kd.R_mono HO319.out (fun _ hk=>⟨hk.1.1.1,⟨hk.1.1.2,⟨hk.1.2,hk.2⟩⟩⟩)),(by (with_reducible repeat (first|apply Kd.R_alloc|apply Kd.R_drewN|apply Kd.R_drew));exact Kd.R_mono HO341.out (fun _ hk=>⟨hk.1.1.1.1,⟨hk.1.1.2,⟨hk.1.2,hk.2⟩⟩⟩)),(by (with_reducible repeat (first|apply Kd.R_alloc|apply Kd.R_drewN|apply Kd.R_drew));exact Kd.R_mono HO344.out (fun _ hk=>⟨hk.1.1.1.1,⟨hk.1.1.2,⟨hk.1.2,hk.2⟩⟩⟩)),(by (with_reducible repeat (first|apply Kd.R_alloc|apply Kd.R_drewN|apply Kd.R_drew));exact Kd.R_mono HO378.out (fun _ hk=>⟨hk.1.1.1.2,⟨hk.1.1.2,⟨hk.1.2,hk.2⟩⟩⟩)),(by (with_reducible repeat (first|apply Kd.R_alloc|apply Kd.R_drewN|apply Kd.R_drew));exact Kd.R_mono HO381.out (fun _ hk=>⟨hk.1.1.1.2,⟨hk.1.1.2,⟨hk.1.2,hk.2⟩⟩⟩)),(by (with_reducible repeat (first|apply Kd.R_alloc|apply Kd.R_drewN|apply Kd.R_drew));exact Kd.R_mono HO385.out (fun _ hk=>⟨hk.1.1.1.2,⟨hk.1.1.2,⟨hk.1.2,hk.2⟩⟩⟩)),(by (with_reducible repeat (first|apply Kd.R_alloc|apply Kd.R_drewN|apply Kd.R_drew));exact Kd.R_mono HO388.out (fun _ hk=>⟨hk.1.1.1.2,⟨hk.1.1.2,⟨hk.1.2,hk.2⟩⟩⟩)),(by (with_reducible repeat (first|apply Kd.R_alloc|apply Kd.R_drewN|apply Kd.R_drew));exact Kd.R_mono HO392.out (fun _ hk=>⟨hk.1.1.1.2,⟨hk.1.1.2,⟨hk.1.2,hk.2⟩⟩⟩)),(by (with_reducible repeat (first|apply Kd.R_alloc|apply Kd.R_drewN|apply Kd.R_drew));exact Kd.R_mono HO395.out (fun _ hk=>⟨hk.1.1.1.2,⟨hk.1.1.2,⟨hk.1.2,hk.2⟩⟩⟩)),(kz BK295.out),(kz BK296.out),(kz BK321.out),(kz BK346.out),(kz BK397.out),GW397.out,GE397.out,NB295_397.out,NB397_295.out,NB296_397.out,NB397_296.out,NB321_397.out,NB397_321.out,NB346_397.out,NB397_346.out,bs⟩)
               rintro ⟨v377,v380,v384,v387,v391,v394,gb397⟩ w137 ⟨hS_,h0_,h1_,h2_,h3_,h4_,h5_,h6_,h7_,h8_,h9_,h10_,h11_,h12_,h13_,h14_,h15_,h16_,h17_,h18_,h19_,h20_,h21_,h22_,h23_,h24_,h25_⟩
               have n0_ : Aside0 (Kd.R k69 69 w137 w.heap.size (fun k_=>some k_ ≠ (.slice Ao103 t339.length co103 : Value).ownBlock ∧ some k_ ≠ (v377 : Value).ownBlock ∧ some k_ ≠ (v384 : Value).ownBlock ∧ some k_ ≠ (v391 : Value).ownBlock) (.slice Ao69 t314.length co69) t314):=⟨h0_⟩
               have n1_ : Aside0 (Kd.R (Kd.int .i64) 3 w137 w.heap.size (fun k_=>some k_ ≠ (.slice Ao104 t342.length co104 : Value).ownBlock ∧ some k_ ≠ (v380 : Value).ownBlock ∧ some k_ ≠ (v387 : Value).ownBlock ∧ some k_ ≠ (v394 : Value).ownBlock) (.slice Ao71 t317.length co71) t317):=⟨h1_⟩
               have n2_ : Aside0 (Kd.R k69 69 w137 w.heap.size (fun k_=>some k_ ≠ (.slice Ao69 t314.length co69 : Value).ownBlock ∧ some k_ ≠ (v377 : Value).ownBlock ∧ some k_ ≠ (v384 : Value).ownBlock ∧ some k_ ≠ (v391 : Value).ownBlock) (.slice Ao103 t339.length co103) t372):=⟨h2_⟩
               have n3_ : Aside0 (Kd.R (Kd.int .i64) 3 w137 w.heap.size (fun k_=>some k_ ≠ (.slice Ao71 t317.length co71 : Value).ownBlock ∧ some k_ ≠ (v380 : Value).ownBlock ∧ some k_ ≠ (v387 : Value).ownBlock ∧ some k_ ≠ (v394 : Value).ownBlock) (.slice Ao104 t342.length co104) t373):=⟨h3_⟩
               have n8_ : Aside0 (Kd.R k69 69 w137 w.heap.size (fun k_=>some k_ ≠ (.slice Ao69 t314.length co69 : Value).ownBlock ∧ some k_ ≠ (.slice Ao103 t339.length co103 : Value).ownBlock ∧ some k_ ≠ (v377 : Value).ownBlock ∧ some k_ ≠ (v384 : Value).ownBlock) v391 t390):=⟨h8_⟩
               have n9_ : Aside0 (Kd.R (Kd.int .i64) 3 w137 w.heap.size (fun k_=>some k_ ≠ (.slice Ao71 t317.length co71 : Value).ownBlock ∧ some k_ ≠ (.slice Ao104 t342.length co104 : Value).ownBlock ∧ some k_ ≠ (v380 : Value).ownBlock ∧ some k_ ≠ (v387 : Value).ownBlock) v394 t393):=⟨h9_⟩
               have n12_ : Aside0 (w137.heap[gb321]? = some (.cells #[.int .i64 t313,.slice Ao69 t314.length co69,.slice Ao71 t317.length co71] 30 (0,0))):=⟨h12_⟩
               have n13_ : Aside0 (w137.heap[gb346]? = some (.cells #[.int .i64 t338,.slice Ao103 t339.length co103,.slice Ao104 t342.length co104] 30 (0,0))):=⟨h13_⟩
               have n14_ : Aside0 (w137.heap[gb397]? = some (.cells #[.int .i64 0,.slice none 0 0,.slice none 0 0] 30 (0,0))):=⟨h14_⟩
               have n16_ : Aside0 (w.heap.size ≤ gb397):=⟨h16_⟩
               have n17_ : Aside0 (gb295 ≠ gb397):=⟨h17_⟩
               have n18_ : Aside0 (gb397 ≠ gb295):=⟨h18_⟩
               have n19_ : Aside0 (gb296 ≠ gb397):=⟨h19_⟩
               have n20_ : Aside0 (gb397 ≠ gb296):=⟨h20_⟩
               have n21_ : Aside0 (gb321 ≠ gb397):=⟨h21_⟩
               have n22_ : Aside0 (gb397 ≠ gb321):=⟨h22_⟩
               have n23_ : Aside0 (gb346 ≠ gb397):=⟨h23_⟩
               have n24_ : Aside0 (gb397 ≠ gb346):=⟨h24_⟩
               have n25_ : Aside0 (Below w.heap.size w w137):=⟨h25_⟩
               clear HO316
               clear HO319
               clear HO341
               clear HO344
               clear BK295
               clear BK296
               clear BK321
               clear BK346
               clear HB
               clear h0_ h1_ h2_ h3_ h4_ h5_ h6_ h7_ h8_ h9_ h10_ h11_ h12_ h13_ h14_ h15_ h16_ h17_ h18_ h19_ h20_ h21_ h22_ h23_ h24_ h25_
               have HO316:=n0_
               have HO319:=n1_
               have HO341:=n2_
               have HO344:=n3_
               have HO392:=n8_
               have HO395:=n9_
               have BK321:=n12_
               have BK346:=n13_
               have BK397:=n14_
               have GE397:=n16_
               have NB295_397:=n17_
               have NB397_295:=n18_
               have NB296_397:=n19_
               have NB397_296:=n20_
               have NB321_397:=n21_
               have NB397_321:=n22_
               have NB346_397:=n23_
               have NB397_346:=n24_
               have HB:=n25_
               clear n0_ n1_ n2_ n3_ n8_ n9_ n12_ n13_ n14_ n16_ n17_ n18_ n19_ n20_ n21_ n22_ n23_ n24_ n25_
               have hHeld : w137.cell? ⟨gb295,0,none⟩ = some (.int .i64 a0_0) ∧ w137.cell? ⟨gb295,1,none⟩ = some (.slice A0_1 l0_1.length c0_1) ∧ w137.cell? ⟨gb295,2,none⟩ = some (.slice A0_2 l0_2.length c0_2) ∧ w137.cell? ⟨gb296,0,none⟩ = some (.int .i64 a1_0) ∧ w137.cell? ⟨gb296,1,none⟩ = some (.slice A1_1 l1_1.length c1_1) ∧ w137.cell? ⟨gb296,2,none⟩ = some (.slice A1_2 l1_2.length c1_2):=hS_
               obtain ⟨Ao139,co139,eo139⟩:=Kd.R_slice HO392.out
               (first|subst eo139|(injection eo139 with f1_ f2_ f3_;have f4_:=f1_.symm;have f5_:=f3_.symm;clear f1_ f2_ f3_;subst f4_;subst f5_))
               obtain ⟨Ao141,co141,eo141⟩:=Kd.R_slice HO395.out
               (first|subst eo141|(injection eo141 with f1_ f2_ f3_;have f4_:=f1_.symm;have f5_:=f3_.symm;clear f1_ f2_ f3_;subst f4_;subst f5_))
               refine norm_ (a':=?_) ?_ ?_
               rotate_left
               ·simp only [putAll,Act.put,xa,xb,xc]
                rfl
               refine one_ (i:=9) (N:=none) #[true,true,true,true,true,true,true,true,true,true,false] rfl rfl (one_of HT_.out (by kernel_rfl)) (by decide) (fun K hK=>?_)
               have hs138 : w137.cell? ⟨gb397,0,none⟩ = some (.int .i64 0):=(blk_cell BK397.out 0).trans rfl
               have hfs138:=blk_frozen BK397.out 0
               have hns138_0:=NB295_397.out
               have hns138_1:=NB296_397.out
               have hns138_2:=NB321_397.out
               have hns138_3:=NB346_397.out
               have hms138_0:=NB397_295.out
               have hms138_1:=NB397_296.out
               have hms138_2:=NB397_321.out
               have hms138_3:=NB397_346.out
               have hs140 : w137.cell? ⟨gb397,1,none⟩ = some (.slice none 0 0):=(blk_cell BK397.out 1).trans rfl
               have hfs140:=blk_frozen BK397.out 1
               have hns140_0:=NB295_397.out
               have hns140_1:=NB296_397.out
               have hns140_2:=NB321_397.out
               have hns140_3:=NB346_397.out
               have hms140_0:=NB397_295.out
               have hms140_1:=NB397_296.out
               have hms140_2:=NB397_321.out
               have hms140_3:=NB397_346.out
               have hs142 : w137.cell? ⟨gb397,2,none⟩ = some (.slice none 0 0):=(blk_cell BK397.out 2).trans rfl
               have hfs142:=blk_frozen BK397.out 2
               have hns142_0:=NB295_397.out
               have hns142_1:=NB296_397.out
               have hns142_2:=NB321_397.out
               have hns142_3:=NB346_397.out
               have hms142_0:=NB397_295.out
               have hms142_1:=NB397_296.out
               have hms142_2:=NB397_321.out
               have hms142_3:=NB397_346.out
               refine skip_ (w1:=?_) (by rfl) rfl ?_ ?_
               rotate_left
               ·go_simp
                rfl
               refine hK.out _ _ ⟨((cell_far (p:=⟨gb397,_,none⟩) NB295_397.out _).trans (((cell_far (p:=⟨gb397,_,none⟩) NB295_397.out _).trans (((cell_far (p:=⟨gb397,_,none⟩) NB295_397.out _).trans (hHeld.1)))))),((cell_far (p:=⟨gb397,_,none⟩) NB295_397.out _).trans (((cell_far (p:=⟨gb397,_,none⟩) NB295_397.out _).trans (((cell_far (p:=⟨gb397,_,none⟩) NB295_397.out _).trans (hHeld.2.1)))))),((cell_far (p:=⟨gb397,_,none⟩) NB295_397.out _).trans (((cell_far (p:=⟨gb397,_,none⟩) NB295_397.out _).trans (((cell_far (p:=⟨gb397,_,none⟩) NB295_397.out _).trans (hHeld.2.2.1)))))),((cell_far (p:=⟨gb397,_,none⟩) NB296_397.out _).trans (((cell_far (p:=⟨gb397,_,none⟩) NB296_397.out _).trans (((cell_far (p:=⟨gb397,_,none⟩) NB296_397.out _).trans (hHeld.2.2.2.1)))))),((cell_far (p:=⟨gb397,_,none⟩) NB296_397.out _).trans (((cell_far (p:=⟨gb397,_,none⟩) NB296_397.out _).trans (((cell_far (p:=⟨gb397,_,none⟩) NB296_397.out _).trans (hHeld.2.2.2.2.1)))))),((cell_far (p:=⟨gb397,_,none⟩) NB296_397.out _).trans (((cell_far (p:=⟨gb397,_,none⟩) NB296_397.out _).trans (((cell_far (p:=⟨gb397,_,none⟩) NB296_397.out _).trans (hHeld.2.2.2.2.2))))))⟩ (fun hHeld=>?_)
               clear hK K
               refine pure_ (i:=10) (N:=some 16) (v:=?_) (a':=?_) #[true,true,true,true,true,true,true,true,true,true,true] rfl rfl (any_of HT_.out (by kernel_rfl)) (fun _ _ _ h=>h) (Or.inl ⟨by rfl,?_⟩) ?_ ?_
               rotate_left
               ·intro w'
                go_simp
                with_reducible rfl
               rotate_left
               ·simp only [Act.put,xa,xb,xc,i64_w,i32_w]
                rfl
               refine done_ (done_of HT_.out (by kernel_rfl)) ?_
               have hnb143:=NB397_295.out
               have hnc143:=NB295_397.out
               have hnb144:=NB397_296.out
               have hnc144:=NB296_397.out
               have hnb145:=NB397_321.out
               have hnc145:=NB321_397.out
               have hnb146:=NB397_346.out
               have hnc146:=NB346_397.out
               have hcz147_0 : w137.cell? ⟨gb397,0,none⟩ = some (.int .i64 0):=(blk_cell BK397.out 0).trans rfl
               have hcz147_1 : w137.cell? ⟨gb397,1,none⟩ = some (.slice none 0 0):=(blk_cell BK397.out 1).trans rfl
               have hcz147_2 : w137.cell? ⟨gb397,2,none⟩ = some (.slice none 0 0):=(blk_cell BK397.out 2).trans rfl
               have hfz147_0:=blk_frozen BK397.out 0
               have hfz147_1:=blk_frozen BK397.out 1
               have hfz147_2:=blk_frozen BK397.out 2
               have hcz148_0 : w137.cell? ⟨gb321,0,none⟩ = some (.int .i64 t313):=(blk_cell BK321.out 0).trans rfl
               have hcz148_1 : w137.cell? ⟨gb321,1,none⟩ = some (.slice Ao69 t314.length co69):=(blk_cell BK321.out 1).trans rfl
               have hcz148_2 : w137.cell? ⟨gb321,2,none⟩ = some (.slice Ao71 t317.length co71):=(blk_cell BK321.out 2).trans rfl
               have hfz148_0:=blk_frozen BK321.out 0
               have hfz148_1:=blk_frozen BK321.out 1
               have hfz148_2:=blk_frozen BK321.out 2
               try go_wp2_with (first|((with_reducible refine gate_callee (f:=19) rfl ?_);refine goesL_ (some 104) rfl rfl Try.func19 (by kernel_rfl) rfl #[.agg #[.int .i64 t389,.slice Ao139 t390.length co139,.slice Ao141 t393.length co141],.agg #[.int .i64 t313,.slice Ao69 t314.length co69,.slice Ao71 t317.length co71]] rfl mz ?_;(with_reducible refine (laws_eqPlan.calls k t389 _ _ t390 _ _ t393 t313 _ _ t314 _ _ t317 true _ ?side1 ?side2 ?side3 ?side4 ?side5 ?side6 ?side7 ?side8 A45.out).mono ?_);(case side1=>refine (Kd.R_reads' (e:=69) (base:=w.heap.size) (ok:=fun k_=>(some k_ ≠ (.slice Ao69 t314.length co69 : Value).ownBlock ∧ (some k_ ≠ (.slice Ao103 t339.length co103 : Value).ownBlock ∧ (some k_ ≠ (v377 : Value).ownBlock ∧ some k_ ≠ (v384 : Value).ownBlock)))) (n:=t390.length) (c:=co139) ?_).2.2;exact (by (with_reducible repeat (first|apply Kd.R_alloc|apply Kd.R_drewN|apply Kd.R_drew));exact (Kd.R_mono (Kd.R_far (p:=⟨gb397,2,none⟩) (Kd.R_far (p:=⟨gb397,1,none⟩) (Kd.R_far (p:=⟨gb397,0,none⟩) (Kd.R_types HO392.out BK397.out (by decide)) (fun _ hk=>hk.2) (.int .i64 t389)) (fun _ hk=>hk.2) (.slice Ao139 t390.length co139)) (fun _ hk=>hk.2) (.slice Ao141 t393.length co141)) (fun _ h_=>h_.1))));(case side2=>exact (Kd.R_reads' HO392.out).2.1);(case side3=>refine (Kd.R_reads' (e:=3) (base:=w.heap.size) (ok:=fun k_=>(some k_ ≠ (.slice Ao71 t317.length co71 : Value).ownBlock ∧ (some k_ ≠ (.slice Ao104 t342.length co104 : Value).ownBlock ∧ (some k_ ≠ (v380 : Value).ownBlock ∧ some k_ ≠ (v387 : Value).ownBlock)))) (n:=t393.length) (c:=co141) ?_).2.2;exact (by (with_reducible repeat (first|apply Kd.R_alloc|apply Kd.R_drewN|apply Kd.R_drew));exact (Kd.R_mono (Kd.R_far (p:=⟨gb397,2,none⟩) (Kd.R_far (p:=⟨gb397,1,none⟩) (Kd.R_far (p:=⟨gb397,0,none⟩) (Kd.R_types HO395.out BK397.out (by decide)) (fun _ hk=>hk.2) (.int .i64 t389)) (fun _ hk=>hk.2) (.slice Ao139 t390.length co139)) (fun _ hk=>hk.2) (.slice Ao141 t393.length co141)) (fun _ h_=>h_.1))));(case side4=>exact (Kd.R_reads' HO395.out).2.1);(case side5=>refine (Kd.R_reads' (e:=69) (base:=w.heap.size) (ok:=fun k_=>(some k_ ≠ (.slice Ao103 t339.length co103 : Value).ownBlock ∧ (some k_ ≠ (v377 : Value).ownBlock ∧ (some k_ ≠ (v384 : Value).ownBlock ∧ some k_ ≠ (.slice Ao139 t390.length co139 : Value).ownBlock)))) (n:=t314.length) (c:=co69) ?_).2.2;exact (by (with_reducible repeat (first|apply Kd.R_alloc|apply Kd.R_drewN|apply Kd.R_drew));exact (Kd.R_mono (Kd.R_far (p:=⟨gb397,2,none⟩) (Kd.R_far (p:=⟨gb397,1,none⟩) (Kd.R_far (p:=⟨gb397,0,none⟩) (Kd.R_types HO316.out BK397.out (by decide)) (fun _ hk=>hk.2) (.int .i64 t389)) (fun _ hk=>hk.2) (.slice Ao139 t390.length co139)) (fun _ hk=>hk.2) (.slice Ao141 t393.length co141)) (fun _ h_=>h_.1))));(case side6=>exact (Kd.R_reads' HO316.out).2.1);(case side7=>refine (Kd.R_reads' (e:=3) (base:=w.heap.size) (ok:=fun k_=>(some k_ ≠ (.slice Ao104 t342.length co104 : Value).ownBlock ∧ (some k_ ≠ (v380 : Value).ownBlock ∧ (some k_ ≠ (v387 : Value).ownBlock ∧ some k_ ≠ (.slice Ao141 t393.length co141 : Value).ownBlock)))) (n:=t317.length) (c:=co71) ?_).2.2;exact (by (with_reducible repeat (first|apply Kd.R_alloc|apply Kd.R_drewN|apply Kd.R_drew));exact (Kd.R_mono (Kd.R_far (p:=⟨gb397,2,none⟩) (Kd.R_far (p:=⟨gb397,1,none⟩) (Kd.R_far (p:=⟨gb397,0,none⟩) (Kd.R_types HO319.out BK397.out (by decide)) (fun _ hk=>hk.2) (.int .i64 t389)) (fun _ hk=>hk.2) (.slice Ao139 t390.length co139)) (fun _ hk=>hk.2) (.slice Ao141 t393.length co141)) (fun _ h_=>h_.1))));(case side8=>exact (Kd.R_reads' HO319.out).2.1);rintro e w149 ⟨rfl,hb⟩;refine ⟨_,rfl,?_⟩;have n2_:=Aside0.mk (Kd.R_below (by (with_reducible repeat (first|apply Kd.R_alloc|apply Kd.R_drewN|apply Kd.R_drew));exact (Kd.R_mono (Kd.R_far (p:=⟨gb397,2,none⟩) (Kd.R_far (p:=⟨gb397,1,none⟩) (Kd.R_far (p:=⟨gb397,0,none⟩) (Kd.R_types HO341.out BK397.out (by decide)) (fun _ hk=>hk.2) (.int .i64 t389)) (fun _ hk=>hk.2) (.slice Ao139 t390.length co139)) (fun _ hk=>hk.2) (.slice Ao141 t393.length co141)) (fun _ h_=>h_.1))) hb);have n3_:=Aside0.mk (Kd.R_below (by (with_reducible repeat (first|apply Kd.R_alloc|apply Kd.R_drewN|apply Kd.R_drew));exact (Kd.R_mono (Kd.R_far (p:=⟨gb397,2,none⟩) (Kd.R_far (p:=⟨gb397,1,none⟩) (Kd.R_far (p:=⟨gb397,0,none⟩) (Kd.R_types HO344.out BK397.out (by decide)) (fun _ hk=>hk.2) (.int .i64 t389)) (fun _ hk=>hk.2) (.slice Ao139 t390.length co139)) (fun _ hk=>hk.2) (.slice Ao141 t393.length co141)) (fun _ h_=>h_.1))) hb);have n13_:=Aside0.mk (blk_below (g:=gb346) (o:=.cells #[.int .i64 t338,.slice Ao103 t339.length co103,.slice Ao104 t342.length co104] 30 (0,0)) (by (with_reducible repeat (first|refine blk_drewN ?_ _|refine blk_drew ?_|refine blk_alloc ?_ _));refine blk_far ?_ NB346_397.out _;(with_reducible repeat (first|refine blk_drewN ?_ _|refine blk_drew ?_|refine blk_alloc ?_ _));refine blk_far ?_ NB346_397.out _;(with_reducible repeat (first|refine blk_drewN ?_ _|refine blk_drew ?_|refine blk_alloc ?_ _));refine blk_far ?_ NB346_397.out _;(with_reducible repeat (first|refine blk_drewN ?_ _|refine blk_drew ?_|refine blk_alloc ?_ _));exact BK346.out) hb);have n15_:=Aside0.mk (below_step bs hb);clear HO316 HO319 HO341 HO344 HO392 HO395 BK321 BK346 BK397 HB;have HO341:=n2_;have HO344:=n3_;have BK346:=n13_;have HB:=n15_;clear n2_ n3_ n13_ n15_;(try clear hb);have hcz150_0 : w149.cell? ⟨gb346,0,none⟩ = some (.int .i64 t338):=(blk_cell BK346.out 0).trans rfl;have hcz150_1 : w149.cell? ⟨gb346,1,none⟩ = some (.slice Ao103 t339.length co103):=(blk_cell BK346.out 1).trans rfl;have hcz150_2 : w149.cell? ⟨gb346,2,none⟩ = some (.slice Ao104 t342.length co104):=(blk_cell BK346.out 2).trans rfl;have hfz150_0:=blk_frozen BK346.out 0;have hfz150_1:=blk_frozen BK346.out 1;have hfz150_2:=blk_frozen BK346.out 2)|((with_reducible refine gate_callee (f:=33) rfl ?_);refine goesL_ (some 113) rfl rfl Try.func33 (by kernel_rfl) rfl #[.agg #[.int .i64 t338,.slice Ao103 t372.length co103,.slice Ao104 t373.length co104],.int .i64 1] rfl (by (try simp only [List.map_toArray,List.map_cons,List.map_nil]);first|done|(rw [show t372.length = t339.length from (Kd.R_reads' HO341.out).1.symm,show t373.length = t342.length from (Kd.R_reads' HO344.out).1.symm] <;> rfl)|rfl|(simp only [List.length_drop,List.length_take];rfl)) ?_;(with_reducible refine (laws_heldPlan.calls k t338 _ _ t372 _ _ t373 1 t399 _ ?side1 ?side2 ?side3 ?side4 A48.out).mono ?_);(case side1=>exact cz (Kd.R_reads' HO341.out).2.2);(case side2=>rw [show t372.length = t339.length from (Kd.R_reads' HO341.out).1.symm];exact (Kd.R_reads' HO341.out).2.1);(case side3=>exact cz (Kd.R_reads' HO344.out).2.2);(case side4=>rw [show t373.length = t342.length from (Kd.R_reads' HO344.out).1.symm];exact (Kd.R_reads' HO344.out).2.1);rintro e w151 ⟨rfl,hb⟩;refine ⟨_,rfl,?_⟩;have n2_:=Aside0.mk (below_step bz hb);clear HO341 HO344 HB;have HB:=n2_;clear n2_;(try clear hb)))
               go_ret
               exact ⟨by first|rfl|(simp [errW_none,errW_some] <;> rfl)|(simp [*,errW_none,errW_some] <;> rfl),by repeat (first|(with_reducible first|exact HB.out|apply below_alloc|apply pw_below_drewN|apply below_drew1)|exact HB.out)⟩
              ·rw [if_neg c50] at H
               exact absurd H (by simp)
           ·replace c46:=Bool.eq_false_iff.mpr c46
            subst c46
            rw [if_neg (show ¬ (false = true) by decide)] at H
            exact absurd H (by simp)
          ·rw [if_neg c41] at H
           exact absurd H (by simp)
        ·replace c37:=Bool.eq_false_iff.mpr c37
         subst c37
         rw [if_neg (show ¬ (false = true) by decide)] at H
         exact absurd H (by simp)
      ·replace c32:=Bool.eq_false_iff.mpr c32
       subst c32
       rw [if_neg (show ¬ (false = true) by decide)] at H
       exact absurd H (by simp)
     ·replace c29:=Bool.eq_false_iff.mpr c29
      subst c29
      rw [if_neg (show ¬ (false = true) by decide)] at H
      exact absurd H (by simp)
   ·replace c25:=Bool.eq_false_iff.mpr c25
    subst c25
    rw [if_neg (show ¬ (false = true) by decide)] at H
    exact absurd H (by simp)
end Go.Proofs.Ytopkiccdfmjjjaa.MFnExactComposePlans
--sq
