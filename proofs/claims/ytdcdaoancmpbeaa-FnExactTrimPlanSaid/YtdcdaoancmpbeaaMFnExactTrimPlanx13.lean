import Derived.Test.YtdcdaoancmpbeaaMFnExactTrimPlanx0
import Derived.Test.YtdcdaoancmpbeaaMFnExactTrimPlanx1
import Derived.Test.YtdcdaoancmpbeaaMFnExactTrimPlanx2
import Derived.Test.YtdcdaoancmpbeaaMFnExactTrimPlanx3
import Derived.Test.YtdcdaoancmpbeaaMFnExactTrimPlanx8
import Derived.Test.YtdcdaoancmpbeaaMFnExactTrimPlanx12
namespace Go.Proofs.Ytdcdaoancmpbeaa.MFnExactTrimPlan
open Go.RowKit Go.Proofs.YtdcdaoancmpbeaaW.PrintWords Go.Proofs.YtdcdaoancmpbeaaW.PrintLast Go.Proofs.YtdcdaoancmpbeaaW.PrintMore Go.Proofs.YtdcdaoancmpbeaaV
attribute [local go_sem] max2_int min2_int max_two min_two max_three min_three max_four min_four   -- for this text's walks alone
set_option linter.unusedVariables false
set_option linter.unusedSimpArgs false
/-! ### laws_FnExactTrimPlan: function 5 -/
mutual
def laws_FnExactTrimPlan.j0 : Nat → Bool → Bool → Bool → Int → List (S93) → List Int → Int → List (S73) → List Int → Int → List (S73) → List Int → Int → List (S73) → List Int → Option (Bool)
 | 0,_,_,_,_,_,_,_,_,_,_,_,_,_,_,_=>none
 | k + 1,x5,x8,x40,x370000,x370001,x370002,x387000,x387001,x387002,x395000,x395001,x395002,x404000,x404001,x404002=>if x40 = true then (some false) else ((laws_toPlan.f k x370000 x370001 x370002).bind fun bt405=>((laws_eqPlan.f k x395000 x395001 x395002 bt405.1 bt405.2.1 bt405.2.2).bind fun t412=>(if t412 = true then ((laws_markPlan.f k x395000 x395001 x395002 1).bind fun bt413=>(if bt413.1 < 0 then (laws_FnExactTrimPlan.j1 k x5 true x370000 x370001 x370002 x387000 x387001 x387002 x404000 x404001 x404002) else ((laws_eqPlan.f k x404000 x404001 x404002 x387000 x387001 x387002).bind fun t416=>(if t416 = true then (laws_FnExactTrimPlan.j1 k x5 (x8 != x5) x370000 x370001 x370002 x387000 x387001 x387002 x404000 x404001 x404002) else (laws_FnExactTrimPlan.j1 k x5 true x370000 x370001 x370002 x387000 x387001 x387002 x404000 x404001 x404002))))) else (some false))))
def laws_FnExactTrimPlan.j1 : Nat → Bool → Bool → Int → List (S93) → List Int → Int → List (S73) → List Int → Int → List (S73) → List Int → Option (Bool)
 | 0,_,_,_,_,_,_,_,_,_,_,_=>none
 | k + 1,x5,x61,x370000,x370001,x370002,x387000,x387001,x387002,x404000,x404001,x404002=>if x61 = true then (some false) else ((laws_markPlan.f k x404000 x404001 x404002 1).bind fun bt417=>((laws_heldPlan.f k x404000 bt417.2.1 bt417.2.2 1).bind fun t420=>(if t420 < 0 then (some false) else (if t420 = bt417.1 then ((laws_toPlan.f k x370000 x370001 x370002).bind fun bt421=>((impl_TrimPlan.f k bt421.1 bt421.2.1 bt421.2.2).bind fun bt428=>((laws_eqPlan.f k bt428.1 bt428.2.1 bt428.2.2.1 x387000 x387001 x387002).bind fun t437=>(if t437 = true then (laws_FnExactTrimPlan.j2 k bt417.1 (bt428.2.2.2 != x5) x404000 bt417.2.1 bt417.2.2) else (laws_FnExactTrimPlan.j2 k bt417.1 true x404000 bt417.2.1 bt417.2.2))))) else (some false)))))
def laws_FnExactTrimPlan.j2 : Nat → Int → Bool → Int → List (S73) → List Int → Option (Bool)
 | 0,_,_,_,_,_=>none
 | k + 1,x10,x87,x404000,x404001,x404002=>if x87 = true then (some false) else ((laws_heldPlan.f k x404000 x404001 x404002 1).bind fun t438=>(if t438 < 0 then (some false) else (if t438 = x10 then (some true) else (some false))))
end
def laws_FnExactTrimPlan.f (k : Nat) (a0_0 : Int) (l0_1 : List (S93)) (l0_2 : List Int) : Option (Bool):=(laws_szPlan.f a0_0 l0_1 l0_2 1048576).bind fun t370=>(if t370 < 0 then (some true) else ((laws_toPlan.f k a0_0 l0_1 l0_2).bind fun bt371=>((spec_TrimPlan.f k bt371.1 bt371.2.1 bt371.2.2).bind fun bt378=>((laws_toPlan.f k a0_0 l0_1 l0_2).bind fun bt387=>((impl_TrimPlan.f k bt387.1 bt387.2.1 bt387.2.2).bind fun bt395=>((laws_eqPlan.f k bt395.1 bt395.2.1 bt395.2.2.1 bt378.1 bt378.2.1 bt378.2.2.1).bind fun t404=>(if t404 = true then (laws_FnExactTrimPlan.j0 k bt378.2.2.2 bt395.2.2.2 (bt395.2.2.2 != bt378.2.2.2) a0_0 l0_1 l0_2 bt378.1 bt378.2.1 bt378.2.2.1 bt387.1 bt387.2.1 bt387.2.2 bt395.1 bt395.2.1 bt395.2.2.1) else (laws_FnExactTrimPlan.j0 k bt378.2.2.2 bt395.2.2.2 true a0_0 l0_1 l0_2 bt378.1 bt378.2.1 bt378.2.2.1 bt387.1 bt387.2.1 bt387.2.2 bt395.1 bt395.2.1 bt395.2.2.1))))))))
theorem laws_FnExactTrimPlan.mono_l : ∀ k,(∀ y0 y1 y2 y3 y4 y5 y6 y7 y8 y9 y10 y11 y12 y13 y14,LeO (laws_FnExactTrimPlan.j0 k y0 y1 y2 y3 y4 y5 y6 y7 y8 y9 y10 y11 y12 y13 y14) (laws_FnExactTrimPlan.j0 (k + 1) y0 y1 y2 y3 y4 y5 y6 y7 y8 y9 y10 y11 y12 y13 y14)) ∧ (∀ y0 y1 y2 y3 y4 y5 y6 y7 y8 y9 y10,LeO (laws_FnExactTrimPlan.j1 k y0 y1 y2 y3 y4 y5 y6 y7 y8 y9 y10) (laws_FnExactTrimPlan.j1 (k + 1) y0 y1 y2 y3 y4 y5 y6 y7 y8 y9 y10)) ∧ (∀ y0 y1 y2 y3 y4,LeO (laws_FnExactTrimPlan.j2 k y0 y1 y2 y3 y4) (laws_FnExactTrimPlan.j2 (k + 1) y0 y1 y2 y3 y4))
 | 0=>⟨fun _ _ _ _ _ _ _ _ _ _ _ _ _ _ _ r h=>by simp [laws_FnExactTrimPlan.j0] at h,fun _ _ _ _ _ _ _ _ _ _ _ r h=>by simp [laws_FnExactTrimPlan.j1] at h,fun _ _ _ _ _ r h=>by simp [laws_FnExactTrimPlan.j2] at h⟩
 | k + 1=>by
  obtain ⟨ih0,ih1,ih2⟩:=laws_FnExactTrimPlan.mono_l k
  refine ⟨?_,?_,?_⟩
  ·intro y0 y1 y2 y3 y4 y5 y6 y7 y8 y9 y10 y11 y12 y13 y14
   unfold laws_FnExactTrimPlan.j0
   repeat' first
   | (with_reducible exact ih0 _ _ _ _ _ _ _ _ _ _ _ _ _ _ _)
   | (with_reducible exact ih1 _ _ _ _ _ _ _ _ _ _ _)
   | (with_reducible exact ih2 _ _ _ _ _)
   | (with_reducible exact impl_TrimPlan.mono _ _ _ _)
   | (with_reducible exact laws_eqPlan.mono _ _ _ _ _ _ _)
   | (with_reducible exact laws_heldPlan.mono _ _ _ _ _)
   | (with_reducible exact laws_markPlan.mono _ _ _ _ _)
   | (with_reducible exact laws_toPlan.mono _ _ _ _)
   | (with_reducible exact spec_TrimPlan.mono _ _ _ _)
   | (with_reducible exact LeO.refl _)
   | (with_reducible exact LeO.none _)
   | (with_reducible refine LeO.ite ?_ ?_)
   | (with_reducible refine LeO.bind ?_ (fun _=>?_))
   | exact ih0 _ _ _ _ _ _ _ _ _ _ _ _ _ _ _
   | exact ih1 _ _ _ _ _ _ _ _ _ _ _
   | exact ih2 _ _ _ _ _
   | exact impl_TrimPlan.mono _ _ _ _
   | exact laws_eqPlan.mono _ _ _ _ _ _ _
   | exact laws_heldPlan.mono _ _ _ _ _
   | exact laws_markPlan.mono _ _ _ _ _
   | exact laws_toPlan.mono _ _ _ _
   | exact spec_TrimPlan.mono _ _ _ _
   | exact LeO.none _
   | refine LeO.ite ?_ ?_
   | refine LeO.bind ?_ (fun _=>?_)
  ·intro y0 y1 y2 y3 y4 y5 y6 y7 y8 y9 y10
   unfold laws_FnExactTrimPlan.j1
   repeat' first
   | (with_reducible exact ih0 _ _ _ _ _ _ _ _ _ _ _ _ _ _ _)
   | (with_reducible exact ih1 _ _ _ _ _ _ _ _ _ _ _)
   | (with_reducible exact ih2 _ _ _ _ _)
   | (with_reducible exact impl_TrimPlan.mono _ _ _ _)
   | (with_reducible exact laws_eqPlan.mono _ _ _ _ _ _ _)
   | (with_reducible exact laws_heldPlan.mono _ _ _ _ _)
   | (with_reducible exact laws_markPlan.mono _ _ _ _ _)
   | (with_reducible exact laws_toPlan.mono _ _ _ _)
   | (with_reducible exact spec_TrimPlan.mono _ _ _ _)
   | (with_reducible exact LeO.refl _)
   | (with_reducible exact LeO.none _)
   | (with_reducible refine LeO.ite ?_ ?_)
   | (with_reducible refine LeO.bind ?_ (fun _=>?_))
   | exact ih0 _ _ _ _ _ _ _ _ _ _ _ _ _ _ _
   | exact ih1 _ _ _ _ _ _ _ _ _ _ _
   | exact ih2 _ _ _ _ _
   | exact impl_TrimPlan.mono _ _ _ _
   | exact laws_eqPlan.mono _ _ _ _ _ _ _
   | exact laws_heldPlan.mono _ _ _ _ _
   | exact laws_markPlan.mono _ _ _ _ _
   | exact laws_toPlan.mono _ _ _ _
   | exact spec_TrimPlan.mono _ _ _ _
   | exact LeO.none _
   | refine LeO.ite ?_ ?_
   | refine LeO.bind ?_ (fun _=>?_)
  ·intro y0 y1 y2 y3 y4
   unfold laws_FnExactTrimPlan.j2
   repeat' first
   | (with_reducible exact ih0 _ _ _ _ _ _ _ _ _ _ _ _ _ _ _)
   | (with_reducible exact ih1 _ _ _ _ _ _ _ _ _ _ _)
   | (with_reducible exact ih2 _ _ _ _ _)
   | (with_reducible exact impl_TrimPlan.mono _ _ _ _)
   | (with_reducible exact laws_eqPlan.mono _ _ _ _ _ _ _)
   | (with_reducible exact laws_heldPlan.mono _ _ _ _ _)
   | (with_reducible exact laws_markPlan.mono _ _ _ _ _)
   | (with_reducible exact laws_toPlan.mono _ _ _ _)
   | (with_reducible exact spec_TrimPlan.mono _ _ _ _)
   | (with_reducible exact LeO.refl _)
   | (with_reducible exact LeO.none _)
   | (with_reducible refine LeO.ite ?_ ?_)
   | (with_reducible refine LeO.bind ?_ (fun _=>?_))
   | exact ih0 _ _ _ _ _ _ _ _ _ _ _ _ _ _ _
   | exact ih1 _ _ _ _ _ _ _ _ _ _ _
   | exact ih2 _ _ _ _ _
   | exact impl_TrimPlan.mono _ _ _ _
   | exact laws_eqPlan.mono _ _ _ _ _ _ _
   | exact laws_heldPlan.mono _ _ _ _ _
   | exact laws_markPlan.mono _ _ _ _ _
   | exact laws_toPlan.mono _ _ _ _
   | exact spec_TrimPlan.mono _ _ _ _
   | exact LeO.none _
   | refine LeO.ite ?_ ?_
   | refine LeO.bind ?_ (fun _=>?_)
theorem laws_FnExactTrimPlan.mono : ∀ a0 a1 a2 k,LeO (laws_FnExactTrimPlan.f k a0 a1 a2) (laws_FnExactTrimPlan.f (k + 1) a0 a1 a2):=by
 intro a0 a1 a2 k
 obtain ⟨ih0,ih1,ih2⟩:=laws_FnExactTrimPlan.mono_l k
 unfold laws_FnExactTrimPlan.f
 repeat' first
   | (with_reducible exact ih0 _ _ _ _ _ _ _ _ _ _ _ _ _ _ _)
   | (with_reducible exact ih1 _ _ _ _ _ _ _ _ _ _ _)
   | (with_reducible exact ih2 _ _ _ _ _)
   | (with_reducible exact impl_TrimPlan.mono _ _ _ _)
   | (with_reducible exact laws_eqPlan.mono _ _ _ _ _ _ _)
   | (with_reducible exact laws_heldPlan.mono _ _ _ _ _)
   | (with_reducible exact laws_markPlan.mono _ _ _ _ _)
   | (with_reducible exact laws_toPlan.mono _ _ _ _)
   | (with_reducible exact spec_TrimPlan.mono _ _ _ _)
   | (with_reducible exact LeO.refl _)
   | (with_reducible exact LeO.none _)
   | (with_reducible refine LeO.ite ?_ ?_)
   | (with_reducible refine LeO.bind ?_ (fun _=>?_))
   | exact ih0 _ _ _ _ _ _ _ _ _ _ _ _ _ _ _
   | exact ih1 _ _ _ _ _ _ _ _ _ _ _
   | exact ih2 _ _ _ _ _
   | exact impl_TrimPlan.mono _ _ _ _
   | exact laws_eqPlan.mono _ _ _ _ _ _ _
   | exact laws_heldPlan.mono _ _ _ _ _
   | exact laws_markPlan.mono _ _ _ _ _
   | exact laws_toPlan.mono _ _ _ _
   | exact spec_TrimPlan.mono _ _ _ _
   | exact LeO.none _
   | refine LeO.ite ?_ ?_
   | refine LeO.bind ?_ (fun _=>?_)
set_option maxHeartbeats 8000000 in
set_option maxRecDepth 100000 in
theorem laws_FnExactTrimPlan.calls (k : Nat) (a0_0 : Int) (A0_1 : Option Addr) (c0_1 : Nat) (l0_1 : List (S93)) (A0_2 : Option Addr) (c0_2 : Nat) (l0_2 : List Int) (r : Bool) (w : World) (hr0_1 : Kd.C k93 w A0_1 l0_1.length l0_1) (hc0_1 : l0_1.length ≤ c0_1) (hr0_2 : Kd.C (Kd.int .i64) w A0_2 l0_2.length l0_2) (hc0_2 : l0_2.length ≤ c0_2) (h : laws_FnExactTrimPlan.f k a0_0 l0_1 l0_2 = some r) :
  Calls Try.prog 5 #[.agg #[.int .i64 a0_0,.slice A0_1 l0_1.length c0_1,.slice A0_2 l0_2.length c0_2]] w fun e w'=>e = .returned (.bool r) ∧ Below w.heap.size w w':=by
 have hu25:=Try.underlying25
 have hu29:=Try.underlying29
 have HR0_1:=Aside0.mk hr0_1
 have HC0_1:=Aside0.mk hc0_1
 clear hr0_1 hc0_1
 have HR0_2:=Aside0.mk hr0_2
 have HC0_2:=Aside0.mk hc0_2
 clear hr0_2 hc0_2
 have HB:=Aside0.mk (Below.refl w.heap.size w)
 have H : ((laws_szPlan.f a0_0 l0_1 l0_2 1048576).bind fun t370=>(if t370 < 0 then (some true) else ((laws_toPlan.f k a0_0 l0_1 l0_2).bind fun bt371=>((spec_TrimPlan.f k bt371.1 bt371.2.1 bt371.2.2).bind fun bt378=>((laws_toPlan.f k a0_0 l0_1 l0_2).bind fun bt387=>((impl_TrimPlan.f k bt387.1 bt387.2.1 bt387.2.2).bind fun bt395=>((laws_eqPlan.f k bt395.1 bt395.2.1 bt395.2.2.1 bt378.1 bt378.2.1 bt378.2.2.1).bind fun t404=>(if t404 = true then (laws_FnExactTrimPlan.j0 k bt378.2.2.2 bt395.2.2.2 (bt395.2.2.2 != bt378.2.2.2) a0_0 l0_1 l0_2 bt378.1 bt378.2.1 bt378.2.2.1 bt387.1 bt387.2.1 bt387.2.2 bt395.1 bt395.2.1 bt395.2.2.1) else (laws_FnExactTrimPlan.j0 k bt378.2.2.2 bt395.2.2.2 true a0_0 l0_1 l0_2 bt378.1 bt378.2.1 bt378.2.2.1 bt387.1 bt387.2.1 bt387.2.2 bt395.1 bt395.2.1 bt395.2.2.1))))))))) = some r:=h
 clear h
 replace H:=Option.bind_eq_some_iff.mp H
 obtain ⟨t370,A20,H⟩:=H
 replace H : (if t370 < 0 then (some true) else ((laws_toPlan.f k a0_0 l0_1 l0_2).bind fun bt371=>((spec_TrimPlan.f k bt371.1 bt371.2.1 bt371.2.2).bind fun bt378=>((laws_toPlan.f k a0_0 l0_1 l0_2).bind fun bt387=>((impl_TrimPlan.f k bt387.1 bt387.2.1 bt387.2.2).bind fun bt395=>((laws_eqPlan.f k bt395.1 bt395.2.1 bt395.2.2.1 bt378.1 bt378.2.1 bt378.2.2.1).bind fun t404=>(if t404 = true then (laws_FnExactTrimPlan.j0 k bt378.2.2.2 bt395.2.2.2 (bt395.2.2.2 != bt378.2.2.2) a0_0 l0_1 l0_2 bt378.1 bt378.2.1 bt378.2.2.1 bt387.1 bt387.2.1 bt387.2.2 bt395.1 bt395.2.1 bt395.2.2.1) else (laws_FnExactTrimPlan.j0 k bt378.2.2.2 bt395.2.2.2 true a0_0 l0_1 l0_2 bt378.1 bt378.2.1 bt378.2.2.1 bt387.1 bt387.2.1 bt387.2.2 bt395.1 bt395.2.1 bt395.2.2.1)))))))) = some r:=H
 have A2:=Aside0.mk A20
 clear A20
 by_cases c3 : t370 < 0
 ·rw [if_pos c3] at H
  have c3b0 : decide (t370 < 0) = true:=decide_eq_true c3
  clear c3
  obtain rfl:=Option.some.inj H
  go_enter Try.func5,Try.ntmps5
  go_wp2_with (first|((with_reducible refine gate_dst (N:=1) rfl ?_);refine box_event ?hg (N:=1) ?hd (cs:=#[.int .i64 a0_0,.slice A0_1 l0_1.length c0_1,.slice A0_2 l0_2.length c0_2]) (t:=25) ?hr ?_;(case hd=>rfl);(case hg=>rfl);(case hr=>first|(go_simp;done)|(go_simp;rfl));intro gb369 hg w4 hbox hb;have n0_:=Aside0.mk (below_step (by repeat (first|(with_reducible first|exact HB.out|apply below_alloc|apply pw_below_drewN|apply below_drew1)|exact HB.out)) hb);have n1_:=Aside0.mk (hbox);have n2_:=Aside0.mk ((by rw [hg];exact (below_size (by repeat (first|(with_reducible first|exact HB.out|apply below_alloc|apply pw_below_drewN|apply below_drew1)|exact HB.out))) : w.heap.size ≤ gb369));have n3_:=Aside0.mk ((by rw [hg];exact (below_size (by repeat (first|(with_reducible first|exact HB.out|apply below_alloc|apply pw_below_drewN|apply below_drew1)|exact HB.out))) : w.heap.size ≤ gb369));clear HB;have HB:=n0_;have BK369:=n1_;have GW369:=n2_;have GE369:=n3_;clear n0_ n1_ n2_ n3_;clear hb hbox hg;have hcz5_0 : w4.cell? ⟨gb369,0,none⟩ = some (.int .i64 a0_0):=(blk_cell BK369.out 0).trans rfl;have hcz5_1 : w4.cell? ⟨gb369,1,none⟩ = some (.slice A0_1 l0_1.length c0_1):=(blk_cell BK369.out 1).trans rfl;have hcz5_2 : w4.cell? ⟨gb369,2,none⟩ = some (.slice A0_2 l0_2.length c0_2):=(blk_cell BK369.out 2).trans rfl;have hfz5_0:=blk_frozen BK369.out 0;have hfz5_1:=blk_frozen BK369.out 1;have hfz5_2:=blk_frozen BK369.out 2)|((with_reducible refine gate_callee (f:=10) rfl ?_);refine goesL_ (some 16) rfl rfl Try.func10 (by kernel_rfl) rfl #[.agg #[.int .i64 a0_0,.slice A0_1 l0_1.length c0_1,.slice A0_2 l0_2.length c0_2],.int .i64 1048576] rfl (by (try simp only [List.map_toArray,List.map_cons,List.map_nil]);first|done|rfl|(simp only [List.length_drop,List.length_take];rfl)) ?_;(with_reducible refine (laws_szPlan.calls a0_0 _ _ l0_1 _ _ l0_2 1048576 t370 _ ?side1 ?side2 ?side3 ?side4 A2.out).mono ?_);(case side1=>repeat (first|exact (Kd.C_below HR0_1.out HB.out)|(with_reducible refine Kd.C_alloc ?_ _)|(with_reducible refine Kd.C_drewN ?_ _)|(with_reducible refine Kd.C_drew ?_)));(case side2=>exact HC0_1.out);(case side3=>repeat (first|exact (Kd.C_below HR0_2.out HB.out)|(with_reducible refine Kd.C_alloc ?_ _)|(with_reducible refine Kd.C_drewN ?_ _)|(with_reducible refine Kd.C_drew ?_)));(case side4=>exact HC0_2.out);rintro e w6 ⟨rfl,hb⟩;refine ⟨_,rfl,?_⟩;have n0_:=Aside0.mk (blk_below (g:=gb369) (o:=.cells #[.int .i64 a0_0,.slice A0_1 l0_1.length c0_1,.slice A0_2 l0_2.length c0_2] 25 (0,0)) (by (with_reducible repeat (first|refine blk_drewN ?_ _|refine blk_drew ?_|refine blk_alloc ?_ _));exact BK369.out) hb);have n1_:=Aside0.mk (below_step (by repeat (first|(with_reducible first|exact HB.out|apply below_alloc|apply pw_below_drewN|apply below_drew1|refine below_set ?_ GE369.out)|exact HB.out)) hb);clear BK369;clear HB;have BK369:=n0_;have HB:=n1_;clear n0_ n1_;(try clear hb)))
  go_ret
  exact ⟨by first|rfl|(simp [errW_none,errW_some] <;> rfl)|(simp [*,errW_none,errW_some] <;> rfl),by repeat (first|(with_reducible first|exact HB.out|apply below_alloc|apply pw_below_drewN|apply below_drew1|refine below_set ?_ GE369.out)|exact HB.out)⟩
 ·rw [if_neg c3] at H
  have c3b0 : decide (t370 < 0) = false:=decide_eq_false c3
  clear c3
  replace H:=Option.bind_eq_some_iff.mp H
  obtain ⟨⟨t371,t372,t375⟩,A70,H⟩:=H
  replace H : ((spec_TrimPlan.f k t371 t372 t375).bind fun bt378=>((laws_toPlan.f k a0_0 l0_1 l0_2).bind fun bt387=>((impl_TrimPlan.f k bt387.1 bt387.2.1 bt387.2.2).bind fun bt395=>((laws_eqPlan.f k bt395.1 bt395.2.1 bt395.2.2.1 bt378.1 bt378.2.1 bt378.2.2.1).bind fun t404=>(if t404 = true then (laws_FnExactTrimPlan.j0 k bt378.2.2.2 bt395.2.2.2 (bt395.2.2.2 != bt378.2.2.2) a0_0 l0_1 l0_2 bt378.1 bt378.2.1 bt378.2.2.1 bt387.1 bt387.2.1 bt387.2.2 bt395.1 bt395.2.1 bt395.2.2.1) else (laws_FnExactTrimPlan.j0 k bt378.2.2.2 bt395.2.2.2 true a0_0 l0_1 l0_2 bt378.1 bt378.2.1 bt378.2.2.1 bt387.1 bt387.2.1 bt387.2.2 bt395.1 bt395.2.1 bt395.2.2.1)))))) = some r:=H
  have A7:=Aside0.mk A70
  clear A70
  replace H:=Option.bind_eq_some_iff.mp H
  obtain ⟨⟨t378,t379,t382,t385⟩,A80,H⟩:=H
  replace H : ((laws_toPlan.f k a0_0 l0_1 l0_2).bind fun bt387=>((impl_TrimPlan.f k bt387.1 bt387.2.1 bt387.2.2).bind fun bt395=>((laws_eqPlan.f k bt395.1 bt395.2.1 bt395.2.2.1 t378 t379 t382).bind fun t404=>(if t404 = true then (laws_FnExactTrimPlan.j0 k t385 bt395.2.2.2 (bt395.2.2.2 != t385) a0_0 l0_1 l0_2 t378 t379 t382 bt387.1 bt387.2.1 bt387.2.2 bt395.1 bt395.2.1 bt395.2.2.1) else (laws_FnExactTrimPlan.j0 k t385 bt395.2.2.2 true a0_0 l0_1 l0_2 t378 t379 t382 bt387.1 bt387.2.1 bt387.2.2 bt395.1 bt395.2.1 bt395.2.2.1))))) = some r:=H
  have A8:=Aside0.mk A80
  clear A80
  replace H:=Option.bind_eq_some_iff.mp H
  obtain ⟨⟨t387,t388,t391⟩,A90,H⟩:=H
  replace H : ((impl_TrimPlan.f k t387 t388 t391).bind fun bt395=>((laws_eqPlan.f k bt395.1 bt395.2.1 bt395.2.2.1 t378 t379 t382).bind fun t404=>(if t404 = true then (laws_FnExactTrimPlan.j0 k t385 bt395.2.2.2 (bt395.2.2.2 != t385) a0_0 l0_1 l0_2 t378 t379 t382 t387 t388 t391 bt395.1 bt395.2.1 bt395.2.2.1) else (laws_FnExactTrimPlan.j0 k t385 bt395.2.2.2 true a0_0 l0_1 l0_2 t378 t379 t382 t387 t388 t391 bt395.1 bt395.2.1 bt395.2.2.1)))) = some r:=H
  have A9:=Aside0.mk A90
  clear A90
  replace H:=Option.bind_eq_some_iff.mp H
  obtain ⟨⟨t395,t396,t399,t402⟩,A100,H⟩:=H
  replace H : ((laws_eqPlan.f k t395 t396 t399 t378 t379 t382).bind fun t404=>(if t404 = true then (laws_FnExactTrimPlan.j0 k t385 t402 (t402 != t385) a0_0 l0_1 l0_2 t378 t379 t382 t387 t388 t391 t395 t396 t399) else (laws_FnExactTrimPlan.j0 k t385 t402 true a0_0 l0_1 l0_2 t378 t379 t382 t387 t388 t391 t395 t396 t399))) = some r:=H
  have A10:=Aside0.mk A100
  clear A100
  have HC11:=Aside0.mk H
  clear H
  go_enter Try.func5,Try.ntmps5
  go_upto_region 8 with (first|((with_reducible refine gate_dst (N:=1) rfl ?_);refine box_event ?hg (N:=1) ?hd (cs:=#[.int .i64 a0_0,.slice A0_1 l0_1.length c0_1,.slice A0_2 l0_2.length c0_2]) (t:=25) ?hr ?_;(case hd=>rfl);(case hg=>rfl);(case hr=>first|(go_simp;done)|(go_simp;rfl));intro gb369 hg w12 hbox hb;have n0_:=Aside0.mk (below_step (by repeat (first|(with_reducible first|exact HB.out|apply below_alloc|apply pw_below_drewN|apply below_drew1)|exact HB.out)) hb);have n1_:=Aside0.mk (hbox);have n2_:=Aside0.mk ((by rw [hg];exact (below_size (by repeat (first|(with_reducible first|exact HB.out|apply below_alloc|apply pw_below_drewN|apply below_drew1)|exact HB.out))) : w.heap.size ≤ gb369));have n3_:=Aside0.mk ((by rw [hg];exact (below_size (by repeat (first|(with_reducible first|exact HB.out|apply below_alloc|apply pw_below_drewN|apply below_drew1)|exact HB.out))) : w.heap.size ≤ gb369));clear HB;have HB:=n0_;have BK369:=n1_;have GW369:=n2_;have GE369:=n3_;clear n0_ n1_ n2_ n3_;clear hb hbox hg;have hcz13_0 : w12.cell? ⟨gb369,0,none⟩ = some (.int .i64 a0_0):=(blk_cell BK369.out 0).trans rfl;have hcz13_1 : w12.cell? ⟨gb369,1,none⟩ = some (.slice A0_1 l0_1.length c0_1):=(blk_cell BK369.out 1).trans rfl;have hcz13_2 : w12.cell? ⟨gb369,2,none⟩ = some (.slice A0_2 l0_2.length c0_2):=(blk_cell BK369.out 2).trans rfl;have hfz13_0:=blk_frozen BK369.out 0;have hfz13_1:=blk_frozen BK369.out 1;have hfz13_2:=blk_frozen BK369.out 2)|((with_reducible refine gate_callee (f:=10) rfl ?_);refine goesL_ (some 16) rfl rfl Try.func10 (by kernel_rfl) rfl #[.agg #[.int .i64 a0_0,.slice A0_1 l0_1.length c0_1,.slice A0_2 l0_2.length c0_2],.int .i64 1048576] rfl (by (try simp only [List.map_toArray,List.map_cons,List.map_nil]);first|done|rfl|(simp only [List.length_drop,List.length_take];rfl)) ?_;(with_reducible refine (laws_szPlan.calls a0_0 _ _ l0_1 _ _ l0_2 1048576 t370 _ ?side1 ?side2 ?side3 ?side4 A2.out).mono ?_);(case side1=>repeat (first|exact (Kd.C_below HR0_1.out HB.out)|(with_reducible refine Kd.C_alloc ?_ _)|(with_reducible refine Kd.C_drewN ?_ _)|(with_reducible refine Kd.C_drew ?_)));(case side2=>exact HC0_1.out);(case side3=>repeat (first|exact (Kd.C_below HR0_2.out HB.out)|(with_reducible refine Kd.C_alloc ?_ _)|(with_reducible refine Kd.C_drewN ?_ _)|(with_reducible refine Kd.C_drew ?_)));(case side4=>exact HC0_2.out);rintro e w14 ⟨rfl,hb⟩;refine ⟨_,rfl,?_⟩;have n0_:=Aside0.mk (blk_below (g:=gb369) (o:=.cells #[.int .i64 a0_0,.slice A0_1 l0_1.length c0_1,.slice A0_2 l0_2.length c0_2] 25 (0,0)) (by (with_reducible repeat (first|refine blk_drewN ?_ _|refine blk_drew ?_|refine blk_alloc ?_ _));exact BK369.out) hb);have n1_:=Aside0.mk (below_step (by repeat (first|(with_reducible first|exact HB.out|apply below_alloc|apply pw_below_drewN|apply below_drew1|refine below_set ?_ GE369.out)|exact HB.out)) hb);clear BK369;clear HB;have BK369:=n0_;have HB:=n1_;clear n0_ n1_;(try clear hb);have hcz15_0 : w14.cell? ⟨gb369,0,none⟩ = some (.int .i64 a0_0):=(blk_cell BK369.out 0).trans rfl;have hcz15_1 : w14.cell? ⟨gb369,1,none⟩ = some (.slice A0_1 l0_1.length c0_1):=(blk_cell BK369.out 1).trans rfl;have hcz15_2 : w14.cell? ⟨gb369,2,none⟩ = some (.slice A0_2 l0_2.length c0_2):=(blk_cell BK369.out 2).trans rfl;have hfz15_0:=blk_frozen BK369.out 0;have hfz15_1:=blk_frozen BK369.out 1;have hfz15_2:=blk_frozen BK369.out 2)|((with_reducible refine gate_callee (f:=12) rfl ?_);refine goesL_ (some 21) rfl rfl Try.func12 (by kernel_rfl) rfl #[.agg #[.int .i64 a0_0,.slice A0_1 l0_1.length c0_1,.slice A0_2 l0_2.length c0_2]] rfl (by (try simp only [List.map_toArray,List.map_cons,List.map_nil]);first|done|rfl|(simp only [List.length_drop,List.length_take];rfl)) ?_;(with_reducible refine (laws_toPlan.calls k a0_0 _ _ l0_1 _ _ l0_2 t371 t372 t375 _ ?side1 ?side2 ?side3 ?side4 A7.out).mono ?_);(case side1=>repeat (first|exact (Kd.C_below HR0_1.out HB.out)|(with_reducible refine Kd.C_alloc ?_ _)|(with_reducible refine Kd.C_drewN ?_ _)|(with_reducible refine Kd.C_drew ?_)));(case side2=>exact HC0_1.out);(case side3=>repeat (first|exact (Kd.C_below HR0_2.out HB.out)|(with_reducible refine Kd.C_alloc ?_ _)|(with_reducible refine Kd.C_drewN ?_ _)|(with_reducible refine Kd.C_drew ?_)));(case side4=>exact HC0_2.out);rintro e w16 ⟨v373,v376,rfl,ho0,ho1,hb⟩;refine ⟨_,rfl,?_⟩;have n0_:=Aside0.mk (Kd.R_lower ho0 (below_size (by repeat (first|(with_reducible first|exact HB.out|apply below_alloc|apply pw_below_drewN|apply below_drew1|refine below_set ?_ GE369.out)|exact HB.out))));have n1_:=Aside0.mk (Kd.R_lower ho1 (below_size (by repeat (first|(with_reducible first|exact HB.out|apply below_alloc|apply pw_below_drewN|apply below_drew1|refine below_set ?_ GE369.out)|exact HB.out))));have n2_:=Aside0.mk (blk_below (g:=gb369) (o:=.cells #[.int .i64 a0_0,.slice A0_1 l0_1.length c0_1,.slice A0_2 l0_2.length c0_2] 25 (0,0)) (by (with_reducible repeat (first|refine blk_drewN ?_ _|refine blk_drew ?_|refine blk_alloc ?_ _));exact BK369.out) hb);have n3_:=Aside0.mk (below_step (by repeat (first|(with_reducible first|exact HB.out|apply below_alloc|apply pw_below_drewN|apply below_drew1|refine below_set ?_ GE369.out)|exact HB.out)) hb);clear BK369;clear HB;have HO374:=n0_;have HO377:=n1_;have BK369:=n2_;have HB:=n3_;clear n0_ n1_ n2_ n3_;(try clear hb);(try clear ho0);(try clear ho1);obtain ⟨Ao17,co17,eo17⟩:=Kd.R_slice HO374.out;subst eo17;obtain ⟨Ao18,co18,eo18⟩:=Kd.R_slice HO377.out;subst eo18)|((with_reducible refine gate_callee (f:=22) rfl ?_);refine goesL_ (some 22) rfl rfl Try.func22 (by kernel_rfl) rfl #[.agg #[.int .i64 t371,.slice Ao17 t372.length co17,.slice Ao18 t375.length co18]] rfl (by (try simp only [List.map_toArray,List.map_cons,List.map_nil]);first|done|rfl|(simp only [List.length_drop,List.length_take];rfl)) ?_;(with_reducible refine (spec_TrimPlan.calls k t371 _ _ t372 _ _ t375 t378 t379 t382 t385 _ ?side1 ?side2 ?side3 ?side4 A8.out).mono ?_);(case side1=>repeat (first|exact (Kd.R_reads' HO374.out).2.2|(with_reducible refine Kd.C_alloc ?_ _)|(with_reducible refine Kd.C_drewN ?_ _)|(with_reducible refine Kd.C_drew ?_)));(case side2=>exact (Kd.R_reads' HO374.out).2.1);(case side3=>repeat (first|exact (Kd.R_reads' HO377.out).2.2|(with_reducible refine Kd.C_alloc ?_ _)|(with_reducible refine Kd.C_drewN ?_ _)|(with_reducible refine Kd.C_drew ?_)));(case side4=>exact (Kd.R_reads' HO377.out).2.1);rintro e w19 ⟨v380,v383,rfl,ho0,ho1,hb⟩;refine ⟨_,rfl,?_⟩;have n0_:=Aside0.mk (Kd.R_elder' (by (with_reducible repeat (first|apply Kd.R_alloc|apply Kd.R_drewN|apply Kd.R_drew));exact HO374.out) (Kd.R_base ho0) hb);have n1_:=Aside0.mk (Kd.R_elder' (by (with_reducible repeat (first|apply Kd.R_alloc|apply Kd.R_drewN|apply Kd.R_drew));exact HO377.out) (Kd.R_base ho1) hb);have n2_:=Aside0.mk (Kd.R_lower (Kd.R_new' ho0 (Kd.R_lt (by (with_reducible repeat (first|apply Kd.R_alloc|apply Kd.R_drewN|apply Kd.R_drew));exact HO374.out))) (below_size (by repeat (first|(with_reducible first|exact HB.out|apply below_alloc|apply pw_below_drewN|apply below_drew1|refine below_set ?_ GE369.out)|exact HB.out))));have n3_:=Aside0.mk (Kd.R_lower (Kd.R_new' ho1 (Kd.R_lt (by (with_reducible repeat (first|apply Kd.R_alloc|apply Kd.R_drewN|apply Kd.R_drew));exact HO377.out))) (below_size (by repeat (first|(with_reducible first|exact HB.out|apply below_alloc|apply pw_below_drewN|apply below_drew1|refine below_set ?_ GE369.out)|exact HB.out))));have n4_:=Aside0.mk (blk_below (g:=gb369) (o:=.cells #[.int .i64 a0_0,.slice A0_1 l0_1.length c0_1,.slice A0_2 l0_2.length c0_2] 25 (0,0)) (by (with_reducible repeat (first|refine blk_drewN ?_ _|refine blk_drew ?_|refine blk_alloc ?_ _));exact BK369.out) hb);have n5_:=Aside0.mk (below_step (by repeat (first|(with_reducible first|exact HB.out|apply below_alloc|apply pw_below_drewN|apply below_drew1|refine below_set ?_ GE369.out)|exact HB.out)) hb);clear HO374;clear HO377;clear BK369;clear HB;have HO374:=n0_;have HO377:=n1_;have HO381:=n2_;have HO384:=n3_;have BK369:=n4_;have HB:=n5_;clear n0_ n1_ n2_ n3_ n4_ n5_;(try clear hb);(try clear ho0);(try clear ho1))|((with_reducible refine gate_dst (N:=4) rfl ?_);refine box_event ?hg (N:=4) ?hd (cs:=#[.int .i64 0,.slice none 0 0,.slice none 0 0]) (t:=29) ?hr ?_;(case hd=>rfl);(case hg=>rfl);(case hr=>first|(go_simp;done)|(go_simp;rfl));intro gb386 hg w20 hbox hb;have n0_:=Aside0.mk (Kd.R_below (by (with_reducible repeat (first|apply Kd.R_alloc|apply Kd.R_drewN|apply Kd.R_drew));exact HO374.out) hb);have n1_:=Aside0.mk (Kd.R_below (by (with_reducible repeat (first|apply Kd.R_alloc|apply Kd.R_drewN|apply Kd.R_drew));exact HO377.out) hb);have n2_:=Aside0.mk (Kd.R_below (by (with_reducible repeat (first|apply Kd.R_alloc|apply Kd.R_drewN|apply Kd.R_drew));exact HO381.out) hb);have n3_:=Aside0.mk (Kd.R_below (by (with_reducible repeat (first|apply Kd.R_alloc|apply Kd.R_drewN|apply Kd.R_drew));exact HO384.out) hb);have n4_:=Aside0.mk (blk_below (g:=gb369) (o:=.cells #[.int .i64 a0_0,.slice A0_1 l0_1.length c0_1,.slice A0_2 l0_2.length c0_2] 25 (0,0)) (by (with_reducible repeat (first|refine blk_drewN ?_ _|refine blk_drew ?_|refine blk_alloc ?_ _));exact BK369.out) hb);have n5_:=Aside0.mk (below_step (by repeat (first|(with_reducible first|exact HB.out|apply below_alloc|apply pw_below_drewN|apply below_drew1|refine below_set ?_ GE369.out)|exact HB.out)) hb);have n6_:=Aside0.mk (hbox);have n7_:=Aside0.mk ((by rw [hg];exact (below_size (by repeat (first|(with_reducible first|exact HB.out|apply below_alloc|apply pw_below_drewN|apply below_drew1|refine below_set ?_ GE369.out)|exact HB.out))) : w.heap.size ≤ gb386));have n8_:=Aside0.mk ((by rw [hg];exact (below_size (by repeat (first|(with_reducible first|exact HB.out|apply below_alloc|apply pw_below_drewN|apply below_drew1|refine below_set ?_ GE369.out)|exact HB.out))) : w.heap.size ≤ gb386));have n9_:=Aside0.mk ((by rw [hg];exact Nat.ne_of_lt (blk_lt (g:=gb369) (o:=.cells #[.int .i64 a0_0,.slice A0_1 l0_1.length c0_1,.slice A0_2 l0_2.length c0_2] 25 (0,0)) (by (with_reducible repeat (first|refine blk_drewN ?_ _|refine blk_drew ?_|refine blk_alloc ?_ _));exact BK369.out)) : gb369 ≠ gb386));have n10_:=Aside0.mk ((by rw [hg];exact Nat.ne_of_gt (blk_lt (g:=gb369) (o:=.cells #[.int .i64 a0_0,.slice A0_1 l0_1.length c0_1,.slice A0_2 l0_2.length c0_2] 25 (0,0)) (by (with_reducible repeat (first|refine blk_drewN ?_ _|refine blk_drew ?_|refine blk_alloc ?_ _));exact BK369.out)) : gb386 ≠ gb369));clear HO374;clear HO377;clear HO381;clear HO384;clear BK369;clear HB;have HO374:=n0_;have HO377:=n1_;have HO381:=n2_;have HO384:=n3_;have BK369:=n4_;have HB:=n5_;have BK386:=n6_;have GW386:=n7_;have GE386:=n8_;have NB369_386:=n9_;have NB386_369:=n10_;clear n0_ n1_ n2_ n3_ n4_ n5_ n6_ n7_ n8_ n9_ n10_;clear hb hbox hg;have hnb21:=NB386_369.out;have hnc21:=NB369_386.out;have hcz22_0 : w20.cell? ⟨gb386,0,none⟩ = some (.int .i64 0):=(blk_cell BK386.out 0).trans rfl;have hcz22_1 : w20.cell? ⟨gb386,1,none⟩ = some (.slice none 0 0):=(blk_cell BK386.out 1).trans rfl;have hcz22_2 : w20.cell? ⟨gb386,2,none⟩ = some (.slice none 0 0):=(blk_cell BK386.out 2).trans rfl;have hfz22_0:=blk_frozen BK386.out 0;have hfz22_1:=blk_frozen BK386.out 1;have hfz22_2:=blk_frozen BK386.out 2;obtain ⟨Ao23,co23,eo23⟩:=Kd.R_slice HO381.out;subst eo23;obtain ⟨Ao24,co24,eo24⟩:=Kd.R_slice HO384.out;subst eo24;have hcz25_0 : w20.cell? ⟨gb369,0,none⟩ = some (.int .i64 a0_0):=(blk_cell BK369.out 0).trans rfl;have hcz25_1 : w20.cell? ⟨gb369,1,none⟩ = some (.slice A0_1 l0_1.length c0_1):=(blk_cell BK369.out 1).trans rfl;have hcz25_2 : w20.cell? ⟨gb369,2,none⟩ = some (.slice A0_2 l0_2.length c0_2):=(blk_cell BK369.out 2).trans rfl;have hfz25_0:=blk_frozen BK369.out 0;have hfz25_1:=blk_frozen BK369.out 1;have hfz25_2:=blk_frozen BK369.out 2)|((with_reducible refine gate_callee (f:=12) rfl ?_);refine goesL_ (some 26) rfl rfl Try.func12 (by kernel_rfl) rfl #[.agg #[.int .i64 a0_0,.slice A0_1 l0_1.length c0_1,.slice A0_2 l0_2.length c0_2]] rfl (by (try simp only [List.map_toArray,List.map_cons,List.map_nil]);first|done|rfl|(simp only [List.length_drop,List.length_take];rfl)) ?_;(with_reducible refine (laws_toPlan.calls k a0_0 _ _ l0_1 _ _ l0_2 t387 t388 t391 _ ?side1 ?side2 ?side3 ?side4 A9.out).mono ?_);(case side1=>exact Kd.C_below HR0_1.out (by repeat (first|(with_reducible first|exact HB.out|apply below_alloc|apply pw_below_drewN|apply below_drew1|refine below_set ?_ GE369.out|refine below_set ?_ GE386.out)|exact HB.out)));(case side2=>exact HC0_1.out);(case side3=>exact Kd.C_below HR0_2.out (by repeat (first|(with_reducible first|exact HB.out|apply below_alloc|apply pw_below_drewN|apply below_drew1|refine below_set ?_ GE369.out|refine below_set ?_ GE386.out)|exact HB.out)));(case side4=>exact HC0_2.out);rintro e w26 ⟨v389,v392,rfl,ho0,ho1,hb⟩;refine ⟨_,rfl,?_⟩;have n0_:=Aside0.mk (Kd.R_elder' (by (with_reducible repeat (first|apply Kd.R_alloc|apply Kd.R_drewN|apply Kd.R_drew));exact (Kd.R_mono (Kd.R_far (p:=⟨gb386,2,none⟩) (Kd.R_far (p:=⟨gb386,1,none⟩) (Kd.R_far (p:=⟨gb386,0,none⟩) (Kd.R_types HO374.out BK386.out (by decide)) (fun _ hk=>hk.2) (.int .i64 t378)) (fun _ hk=>hk.2) (.slice Ao23 t379.length co23)) (fun _ hk=>hk.2) (.slice Ao24 t382.length co24)) (fun _ h_=>h_.1))) (Kd.R_base ho0) hb);have n1_:=Aside0.mk (Kd.R_elder' (by (with_reducible repeat (first|apply Kd.R_alloc|apply Kd.R_drewN|apply Kd.R_drew));exact (Kd.R_mono (Kd.R_far (p:=⟨gb386,2,none⟩) (Kd.R_far (p:=⟨gb386,1,none⟩) (Kd.R_far (p:=⟨gb386,0,none⟩) (Kd.R_types HO377.out BK386.out (by decide)) (fun _ hk=>hk.2) (.int .i64 t378)) (fun _ hk=>hk.2) (.slice Ao23 t379.length co23)) (fun _ hk=>hk.2) (.slice Ao24 t382.length co24)) (fun _ h_=>h_.1))) (Kd.R_base ho1) hb);have n2_:=Aside0.mk (Kd.R_elder' (by (with_reducible repeat (first|apply Kd.R_alloc|apply Kd.R_drewN|apply Kd.R_drew));exact (Kd.R_mono (Kd.R_far (p:=⟨gb386,2,none⟩) (Kd.R_far (p:=⟨gb386,1,none⟩) (Kd.R_far (p:=⟨gb386,0,none⟩) (Kd.R_types HO381.out BK386.out (by decide)) (fun _ hk=>hk.2) (.int .i64 t378)) (fun _ hk=>hk.2) (.slice Ao23 t379.length co23)) (fun _ hk=>hk.2) (.slice Ao24 t382.length co24)) (fun _ h_=>h_.1))) (Kd.R_base ho0) hb);have n3_:=Aside0.mk (Kd.R_elder' (by (with_reducible repeat (first|apply Kd.R_alloc|apply Kd.R_drewN|apply Kd.R_drew));exact (Kd.R_mono (Kd.R_far (p:=⟨gb386,2,none⟩) (Kd.R_far (p:=⟨gb386,1,none⟩) (Kd.R_far (p:=⟨gb386,0,none⟩) (Kd.R_types HO384.out BK386.out (by decide)) (fun _ hk=>hk.2) (.int .i64 t378)) (fun _ hk=>hk.2) (.slice Ao23 t379.length co23)) (fun _ hk=>hk.2) (.slice Ao24 t382.length co24)) (fun _ h_=>h_.1))) (Kd.R_base ho1) hb);have n4_:=Aside0.mk (Kd.R_lower (Kd.R_new' (Kd.R_new' ho0 (Kd.R_lt (by (with_reducible repeat (first|apply Kd.R_alloc|apply Kd.R_drewN|apply Kd.R_drew));exact (Kd.R_mono (Kd.R_far (p:=⟨gb386,2,none⟩) (Kd.R_far (p:=⟨gb386,1,none⟩) (Kd.R_far (p:=⟨gb386,0,none⟩) (Kd.R_types HO374.out BK386.out (by decide)) (fun _ hk=>hk.2) (.int .i64 t378)) (fun _ hk=>hk.2) (.slice Ao23 t379.length co23)) (fun _ hk=>hk.2) (.slice Ao24 t382.length co24)) (fun _ h_=>h_.1))))) (Kd.R_lt (by (with_reducible repeat (first|apply Kd.R_alloc|apply Kd.R_drewN|apply Kd.R_drew));exact (Kd.R_mono (Kd.R_far (p:=⟨gb386,2,none⟩) (Kd.R_far (p:=⟨gb386,1,none⟩) (Kd.R_far (p:=⟨gb386,0,none⟩) (Kd.R_types HO381.out BK386.out (by decide)) (fun _ hk=>hk.2) (.int .i64 t378)) (fun _ hk=>hk.2) (.slice Ao23 t379.length co23)) (fun _ hk=>hk.2) (.slice Ao24 t382.length co24)) (fun _ h_=>h_.1))))) (below_size (by repeat (first|(with_reducible first|exact HB.out|apply below_alloc|apply pw_below_drewN|apply below_drew1|refine below_set ?_ GE369.out|refine below_set ?_ GE386.out)|exact HB.out))));have n5_:=Aside0.mk (Kd.R_lower (Kd.R_new' (Kd.R_new' ho1 (Kd.R_lt (by (with_reducible repeat (first|apply Kd.R_alloc|apply Kd.R_drewN|apply Kd.R_drew));exact (Kd.R_mono (Kd.R_far (p:=⟨gb386,2,none⟩) (Kd.R_far (p:=⟨gb386,1,none⟩) (Kd.R_far (p:=⟨gb386,0,none⟩) (Kd.R_types HO377.out BK386.out (by decide)) (fun _ hk=>hk.2) (.int .i64 t378)) (fun _ hk=>hk.2) (.slice Ao23 t379.length co23)) (fun _ hk=>hk.2) (.slice Ao24 t382.length co24)) (fun _ h_=>h_.1))))) (Kd.R_lt (by (with_reducible repeat (first|apply Kd.R_alloc|apply Kd.R_drewN|apply Kd.R_drew));exact (Kd.R_mono (Kd.R_far (p:=⟨gb386,2,none⟩) (Kd.R_far (p:=⟨gb386,1,none⟩) (Kd.R_far (p:=⟨gb386,0,none⟩) (Kd.R_types HO384.out BK386.out (by decide)) (fun _ hk=>hk.2) (.int .i64 t378)) (fun _ hk=>hk.2) (.slice Ao23 t379.length co23)) (fun _ hk=>hk.2) (.slice Ao24 t382.length co24)) (fun _ h_=>h_.1))))) (below_size (by repeat (first|(with_reducible first|exact HB.out|apply below_alloc|apply pw_below_drewN|apply below_drew1|refine below_set ?_ GE369.out|refine below_set ?_ GE386.out)|exact HB.out))));have n6_:=Aside0.mk (blk_below (g:=gb369) (o:=.cells #[.int .i64 a0_0,.slice A0_1 l0_1.length c0_1,.slice A0_2 l0_2.length c0_2] 25 (0,0)) (by (with_reducible repeat (first|refine blk_drewN ?_ _|refine blk_drew ?_|refine blk_alloc ?_ _));refine blk_far ?_ NB369_386.out _;(with_reducible repeat (first|refine blk_drewN ?_ _|refine blk_drew ?_|refine blk_alloc ?_ _));refine blk_far ?_ NB369_386.out _;(with_reducible repeat (first|refine blk_drewN ?_ _|refine blk_drew ?_|refine blk_alloc ?_ _));refine blk_far ?_ NB369_386.out _;(with_reducible repeat (first|refine blk_drewN ?_ _|refine blk_drew ?_|refine blk_alloc ?_ _));exact BK369.out) hb);have n7_:=Aside0.mk (blk_below (g:=gb386) (o:=.cells #[.int .i64 t378,.slice Ao23 t379.length co23,.slice Ao24 t382.length co24] 29 (0,0)) (by (with_reducible repeat (first|refine blk_drewN ?_ _|refine blk_drew ?_|refine blk_alloc ?_ _));refine blk_put (cs:=#[.int .i64 t378,.slice Ao23 t379.length co23,.slice none 0 0]) ?_ 2 _ rfl;(with_reducible repeat (first|refine blk_drewN ?_ _|refine blk_drew ?_|refine blk_alloc ?_ _));refine blk_put (cs:=#[.int .i64 t378,.slice none 0 0,.slice none 0 0]) ?_ 1 _ rfl;(with_reducible repeat (first|refine blk_drewN ?_ _|refine blk_drew ?_|refine blk_alloc ?_ _));refine blk_put (cs:=#[.int .i64 0,.slice none 0 0,.slice none 0 0]) ?_ 0 _ rfl;(with_reducible repeat (first|refine blk_drewN ?_ _|refine blk_drew ?_|refine blk_alloc ?_ _));exact BK386.out) hb);have n8_:=Aside0.mk (below_step (by repeat (first|(with_reducible first|exact HB.out|apply below_alloc|apply pw_below_drewN|apply below_drew1|refine below_set ?_ GE369.out|refine below_set ?_ GE386.out)|exact HB.out)) hb);clear HO374;clear HO377;clear HO381;clear HO384;clear BK369;clear BK386;clear HB;have HO374:=n0_;have HO377:=n1_;have HO381:=n2_;have HO384:=n3_;have HO390:=n4_;have HO393:=n5_;have BK369:=n6_;have BK386:=n7_;have HB:=n8_;clear n0_ n1_ n2_ n3_ n4_ n5_ n6_ n7_ n8_;(try clear hb);(try clear ho0);(try clear ho1))|((with_reducible refine gate_dst (N:=6) rfl ?_);refine box_event ?hg (N:=6) ?hd (cs:=#[.int .i64 0,.slice none 0 0,.slice none 0 0]) (t:=29) ?hr ?_;(case hd=>rfl);(case hg=>rfl);(case hr=>first|(go_simp;done)|(go_simp;rfl));intro gb394 hg w27 hbox hb;have n0_:=Aside0.mk (Kd.R_below (by (with_reducible repeat (first|apply Kd.R_alloc|apply Kd.R_drewN|apply Kd.R_drew));exact HO374.out) hb);have n1_:=Aside0.mk (Kd.R_below (by (with_reducible repeat (first|apply Kd.R_alloc|apply Kd.R_drewN|apply Kd.R_drew));exact HO377.out) hb);have n2_:=Aside0.mk (Kd.R_below (by (with_reducible repeat (first|apply Kd.R_alloc|apply Kd.R_drewN|apply Kd.R_drew));exact HO381.out) hb);have n3_:=Aside0.mk (Kd.R_below (by (with_reducible repeat (first|apply Kd.R_alloc|apply Kd.R_drewN|apply Kd.R_drew));exact HO384.out) hb);have n4_:=Aside0.mk (Kd.R_below (by (with_reducible repeat (first|apply Kd.R_alloc|apply Kd.R_drewN|apply Kd.R_drew));exact HO390.out) hb);have n5_:=Aside0.mk (Kd.R_below (by (with_reducible repeat (first|apply Kd.R_alloc|apply Kd.R_drewN|apply Kd.R_drew));exact HO393.out) hb);have n6_:=Aside0.mk (blk_below (g:=gb369) (o:=.cells #[.int .i64 a0_0,.slice A0_1 l0_1.length c0_1,.slice A0_2 l0_2.length c0_2] 25 (0,0)) (by (with_reducible repeat (first|refine blk_drewN ?_ _|refine blk_drew ?_|refine blk_alloc ?_ _));exact BK369.out) hb);have n7_:=Aside0.mk (blk_below (g:=gb386) (o:=.cells #[.int .i64 t378,.slice Ao23 t379.length co23,.slice Ao24 t382.length co24] 29 (0,0)) (by (with_reducible repeat (first|refine blk_drewN ?_ _|refine blk_drew ?_|refine blk_alloc ?_ _));exact BK386.out) hb);have n8_:=Aside0.mk (below_step (by repeat (first|(with_reducible first|exact HB.out|apply below_alloc|apply pw_below_drewN|apply below_drew1|refine below_set ?_ GE369.out|refine below_set ?_ GE386.out)|exact HB.out)) hb);have n9_:=Aside0.mk (hbox);have n10_:=Aside0.mk ((by rw [hg];exact (below_size (by repeat (first|(with_reducible first|exact HB.out|apply below_alloc|apply pw_below_drewN|apply below_drew1|refine below_set ?_ GE369.out|refine below_set ?_ GE386.out)|exact HB.out))) : w.heap.size ≤ gb394));have n11_:=Aside0.mk ((by rw [hg];exact (below_size (by repeat (first|(with_reducible first|exact HB.out|apply below_alloc|apply pw_below_drewN|apply below_drew1|refine below_set ?_ GE369.out|refine below_set ?_ GE386.out)|exact HB.out))) : w.heap.size ≤ gb394));have n12_:=Aside0.mk ((by rw [hg];exact Nat.ne_of_lt (blk_lt (g:=gb369) (o:=.cells #[.int .i64 a0_0,.slice A0_1 l0_1.length c0_1,.slice A0_2 l0_2.length c0_2] 25 (0,0)) (by (with_reducible repeat (first|refine blk_drewN ?_ _|refine blk_drew ?_|refine blk_alloc ?_ _));exact BK369.out)) : gb369 ≠ gb394));have n13_:=Aside0.mk ((by rw [hg];exact Nat.ne_of_gt (blk_lt (g:=gb369) (o:=.cells #[.int .i64 a0_0,.slice A0_1 l0_1.length c0_1,.slice A0_2 l0_2.length c0_2] 25 (0,0)) (by (with_reducible repeat (first|refine blk_drewN ?_ _|refine blk_drew ?_|refine blk_alloc ?_ _));exact BK369.out)) : gb394 ≠ gb369));have n14_:=Aside0.mk ((by rw [hg];exact Nat.ne_of_lt (blk_lt (g:=gb386) (o:=.cells #[.int .i64 t378,.slice Ao23 t379.length co23,.slice Ao24 t382.length co24] 29 (0,0)) (by (with_reducible repeat (first|refine blk_drewN ?_ _|refine blk_drew ?_|refine blk_alloc ?_ _));exact BK386.out)) : gb386 ≠ gb394));have n15_:=Aside0.mk ((by rw [hg];exact Nat.ne_of_gt (blk_lt (g:=gb386) (o:=.cells #[.int .i64 t378,.slice Ao23 t379.length co23,.slice Ao24 t382.length co24] 29 (0,0)) (by (with_reducible repeat (first|refine blk_drewN ?_ _|refine blk_drew ?_|refine blk_alloc ?_ _));exact BK386.out)) : gb394 ≠ gb386));clear HO374;clear HO377;clear HO381;clear HO384;clear HO390;clear HO393;clear BK369;clear BK386;clear HB;have HO374:=n0_;have HO377:=n1_;have HO381:=n2_;have HO384:=n3_;have HO390:=n4_;have HO393:=n5_;have BK369:=n6_;have BK386:=n7_;have HB:=n8_;have BK394:=n9_;have GW394:=n10_;have GE394:=n11_;have NB369_394:=n12_;have NB394_369:=n13_;have NB386_394:=n14_;have NB394_386:=n15_;clear n0_ n1_ n2_ n3_ n4_ n5_ n6_ n7_ n8_ n9_ n10_ n11_ n12_ n13_ n14_ n15_;clear hb hbox hg;have hnb28:=NB394_369.out;have hnc28:=NB369_394.out;have hnb29:=NB394_386.out;have hnc29:=NB386_394.out;have hcz30_0 : w27.cell? ⟨gb394,0,none⟩ = some (.int .i64 0):=(blk_cell BK394.out 0).trans rfl;have hcz30_1 : w27.cell? ⟨gb394,1,none⟩ = some (.slice none 0 0):=(blk_cell BK394.out 1).trans rfl;have hcz30_2 : w27.cell? ⟨gb394,2,none⟩ = some (.slice none 0 0):=(blk_cell BK394.out 2).trans rfl;have hfz30_0:=blk_frozen BK394.out 0;have hfz30_1:=blk_frozen BK394.out 1;have hfz30_2:=blk_frozen BK394.out 2;obtain ⟨Ao31,co31,eo31⟩:=Kd.R_slice HO390.out;subst eo31;obtain ⟨Ao32,co32,eo32⟩:=Kd.R_slice HO393.out;subst eo32)|((with_reducible refine gate_callee (f:=23) rfl ?_);refine goesL_ (some 29) rfl rfl Try.func23 (by kernel_rfl) rfl #[.agg #[.int .i64 t387,.slice Ao31 t388.length co31,.slice Ao32 t391.length co32]] rfl (by (try simp only [List.map_toArray,List.map_cons,List.map_nil]);first|done|rfl|(simp only [List.length_drop,List.length_take];rfl)) ?_;(with_reducible refine (impl_TrimPlan.calls k t387 _ _ t388 _ _ t391 t395 t396 t399 t402 _ ?side1 ?side2 ?side3 ?side4 A10.out).mono ?_);(case side1=>refine (Kd.R_reads' (e:=73) (base:=w.heap.size) (ok:=fun k_=>((True ∧ some k_ ≠ (.slice Ao17 t372.length co17 : Value).ownBlock) ∧ some k_ ≠ (.slice Ao23 t379.length co23 : Value).ownBlock)) (n:=t388.length) (c:=co31) ?_).2.2;exact (by (with_reducible repeat (first|apply Kd.R_alloc|apply Kd.R_drewN|apply Kd.R_drew));exact (Kd.R_mono (Kd.R_far (p:=⟨gb394,2,none⟩) (Kd.R_far (p:=⟨gb394,1,none⟩) (Kd.R_far (p:=⟨gb394,0,none⟩) (Kd.R_types HO390.out BK394.out (by decide)) (fun _ hk=>hk.2) (.int .i64 t387)) (fun _ hk=>hk.2) (.slice Ao31 t388.length co31)) (fun _ hk=>hk.2) (.slice Ao32 t391.length co32)) (fun _ h_=>h_.1))));(case side2=>exact (Kd.R_reads' HO390.out).2.1);(case side3=>refine (Kd.R_reads' (e:=3) (base:=w.heap.size) (ok:=fun k_=>((True ∧ some k_ ≠ (.slice Ao18 t375.length co18 : Value).ownBlock) ∧ some k_ ≠ (.slice Ao24 t382.length co24 : Value).ownBlock)) (n:=t391.length) (c:=co32) ?_).2.2;exact (by (with_reducible repeat (first|apply Kd.R_alloc|apply Kd.R_drewN|apply Kd.R_drew));exact (Kd.R_mono (Kd.R_far (p:=⟨gb394,2,none⟩) (Kd.R_far (p:=⟨gb394,1,none⟩) (Kd.R_far (p:=⟨gb394,0,none⟩) (Kd.R_types HO393.out BK394.out (by decide)) (fun _ hk=>hk.2) (.int .i64 t387)) (fun _ hk=>hk.2) (.slice Ao31 t388.length co31)) (fun _ hk=>hk.2) (.slice Ao32 t391.length co32)) (fun _ h_=>h_.1))));(case side4=>exact (Kd.R_reads' HO393.out).2.1);rintro e w33 ⟨v397,v400,rfl,ho0,ho1,hb⟩;refine ⟨_,rfl,?_⟩;have n0_:=Aside0.mk (Kd.R_elder' (by (with_reducible repeat (first|apply Kd.R_alloc|apply Kd.R_drewN|apply Kd.R_drew));exact (Kd.R_mono (Kd.R_far (p:=⟨gb394,2,none⟩) (Kd.R_far (p:=⟨gb394,1,none⟩) (Kd.R_far (p:=⟨gb394,0,none⟩) (Kd.R_types HO374.out BK394.out (by decide)) (fun _ hk=>hk.2) (.int .i64 t387)) (fun _ hk=>hk.2) (.slice Ao31 t388.length co31)) (fun _ hk=>hk.2) (.slice Ao32 t391.length co32)) (fun _ h_=>h_.1))) (Kd.R_base ho0) hb);have n1_:=Aside0.mk (Kd.R_elder' (by (with_reducible repeat (first|apply Kd.R_alloc|apply Kd.R_drewN|apply Kd.R_drew));exact (Kd.R_mono (Kd.R_far (p:=⟨gb394,2,none⟩) (Kd.R_far (p:=⟨gb394,1,none⟩) (Kd.R_far (p:=⟨gb394,0,none⟩) (Kd.R_types HO377.out BK394.out (by decide)) (fun _ hk=>hk.2) (.int .i64 t387)) (fun _ hk=>hk.2) (.slice Ao31 t388.length co31)) (fun _ hk=>hk.2) (.slice Ao32 t391.length co32)) (fun _ h_=>h_.1))) (Kd.R_base ho1) hb);have n2_:=Aside0.mk (Kd.R_elder' (by (with_reducible repeat (first|apply Kd.R_alloc|apply Kd.R_drewN|apply Kd.R_drew));exact (Kd.R_mono (Kd.R_far (p:=⟨gb394,2,none⟩) (Kd.R_far (p:=⟨gb394,1,none⟩) (Kd.R_far (p:=⟨gb394,0,none⟩) (Kd.R_types HO381.out BK394.out (by decide)) (fun _ hk=>hk.2) (.int .i64 t387)) (fun _ hk=>hk.2) (.slice Ao31 t388.length co31)) (fun _ hk=>hk.2) (.slice Ao32 t391.length co32)) (fun _ h_=>h_.1))) (Kd.R_base ho0) hb);have n3_:=Aside0.mk (Kd.R_elder' (by (with_reducible repeat (first|apply Kd.R_alloc|apply Kd.R_drewN|apply Kd.R_drew));exact (Kd.R_mono (Kd.R_far (p:=⟨gb394,2,none⟩) (Kd.R_far (p:=⟨gb394,1,none⟩) (Kd.R_far (p:=⟨gb394,0,none⟩) (Kd.R_types HO384.out BK394.out (by decide)) (fun _ hk=>hk.2) (.int .i64 t387)) (fun _ hk=>hk.2) (.slice Ao31 t388.length co31)) (fun _ hk=>hk.2) (.slice Ao32 t391.length co32)) (fun _ h_=>h_.1))) (Kd.R_base ho1) hb);have n4_:=Aside0.mk (Kd.R_elder' (by (with_reducible repeat (first|apply Kd.R_alloc|apply Kd.R_drewN|apply Kd.R_drew));exact (Kd.R_mono (Kd.R_far (p:=⟨gb394,2,none⟩) (Kd.R_far (p:=⟨gb394,1,none⟩) (Kd.R_far (p:=⟨gb394,0,none⟩) (Kd.R_types HO390.out BK394.out (by decide)) (fun _ hk=>hk.2) (.int .i64 t387)) (fun _ hk=>hk.2) (.slice Ao31 t388.length co31)) (fun _ hk=>hk.2) (.slice Ao32 t391.length co32)) (fun _ h_=>h_.1))) (Kd.R_base ho0) hb);have n5_:=Aside0.mk (Kd.R_elder' (by (with_reducible repeat (first|apply Kd.R_alloc|apply Kd.R_drewN|apply Kd.R_drew));exact (Kd.R_mono (Kd.R_far (p:=⟨gb394,2,none⟩) (Kd.R_far (p:=⟨gb394,1,none⟩) (Kd.R_far (p:=⟨gb394,0,none⟩) (Kd.R_types HO393.out BK394.out (by decide)) (fun _ hk=>hk.2) (.int .i64 t387)) (fun _ hk=>hk.2) (.slice Ao31 t388.length co31)) (fun _ hk=>hk.2) (.slice Ao32 t391.length co32)) (fun _ h_=>h_.1))) (Kd.R_base ho1) hb);have n6_:=Aside0.mk (Kd.R_lower (Kd.R_new' (Kd.R_new' (Kd.R_new' ho0 (Kd.R_lt (by (with_reducible repeat (first|apply Kd.R_alloc|apply Kd.R_drewN|apply Kd.R_drew));exact (Kd.R_mono (Kd.R_far (p:=⟨gb394,2,none⟩) (Kd.R_far (p:=⟨gb394,1,none⟩) (Kd.R_far (p:=⟨gb394,0,none⟩) (Kd.R_types HO374.out BK394.out (by decide)) (fun _ hk=>hk.2) (.int .i64 t387)) (fun _ hk=>hk.2) (.slice Ao31 t388.length co31)) (fun _ hk=>hk.2) (.slice Ao32 t391.length co32)) (fun _ h_=>h_.1))))) (Kd.R_lt (by (with_reducible repeat (first|apply Kd.R_alloc|apply Kd.R_drewN|apply Kd.R_drew));exact (Kd.R_mono (Kd.R_far (p:=⟨gb394,2,none⟩) (Kd.R_far (p:=⟨gb394,1,none⟩) (Kd.R_far (p:=⟨gb394,0,none⟩) (Kd.R_types HO381.out BK394.out (by decide)) (fun _ hk=>hk.2) (.int .i64 t387)) (fun _ hk=>hk.2) (.slice Ao31 t388.length co31)) (fun _ hk=>hk.2) (.slice Ao32 t391.length co32)) (fun _ h_=>h_.1))))) (Kd.R_lt (by (with_reducible repeat (first|apply Kd.R_alloc|apply Kd.R_drewN|apply Kd.R_drew));exact (Kd.R_mono (Kd.R_far (p:=⟨gb394,2,none⟩) (Kd.R_far (p:=⟨gb394,1,none⟩) (Kd.R_far (p:=⟨gb394,0,none⟩) (Kd.R_types HO390.out BK394.out (by decide)) (fun _ hk=>hk.2) (.int .i64 t387)) (fun _ hk=>hk.2) (.slice Ao31 t388.length co31)) (fun _ hk=>hk.2) (.slice Ao32 t391.length co32)) (fun _ h_=>h_.1))))) (below_size (by repeat (first|(with_reducible first|exact HB.out|apply below_alloc|apply pw_below_drewN|apply below_drew1|refine below_set ?_ GE369.out|refine below_set ?_ GE386.out|refine below_set ?_ GE394.out)|exact HB.out))));have n7_:=Aside0.mk (Kd.R_lower (Kd.R_new' (Kd.R_new' (Kd.R_new' ho1 (Kd.R_lt (by (with_reducible repeat (first|apply Kd.R_alloc|apply Kd.R_drewN|apply Kd.R_drew));exact (Kd.R_mono (Kd.R_far (p:=⟨gb394,2,none⟩) (Kd.R_far (p:=⟨gb394,1,none⟩) (Kd.R_far (p:=⟨gb394,0,none⟩) (Kd.R_types HO377.out BK394.out (by decide)) (fun _ hk=>hk.2) (.int .i64 t387)) (fun _ hk=>hk.2) (.slice Ao31 t388.length co31)) (fun _ hk=>hk.2) (.slice Ao32 t391.length co32)) (fun _ h_=>h_.1))))) (Kd.R_lt (by (with_reducible repeat (first|apply Kd.R_alloc|apply Kd.R_drewN|apply Kd.R_drew));exact (Kd.R_mono (Kd.R_far (p:=⟨gb394,2,none⟩) (Kd.R_far (p:=⟨gb394,1,none⟩) (Kd.R_far (p:=⟨gb394,0,none⟩) (Kd.R_types HO384.out BK394.out (by decide)) (fun _ hk=>hk.2) (.int .i64 t387)) (fun _ hk=>hk.2) (.slice Ao31 t388.length co31)) (fun _ hk=>hk.2) (.slice Ao32 t391.length co32)) (fun _ h_=>h_.1))))) (Kd.R_lt (by (with_reducible repeat (first|apply Kd.R_alloc|apply Kd.R_drewN|apply Kd.R_drew));exact (Kd.R_mono (Kd.R_far (p:=⟨gb394,2,none⟩) (Kd.R_far (p:=⟨gb394,1,none⟩) (Kd.R_far (p:=⟨gb394,0,none⟩) (Kd.R_types HO393.out BK394.out (by decide)) (fun _ hk=>hk.2) (.int .i64 t387)) (fun _ hk=>hk.2) (.slice Ao31 t388.length co31)) (fun _ hk=>hk.2) (.slice Ao32 t391.length co32)) (fun _ h_=>h_.1))))) (below_size (by repeat (first|(with_reducible first|exact HB.out|apply below_alloc|apply pw_below_drewN|apply below_drew1|refine below_set ?_ GE369.out|refine below_set ?_ GE386.out|refine below_set ?_ GE394.out)|exact HB.out))));have n8_:=Aside0.mk (blk_below (g:=gb369) (o:=.cells #[.int .i64 a0_0,.slice A0_1 l0_1.length c0_1,.slice A0_2 l0_2.length c0_2] 25 (0,0)) (by (with_reducible repeat (first|refine blk_drewN ?_ _|refine blk_drew ?_|refine blk_alloc ?_ _));refine blk_far ?_ NB369_394.out _;(with_reducible repeat (first|refine blk_drewN ?_ _|refine blk_drew ?_|refine blk_alloc ?_ _));refine blk_far ?_ NB369_394.out _;(with_reducible repeat (first|refine blk_drewN ?_ _|refine blk_drew ?_|refine blk_alloc ?_ _));refine blk_far ?_ NB369_394.out _;(with_reducible repeat (first|refine blk_drewN ?_ _|refine blk_drew ?_|refine blk_alloc ?_ _));exact BK369.out) hb);have n9_:=Aside0.mk (blk_below (g:=gb386) (o:=.cells #[.int .i64 t378,.slice Ao23 t379.length co23,.slice Ao24 t382.length co24] 29 (0,0)) (by (with_reducible repeat (first|refine blk_drewN ?_ _|refine blk_drew ?_|refine blk_alloc ?_ _));refine blk_far ?_ NB386_394.out _;(with_reducible repeat (first|refine blk_drewN ?_ _|refine blk_drew ?_|refine blk_alloc ?_ _));refine blk_far ?_ NB386_394.out _;(with_reducible repeat (first|refine blk_drewN ?_ _|refine blk_drew ?_|refine blk_alloc ?_ _));refine blk_far ?_ NB386_394.out _;(with_reducible repeat (first|refine blk_drewN ?_ _|refine blk_drew ?_|refine blk_alloc ?_ _));exact BK386.out) hb);have n10_:=Aside0.mk (blk_below (g:=gb394) (o:=.cells #[.int .i64 t387,.slice Ao31 t388.length co31,.slice Ao32 t391.length co32] 29 (0,0)) (by (with_reducible repeat (first|refine blk_drewN ?_ _|refine blk_drew ?_|refine blk_alloc ?_ _));refine blk_put (cs:=#[.int .i64 t387,.slice Ao31 t388.length co31,.slice none 0 0]) ?_ 2 _ rfl;(with_reducible repeat (first|refine blk_drewN ?_ _|refine blk_drew ?_|refine blk_alloc ?_ _));refine blk_put (cs:=#[.int .i64 t387,.slice none 0 0,.slice none 0 0]) ?_ 1 _ rfl;(with_reducible repeat (first|refine blk_drewN ?_ _|refine blk_drew ?_|refine blk_alloc ?_ _));refine blk_put (cs:=#[.int .i64 0,.slice none 0 0,.slice none 0 0]) ?_ 0 _ rfl;(with_reducible repeat (first|refine blk_drewN ?_ _|refine blk_drew ?_|refine blk_alloc ?_ _));exact BK394.out) hb);have n11_:=Aside0.mk (below_step (by repeat (first|(with_reducible first|exact HB.out|apply below_alloc|apply pw_below_drewN|apply below_drew1|refine below_set ?_ GE369.out|refine below_set ?_ GE386.out|refine below_set ?_ GE394.out)|exact HB.out)) hb);clear HO374;clear HO377;clear HO381;clear HO384;clear HO390;clear HO393;clear BK369;clear BK386;clear BK394;clear HB;have HO374:=n0_;have HO377:=n1_;have HO381:=n2_;have HO384:=n3_;have HO390:=n4_;have HO393:=n5_;have HO398:=n6_;have HO401:=n7_;have BK369:=n8_;have BK386:=n9_;have BK394:=n10_;have HB:=n11_;clear n0_ n1_ n2_ n3_ n4_ n5_ n6_ n7_ n8_ n9_ n10_ n11_;(try clear hb);(try clear ho0);(try clear ho1))|((with_reducible refine gate_dst (N:=7) rfl ?_);refine box_event ?hg (N:=7) ?hd (cs:=#[.int .i64 0,.slice none 0 0,.slice none 0 0]) (t:=29) ?hr ?_;(case hd=>rfl);(case hg=>rfl);(case hr=>first|(go_simp;done)|(go_simp;rfl));intro gb403 hg w34 hbox hb;have n0_:=Aside0.mk (Kd.R_below (by (with_reducible repeat (first|apply Kd.R_alloc|apply Kd.R_drewN|apply Kd.R_drew));exact HO374.out) hb);have n1_:=Aside0.mk (Kd.R_below (by (with_reducible repeat (first|apply Kd.R_alloc|apply Kd.R_drewN|apply Kd.R_drew));exact HO377.out) hb);have n2_:=Aside0.mk (Kd.R_below (by (with_reducible repeat (first|apply Kd.R_alloc|apply Kd.R_drewN|apply Kd.R_drew));exact HO381.out) hb);have n3_:=Aside0.mk (Kd.R_below (by (with_reducible repeat (first|apply Kd.R_alloc|apply Kd.R_drewN|apply Kd.R_drew));exact HO384.out) hb);have n4_:=Aside0.mk (Kd.R_below (by (with_reducible repeat (first|apply Kd.R_alloc|apply Kd.R_drewN|apply Kd.R_drew));exact HO390.out) hb);have n5_:=Aside0.mk (Kd.R_below (by (with_reducible repeat (first|apply Kd.R_alloc|apply Kd.R_drewN|apply Kd.R_drew));exact HO393.out) hb);have n6_:=Aside0.mk (Kd.R_below (by (with_reducible repeat (first|apply Kd.R_alloc|apply Kd.R_drewN|apply Kd.R_drew));exact HO398.out) hb);have n7_:=Aside0.mk (Kd.R_below (by (with_reducible repeat (first|apply Kd.R_alloc|apply Kd.R_drewN|apply Kd.R_drew));exact HO401.out) hb);have n8_:=Aside0.mk (blk_below (g:=gb369) (o:=.cells #[.int .i64 a0_0,.slice A0_1 l0_1.length c0_1,.slice A0_2 l0_2.length c0_2] 25 (0,0)) (by (with_reducible repeat (first|refine blk_drewN ?_ _|refine blk_drew ?_|refine blk_alloc ?_ _));exact BK369.out) hb);have n9_:=Aside0.mk (blk_below (g:=gb386) (o:=.cells #[.int .i64 t378,.slice Ao23 t379.length co23,.slice Ao24 t382.length co24] 29 (0,0)) (by (with_reducible repeat (first|refine blk_drewN ?_ _|refine blk_drew ?_|refine blk_alloc ?_ _));exact BK386.out) hb);have n10_:=Aside0.mk (blk_below (g:=gb394) (o:=.cells #[.int .i64 t387,.slice Ao31 t388.length co31,.slice Ao32 t391.length co32] 29 (0,0)) (by (with_reducible repeat (first|refine blk_drewN ?_ _|refine blk_drew ?_|refine blk_alloc ?_ _));exact BK394.out) hb);have n11_:=Aside0.mk (below_step (by repeat (first|(with_reducible first|exact HB.out|apply below_alloc|apply pw_below_drewN|apply below_drew1|refine below_set ?_ GE369.out|refine below_set ?_ GE386.out|refine below_set ?_ GE394.out)|exact HB.out)) hb);have n12_:=Aside0.mk (hbox);have n13_:=Aside0.mk ((by rw [hg];exact (below_size (by repeat (first|(with_reducible first|exact HB.out|apply below_alloc|apply pw_below_drewN|apply below_drew1|refine below_set ?_ GE369.out|refine below_set ?_ GE386.out|refine below_set ?_ GE394.out)|exact HB.out))) : w.heap.size ≤ gb403));have n14_:=Aside0.mk ((by rw [hg];exact (below_size (by repeat (first|(with_reducible first|exact HB.out|apply below_alloc|apply pw_below_drewN|apply below_drew1|refine below_set ?_ GE369.out|refine below_set ?_ GE386.out|refine below_set ?_ GE394.out)|exact HB.out))) : w.heap.size ≤ gb403));have n15_:=Aside0.mk ((by rw [hg];exact Nat.ne_of_lt (blk_lt (g:=gb369) (o:=.cells #[.int .i64 a0_0,.slice A0_1 l0_1.length c0_1,.slice A0_2 l0_2.length c0_2] 25 (0,0)) (by (with_reducible repeat (first|refine blk_drewN ?_ _|refine blk_drew ?_|refine blk_alloc ?_ _));exact BK369.out)) : gb369 ≠ gb403));have n16_:=Aside0.mk ((by rw [hg];exact Nat.ne_of_gt (blk_lt (g:=gb369) (o:=.cells #[.int .i64 a0_0,.slice A0_1 l0_1.length c0_1,.slice A0_2 l0_2.length c0_2] 25 (0,0)) (by (with_reducible repeat (first|refine blk_drewN ?_ _|refine blk_drew ?_|refine blk_alloc ?_ _));exact BK369.out)) : gb403 ≠ gb369));have n17_:=Aside0.mk ((by rw [hg];exact Nat.ne_of_lt (blk_lt (g:=gb386) (o:=.cells #[.int .i64 t378,.slice Ao23 t379.length co23,.slice Ao24 t382.length co24] 29 (0,0)) (by (with_reducible repeat (first|refine blk_drewN ?_ _|refine blk_drew ?_|refine blk_alloc ?_ _));exact BK386.out)) : gb386 ≠ gb403));have n18_:=Aside0.mk ((by rw [hg];exact Nat.ne_of_gt (blk_lt (g:=gb386) (o:=.cells #[.int .i64 t378,.slice Ao23 t379.length co23,.slice Ao24 t382.length co24] 29 (0,0)) (by (with_reducible repeat (first|refine blk_drewN ?_ _|refine blk_drew ?_|refine blk_alloc ?_ _));exact BK386.out)) : gb403 ≠ gb386));have n19_:=Aside0.mk ((by rw [hg];exact Nat.ne_of_lt (blk_lt (g:=gb394) (o:=.cells #[.int .i64 t387,.slice Ao31 t388.length co31,.slice Ao32 t391.length co32] 29 (0,0)) (by (with_reducible repeat (first|refine blk_drewN ?_ _|refine blk_drew ?_|refine blk_alloc ?_ _));exact BK394.out)) : gb394 ≠ gb403));have n20_:=Aside0.mk ((by rw [hg];exact Nat.ne_of_gt (blk_lt (g:=gb394) (o:=.cells #[.int .i64 t387,.slice Ao31 t388.length co31,.slice Ao32 t391.length co32] 29 (0,0)) (by (with_reducible repeat (first|refine blk_drewN ?_ _|refine blk_drew ?_|refine blk_alloc ?_ _));exact BK394.out)) : gb403 ≠ gb394));clear HO374;clear HO377;clear HO381;clear HO384;clear HO390;clear HO393;clear HO398;clear HO401;clear BK369;clear BK386;clear BK394;clear HB;have HO374:=n0_;have HO377:=n1_;have HO381:=n2_;have HO384:=n3_;have HO390:=n4_;have HO393:=n5_;have HO398:=n6_;have HO401:=n7_;have BK369:=n8_;have BK386:=n9_;have BK394:=n10_;have HB:=n11_;have BK403:=n12_;have GW403:=n13_;have GE403:=n14_;have NB369_403:=n15_;have NB403_369:=n16_;have NB386_403:=n17_;have NB403_386:=n18_;have NB394_403:=n19_;have NB403_394:=n20_;clear n0_ n1_ n2_ n3_ n4_ n5_ n6_ n7_ n8_ n9_ n10_ n11_ n12_ n13_ n14_ n15_ n16_ n17_ n18_ n19_ n20_;clear hb hbox hg;have hnb35:=NB403_369.out;have hnc35:=NB369_403.out;have hnb36:=NB403_386.out;have hnc36:=NB386_403.out;have hnb37:=NB403_394.out;have hnc37:=NB394_403.out;have hcz38_0 : w34.cell? ⟨gb403,0,none⟩ = some (.int .i64 0):=(blk_cell BK403.out 0).trans rfl;have hcz38_1 : w34.cell? ⟨gb403,1,none⟩ = some (.slice none 0 0):=(blk_cell BK403.out 1).trans rfl;have hcz38_2 : w34.cell? ⟨gb403,2,none⟩ = some (.slice none 0 0):=(blk_cell BK403.out 2).trans rfl;have hfz38_0:=blk_frozen BK403.out 0;have hfz38_1:=blk_frozen BK403.out 1;have hfz38_2:=blk_frozen BK403.out 2;obtain ⟨Ao39,co39,eo39⟩:=Kd.R_slice HO398.out;subst eo39;obtain ⟨Ao40,co40,eo40⟩:=Kd.R_slice HO401.out;subst eo40))
  (try simp only [Act.put,List.setIfInBounds_toArray,List.set_cons_zero,List.set_cons_succ])
  go_cut [40] (fun v40 wc=>∃ (kq : Nat) (x40_10 : Bool),v40 = .bool x40_10 ∧ Aside0 (laws_FnExactTrimPlan.j0 kq t385 t402 x40_10 a0_0 l0_1 l0_2 t378 t379 t382 t387 t388 t391 t395 t396 t399 = some r) ∧ Aside0 (kq ≤ k) ∧ Aside0 (Kd.R k73 73 wc w.heap.size (fun k_=>some k_ ≠ ((.slice Ao31 t388.length co31) : Value).ownBlock ∧ some k_ ≠ ((.slice Ao39 t396.length co39) : Value).ownBlock) (.slice Ao23 t379.length co23) t379) ∧ Aside0 (Kd.R (Kd.int .i64) 3 wc w.heap.size (fun k_=>some k_ ≠ ((.slice Ao32 t391.length co32) : Value).ownBlock ∧ some k_ ≠ ((.slice Ao40 t399.length co40) : Value).ownBlock) (.slice Ao24 t382.length co24) t382) ∧ Aside0 (Kd.R k73 73 wc w.heap.size (fun k_=>some k_ ≠ ((.slice Ao23 t379.length co23) : Value).ownBlock ∧ some k_ ≠ ((.slice Ao39 t396.length co39) : Value).ownBlock) (.slice Ao31 t388.length co31) t388) ∧ Aside0 (Kd.R (Kd.int .i64) 3 wc w.heap.size (fun k_=>some k_ ≠ ((.slice Ao24 t382.length co24) : Value).ownBlock ∧ some k_ ≠ ((.slice Ao40 t399.length co40) : Value).ownBlock) (.slice Ao32 t391.length co32) t391) ∧ Aside0 (Kd.R k73 73 wc w.heap.size (fun k_=>some k_ ≠ ((.slice Ao23 t379.length co23) : Value).ownBlock ∧ some k_ ≠ ((.slice Ao31 t388.length co31) : Value).ownBlock) (.slice Ao39 t396.length co39) t396) ∧ Aside0 (Kd.R (Kd.int .i64) 3 wc w.heap.size (fun k_=>some k_ ≠ ((.slice Ao24 t382.length co24) : Value).ownBlock ∧ some k_ ≠ ((.slice Ao32 t391.length co32) : Value).ownBlock) (.slice Ao40 t399.length co40) t399) ∧ Aside0 (wc.heap[gb369]? = some (.cells #[.int .i64 a0_0,(.slice A0_1 l0_1.length c0_1),(.slice A0_2 l0_2.length c0_2)] 25 (0,0))) ∧ Aside0 (wc.heap[gb386]? = some (.cells #[.int .i64 t378,(.slice Ao23 t379.length co23),(.slice Ao24 t382.length co24)] 29 (0,0))) ∧ Aside0 (wc.heap[gb394]? = some (.cells #[.int .i64 t387,(.slice Ao31 t388.length co31),(.slice Ao32 t391.length co32)] 29 (0,0))) ∧ Aside0 (wc.heap[gb403]? = some (.cells #[.int .i64 t395,(.slice Ao39 t396.length co39),(.slice Ao40 t399.length co40)] 29 (0,0))) ∧ Aside0 (Below w.heap.size w wc))
  case first=>
   have H:=HC11.out
   clear HC11
   replace H:=Option.bind_eq_some_iff.mp H
   obtain ⟨t404,A410,H⟩:=H
   replace H : (if t404 = true then (laws_FnExactTrimPlan.j0 k t385 t402 (t402 != t385) a0_0 l0_1 l0_2 t378 t379 t382 t387 t388 t391 t395 t396 t399) else (laws_FnExactTrimPlan.j0 k t385 t402 true a0_0 l0_1 l0_2 t378 t379 t382 t387 t388 t391 t395 t396 t399)) = some r:=H
   have A41:=Aside0.mk A410
   clear A410
   by_cases c42 : t404 = true
   ·subst c42
    have H1 : (laws_FnExactTrimPlan.j0 k t385 t402 (t402 != t385) a0_0 l0_1 l0_2 t378 t379 t382 t387 t388 t391 t395 t396 t399) = some r:=by rw [if_pos rfl] at H;exact H
    clear H
    have H:=H1
    clear H1
    have H':=Aside0.mk H
    clear H
    have hnb43:=NB403_369.out
    have hnc43:=NB369_403.out
    have hnb44:=NB403_386.out
    have hnc44:=NB386_403.out
    have hnb45:=NB403_394.out
    have hnc45:=NB394_403.out
    have hcz46_0 : w34.cell? ⟨gb403,0,none⟩ = some (.int .i64 0):=(blk_cell BK403.out 0).trans rfl
    have hcz46_1 : w34.cell? ⟨gb403,1,none⟩ = some (.slice none 0 0):=(blk_cell BK403.out 1).trans rfl
    have hcz46_2 : w34.cell? ⟨gb403,2,none⟩ = some (.slice none 0 0):=(blk_cell BK403.out 2).trans rfl
    have hfz46_0:=blk_frozen BK403.out 0
    have hfz46_1:=blk_frozen BK403.out 1
    have hfz46_2:=blk_frozen BK403.out 2
    have hnb47:=NB386_369.out
    have hnc47:=NB369_386.out
    have hnb48:=NB386_394.out
    have hnc48:=NB394_386.out
    have hcz49_0 : w34.cell? ⟨gb386,0,none⟩ = some (.int .i64 t378):=(blk_cell BK386.out 0).trans rfl
    have hcz49_1 : w34.cell? ⟨gb386,1,none⟩ = some (.slice Ao23 t379.length co23):=(blk_cell BK386.out 1).trans rfl
    have hcz49_2 : w34.cell? ⟨gb386,2,none⟩ = some (.slice Ao24 t382.length co24):=(blk_cell BK386.out 2).trans rfl
    have hfz49_0:=blk_frozen BK386.out 0
    have hfz49_1:=blk_frozen BK386.out 1
    have hfz49_2:=blk_frozen BK386.out 2
    go_wp2_with (first|((with_reducible refine gate_callee (f:=14) rfl ?_);refine goesL_ (some 34) rfl rfl Try.func14 (by kernel_rfl) rfl #[.agg #[.int .i64 t395,.slice Ao39 t396.length co39,.slice Ao40 t399.length co40],.agg #[.int .i64 t378,.slice Ao23 t379.length co23,.slice Ao24 t382.length co24]] rfl (by (try simp only [List.map_toArray,List.map_cons,List.map_nil]);first|done|rfl|(simp only [List.length_drop,List.length_take];rfl)) ?_;(with_reducible refine (laws_eqPlan.calls k t395 _ _ t396 _ _ t399 t378 _ _ t379 _ _ t382 true _ ?side1 ?side2 ?side3 ?side4 ?side5 ?side6 ?side7 ?side8 A41.out).mono ?_);(case side1=>refine (Kd.R_reads' (e:=73) (base:=w.heap.size) (ok:=fun k_=>(((True ∧ some k_ ≠ (.slice Ao17 t372.length co17 : Value).ownBlock) ∧ some k_ ≠ (.slice Ao23 t379.length co23 : Value).ownBlock) ∧ some k_ ≠ (.slice Ao31 t388.length co31 : Value).ownBlock)) (n:=t396.length) (c:=co39) ?_).2.2;exact (by (with_reducible repeat (first|apply Kd.R_alloc|apply Kd.R_drewN|apply Kd.R_drew));exact (Kd.R_mono (Kd.R_far (p:=⟨gb403,2,none⟩) (Kd.R_far (p:=⟨gb403,1,none⟩) (Kd.R_far (p:=⟨gb403,0,none⟩) (Kd.R_types HO398.out BK403.out (by decide)) (fun _ hk=>hk.2) (.int .i64 t395)) (fun _ hk=>hk.2) (.slice Ao39 t396.length co39)) (fun _ hk=>hk.2) (.slice Ao40 t399.length co40)) (fun _ h_=>h_.1))));(case side2=>exact (Kd.R_reads' HO398.out).2.1);(case side3=>refine (Kd.R_reads' (e:=3) (base:=w.heap.size) (ok:=fun k_=>(((True ∧ some k_ ≠ (.slice Ao18 t375.length co18 : Value).ownBlock) ∧ some k_ ≠ (.slice Ao24 t382.length co24 : Value).ownBlock) ∧ some k_ ≠ (.slice Ao32 t391.length co32 : Value).ownBlock)) (n:=t399.length) (c:=co40) ?_).2.2;exact (by (with_reducible repeat (first|apply Kd.R_alloc|apply Kd.R_drewN|apply Kd.R_drew));exact (Kd.R_mono (Kd.R_far (p:=⟨gb403,2,none⟩) (Kd.R_far (p:=⟨gb403,1,none⟩) (Kd.R_far (p:=⟨gb403,0,none⟩) (Kd.R_types HO401.out BK403.out (by decide)) (fun _ hk=>hk.2) (.int .i64 t395)) (fun _ hk=>hk.2) (.slice Ao39 t396.length co39)) (fun _ hk=>hk.2) (.slice Ao40 t399.length co40)) (fun _ h_=>h_.1))));(case side4=>exact (Kd.R_reads' HO401.out).2.1);(case side5=>refine (Kd.R_reads' (e:=73) (base:=w.heap.size) (ok:=fun k_=>(((True ∧ some k_ ≠ (.slice Ao17 t372.length co17 : Value).ownBlock) ∧ some k_ ≠ (.slice Ao31 t388.length co31 : Value).ownBlock) ∧ some k_ ≠ (.slice Ao39 t396.length co39 : Value).ownBlock)) (n:=t379.length) (c:=co23) ?_).2.2;exact (by (with_reducible repeat (first|apply Kd.R_alloc|apply Kd.R_drewN|apply Kd.R_drew));exact (Kd.R_mono (Kd.R_far (p:=⟨gb403,2,none⟩) (Kd.R_far (p:=⟨gb403,1,none⟩) (Kd.R_far (p:=⟨gb403,0,none⟩) (Kd.R_types HO381.out BK403.out (by decide)) (fun _ hk=>hk.2) (.int .i64 t395)) (fun _ hk=>hk.2) (.slice Ao39 t396.length co39)) (fun _ hk=>hk.2) (.slice Ao40 t399.length co40)) (fun _ h_=>h_.1))));(case side6=>exact (Kd.R_reads' HO381.out).2.1);(case side7=>refine (Kd.R_reads' (e:=3) (base:=w.heap.size) (ok:=fun k_=>(((True ∧ some k_ ≠ (.slice Ao18 t375.length co18 : Value).ownBlock) ∧ some k_ ≠ (.slice Ao32 t391.length co32 : Value).ownBlock) ∧ some k_ ≠ (.slice Ao40 t399.length co40 : Value).ownBlock)) (n:=t382.length) (c:=co24) ?_).2.2;exact (by (with_reducible repeat (first|apply Kd.R_alloc|apply Kd.R_drewN|apply Kd.R_drew));exact (Kd.R_mono (Kd.R_far (p:=⟨gb403,2,none⟩) (Kd.R_far (p:=⟨gb403,1,none⟩) (Kd.R_far (p:=⟨gb403,0,none⟩) (Kd.R_types HO384.out BK403.out (by decide)) (fun _ hk=>hk.2) (.int .i64 t395)) (fun _ hk=>hk.2) (.slice Ao39 t396.length co39)) (fun _ hk=>hk.2) (.slice Ao40 t399.length co40)) (fun _ h_=>h_.1))));(case side8=>exact (Kd.R_reads' HO384.out).2.1);rintro e w50 ⟨rfl,hb⟩;refine ⟨_,rfl,?_⟩;have n0_:=Aside0.mk (Kd.R_below (by (with_reducible repeat (first|apply Kd.R_alloc|apply Kd.R_drewN|apply Kd.R_drew));exact (Kd.R_mono (Kd.R_far (p:=⟨gb403,2,none⟩) (Kd.R_far (p:=⟨gb403,1,none⟩) (Kd.R_far (p:=⟨gb403,0,none⟩) (Kd.R_types HO374.out BK403.out (by decide)) (fun _ hk=>hk.2) (.int .i64 t395)) (fun _ hk=>hk.2) (.slice Ao39 t396.length co39)) (fun _ hk=>hk.2) (.slice Ao40 t399.length co40)) (fun _ h_=>h_.1))) hb);have n1_:=Aside0.mk (Kd.R_below (by (with_reducible repeat (first|apply Kd.R_alloc|apply Kd.R_drewN|apply Kd.R_drew));exact (Kd.R_mono (Kd.R_far (p:=⟨gb403,2,none⟩) (Kd.R_far (p:=⟨gb403,1,none⟩) (Kd.R_far (p:=⟨gb403,0,none⟩) (Kd.R_types HO377.out BK403.out (by decide)) (fun _ hk=>hk.2) (.int .i64 t395)) (fun _ hk=>hk.2) (.slice Ao39 t396.length co39)) (fun _ hk=>hk.2) (.slice Ao40 t399.length co40)) (fun _ h_=>h_.1))) hb);have n2_:=Aside0.mk (Kd.R_below (by (with_reducible repeat (first|apply Kd.R_alloc|apply Kd.R_drewN|apply Kd.R_drew));exact (Kd.R_mono (Kd.R_far (p:=⟨gb403,2,none⟩) (Kd.R_far (p:=⟨gb403,1,none⟩) (Kd.R_far (p:=⟨gb403,0,none⟩) (Kd.R_types HO381.out BK403.out (by decide)) (fun _ hk=>hk.2) (.int .i64 t395)) (fun _ hk=>hk.2) (.slice Ao39 t396.length co39)) (fun _ hk=>hk.2) (.slice Ao40 t399.length co40)) (fun _ h_=>h_.1))) hb);have n3_:=Aside0.mk (Kd.R_below (by (with_reducible repeat (first|apply Kd.R_alloc|apply Kd.R_drewN|apply Kd.R_drew));exact (Kd.R_mono (Kd.R_far (p:=⟨gb403,2,none⟩) (Kd.R_far (p:=⟨gb403,1,none⟩) (Kd.R_far (p:=⟨gb403,0,none⟩) (Kd.R_types HO384.out BK403.out (by decide)) (fun _ hk=>hk.2) (.int .i64 t395)) (fun _ hk=>hk.2) (.slice Ao39 t396.length co39)) (fun _ hk=>hk.2) (.slice Ao40 t399.length co40)) (fun _ h_=>h_.1))) hb);have n4_:=Aside0.mk (Kd.R_below (by (with_reducible repeat (first|apply Kd.R_alloc|apply Kd.R_drewN|apply Kd.R_drew));exact (Kd.R_mono (Kd.R_far (p:=⟨gb403,2,none⟩) (Kd.R_far (p:=⟨gb403,1,none⟩) (Kd.R_far (p:=⟨gb403,0,none⟩) (Kd.R_types HO390.out BK403.out (by decide)) (fun _ hk=>hk.2) (.int .i64 t395)) (fun _ hk=>hk.2) (.slice Ao39 t396.length co39)) (fun _ hk=>hk.2) (.slice Ao40 t399.length co40)) (fun _ h_=>h_.1))) hb);have n5_:=Aside0.mk (Kd.R_below (by (with_reducible repeat (first|apply Kd.R_alloc|apply Kd.R_drewN|apply Kd.R_drew));exact (Kd.R_mono (Kd.R_far (p:=⟨gb403,2,none⟩) (Kd.R_far (p:=⟨gb403,1,none⟩) (Kd.R_far (p:=⟨gb403,0,none⟩) (Kd.R_types HO393.out BK403.out (by decide)) (fun _ hk=>hk.2) (.int .i64 t395)) (fun _ hk=>hk.2) (.slice Ao39 t396.length co39)) (fun _ hk=>hk.2) (.slice Ao40 t399.length co40)) (fun _ h_=>h_.1))) hb);have n6_:=Aside0.mk (Kd.R_below (by (with_reducible repeat (first|apply Kd.R_alloc|apply Kd.R_drewN|apply Kd.R_drew));exact (Kd.R_mono (Kd.R_far (p:=⟨gb403,2,none⟩) (Kd.R_far (p:=⟨gb403,1,none⟩) (Kd.R_far (p:=⟨gb403,0,none⟩) (Kd.R_types HO398.out BK403.out (by decide)) (fun _ hk=>hk.2) (.int .i64 t395)) (fun _ hk=>hk.2) (.slice Ao39 t396.length co39)) (fun _ hk=>hk.2) (.slice Ao40 t399.length co40)) (fun _ h_=>h_.1))) hb);have n7_:=Aside0.mk (Kd.R_below (by (with_reducible repeat (first|apply Kd.R_alloc|apply Kd.R_drewN|apply Kd.R_drew));exact (Kd.R_mono (Kd.R_far (p:=⟨gb403,2,none⟩) (Kd.R_far (p:=⟨gb403,1,none⟩) (Kd.R_far (p:=⟨gb403,0,none⟩) (Kd.R_types HO401.out BK403.out (by decide)) (fun _ hk=>hk.2) (.int .i64 t395)) (fun _ hk=>hk.2) (.slice Ao39 t396.length co39)) (fun _ hk=>hk.2) (.slice Ao40 t399.length co40)) (fun _ h_=>h_.1))) hb);have n8_:=Aside0.mk (blk_below (g:=gb369) (o:=.cells #[.int .i64 a0_0,.slice A0_1 l0_1.length c0_1,.slice A0_2 l0_2.length c0_2] 25 (0,0)) (by (with_reducible repeat (first|refine blk_drewN ?_ _|refine blk_drew ?_|refine blk_alloc ?_ _));refine blk_far ?_ NB369_403.out _;(with_reducible repeat (first|refine blk_drewN ?_ _|refine blk_drew ?_|refine blk_alloc ?_ _));refine blk_far ?_ NB369_403.out _;(with_reducible repeat (first|refine blk_drewN ?_ _|refine blk_drew ?_|refine blk_alloc ?_ _));refine blk_far ?_ NB369_403.out _;(with_reducible repeat (first|refine blk_drewN ?_ _|refine blk_drew ?_|refine blk_alloc ?_ _));exact BK369.out) hb);have n9_:=Aside0.mk (blk_below (g:=gb386) (o:=.cells #[.int .i64 t378,.slice Ao23 t379.length co23,.slice Ao24 t382.length co24] 29 (0,0)) (by (with_reducible repeat (first|refine blk_drewN ?_ _|refine blk_drew ?_|refine blk_alloc ?_ _));refine blk_far ?_ NB386_403.out _;(with_reducible repeat (first|refine blk_drewN ?_ _|refine blk_drew ?_|refine blk_alloc ?_ _));refine blk_far ?_ NB386_403.out _;(with_reducible repeat (first|refine blk_drewN ?_ _|refine blk_drew ?_|refine blk_alloc ?_ _));refine blk_far ?_ NB386_403.out _;(with_reducible repeat (first|refine blk_drewN ?_ _|refine blk_drew ?_|refine blk_alloc ?_ _));exact BK386.out) hb);have n10_:=Aside0.mk (blk_below (g:=gb394) (o:=.cells #[.int .i64 t387,.slice Ao31 t388.length co31,.slice Ao32 t391.length co32] 29 (0,0)) (by (with_reducible repeat (first|refine blk_drewN ?_ _|refine blk_drew ?_|refine blk_alloc ?_ _));refine blk_far ?_ NB394_403.out _;(with_reducible repeat (first|refine blk_drewN ?_ _|refine blk_drew ?_|refine blk_alloc ?_ _));refine blk_far ?_ NB394_403.out _;(with_reducible repeat (first|refine blk_drewN ?_ _|refine blk_drew ?_|refine blk_alloc ?_ _));refine blk_far ?_ NB394_403.out _;(with_reducible repeat (first|refine blk_drewN ?_ _|refine blk_drew ?_|refine blk_alloc ?_ _));exact BK394.out) hb);have n11_:=Aside0.mk (blk_below (g:=gb403) (o:=.cells #[.int .i64 t395,.slice Ao39 t396.length co39,.slice Ao40 t399.length co40] 29 (0,0)) (by (with_reducible repeat (first|refine blk_drewN ?_ _|refine blk_drew ?_|refine blk_alloc ?_ _));refine blk_put (cs:=#[.int .i64 t395,.slice Ao39 t396.length co39,.slice none 0 0]) ?_ 2 _ rfl;(with_reducible repeat (first|refine blk_drewN ?_ _|refine blk_drew ?_|refine blk_alloc ?_ _));refine blk_put (cs:=#[.int .i64 t395,.slice none 0 0,.slice none 0 0]) ?_ 1 _ rfl;(with_reducible repeat (first|refine blk_drewN ?_ _|refine blk_drew ?_|refine blk_alloc ?_ _));refine blk_put (cs:=#[.int .i64 0,.slice none 0 0,.slice none 0 0]) ?_ 0 _ rfl;(with_reducible repeat (first|refine blk_drewN ?_ _|refine blk_drew ?_|refine blk_alloc ?_ _));exact BK403.out) hb);have n12_:=Aside0.mk (below_step (by repeat (first|(with_reducible first|exact HB.out|apply below_alloc|apply pw_below_drewN|apply below_drew1|refine below_set ?_ GE369.out|refine below_set ?_ GE386.out|refine below_set ?_ GE394.out|refine below_set ?_ GE403.out)|exact HB.out)) hb);clear HO374;clear HO377;clear HO381;clear HO384;clear HO390;clear HO393;clear HO398;clear HO401;clear BK369;clear BK386;clear BK394;clear BK403;clear HB;have HO374:=n0_;have HO377:=n1_;have HO381:=n2_;have HO384:=n3_;have HO390:=n4_;have HO393:=n5_;have HO398:=n6_;have HO401:=n7_;have BK369:=n8_;have BK386:=n9_;have BK394:=n10_;have BK403:=n11_;have HB:=n12_;clear n0_ n1_ n2_ n3_ n4_ n5_ n6_ n7_ n8_ n9_ n10_ n11_ n12_;(try clear hb)))
    go_meet
    case rel=>exact ⟨_,((t402 != t385)),(by first|rfl|(simp;done)|(simp [*];done)),H',⟨by first|omega|exact Nat.le_refl _⟩,⟨by (with_reducible repeat (first|apply Kd.R_alloc|apply Kd.R_drewN|apply Kd.R_drew));exact Kd.R_mono HO381.out (fun _ hk=>⟨hk.1.2,hk.2⟩)⟩,⟨by (with_reducible repeat (first|apply Kd.R_alloc|apply Kd.R_drewN|apply Kd.R_drew));exact Kd.R_mono HO384.out (fun _ hk=>⟨hk.1.2,hk.2⟩)⟩,⟨by (with_reducible repeat (first|apply Kd.R_alloc|apply Kd.R_drewN|apply Kd.R_drew));exact Kd.R_mono HO390.out (fun _ hk=>⟨hk.1.2,hk.2⟩)⟩,⟨by (with_reducible repeat (first|apply Kd.R_alloc|apply Kd.R_drewN|apply Kd.R_drew));exact Kd.R_mono HO393.out (fun _ hk=>⟨hk.1.2,hk.2⟩)⟩,⟨by (with_reducible repeat (first|apply Kd.R_alloc|apply Kd.R_drewN|apply Kd.R_drew));exact Kd.R_mono HO398.out (fun _ hk=>⟨hk.1.2,hk.2⟩)⟩,⟨by (with_reducible repeat (first|apply Kd.R_alloc|apply Kd.R_drewN|apply Kd.R_drew));exact Kd.R_mono HO401.out (fun _ hk=>⟨hk.1.2,hk.2⟩)⟩,⟨by (with_reducible repeat (first|refine blk_drewN ?_ _|refine blk_drew ?_|refine blk_alloc ?_ _));exact BK369.out⟩,⟨by (with_reducible repeat (first|refine blk_drewN ?_ _|refine blk_drew ?_|refine blk_alloc ?_ _));exact BK386.out⟩,⟨by (with_reducible repeat (first|refine blk_drewN ?_ _|refine blk_drew ?_|refine blk_alloc ?_ _));exact BK394.out⟩,⟨by (with_reducible repeat (first|refine blk_drewN ?_ _|refine blk_drew ?_|refine blk_alloc ?_ _));exact BK403.out⟩,⟨by repeat (first|(with_reducible first|exact HB.out|apply below_alloc|apply pw_below_drewN|apply below_drew1|refine below_set ?_ GE369.out|refine below_set ?_ GE386.out|refine below_set ?_ GE394.out|refine below_set ?_ GE403.out)|exact HB.out)⟩⟩
   ·replace c42:=Bool.eq_false_iff.mpr c42
    subst c42
    have H1 : (laws_FnExactTrimPlan.j0 k t385 t402 true a0_0 l0_1 l0_2 t378 t379 t382 t387 t388 t391 t395 t396 t399) = some r:=by rw [if_neg (show ¬ (false = true) by decide)] at H;exact H
    clear H
    have H:=H1
    clear H1
    have H':=Aside0.mk H
    clear H
    have hnb51:=NB403_369.out
    have hnc51:=NB369_403.out
    have hnb52:=NB403_386.out
    have hnc52:=NB386_403.out
    have hnb53:=NB403_394.out
    have hnc53:=NB394_403.out
    have hcz54_0 : w34.cell? ⟨gb403,0,none⟩ = some (.int .i64 0):=(blk_cell BK403.out 0).trans rfl
    have hcz54_1 : w34.cell? ⟨gb403,1,none⟩ = some (.slice none 0 0):=(blk_cell BK403.out 1).trans rfl
    have hcz54_2 : w34.cell? ⟨gb403,2,none⟩ = some (.slice none 0 0):=(blk_cell BK403.out 2).trans rfl
    have hfz54_0:=blk_frozen BK403.out 0
    have hfz54_1:=blk_frozen BK403.out 1
    have hfz54_2:=blk_frozen BK403.out 2
    have hnb55:=NB386_369.out
    have hnc55:=NB369_386.out
    have hnb56:=NB386_394.out
    have hnc56:=NB394_386.out
    have hcz57_0 : w34.cell? ⟨gb386,0,none⟩ = some (.int .i64 t378):=(blk_cell BK386.out 0).trans rfl
    have hcz57_1 : w34.cell? ⟨gb386,1,none⟩ = some (.slice Ao23 t379.length co23):=(blk_cell BK386.out 1).trans rfl
    have hcz57_2 : w34.cell? ⟨gb386,2,none⟩ = some (.slice Ao24 t382.length co24):=(blk_cell BK386.out 2).trans rfl
    have hfz57_0:=blk_frozen BK386.out 0
    have hfz57_1:=blk_frozen BK386.out 1
    have hfz57_2:=blk_frozen BK386.out 2
    go_wp2_with (first|((with_reducible refine gate_callee (f:=14) rfl ?_);refine goesL_ (some 34) rfl rfl Try.func14 (by kernel_rfl) rfl #[.agg #[.int .i64 t395,.slice Ao39 t396.length co39,.slice Ao40 t399.length co40],.agg #[.int .i64 t378,.slice Ao23 t379.length co23,.slice Ao24 t382.length co24]] rfl (by (try simp only [List.map_toArray,List.map_cons,List.map_nil]);first|done|rfl|(simp only [List.length_drop,List.length_take];rfl)) ?_;(with_reducible refine (laws_eqPlan.calls k t395 _ _ t396 _ _ t399 t378 _ _ t379 _ _ t382 false _ ?side1 ?side2 ?side3 ?side4 ?side5 ?side6 ?side7 ?side8 A41.out).mono ?_);(case side1=>refine (Kd.R_reads' (e:=73) (base:=w.heap.size) (ok:=fun k_=>(((True ∧ some k_ ≠ (.slice Ao17 t372.length co17 : Value).ownBlock) ∧ some k_ ≠ (.slice Ao23 t379.length co23 : Value).ownBlock) ∧ some k_ ≠ (.slice Ao31 t388.length co31 : Value).ownBlock)) (n:=t396.length) (c:=co39) ?_).2.2;exact (by (with_reducible repeat (first|apply Kd.R_alloc|apply Kd.R_drewN|apply Kd.R_drew));exact (Kd.R_mono (Kd.R_far (p:=⟨gb403,2,none⟩) (Kd.R_far (p:=⟨gb403,1,none⟩) (Kd.R_far (p:=⟨gb403,0,none⟩) (Kd.R_types HO398.out BK403.out (by decide)) (fun _ hk=>hk.2) (.int .i64 t395)) (fun _ hk=>hk.2) (.slice Ao39 t396.length co39)) (fun _ hk=>hk.2) (.slice Ao40 t399.length co40)) (fun _ h_=>h_.1))));(case side2=>exact (Kd.R_reads' HO398.out).2.1);(case side3=>refine (Kd.R_reads' (e:=3) (base:=w.heap.size) (ok:=fun k_=>(((True ∧ some k_ ≠ (.slice Ao18 t375.length co18 : Value).ownBlock) ∧ some k_ ≠ (.slice Ao24 t382.length co24 : Value).ownBlock) ∧ some k_ ≠ (.slice Ao32 t391.length co32 : Value).ownBlock)) (n:=t399.length) (c:=co40) ?_).2.2;exact (by (with_reducible repeat (first|apply Kd.R_alloc|apply Kd.R_drewN|apply Kd.R_drew));exact (Kd.R_mono (Kd.R_far (p:=⟨gb403,2,none⟩) (Kd.R_far (p:=⟨gb403,1,none⟩) (Kd.R_far (p:=⟨gb403,0,none⟩) (Kd.R_types HO401.out BK403.out (by decide)) (fun _ hk=>hk.2) (.int .i64 t395)) (fun _ hk=>hk.2) (.slice Ao39 t396.length co39)) (fun _ hk=>hk.2) (.slice Ao40 t399.length co40)) (fun _ h_=>h_.1))));(case side4=>exact (Kd.R_reads' HO401.out).2.1);(case side5=>refine (Kd.R_reads' (e:=73) (base:=w.heap.size) (ok:=fun k_=>(((True ∧ some k_ ≠ (.slice Ao17 t372.length co17 : Value).ownBlock) ∧ some k_ ≠ (.slice Ao31 t388.length co31 : Value).ownBlock) ∧ some k_ ≠ (.slice Ao39 t396.length co39 : Value).ownBlock)) (n:=t379.length) (c:=co23) ?_).2.2;exact (by (with_reducible repeat (first|apply Kd.R_alloc|apply Kd.R_drewN|apply Kd.R_drew));exact (Kd.R_mono (Kd.R_far (p:=⟨gb403,2,none⟩) (Kd.R_far (p:=⟨gb403,1,none⟩) (Kd.R_far (p:=⟨gb403,0,none⟩) (Kd.R_types HO381.out BK403.out (by decide)) (fun _ hk=>hk.2) (.int .i64 t395)) (fun _ hk=>hk.2) (.slice Ao39 t396.length co39)) (fun _ hk=>hk.2) (.slice Ao40 t399.length co40)) (fun _ h_=>h_.1))));(case side6=>exact (Kd.R_reads' HO381.out).2.1);(case side7=>refine (Kd.R_reads' (e:=3) (base:=w.heap.size) (ok:=fun k_=>(((True ∧ some k_ ≠ (.slice Ao18 t375.length co18 : Value).ownBlock) ∧ some k_ ≠ (.slice Ao32 t391.length co32 : Value).ownBlock) ∧ some k_ ≠ (.slice Ao40 t399.length co40 : Value).ownBlock)) (n:=t382.length) (c:=co24) ?_).2.2;exact (by (with_reducible repeat (first|apply Kd.R_alloc|apply Kd.R_drewN|apply Kd.R_drew));exact (Kd.R_mono (Kd.R_far (p:=⟨gb403,2,none⟩) (Kd.R_far (p:=⟨gb403,1,none⟩) (Kd.R_far (p:=⟨gb403,0,none⟩) (Kd.R_types HO384.out BK403.out (by decide)) (fun _ hk=>hk.2) (.int .i64 t395)) (fun _ hk=>hk.2) (.slice Ao39 t396.length co39)) (fun _ hk=>hk.2) (.slice Ao40 t399.length co40)) (fun _ h_=>h_.1))));(case side8=>exact (Kd.R_reads' HO384.out).2.1);rintro e w58 ⟨rfl,hb⟩;refine ⟨_,rfl,?_⟩;have n0_:=Aside0.mk (Kd.R_below (by (with_reducible repeat (first|apply Kd.R_alloc|apply Kd.R_drewN|apply Kd.R_drew));exact (Kd.R_mono (Kd.R_far (p:=⟨gb403,2,none⟩) (Kd.R_far (p:=⟨gb403,1,none⟩) (Kd.R_far (p:=⟨gb403,0,none⟩) (Kd.R_types HO374.out BK403.out (by decide)) (fun _ hk=>hk.2) (.int .i64 t395)) (fun _ hk=>hk.2) (.slice Ao39 t396.length co39)) (fun _ hk=>hk.2) (.slice Ao40 t399.length co40)) (fun _ h_=>h_.1))) hb);have n1_:=Aside0.mk (Kd.R_below (by (with_reducible repeat (first|apply Kd.R_alloc|apply Kd.R_drewN|apply Kd.R_drew));exact (Kd.R_mono (Kd.R_far (p:=⟨gb403,2,none⟩) (Kd.R_far (p:=⟨gb403,1,none⟩) (Kd.R_far (p:=⟨gb403,0,none⟩) (Kd.R_types HO377.out BK403.out (by decide)) (fun _ hk=>hk.2) (.int .i64 t395)) (fun _ hk=>hk.2) (.slice Ao39 t396.length co39)) (fun _ hk=>hk.2) (.slice Ao40 t399.length co40)) (fun _ h_=>h_.1))) hb);have n2_:=Aside0.mk (Kd.R_below (by (with_reducible repeat (first|apply Kd.R_alloc|apply Kd.R_drewN|apply Kd.R_drew));exact (Kd.R_mono (Kd.R_far (p:=⟨gb403,2,none⟩) (Kd.R_far (p:=⟨gb403,1,none⟩) (Kd.R_far (p:=⟨gb403,0,none⟩) (Kd.R_types HO381.out BK403.out (by decide)) (fun _ hk=>hk.2) (.int .i64 t395)) (fun _ hk=>hk.2) (.slice Ao39 t396.length co39)) (fun _ hk=>hk.2) (.slice Ao40 t399.length co40)) (fun _ h_=>h_.1))) hb);have n3_:=Aside0.mk (Kd.R_below (by (with_reducible repeat (first|apply Kd.R_alloc|apply Kd.R_drewN|apply Kd.R_drew));exact (Kd.R_mono (Kd.R_far (p:=⟨gb403,2,none⟩) (Kd.R_far (p:=⟨gb403,1,none⟩) (Kd.R_far (p:=⟨gb403,0,none⟩) (Kd.R_types HO384.out BK403.out (by decide)) (fun _ hk=>hk.2) (.int .i64 t395)) (fun _ hk=>hk.2) (.slice Ao39 t396.length co39)) (fun _ hk=>hk.2) (.slice Ao40 t399.length co40)) (fun _ h_=>h_.1))) hb);have n4_:=Aside0.mk (Kd.R_below (by (with_reducible repeat (first|apply Kd.R_alloc|apply Kd.R_drewN|apply Kd.R_drew));exact (Kd.R_mono (Kd.R_far (p:=⟨gb403,2,none⟩) (Kd.R_far (p:=⟨gb403,1,none⟩) (Kd.R_far (p:=⟨gb403,0,none⟩) (Kd.R_types HO390.out BK403.out (by decide)) (fun _ hk=>hk.2) (.int .i64 t395)) (fun _ hk=>hk.2) (.slice Ao39 t396.length co39)) (fun _ hk=>hk.2) (.slice Ao40 t399.length co40)) (fun _ h_=>h_.1))) hb);have n5_:=Aside0.mk (Kd.R_below (by (with_reducible repeat (first|apply Kd.R_alloc|apply Kd.R_drewN|apply Kd.R_drew));exact (Kd.R_mono (Kd.R_far (p:=⟨gb403,2,none⟩) (Kd.R_far (p:=⟨gb403,1,none⟩) (Kd.R_far (p:=⟨gb403,0,none⟩) (Kd.R_types HO393.out BK403.out (by decide)) (fun _ hk=>hk.2) (.int .i64 t395)) (fun _ hk=>hk.2) (.slice Ao39 t396.length co39)) (fun _ hk=>hk.2) (.slice Ao40 t399.length co40)) (fun _ h_=>h_.1))) hb);have n6_:=Aside0.mk (Kd.R_below (by (with_reducible repeat (first|apply Kd.R_alloc|apply Kd.R_drewN|apply Kd.R_drew));exact (Kd.R_mono (Kd.R_far (p:=⟨gb403,2,none⟩) (Kd.R_far (p:=⟨gb403,1,none⟩) (Kd.R_far (p:=⟨gb403,0,none⟩) (Kd.R_types HO398.out BK403.out (by decide)) (fun _ hk=>hk.2) (.int .i64 t395)) (fun _ hk=>hk.2) (.slice Ao39 t396.length co39)) (fun _ hk=>hk.2) (.slice Ao40 t399.length co40)) (fun _ h_=>h_.1))) hb);have n7_:=Aside0.mk (Kd.R_below (by (with_reducible repeat (first|apply Kd.R_alloc|apply Kd.R_drewN|apply Kd.R_drew));exact (Kd.R_mono (Kd.R_far (p:=⟨gb403,2,none⟩) (Kd.R_far (p:=⟨gb403,1,none⟩) (Kd.R_far (p:=⟨gb403,0,none⟩) (Kd.R_types HO401.out BK403.out (by decide)) (fun _ hk=>hk.2) (.int .i64 t395)) (fun _ hk=>hk.2) (.slice Ao39 t396.length co39)) (fun _ hk=>hk.2) (.slice Ao40 t399.length co40)) (fun _ h_=>h_.1))) hb);have n8_:=Aside0.mk (blk_below (g:=gb369) (o:=.cells #[.int .i64 a0_0,.slice A0_1 l0_1.length c0_1,.slice A0_2 l0_2.length c0_2] 25 (0,0)) (by (with_reducible repeat (first|refine blk_drewN ?_ _|refine blk_drew ?_|refine blk_alloc ?_ _));refine blk_far ?_ NB369_403.out _;(with_reducible repeat (first|refine blk_drewN ?_ _|refine blk_drew ?_|refine blk_alloc ?_ _));refine blk_far ?_ NB369_403.out _;(with_reducible repeat (first|refine blk_drewN ?_ _|refine blk_drew ?_|refine blk_alloc ?_ _));refine blk_far ?_ NB369_403.out _;(with_reducible repeat (first|refine blk_drewN ?_ _|refine blk_drew ?_|refine blk_alloc ?_ _));exact BK369.out) hb);have n9_:=Aside0.mk (blk_below (g:=gb386) (o:=.cells #[.int .i64 t378,.slice Ao23 t379.length co23,.slice Ao24 t382.length co24] 29 (0,0)) (by (with_reducible repeat (first|refine blk_drewN ?_ _|refine blk_drew ?_|refine blk_alloc ?_ _));refine blk_far ?_ NB386_403.out _;(with_reducible repeat (first|refine blk_drewN ?_ _|refine blk_drew ?_|refine blk_alloc ?_ _));refine blk_far ?_ NB386_403.out _;(with_reducible repeat (first|refine blk_drewN ?_ _|refine blk_drew ?_|refine blk_alloc ?_ _));refine blk_far ?_ NB386_403.out _;(with_reducible repeat (first|refine blk_drewN ?_ _|refine blk_drew ?_|refine blk_alloc ?_ _));exact BK386.out) hb);have n10_:=Aside0.mk (blk_below (g:=gb394) (o:=.cells #[.int .i64 t387,.slice Ao31 t388.length co31,.slice Ao32 t391.length co32] 29 (0,0)) (by (with_reducible repeat (first|refine blk_drewN ?_ _|refine blk_drew ?_|refine blk_alloc ?_ _));refine blk_far ?_ NB394_403.out _;(with_reducible repeat (first|refine blk_drewN ?_ _|refine blk_drew ?_|refine blk_alloc ?_ _));refine blk_far ?_ NB394_403.out _;(with_reducible repeat (first|refine blk_drewN ?_ _|refine blk_drew ?_|refine blk_alloc ?_ _));refine blk_far ?_ NB394_403.out _;(with_reducible repeat (first|refine blk_drewN ?_ _|refine blk_drew ?_|refine blk_alloc ?_ _));exact BK394.out) hb);have n11_:=Aside0.mk (blk_below (g:=gb403) (o:=.cells #[.int .i64 t395,.slice Ao39 t396.length co39,.slice Ao40 t399.length co40] 29 (0,0)) (by (with_reducible repeat (first|refine blk_drewN ?_ _|refine blk_drew ?_|refine blk_alloc ?_ _));refine blk_put (cs:=#[.int .i64 t395,.slice Ao39 t396.length co39,.slice none 0 0]) ?_ 2 _ rfl;(with_reducible repeat (first|refine blk_drewN ?_ _|refine blk_drew ?_|refine blk_alloc ?_ _));refine blk_put (cs:=#[.int .i64 t395,.slice none 0 0,.slice none 0 0]) ?_ 1 _ rfl;(with_reducible repeat (first|refine blk_drewN ?_ _|refine blk_drew ?_|refine blk_alloc ?_ _));refine blk_put (cs:=#[.int .i64 0,.slice none 0 0,.slice none 0 0]) ?_ 0 _ rfl;(with_reducible repeat (first|refine blk_drewN ?_ _|refine blk_drew ?_|refine blk_alloc ?_ _));exact BK403.out) hb);have n12_:=Aside0.mk (below_step (by repeat (first|(with_reducible first|exact HB.out|apply below_alloc|apply pw_below_drewN|apply below_drew1|refine below_set ?_ GE369.out|refine below_set ?_ GE386.out|refine below_set ?_ GE394.out|refine below_set ?_ GE403.out)|exact HB.out)) hb);clear HO374;clear HO377;clear HO381;clear HO384;clear HO390;clear HO393;clear HO398;clear HO401;clear BK369;clear BK386;clear BK394;clear BK403;clear HB;have HO374:=n0_;have HO377:=n1_;have HO381:=n2_;have HO384:=n3_;have HO390:=n4_;have HO393:=n5_;have HO398:=n6_;have HO401:=n7_;have BK369:=n8_;have BK386:=n9_;have BK394:=n10_;have BK403:=n11_;have HB:=n12_;clear n0_ n1_ n2_ n3_ n4_ n5_ n6_ n7_ n8_ n9_ n10_ n11_ n12_;(try clear hb)))
    go_meet
    case rel=>exact ⟨_,(true),(by first|rfl|(simp;done)|(simp [*];done)),H',⟨by first|omega|exact Nat.le_refl _⟩,⟨by (with_reducible repeat (first|apply Kd.R_alloc|apply Kd.R_drewN|apply Kd.R_drew));exact Kd.R_mono HO381.out (fun _ hk=>⟨hk.1.2,hk.2⟩)⟩,⟨by (with_reducible repeat (first|apply Kd.R_alloc|apply Kd.R_drewN|apply Kd.R_drew));exact Kd.R_mono HO384.out (fun _ hk=>⟨hk.1.2,hk.2⟩)⟩,⟨by (with_reducible repeat (first|apply Kd.R_alloc|apply Kd.R_drewN|apply Kd.R_drew));exact Kd.R_mono HO390.out (fun _ hk=>⟨hk.1.2,hk.2⟩)⟩,⟨by (with_reducible repeat (first|apply Kd.R_alloc|apply Kd.R_drewN|apply Kd.R_drew));exact Kd.R_mono HO393.out (fun _ hk=>⟨hk.1.2,hk.2⟩)⟩,⟨by (with_reducible repeat (first|apply Kd.R_alloc|apply Kd.R_drewN|apply Kd.R_drew));exact Kd.R_mono HO398.out (fun _ hk=>⟨hk.1.2,hk.2⟩)⟩,⟨by (with_reducible repeat (first|apply Kd.R_alloc|apply Kd.R_drewN|apply Kd.R_drew));exact Kd.R_mono HO401.out (fun _ hk=>⟨hk.1.2,hk.2⟩)⟩,⟨by (with_reducible repeat (first|refine blk_drewN ?_ _|refine blk_drew ?_|refine blk_alloc ?_ _));exact BK369.out⟩,⟨by (with_reducible repeat (first|refine blk_drewN ?_ _|refine blk_drew ?_|refine blk_alloc ?_ _));exact BK386.out⟩,⟨by (with_reducible repeat (first|refine blk_drewN ?_ _|refine blk_drew ?_|refine blk_alloc ?_ _));exact BK394.out⟩,⟨by (with_reducible repeat (first|refine blk_drewN ?_ _|refine blk_drew ?_|refine blk_alloc ?_ _));exact BK403.out⟩,⟨by repeat (first|(with_reducible first|exact HB.out|apply below_alloc|apply pw_below_drewN|apply below_drew1|refine below_set ?_ GE369.out|refine below_set ?_ GE386.out|refine below_set ?_ GE394.out|refine below_set ?_ GE403.out)|exact HB.out)⟩⟩
  case rest=>
   clear HC11
   try clear c1
   try clear c2
   try clear p2
   try clear c3
   try clear c3b0
   try clear c4
   try clear c5
   try clear c10
   try clear c12
   try clear c14
   try clear c21
   try clear c22
   try clear c23
   try clear c28
   try clear c29
   try clear c35
   try clear c36
   try clear c37
   try clear c42
   try clear c43
   try clear c44
   try clear c45
   try clear c47
   try clear c48
   try clear c51
   try clear c52
   try clear c53
   try clear c55
   try clear c56
   try clear hcz13_0
   try clear hcz13_1
   try clear hcz13_2
   try clear hcz15_0
   try clear hcz15_1
   try clear hcz15_2
   try clear hcz22_0
   try clear hcz22_1
   try clear hcz22_2
   try clear hcz25_0
   try clear hcz25_1
   try clear hcz25_2
   try clear hcz30_0
   try clear hcz30_1
   try clear hcz30_2
   try clear hcz38_0
   try clear hcz38_1
   try clear hcz38_2
   try clear hcz46_0
   try clear hcz46_1
   try clear hcz46_2
   try clear hcz49_0
   try clear hcz49_1
   try clear hcz49_2
   try clear hcz54_0
   try clear hcz54_1
   try clear hcz54_2
   try clear hcz57_0
   try clear hcz57_1
   try clear hcz57_2
   try clear hcz5_0
   try clear hcz5_1
   try clear hcz5_2
   try clear hfz13_0
   try clear hfz13_1
   try clear hfz13_2
   try clear hfz15_0
   try clear hfz15_1
   try clear hfz15_2
   try clear hfz22_0
   try clear hfz22_1
   try clear hfz22_2
   try clear hfz25_0
   try clear hfz25_1
   try clear hfz25_2
   try clear hfz30_0
   try clear hfz30_1
   try clear hfz30_2
   try clear hfz38_0
   try clear hfz38_1
   try clear hfz38_2
   try clear hfz46_0
   try clear hfz46_1
   try clear hfz46_2
   try clear hfz49_0
   try clear hfz49_1
   try clear hfz49_2
   try clear hfz54_0
   try clear hfz54_1
   try clear hfz54_2
   try clear hfz57_0
   try clear hfz57_1
   try clear hfz57_2
   try clear hfz5_0
   try clear hfz5_1
   try clear hfz5_2
   obtain ⟨kq,x40_10,rfl,HA,HJ10,HO_387001,HO_387002,HO_395001,HO_395002,HO_404001,HO_404002,BK369,BK386,BK394,BK403,HB⟩:=hcut
   cases kq with
   | zero=>exact absurd HA.out (by simp [laws_FnExactTrimPlan.j0])
   | succ kj10=>
    have H:=HA.out
    clear HA
    simp only [laws_FnExactTrimPlan.j0] at H
    by_cases c59 : x40_10 = true
    ·subst c59
     have H1 : (some false) = some r:=by rw [if_pos rfl] at H;exact H
     clear H
     have H:=H1
     clear H1
     obtain rfl:=Option.some.inj H
     go_wp2
     go_ret
     exact ⟨by first|rfl|(simp [errW_none,errW_some] <;> rfl)|(simp [*,errW_none,errW_some] <;> rfl),by repeat (first|(with_reducible first|exact HB.out|apply below_alloc|apply pw_below_drewN|apply below_drew1|refine below_set ?_ GE369.out|refine below_set ?_ GE386.out|refine below_set ?_ GE394.out|refine below_set ?_ GE403.out)|exact HB.out)⟩
    ·replace c59:=Bool.eq_false_iff.mpr c59
     subst c59
     have H1 : ((laws_toPlan.f kj10 a0_0 l0_1 l0_2).bind fun bt405=>((laws_eqPlan.f kj10 t387 t388 t391 bt405.1 bt405.2.1 bt405.2.2).bind fun t412=>(if t412 = true then ((laws_markPlan.f kj10 t387 t388 t391 1).bind fun bt413=>(if bt413.1 < 0 then (laws_FnExactTrimPlan.j1 kj10 t385 true a0_0 l0_1 l0_2 t378 t379 t382 t395 t396 t399) else ((laws_eqPlan.f kj10 t395 t396 t399 t378 t379 t382).bind fun t416=>(if t416 = true then (laws_FnExactTrimPlan.j1 kj10 t385 (t402 != t385) a0_0 l0_1 l0_2 t378 t379 t382 t395 t396 t399) else (laws_FnExactTrimPlan.j1 kj10 t385 true a0_0 l0_1 l0_2 t378 t379 t382 t395 t396 t399))))) else (some false)))) = some r:=by rw [if_neg (show ¬ (false = true) by decide)] at H;exact H
     clear H
     have H:=H1
     clear H1
     replace H:=Option.bind_eq_some_iff.mp H
     obtain ⟨⟨t405,t406,t409⟩,A600,H⟩:=H
     replace H : ((laws_eqPlan.f kj10 t387 t388 t391 t405 t406 t409).bind fun t412=>(if t412 = true then ((laws_markPlan.f kj10 t387 t388 t391 1).bind fun bt413=>(if bt413.1 < 0 then (laws_FnExactTrimPlan.j1 kj10 t385 true a0_0 l0_1 l0_2 t378 t379 t382 t395 t396 t399) else ((laws_eqPlan.f kj10 t395 t396 t399 t378 t379 t382).bind fun t416=>(if t416 = true then (laws_FnExactTrimPlan.j1 kj10 t385 (t402 != t385) a0_0 l0_1 l0_2 t378 t379 t382 t395 t396 t399) else (laws_FnExactTrimPlan.j1 kj10 t385 true a0_0 l0_1 l0_2 t378 t379 t382 t395 t396 t399))))) else (some false))) = some r:=H
     have A60:=Aside0.mk A600
     clear A600
     replace H:=Option.bind_eq_some_iff.mp H
     obtain ⟨t412,A610,H⟩:=H
     replace H : (if t412 = true then ((laws_markPlan.f kj10 t387 t388 t391 1).bind fun bt413=>(if bt413.1 < 0 then (laws_FnExactTrimPlan.j1 kj10 t385 true a0_0 l0_1 l0_2 t378 t379 t382 t395 t396 t399) else ((laws_eqPlan.f kj10 t395 t396 t399 t378 t379 t382).bind fun t416=>(if t416 = true then (laws_FnExactTrimPlan.j1 kj10 t385 (t402 != t385) a0_0 l0_1 l0_2 t378 t379 t382 t395 t396 t399) else (laws_FnExactTrimPlan.j1 kj10 t385 true a0_0 l0_1 l0_2 t378 t379 t382 t395 t396 t399))))) else (some false)) = some r:=H
     have A61:=Aside0.mk A610
     clear A610
     by_cases c62 : t412 = true
     ·subst c62
      have H1 : ((laws_markPlan.f kj10 t387 t388 t391 1).bind fun bt413=>(if bt413.1 < 0 then (laws_FnExactTrimPlan.j1 kj10 t385 true a0_0 l0_1 l0_2 t378 t379 t382 t395 t396 t399) else ((laws_eqPlan.f kj10 t395 t396 t399 t378 t379 t382).bind fun t416=>(if t416 = true then (laws_FnExactTrimPlan.j1 kj10 t385 (t402 != t385) a0_0 l0_1 l0_2 t378 t379 t382 t395 t396 t399) else (laws_FnExactTrimPlan.j1 kj10 t385 true a0_0 l0_1 l0_2 t378 t379 t382 t395 t396 t399))))) = some r:=by rw [if_pos rfl] at H;exact H
      clear H
      have H:=H1
      clear H1
      replace H:=Option.bind_eq_some_iff.mp H
      obtain ⟨⟨t413,t414,t415⟩,A630,H⟩:=H
      replace H : (if t413 < 0 then (laws_FnExactTrimPlan.j1 kj10 t385 true a0_0 l0_1 l0_2 t378 t379 t382 t395 t396 t399) else ((laws_eqPlan.f kj10 t395 t396 t399 t378 t379 t382).bind fun t416=>(if t416 = true then (laws_FnExactTrimPlan.j1 kj10 t385 (t402 != t385) a0_0 l0_1 l0_2 t378 t379 t382 t395 t396 t399) else (laws_FnExactTrimPlan.j1 kj10 t385 true a0_0 l0_1 l0_2 t378 t379 t382 t395 t396 t399)))) = some r:=H
      have A63:=Aside0.mk A630
      clear A630
      have HC64:=Aside0.mk H
      clear H
      try go_wp2
      have n0_:=Aside0.mk (Kd.R_drew HO_387001.out)
      have n1_:=Aside0.mk (Kd.R_drew HO_387002.out)
      have n2_:=Aside0.mk (Kd.R_drew HO_395001.out)
      have n3_:=Aside0.mk (Kd.R_drew HO_395002.out)
      have n4_:=Aside0.mk (Kd.R_drew HO_404001.out)
      have n5_:=Aside0.mk (Kd.R_drew HO_404002.out)
      have n6_:=Aside0.mk (blk_drew BK369.out)
      have n7_:=Aside0.mk (blk_drew BK386.out)
      have n8_:=Aside0.mk (blk_drew BK394.out)
      have n9_:=Aside0.mk (blk_drew BK403.out)
      have n10_:=Aside0.mk (below_drew1 HB.out)
      clear HO_387001
      clear HO_387002
      clear HO_395001
      clear HO_395002
      clear HO_404001
      clear HO_404002
      clear BK369
      clear BK386
      clear BK394
      clear BK403
      clear HB
      have HO_387001:=n0_
      have HO_387002:=n1_
      have HO_395001:=n2_
      have HO_395002:=n3_
      have HO_404001:=n4_
      have HO_404002:=n5_
      have BK369:=n6_
      have BK386:=n7_
      have BK394:=n8_
      have BK403:=n9_
      have HB:=n10_
      clear n0_ n1_ n2_ n3_ n4_ n5_ n6_ n7_ n8_ n9_ n10_
      refine start_ (n:=5) (S:=fun w'=>w'.cell? ⟨gb394,0,none⟩ = some (.int .i64 t387) ∧ w'.cell? ⟨gb394,1,none⟩ = some (.slice Ao31 t388.length co31) ∧ w'.cell? ⟨gb394,2,none⟩ = some (.slice Ao32 t391.length co32) ∧ w'.cell? ⟨gb369,0,none⟩ = some (.int .i64 a0_0) ∧ w'.cell? ⟨gb369,1,none⟩ = some (.slice A0_1 l0_1.length c0_1) ∧ w'.cell? ⟨gb369,2,none⟩ = some (.slice A0_2 l0_2.length c0_2)) (ds:=[]) #[false,false,false,false,false] (by kernel_rfl) rfl rfl ⟨(blk_cell BK394.out 0).trans rfl,(blk_cell BK394.out 1).trans rfl,(blk_cell BK394.out 2).trans rfl,(blk_cell BK369.out 0).trans rfl,(blk_cell BK369.out 1).trans rfl,(blk_cell BK369.out 2).trans rfl⟩ (fun hHeld=>?_)
      generalize wc.drew = w65 at HO_387001 HO_387002 HO_395001 HO_395002 HO_404001 HO_404002 BK369 BK386 BK394 BK403 HB hHeld ⊢
      refine take_ (i:=0) (N:=some 41) (v:=?_) (a':=?_) #[true,false,false,false,false] rfl rfl (by kernel_rfl) (fun _ _ _ h=>h) (Or.inl ⟨by rfl,?_⟩) hHeld ?_ ?_
      rotate_left
      ·rintro w' ⟨s0,s1,s2,s3,s4,s5⟩
       go_simp
       with_reducible rfl
      rotate_left
      ·simp only [Act.put,List.setIfInBounds_toArray,List.set_cons_zero,List.set_cons_succ,i64_w,i32_w]
       rfl
      refine take_ (i:=1) (N:=some 42) (v:=?_) (a':=?_) #[true,true,false,false,false] rfl rfl (by kernel_rfl) (fun _ _ _ h=>h) (Or.inl ⟨by rfl,?_⟩) hHeld ?_ ?_
      rotate_left
      ·rintro w' ⟨s0,s1,s2,s3,s4,s5⟩
       go_simp
       with_reducible rfl
      rotate_left
      ·simp only [Act.put,List.setIfInBounds_toArray,List.set_cons_zero,List.set_cons_succ,i64_w,i32_w]
       rfl
      refine one_ (i:=2) (N:=some 43) #[true,true,true,false,false] rfl rfl (by kernel_rfl) (by decide) (fun K hK=>?_)
      refine goes_ Try.func12 (by kernel_rfl) rfl #[.agg #[.int .i64 a0_0,.slice A0_1 l0_1.length c0_1,.slice A0_2 l0_2.length c0_2]] (by rfl) rfl rfl (by (try simp only [List.map_toArray,List.map_cons,List.map_nil]);first|done|rfl|(simp only [List.length_drop,List.length_take];rfl)) ?_
      with_reducible refine (laws_toPlan.calls kj10 a0_0 _ _ l0_1 _ _ l0_2 t405 t406 t409 _ ?side1 ?side2 ?side3 ?side4 A60.out).mono ?_
      (case side1=>repeat (first|exact (Kd.C_below HR0_1.out HB.out)|(with_reducible refine Kd.C_alloc ?_ _)|(with_reducible refine Kd.C_drewN ?_ _)|(with_reducible refine Kd.C_drew ?_)))
      (case side2=>exact HC0_1.out)
      (case side3=>repeat (first|exact (Kd.C_below HR0_2.out HB.out)|(with_reducible refine Kd.C_alloc ?_ _)|(with_reducible refine Kd.C_drewN ?_ _)|(with_reducible refine Kd.C_drew ?_)))
      (case side4=>exact HC0_2.out)
      rintro e w66 ⟨v407,v410,rfl,ho0,ho1,hb⟩
      refine ⟨_,rfl,?_⟩
      have n0_:=Aside0.mk (Kd.R_elder' (by (with_reducible repeat (first|apply Kd.R_alloc|apply Kd.R_drewN|apply Kd.R_drew));exact HO_387001.out) (Kd.R_base ho0) hb)
      have n1_:=Aside0.mk (Kd.R_elder' (by (with_reducible repeat (first|apply Kd.R_alloc|apply Kd.R_drewN|apply Kd.R_drew));exact HO_387002.out) (Kd.R_base ho1) hb)
      have n2_:=Aside0.mk (Kd.R_elder' (by (with_reducible repeat (first|apply Kd.R_alloc|apply Kd.R_drewN|apply Kd.R_drew));exact HO_395001.out) (Kd.R_base ho0) hb)
      have n3_:=Aside0.mk (Kd.R_elder' (by (with_reducible repeat (first|apply Kd.R_alloc|apply Kd.R_drewN|apply Kd.R_drew));exact HO_395002.out) (Kd.R_base ho1) hb)
      have n4_:=Aside0.mk (Kd.R_elder' (by (with_reducible repeat (first|apply Kd.R_alloc|apply Kd.R_drewN|apply Kd.R_drew));exact HO_404001.out) (Kd.R_base ho0) hb)
      have n5_:=Aside0.mk (Kd.R_elder' (by (with_reducible repeat (first|apply Kd.R_alloc|apply Kd.R_drewN|apply Kd.R_drew));exact HO_404002.out) (Kd.R_base ho1) hb)
      have n6_:=Aside0.mk (Kd.R_lower (Kd.R_new' (Kd.R_new' (Kd.R_new' ho0 (Kd.R_lt (by (with_reducible repeat (first|apply Kd.R_alloc|apply Kd.R_drewN|apply Kd.R_drew));exact HO_387001.out))) (Kd.R_lt (by (with_reducible repeat (first|apply Kd.R_alloc|apply Kd.R_drewN|apply Kd.R_drew));exact HO_395001.out))) (Kd.R_lt (by (with_reducible repeat (first|apply Kd.R_alloc|apply Kd.R_drewN|apply Kd.R_drew));exact HO_404001.out))) (below_size (by repeat (first|(with_reducible first|exact HB.out|apply below_alloc|apply pw_below_drewN|apply below_drew1|refine below_set ?_ GE369.out|refine below_set ?_ GE386.out|refine below_set ?_ GE394.out|refine below_set ?_ GE403.out)|exact HB.out))))
      have n7_:=Aside0.mk (Kd.R_lower (Kd.R_new' (Kd.R_new' (Kd.R_new' ho1 (Kd.R_lt (by (with_reducible repeat (first|apply Kd.R_alloc|apply Kd.R_drewN|apply Kd.R_drew));exact HO_387002.out))) (Kd.R_lt (by (with_reducible repeat (first|apply Kd.R_alloc|apply Kd.R_drewN|apply Kd.R_drew));exact HO_395002.out))) (Kd.R_lt (by (with_reducible repeat (first|apply Kd.R_alloc|apply Kd.R_drewN|apply Kd.R_drew));exact HO_404002.out))) (below_size (by repeat (first|(with_reducible first|exact HB.out|apply below_alloc|apply pw_below_drewN|apply below_drew1|refine below_set ?_ GE369.out|refine below_set ?_ GE386.out|refine below_set ?_ GE394.out|refine below_set ?_ GE403.out)|exact HB.out))))
      have n8_:=Aside0.mk (blk_below (g:=gb369) (o:=.cells #[.int .i64 a0_0,.slice A0_1 l0_1.length c0_1,.slice A0_2 l0_2.length c0_2] 25 (0,0)) (by (with_reducible repeat (first|refine blk_drewN ?_ _|refine blk_drew ?_|refine blk_alloc ?_ _));exact BK369.out) hb)
      have n9_:=Aside0.mk (blk_below (g:=gb386) (o:=.cells #[.int .i64 t378,.slice Ao23 t379.length co23,.slice Ao24 t382.length co24] 29 (0,0)) (by (with_reducible repeat (first|refine blk_drewN ?_ _|refine blk_drew ?_|refine blk_alloc ?_ _));exact BK386.out) hb)
      have n10_:=Aside0.mk (blk_below (g:=gb394) (o:=.cells #[.int .i64 t387,.slice Ao31 t388.length co31,.slice Ao32 t391.length co32] 29 (0,0)) (by (with_reducible repeat (first|refine blk_drewN ?_ _|refine blk_drew ?_|refine blk_alloc ?_ _));exact BK394.out) hb)
      have n11_:=Aside0.mk (blk_below (g:=gb403) (o:=.cells #[.int .i64 t395,.slice Ao39 t396.length co39,.slice Ao40 t399.length co40] 29 (0,0)) (by (with_reducible repeat (first|refine blk_drewN ?_ _|refine blk_drew ?_|refine blk_alloc ?_ _));exact BK403.out) hb)
      have n12_:=Aside0.mk (below_step (by repeat (first|(with_reducible first|exact HB.out|apply below_alloc|apply pw_below_drewN|apply below_drew1|refine below_set ?_ GE369.out|refine below_set ?_ GE386.out|refine below_set ?_ GE394.out|refine below_set ?_ GE403.out)|exact HB.out)) hb)
      clear HO_387001
      clear HO_387002
      clear HO_395001
      clear HO_395002
      clear HO_404001
      clear HO_404002
      clear BK369
      clear BK386
      clear BK394
      clear BK403
      clear HB
      have HO_387001:=n0_
      have HO_387002:=n1_
      have HO_395001:=n2_
      have HO_395002:=n3_
      have HO_404001:=n4_
      have HO_404002:=n5_
      have HO408:=n6_
      have HO411:=n7_
      have BK369:=n8_
      have BK386:=n9_
      have BK394:=n10_
      have BK403:=n11_
      have HB:=n12_
      clear n0_ n1_ n2_ n3_ n4_ n5_ n6_ n7_ n8_ n9_ n10_ n11_ n12_
      (try clear hb)
      (try clear ho0)
      (try clear ho1)
      obtain ⟨Ao67,co67,eo67⟩:=Kd.R_slice HO408.out
      (first|subst eo67|(injection eo67 with f1_ f2_ f3_;have f4_:=f1_.symm;have f5_:=f3_.symm;clear f1_ f2_ f3_;subst f4_;subst f5_))
      obtain ⟨Ao68,co68,eo68⟩:=Kd.R_slice HO411.out
      (first|subst eo68|(injection eo68 with f1_ f2_ f3_;have f4_:=f1_.symm;have f5_:=f3_.symm;clear f1_ f2_ f3_;subst f4_;subst f5_))
      refine hK.out _ _ ⟨(blk_cell BK394.out 0).trans rfl,(blk_cell BK394.out 1).trans rfl,(blk_cell BK394.out 2).trans rfl,(blk_cell BK369.out 0).trans rfl,(blk_cell BK369.out 1).trans rfl,(blk_cell BK369.out 2).trans rfl⟩ (fun hHeld=>?_)
      clear hK K
      refine norm_ (a':=?_) ?_ ?_
      rotate_left
      ·show Act.put _ (some 43) _ = _
       simp only [Act.put,List.setIfInBounds_toArray,List.set_cons_zero,List.set_cons_succ,i64_w,i32_w]
       rfl
      refine one_ (i:=3) (N:=some 44) #[true,true,true,true,false] rfl rfl (by kernel_rfl) (by decide) (fun K hK=>?_)
      refine goes_ Try.func14 (by kernel_rfl) rfl #[.agg #[.int .i64 t387,.slice Ao31 t388.length co31,.slice Ao32 t391.length co32],.agg #[.int .i64 t405,.slice Ao67 t406.length co67,.slice Ao68 t409.length co68]] (by rfl) rfl rfl (by (try simp only [List.map_toArray,List.map_cons,List.map_nil]);first|done|rfl|(simp only [List.length_drop,List.length_take];rfl)) ?_
      with_reducible refine (laws_eqPlan.calls kj10 t387 _ _ t388 _ _ t391 t405 _ _ t406 _ _ t409 true _ ?side1 ?side2 ?side3 ?side4 ?side5 ?side6 ?side7 ?side8 A61.out).mono ?_
      (case side1=>repeat (first|exact (Kd.R_reads' HO_395001.out).2.2|(with_reducible refine Kd.C_alloc ?_ _)|(with_reducible refine Kd.C_drewN ?_ _)|(with_reducible refine Kd.C_drew ?_)))
      (case side2=>exact (Kd.R_reads' HO_395001.out).2.1)
      (case side3=>repeat (first|exact (Kd.R_reads' HO_395002.out).2.2|(with_reducible refine Kd.C_alloc ?_ _)|(with_reducible refine Kd.C_drewN ?_ _)|(with_reducible refine Kd.C_drew ?_)))
      (case side4=>exact (Kd.R_reads' HO_395002.out).2.1)
      (case side5=>repeat (first|exact (Kd.R_reads' HO408.out).2.2|(with_reducible refine Kd.C_alloc ?_ _)|(with_reducible refine Kd.C_drewN ?_ _)|(with_reducible refine Kd.C_drew ?_)))
      (case side6=>exact (Kd.R_reads' HO408.out).2.1)
      (case side7=>repeat (first|exact (Kd.R_reads' HO411.out).2.2|(with_reducible refine Kd.C_alloc ?_ _)|(with_reducible refine Kd.C_drewN ?_ _)|(with_reducible refine Kd.C_drew ?_)))
      (case side8=>exact (Kd.R_reads' HO411.out).2.1)
      rintro e w69 ⟨rfl,hb⟩
      refine ⟨_,rfl,?_⟩
      have n0_:=Aside0.mk (Kd.R_below (by (with_reducible repeat (first|apply Kd.R_alloc|apply Kd.R_drewN|apply Kd.R_drew));exact HO_387001.out) hb)
      have n1_:=Aside0.mk (Kd.R_below (by (with_reducible repeat (first|apply Kd.R_alloc|apply Kd.R_drewN|apply Kd.R_drew));exact HO_387002.out) hb)
      have n2_:=Aside0.mk (Kd.R_below (by (with_reducible repeat (first|apply Kd.R_alloc|apply Kd.R_drewN|apply Kd.R_drew));exact HO_395001.out) hb)
      have n3_:=Aside0.mk (Kd.R_below (by (with_reducible repeat (first|apply Kd.R_alloc|apply Kd.R_drewN|apply Kd.R_drew));exact HO_395002.out) hb)
      have n4_:=Aside0.mk (Kd.R_below (by (with_reducible repeat (first|apply Kd.R_alloc|apply Kd.R_drewN|apply Kd.R_drew));exact HO_404001.out) hb)
      have n5_:=Aside0.mk (Kd.R_below (by (with_reducible repeat (first|apply Kd.R_alloc|apply Kd.R_drewN|apply Kd.R_drew));exact HO_404002.out) hb)
      have n6_:=Aside0.mk (Kd.R_below (by (with_reducible repeat (first|apply Kd.R_alloc|apply Kd.R_drewN|apply Kd.R_drew));exact HO408.out) hb)
      have n7_:=Aside0.mk (Kd.R_below (by (with_reducible repeat (first|apply Kd.R_alloc|apply Kd.R_drewN|apply Kd.R_drew));exact HO411.out) hb)
      have n8_:=Aside0.mk (blk_below (g:=gb369) (o:=.cells #[.int .i64 a0_0,.slice A0_1 l0_1.length c0_1,.slice A0_2 l0_2.length c0_2] 25 (0,0)) (by (with_reducible repeat (first|refine blk_drewN ?_ _|refine blk_drew ?_|refine blk_alloc ?_ _));exact BK369.out) hb)
      have n9_:=Aside0.mk (blk_below (g:=gb386) (o:=.cells #[.int .i64 t378,.slice Ao23 t379.length co23,.slice Ao24 t382.length co24] 29 (0,0)) (by (with_reducible repeat (first|refine blk_drewN ?_ _|refine blk_drew ?_|refine blk_alloc ?_ _));exact BK386.out) hb)
      have n10_:=Aside0.mk (blk_below (g:=gb394) (o:=.cells #[.int .i64 t387,.slice Ao31 t388.length co31,.slice Ao32 t391.length co32] 29 (0,0)) (by (with_reducible repeat (first|refine blk_drewN ?_ _|refine blk_drew ?_|refine blk_alloc ?_ _));exact BK394.out) hb)
      have n11_:=Aside0.mk (blk_below (g:=gb403) (o:=.cells #[.int .i64 t395,.slice Ao39 t396.length co39,.slice Ao40 t399.length co40] 29 (0,0)) (by (with_reducible repeat (first|refine blk_drewN ?_ _|refine blk_drew ?_|refine blk_alloc ?_ _));exact BK403.out) hb)
      have n12_:=Aside0.mk (below_step (by repeat (first|(with_reducible first|exact HB.out|apply below_alloc|apply pw_below_drewN|apply below_drew1|refine below_set ?_ GE369.out|refine below_set ?_ GE386.out|refine below_set ?_ GE394.out|refine below_set ?_ GE403.out)|exact HB.out)) hb)
      clear HO_387001
      clear HO_387002
      clear HO_395001
      clear HO_395002
      clear HO_404001
      clear HO_404002
      clear HO408
      clear HO411
      clear BK369
      clear BK386
      clear BK394
      clear BK403
      clear HB
      have HO_387001:=n0_
      have HO_387002:=n1_
      have HO_395001:=n2_
      have HO_395002:=n3_
      have HO_404001:=n4_
      have HO_404002:=n5_
      have HO408:=n6_
      have HO411:=n7_
      have BK369:=n8_
      have BK386:=n9_
      have BK394:=n10_
      have BK403:=n11_
      have HB:=n12_
      clear n0_ n1_ n2_ n3_ n4_ n5_ n6_ n7_ n8_ n9_ n10_ n11_ n12_
      (try clear hb)
      refine hK.out _ _ ⟨(blk_cell BK394.out 0).trans rfl,(blk_cell BK394.out 1).trans rfl,(blk_cell BK394.out 2).trans rfl,(blk_cell BK369.out 0).trans rfl,(blk_cell BK369.out 1).trans rfl,(blk_cell BK369.out 2).trans rfl⟩ (fun hHeld=>?_)
      clear hK K
      refine norm_ (a':=?_) ?_ ?_
      rotate_left
      ·show Act.put _ (some 44) _ = _
       simp only [Act.put,List.setIfInBounds_toArray,List.set_cons_zero,List.set_cons_succ,i64_w,i32_w]
       rfl
      refine pure_ (i:=4) (N:=some 45) (v:=?_) (a':=?_) #[true,true,true,true,true] rfl rfl (by kernel_rfl) (fun _ _ _ h=>h) (Or.inl ⟨by rfl,?_⟩) ?_ ?_
      rotate_left
      ·intro w'
       go_simp
       with_reducible rfl
      rotate_left
      ·simp only [Act.put,List.setIfInBounds_toArray,List.set_cons_zero,List.set_cons_succ,i64_w,i32_w]
       rfl
      refine done_ (by kernel_rfl) ?_
      have hnb70:=NB394_369.out
      have hnc70:=NB369_394.out
      have hnb71:=NB394_386.out
      have hnc71:=NB386_394.out
      have hnb72:=NB394_403.out
      have hnc72:=NB403_394.out
      have hcz73_0 : w69.cell? ⟨gb394,0,none⟩ = some (.int .i64 t387):=(blk_cell BK394.out 0).trans rfl
      have hcz73_1 : w69.cell? ⟨gb394,1,none⟩ = some (.slice Ao31 t388.length co31):=(blk_cell BK394.out 1).trans rfl
      have hcz73_2 : w69.cell? ⟨gb394,2,none⟩ = some (.slice Ao32 t391.length co32):=(blk_cell BK394.out 2).trans rfl
      have hfz73_0:=blk_frozen BK394.out 0
      have hfz73_1:=blk_frozen BK394.out 1
      have hfz73_2:=blk_frozen BK394.out 2
      go_upto_region 14 with (first|((with_reducible refine gate_callee (f:=15) rfl ?_);refine goesL_ (some 48) rfl rfl Try.func15 (by kernel_rfl) rfl #[.agg #[.int .i64 t387,.slice Ao31 t388.length co31,.slice Ao32 t391.length co32],.int .i64 1] rfl (by (try simp only [List.map_toArray,List.map_cons,List.map_nil]);first|done|rfl|(simp only [List.length_drop,List.length_take];rfl)) ?_;(with_reducible refine (laws_markPlan.calls kj10 t387 (fun k_=>some k_ = (.slice Ao31 t388.length co31 : Value).ownBlock) (.slice Ao31 t388.length co31) t388 (fun k_=>some k_ = (.slice Ao32 t391.length co32 : Value).ownBlock) (.slice Ao32 t391.length co32) t391 1 t413 t414 t415 w _ ?side1 ?side2 ?side3 A63.out).mono ?_);(case side1=>repeat (first|(with_reducible first|exact HB.out|apply below_alloc|apply pw_below_drewN|apply below_drew1|refine below_set ?_ GE369.out|refine below_set ?_ GE386.out|refine below_set ?_ GE394.out|refine below_set ?_ GE403.out)|exact HB.out));(case side2=>exact Kd.R_tight rfl HO_395001.out);(case side3=>exact Kd.R_tight rfl HO_395002.out);rintro e w74 ⟨rfl,hy0,hy1,hb,hkp⟩;refine ⟨_,rfl,?_⟩;have n0_:=Aside0.mk (Kd.R_mono (ok':=fun k_=>some k_ ≠ (.slice Ao31 t388.length co31 : Value).ownBlock ∧ some k_ ≠ (.slice Ao39 t396.length co39 : Value).ownBlock ∧ some k_ ≠ (.slice Ao67 t406.length co67 : Value).ownBlock) (Kd.R_keptB ((Kd.R_apart' HO_387001.out (Kd.R_typed HO_395002.out) (by decide))) hkp (fun k_ hk_ hs_=>Or.elim hs_ (fun e_=>(hk_.1.1.1) e_) (fun e_=>(hk_.2) e_))) (fun k_ hk_=>⟨hk_.1.1.1.1,hk_.1.1.1.2,hk_.1.1.2⟩));have n1_:=Aside0.mk (Kd.R_mono (ok':=fun k_=>some k_ ≠ (.slice Ao32 t391.length co32 : Value).ownBlock ∧ some k_ ≠ (.slice Ao40 t399.length co40 : Value).ownBlock ∧ some k_ ≠ (.slice Ao68 t409.length co68 : Value).ownBlock) (Kd.R_keptB ((Kd.R_apart' HO_387002.out (Kd.R_typed HO_395001.out) (by decide))) hkp (fun k_ hk_ hs_=>Or.elim hs_ (fun e_=>(hk_.2) e_) (fun e_=>(hk_.1.1.1) e_))) (fun k_ hk_=>⟨hk_.1.1.1.1,hk_.1.1.1.2,hk_.1.1.2⟩));have n2_:=Aside0.mk (Kd.R_reok rfl hy0 (fun k_ e_=>HO_395001.out.1 k_ e_));have n3_:=Aside0.mk (Kd.R_reok rfl hy1 (fun k_ e_=>HO_395002.out.1 k_ e_));have n4_:=Aside0.mk (Kd.R_mono (ok':=fun k_=>some k_ ≠ (.slice Ao23 t379.length co23 : Value).ownBlock ∧ some k_ ≠ (.slice Ao31 t388.length co31 : Value).ownBlock ∧ some k_ ≠ (.slice Ao67 t406.length co67 : Value).ownBlock) (Kd.R_keptB ((Kd.R_apart' HO_404001.out (Kd.R_typed HO_395002.out) (by decide))) hkp (fun k_ hk_ hs_=>Or.elim hs_ (fun e_=>(hk_.1.1.2) e_) (fun e_=>(hk_.2) e_))) (fun k_ hk_=>⟨hk_.1.1.1.1,hk_.1.1.1.2,hk_.1.1.2⟩));have n5_:=Aside0.mk (Kd.R_mono (ok':=fun k_=>some k_ ≠ (.slice Ao24 t382.length co24 : Value).ownBlock ∧ some k_ ≠ (.slice Ao32 t391.length co32 : Value).ownBlock ∧ some k_ ≠ (.slice Ao68 t409.length co68 : Value).ownBlock) (Kd.R_keptB ((Kd.R_apart' HO_404002.out (Kd.R_typed HO_395001.out) (by decide))) hkp (fun k_ hk_ hs_=>Or.elim hs_ (fun e_=>(hk_.2) e_) (fun e_=>(hk_.1.1.2) e_))) (fun k_ hk_=>⟨hk_.1.1.1.1,hk_.1.1.1.2,hk_.1.1.2⟩));have n6_:=Aside0.mk (blk_kept (by (with_reducible repeat (first|refine blk_drewN ?_ _|refine blk_drew ?_|refine blk_alloc ?_ _));exact BK369.out) hkp (fun hs_=>Or.elim hs_ (fun e_=>(fun e_=>(Kd.R_ne HO_395001.out BK369.out (by decide)) e_) e_) (fun e_=>(fun e_=>(Kd.R_ne HO_395002.out BK369.out (by decide)) e_) e_)));have n7_:=Aside0.mk (blk_kept (by (with_reducible repeat (first|refine blk_drewN ?_ _|refine blk_drew ?_|refine blk_alloc ?_ _));exact BK386.out) hkp (fun hs_=>Or.elim hs_ (fun e_=>(fun e_=>(Kd.R_ne HO_395001.out BK386.out (by decide)) e_) e_) (fun e_=>(fun e_=>(Kd.R_ne HO_395002.out BK386.out (by decide)) e_) e_)));have n8_:=Aside0.mk (blk_kept (by (with_reducible repeat (first|refine blk_drewN ?_ _|refine blk_drew ?_|refine blk_alloc ?_ _));exact BK394.out) hkp (fun hs_=>Or.elim hs_ (fun e_=>(fun e_=>(Kd.R_ne HO_395001.out BK394.out (by decide)) e_) e_) (fun e_=>(fun e_=>(Kd.R_ne HO_395002.out BK394.out (by decide)) e_) e_)));have n9_:=Aside0.mk (blk_kept (by (with_reducible repeat (first|refine blk_drewN ?_ _|refine blk_drew ?_|refine blk_alloc ?_ _));exact BK403.out) hkp (fun hs_=>Or.elim hs_ (fun e_=>(fun e_=>(Kd.R_ne HO_395001.out BK403.out (by decide)) e_) e_) (fun e_=>(fun e_=>(Kd.R_ne HO_395002.out BK403.out (by decide)) e_) e_)));have n10_:=Aside0.mk (Kd.R_mono (ok':=fun k_=>some k_ ≠ (.slice Ao23 t379.length co23 : Value).ownBlock ∧ some k_ ≠ (.slice Ao31 t388.length co31 : Value).ownBlock ∧ some k_ ≠ (.slice Ao39 t396.length co39 : Value).ownBlock) (Kd.R_keptB ((Kd.R_apart' HO408.out (Kd.R_typed HO_395002.out) (by decide))) hkp (fun k_ hk_ hs_=>Or.elim hs_ (fun e_=>(hk_.1.1.2) e_) (fun e_=>(hk_.2) e_))) (fun k_ hk_=>⟨hk_.1.1.1.1.2,hk_.1.1.1.2,hk_.1.1.2⟩));have n11_:=Aside0.mk (Kd.R_mono (ok':=fun k_=>some k_ ≠ (.slice Ao24 t382.length co24 : Value).ownBlock ∧ some k_ ≠ (.slice Ao32 t391.length co32 : Value).ownBlock ∧ some k_ ≠ (.slice Ao40 t399.length co40 : Value).ownBlock) (Kd.R_keptB ((Kd.R_apart' HO411.out (Kd.R_typed HO_395001.out) (by decide))) hkp (fun k_ hk_ hs_=>Or.elim hs_ (fun e_=>(hk_.2) e_) (fun e_=>(hk_.1.1.2) e_))) (fun k_ hk_=>⟨hk_.1.1.1.1.2,hk_.1.1.1.2,hk_.1.1.2⟩));have n12_:=Aside0.mk (hb);clear HO_387001;clear HO_387002;clear HO_395001;clear HO_395002;clear HO_404001;clear HO_404002;clear BK369;clear BK386;clear BK394;clear BK403;clear HO408;clear HO411;clear HB;have HO_387001:=n0_;have HO_387002:=n1_;have HO_395001:=n2_;have HO_395002:=n3_;have HO_404001:=n4_;have HO_404002:=n5_;have BK369:=n6_;have BK386:=n7_;have BK394:=n8_;have BK403:=n9_;have HO408:=n10_;have HO411:=n11_;have HB:=n12_;clear n0_ n1_ n2_ n3_ n4_ n5_ n6_ n7_ n8_ n9_ n10_ n11_ n12_;(try clear hb);(try clear hkp);(try clear hy0);(try clear hy1)))
      (try simp only [Act.put,List.setIfInBounds_toArray,List.set_cons_zero,List.set_cons_succ])
      go_cut [61] (fun v61 wc=>∃ (kq : Nat) (x61_63 : Bool),v61 = .bool x61_63 ∧ Aside0 (laws_FnExactTrimPlan.j1 kq t385 x61_63 a0_0 l0_1 l0_2 t378 t379 t382 t395 t396 t399 = some r) ∧ Aside0 (kq ≤ kj10) ∧ Aside0 (Kd.R k73 73 wc w.heap.size (fun k_=>some k_ ≠ ((.slice Ao31 t388.length co31) : Value).ownBlock ∧ some k_ ≠ ((.slice Ao39 t396.length co39) : Value).ownBlock) (.slice Ao23 t379.length co23) t379) ∧ Aside0 (Kd.R (Kd.int .i64) 3 wc w.heap.size (fun k_=>some k_ ≠ ((.slice Ao32 t391.length co32) : Value).ownBlock ∧ some k_ ≠ ((.slice Ao40 t399.length co40) : Value).ownBlock) (.slice Ao24 t382.length co24) t382) ∧ Aside0 (Kd.R k73 73 wc w.heap.size (fun k_=>some k_ ≠ ((.slice Ao23 t379.length co23) : Value).ownBlock ∧ some k_ ≠ ((.slice Ao39 t396.length co39) : Value).ownBlock) (.slice Ao31 t388.length co31) t414) ∧ Aside0 (Kd.R (Kd.int .i64) 3 wc w.heap.size (fun k_=>some k_ ≠ ((.slice Ao24 t382.length co24) : Value).ownBlock ∧ some k_ ≠ ((.slice Ao40 t399.length co40) : Value).ownBlock) (.slice Ao32 t391.length co32) t415) ∧ Aside0 (Kd.R k73 73 wc w.heap.size (fun k_=>some k_ ≠ ((.slice Ao23 t379.length co23) : Value).ownBlock ∧ some k_ ≠ ((.slice Ao31 t388.length co31) : Value).ownBlock) (.slice Ao39 t396.length co39) t396) ∧ Aside0 (Kd.R (Kd.int .i64) 3 wc w.heap.size (fun k_=>some k_ ≠ ((.slice Ao24 t382.length co24) : Value).ownBlock ∧ some k_ ≠ ((.slice Ao32 t391.length co32) : Value).ownBlock) (.slice Ao40 t399.length co40) t399) ∧ Aside0 (wc.heap[gb369]? = some (.cells #[.int .i64 a0_0,(.slice A0_1 l0_1.length c0_1),(.slice A0_2 l0_2.length c0_2)] 25 (0,0))) ∧ Aside0 (wc.heap[gb386]? = some (.cells #[.int .i64 t378,(.slice Ao23 t379.length co23),(.slice Ao24 t382.length co24)] 29 (0,0))) ∧ Aside0 (wc.heap[gb394]? = some (.cells #[.int .i64 t387,(.slice Ao31 t388.length co31),(.slice Ao32 t391.length co32)] 29 (0,0))) ∧ Aside0 (wc.heap[gb403]? = some (.cells #[.int .i64 t395,(.slice Ao39 t396.length co39),(.slice Ao40 t399.length co40)] 29 (0,0))) ∧ Aside0 (Below w.heap.size w wc))
      case first=>
       have H:=HC64.out
       clear HC64
       by_cases c75 : t413 < 0
       ·rw [if_pos c75] at H
        have c75b0 : decide (t413 < 0) = true:=decide_eq_true c75
        clear c75
        (first|rw [c75b0]|(simp only [i64_w,i32_w];rw [c75b0])|skip)
        have H':=Aside0.mk H
        clear H
        go_wp2
        go_meet
        case rel=>exact ⟨_,(true),(by first|rfl|(simp;done)|(simp [*];done)),H',⟨by have:=HJ10.out;first|omega|exact Nat.le_refl _⟩,⟨by (with_reducible repeat (first|apply Kd.R_alloc|apply Kd.R_drewN|apply Kd.R_drew));exact Kd.R_mono HO_387001.out (fun _ hk=>⟨hk.1,hk.2.1⟩)⟩,⟨by (with_reducible repeat (first|apply Kd.R_alloc|apply Kd.R_drewN|apply Kd.R_drew));exact Kd.R_mono HO_387002.out (fun _ hk=>⟨hk.1,hk.2.1⟩)⟩,⟨by (with_reducible repeat (first|apply Kd.R_alloc|apply Kd.R_drewN|apply Kd.R_drew));exact Kd.R_mono HO_395001.out (fun _ hk=>⟨hk.1.1,hk.1.2⟩)⟩,⟨by (with_reducible repeat (first|apply Kd.R_alloc|apply Kd.R_drewN|apply Kd.R_drew));exact Kd.R_mono HO_395002.out (fun _ hk=>⟨hk.1.1,hk.1.2⟩)⟩,⟨by (with_reducible repeat (first|apply Kd.R_alloc|apply Kd.R_drewN|apply Kd.R_drew));exact Kd.R_mono HO_404001.out (fun _ hk=>⟨hk.1,hk.2.1⟩)⟩,⟨by (with_reducible repeat (first|apply Kd.R_alloc|apply Kd.R_drewN|apply Kd.R_drew));exact Kd.R_mono HO_404002.out (fun _ hk=>⟨hk.1,hk.2.1⟩)⟩,⟨by (with_reducible repeat (first|refine blk_drewN ?_ _|refine blk_drew ?_|refine blk_alloc ?_ _));exact BK369.out⟩,⟨by (with_reducible repeat (first|refine blk_drewN ?_ _|refine blk_drew ?_|refine blk_alloc ?_ _));exact BK386.out⟩,⟨by (with_reducible repeat (first|refine blk_drewN ?_ _|refine blk_drew ?_|refine blk_alloc ?_ _));exact BK394.out⟩,⟨by (with_reducible repeat (first|refine blk_drewN ?_ _|refine blk_drew ?_|refine blk_alloc ?_ _));exact BK403.out⟩,⟨by repeat (first|(with_reducible first|exact HB.out|apply below_alloc|apply pw_below_drewN|apply below_drew1|refine below_set ?_ GE369.out|refine below_set ?_ GE386.out|refine below_set ?_ GE394.out|refine below_set ?_ GE403.out)|exact HB.out)⟩⟩
       ·rw [if_neg c75] at H
        have c75b0 : decide (t413 < 0) = false:=decide_eq_false c75
        clear c75
        (first|rw [c75b0]|(simp only [i64_w,i32_w];rw [c75b0])|skip)
        replace H:=Option.bind_eq_some_iff.mp H
        obtain ⟨t416,A760,H⟩:=H
        replace H : (if t416 = true then (laws_FnExactTrimPlan.j1 kj10 t385 (t402 != t385) a0_0 l0_1 l0_2 t378 t379 t382 t395 t396 t399) else (laws_FnExactTrimPlan.j1 kj10 t385 true a0_0 l0_1 l0_2 t378 t379 t382 t395 t396 t399)) = some r:=H
        have A76:=Aside0.mk A760
        clear A760
        by_cases c77 : t416 = true
        ·subst c77
         have H1 : (laws_FnExactTrimPlan.j1 kj10 t385 (t402 != t385) a0_0 l0_1 l0_2 t378 t379 t382 t395 t396 t399) = some r:=by rw [if_pos rfl] at H;exact H
         clear H
         have H:=H1
         clear H1
         have H':=Aside0.mk H
         clear H
         have hnb78:=NB403_369.out
         have hnc78:=NB369_403.out
         have hnb79:=NB403_386.out
         have hnc79:=NB386_403.out
         have hnb80:=NB403_394.out
         have hnc80:=NB394_403.out
         have hcz81_0 : w74.cell? ⟨gb403,0,none⟩ = some (.int .i64 t395):=(blk_cell BK403.out 0).trans rfl
         have hcz81_1 : w74.cell? ⟨gb403,1,none⟩ = some (.slice Ao39 t396.length co39):=(blk_cell BK403.out 1).trans rfl
         have hcz81_2 : w74.cell? ⟨gb403,2,none⟩ = some (.slice Ao40 t399.length co40):=(blk_cell BK403.out 2).trans rfl
         have hfz81_0:=blk_frozen BK403.out 0
         have hfz81_1:=blk_frozen BK403.out 1
         have hfz81_2:=blk_frozen BK403.out 2
         have hnb82:=NB386_369.out
         have hnc82:=NB369_386.out
         have hnb83:=NB386_394.out
         have hnc83:=NB394_386.out
         have hcz84_0 : w74.cell? ⟨gb386,0,none⟩ = some (.int .i64 t378):=(blk_cell BK386.out 0).trans rfl
         have hcz84_1 : w74.cell? ⟨gb386,1,none⟩ = some (.slice Ao23 t379.length co23):=(blk_cell BK386.out 1).trans rfl
         have hcz84_2 : w74.cell? ⟨gb386,2,none⟩ = some (.slice Ao24 t382.length co24):=(blk_cell BK386.out 2).trans rfl
         have hfz84_0:=blk_frozen BK386.out 0
         have hfz84_1:=blk_frozen BK386.out 1
         have hfz84_2:=blk_frozen BK386.out 2
         go_wp2_with (first|(go_at_call 14;(with_reducible refine (laws_eqPlan.calls kj10 t395 _ _ t396 _ _ t399 t378 _ _ t379 _ _ t382 true _ ?side1 ?side2 ?side3 ?side4 ?side5 ?side6 ?side7 ?side8 A76.out).mono ?_);(case side1=>repeat (first|exact (Kd.R_reads' HO_404001.out).2.2|(with_reducible refine Kd.C_alloc ?_ _)|(with_reducible refine Kd.C_drewN ?_ _)|(with_reducible refine Kd.C_drew ?_)));(case side2=>exact (Kd.R_reads' HO_404001.out).2.1);(case side3=>repeat (first|exact (Kd.R_reads' HO_404002.out).2.2|(with_reducible refine Kd.C_alloc ?_ _)|(with_reducible refine Kd.C_drewN ?_ _)|(with_reducible refine Kd.C_drew ?_)));(case side4=>exact (Kd.R_reads' HO_404002.out).2.1);(case side5=>repeat (first|exact (Kd.R_reads' HO_387001.out).2.2|(with_reducible refine Kd.C_alloc ?_ _)|(with_reducible refine Kd.C_drewN ?_ _)|(with_reducible refine Kd.C_drew ?_)));(case side6=>exact (Kd.R_reads' HO_387001.out).2.1);(case side7=>repeat (first|exact (Kd.R_reads' HO_387002.out).2.2|(with_reducible refine Kd.C_alloc ?_ _)|(with_reducible refine Kd.C_drewN ?_ _)|(with_reducible refine Kd.C_drew ?_)));(case side8=>exact (Kd.R_reads' HO_387002.out).2.1);rintro e w85 ⟨rfl,hb⟩;have n0_:=Aside0.mk (Kd.R_below (by (with_reducible repeat (first|apply Kd.R_alloc|apply Kd.R_drewN|apply Kd.R_drew));exact HO_387001.out) hb);have n1_:=Aside0.mk (Kd.R_below (by (with_reducible repeat (first|apply Kd.R_alloc|apply Kd.R_drewN|apply Kd.R_drew));exact HO_387002.out) hb);have n2_:=Aside0.mk (Kd.R_below (by (with_reducible repeat (first|apply Kd.R_alloc|apply Kd.R_drewN|apply Kd.R_drew));exact HO_395001.out) hb);have n3_:=Aside0.mk (Kd.R_below (by (with_reducible repeat (first|apply Kd.R_alloc|apply Kd.R_drewN|apply Kd.R_drew));exact HO_395002.out) hb);have n4_:=Aside0.mk (Kd.R_below (by (with_reducible repeat (first|apply Kd.R_alloc|apply Kd.R_drewN|apply Kd.R_drew));exact HO_404001.out) hb);have n5_:=Aside0.mk (Kd.R_below (by (with_reducible repeat (first|apply Kd.R_alloc|apply Kd.R_drewN|apply Kd.R_drew));exact HO_404002.out) hb);have n6_:=Aside0.mk (Kd.R_below (by (with_reducible repeat (first|apply Kd.R_alloc|apply Kd.R_drewN|apply Kd.R_drew));exact HO408.out) hb);have n7_:=Aside0.mk (Kd.R_below (by (with_reducible repeat (first|apply Kd.R_alloc|apply Kd.R_drewN|apply Kd.R_drew));exact HO411.out) hb);have n8_:=Aside0.mk (blk_below (g:=gb369) (o:=.cells #[.int .i64 a0_0,.slice A0_1 l0_1.length c0_1,.slice A0_2 l0_2.length c0_2] 25 (0,0)) (by (with_reducible repeat (first|refine blk_drewN ?_ _|refine blk_drew ?_|refine blk_alloc ?_ _));exact BK369.out) hb);have n9_:=Aside0.mk (blk_below (g:=gb386) (o:=.cells #[.int .i64 t378,.slice Ao23 t379.length co23,.slice Ao24 t382.length co24] 29 (0,0)) (by (with_reducible repeat (first|refine blk_drewN ?_ _|refine blk_drew ?_|refine blk_alloc ?_ _));exact BK386.out) hb);have n10_:=Aside0.mk (blk_below (g:=gb394) (o:=.cells #[.int .i64 t387,.slice Ao31 t388.length co31,.slice Ao32 t391.length co32] 29 (0,0)) (by (with_reducible repeat (first|refine blk_drewN ?_ _|refine blk_drew ?_|refine blk_alloc ?_ _));exact BK394.out) hb);have n11_:=Aside0.mk (blk_below (g:=gb403) (o:=.cells #[.int .i64 t395,.slice Ao39 t396.length co39,.slice Ao40 t399.length co40] 29 (0,0)) (by (with_reducible repeat (first|refine blk_drewN ?_ _|refine blk_drew ?_|refine blk_alloc ?_ _));exact BK403.out) hb);have n12_:=Aside0.mk (below_step (by repeat (first|(with_reducible first|exact HB.out|apply below_alloc|apply pw_below_drewN|apply below_drew1|refine below_set ?_ GE369.out|refine below_set ?_ GE386.out|refine below_set ?_ GE394.out|refine below_set ?_ GE403.out)|exact HB.out)) hb);clear HO_387001;clear HO_387002;clear HO_395001;clear HO_395002;clear HO_404001;clear HO_404002;clear HO408;clear HO411;clear BK369;clear BK386;clear BK394;clear BK403;clear HB;have HO_387001:=n0_;have HO_387002:=n1_;have HO_395001:=n2_;have HO_395002:=n3_;have HO_404001:=n4_;have HO_404002:=n5_;have HO408:=n6_;have HO411:=n7_;have BK369:=n8_;have BK386:=n9_;have BK394:=n10_;have BK403:=n11_;have HB:=n12_;clear n0_ n1_ n2_ n3_ n4_ n5_ n6_ n7_ n8_ n9_ n10_ n11_ n12_;(try clear hb)))
         go_meet
         case rel=>exact ⟨_,((t402 != t385)),(by first|rfl|(simp;done)|(simp [*];done)),H',⟨by have:=HJ10.out;first|omega|exact Nat.le_refl _⟩,⟨by (with_reducible repeat (first|apply Kd.R_alloc|apply Kd.R_drewN|apply Kd.R_drew));exact Kd.R_mono HO_387001.out (fun _ hk=>⟨hk.1,hk.2.1⟩)⟩,⟨by (with_reducible repeat (first|apply Kd.R_alloc|apply Kd.R_drewN|apply Kd.R_drew));exact Kd.R_mono HO_387002.out (fun _ hk=>⟨hk.1,hk.2.1⟩)⟩,⟨by (with_reducible repeat (first|apply Kd.R_alloc|apply Kd.R_drewN|apply Kd.R_drew));exact Kd.R_mono HO_395001.out (fun _ hk=>⟨hk.1.1,hk.1.2⟩)⟩,⟨by (with_reducible repeat (first|apply Kd.R_alloc|apply Kd.R_drewN|apply Kd.R_drew));exact Kd.R_mono HO_395002.out (fun _ hk=>⟨hk.1.1,hk.1.2⟩)⟩,⟨by (with_reducible repeat (first|apply Kd.R_alloc|apply Kd.R_drewN|apply Kd.R_drew));exact Kd.R_mono HO_404001.out (fun _ hk=>⟨hk.1,hk.2.1⟩)⟩,⟨by (with_reducible repeat (first|apply Kd.R_alloc|apply Kd.R_drewN|apply Kd.R_drew));exact Kd.R_mono HO_404002.out (fun _ hk=>⟨hk.1,hk.2.1⟩)⟩,⟨by (with_reducible repeat (first|refine blk_drewN ?_ _|refine blk_drew ?_|refine blk_alloc ?_ _));exact BK369.out⟩,⟨by (with_reducible repeat (first|refine blk_drewN ?_ _|refine blk_drew ?_|refine blk_alloc ?_ _));exact BK386.out⟩,⟨by (with_reducible repeat (first|refine blk_drewN ?_ _|refine blk_drew ?_|refine blk_alloc ?_ _));exact BK394.out⟩,⟨by (with_reducible repeat (first|refine blk_drewN ?_ _|refine blk_drew ?_|refine blk_alloc ?_ _));exact BK403.out⟩,⟨by repeat (first|(with_reducible first|exact HB.out|apply below_alloc|apply pw_below_drewN|apply below_drew1|refine below_set ?_ GE369.out|refine below_set ?_ GE386.out|refine below_set ?_ GE394.out|refine below_set ?_ GE403.out)|exact HB.out)⟩⟩
        ·replace c77:=Bool.eq_false_iff.mpr c77
         subst c77
         have H1 : (laws_FnExactTrimPlan.j1 kj10 t385 true a0_0 l0_1 l0_2 t378 t379 t382 t395 t396 t399) = some r:=by rw [if_neg (show ¬ (false = true) by decide)] at H;exact H
         clear H
         have H:=H1
         clear H1
         have H':=Aside0.mk H
         clear H
         have hnb86:=NB403_369.out
         have hnc86:=NB369_403.out
         have hnb87:=NB403_386.out
         have hnc87:=NB386_403.out
         have hnb88:=NB403_394.out
         have hnc88:=NB394_403.out
         have hcz89_0 : w74.cell? ⟨gb403,0,none⟩ = some (.int .i64 t395):=(blk_cell BK403.out 0).trans rfl
         have hcz89_1 : w74.cell? ⟨gb403,1,none⟩ = some (.slice Ao39 t396.length co39):=(blk_cell BK403.out 1).trans rfl
         have hcz89_2 : w74.cell? ⟨gb403,2,none⟩ = some (.slice Ao40 t399.length co40):=(blk_cell BK403.out 2).trans rfl
         have hfz89_0:=blk_frozen BK403.out 0
         have hfz89_1:=blk_frozen BK403.out 1
         have hfz89_2:=blk_frozen BK403.out 2
         have hnb90:=NB386_369.out
         have hnc90:=NB369_386.out
         have hnb91:=NB386_394.out
         have hnc91:=NB394_386.out
         have hcz92_0 : w74.cell? ⟨gb386,0,none⟩ = some (.int .i64 t378):=(blk_cell BK386.out 0).trans rfl
         have hcz92_1 : w74.cell? ⟨gb386,1,none⟩ = some (.slice Ao23 t379.length co23):=(blk_cell BK386.out 1).trans rfl
         have hcz92_2 : w74.cell? ⟨gb386,2,none⟩ = some (.slice Ao24 t382.length co24):=(blk_cell BK386.out 2).trans rfl
         have hfz92_0:=blk_frozen BK386.out 0
         have hfz92_1:=blk_frozen BK386.out 1
         have hfz92_2:=blk_frozen BK386.out 2
         go_wp2_with (first|(go_at_call 14;(with_reducible refine (laws_eqPlan.calls kj10 t395 _ _ t396 _ _ t399 t378 _ _ t379 _ _ t382 false _ ?side1 ?side2 ?side3 ?side4 ?side5 ?side6 ?side7 ?side8 A76.out).mono ?_);(case side1=>repeat (first|exact (Kd.R_reads' HO_404001.out).2.2|(with_reducible refine Kd.C_alloc ?_ _)|(with_reducible refine Kd.C_drewN ?_ _)|(with_reducible refine Kd.C_drew ?_)));(case side2=>exact (Kd.R_reads' HO_404001.out).2.1);(case side3=>repeat (first|exact (Kd.R_reads' HO_404002.out).2.2|(with_reducible refine Kd.C_alloc ?_ _)|(with_reducible refine Kd.C_drewN ?_ _)|(with_reducible refine Kd.C_drew ?_)));(case side4=>exact (Kd.R_reads' HO_404002.out).2.1);(case side5=>repeat (first|exact (Kd.R_reads' HO_387001.out).2.2|(with_reducible refine Kd.C_alloc ?_ _)|(with_reducible refine Kd.C_drewN ?_ _)|(with_reducible refine Kd.C_drew ?_)));(case side6=>exact (Kd.R_reads' HO_387001.out).2.1);(case side7=>repeat (first|exact (Kd.R_reads' HO_387002.out).2.2|(with_reducible refine Kd.C_alloc ?_ _)|(with_reducible refine Kd.C_drewN ?_ _)|(with_reducible refine Kd.C_drew ?_)));(case side8=>exact (Kd.R_reads' HO_387002.out).2.1);rintro e w93 ⟨rfl,hb⟩;have n0_:=Aside0.mk (Kd.R_below (by (with_reducible repeat (first|apply Kd.R_alloc|apply Kd.R_drewN|apply Kd.R_drew));exact HO_387001.out) hb);have n1_:=Aside0.mk (Kd.R_below (by (with_reducible repeat (first|apply Kd.R_alloc|apply Kd.R_drewN|apply Kd.R_drew));exact HO_387002.out) hb);have n2_:=Aside0.mk (Kd.R_below (by (with_reducible repeat (first|apply Kd.R_alloc|apply Kd.R_drewN|apply Kd.R_drew));exact HO_395001.out) hb);have n3_:=Aside0.mk (Kd.R_below (by (with_reducible repeat (first|apply Kd.R_alloc|apply Kd.R_drewN|apply Kd.R_drew));exact HO_395002.out) hb);have n4_:=Aside0.mk (Kd.R_below (by (with_reducible repeat (first|apply Kd.R_alloc|apply Kd.R_drewN|apply Kd.R_drew));exact HO_404001.out) hb);have n5_:=Aside0.mk (Kd.R_below (by (with_reducible repeat (first|apply Kd.R_alloc|apply Kd.R_drewN|apply Kd.R_drew));exact HO_404002.out) hb);have n6_:=Aside0.mk (Kd.R_below (by (with_reducible repeat (first|apply Kd.R_alloc|apply Kd.R_drewN|apply Kd.R_drew));exact HO408.out) hb);have n7_:=Aside0.mk (Kd.R_below (by (with_reducible repeat (first|apply Kd.R_alloc|apply Kd.R_drewN|apply Kd.R_drew));exact HO411.out) hb);have n8_:=Aside0.mk (blk_below (g:=gb369) (o:=.cells #[.int .i64 a0_0,.slice A0_1 l0_1.length c0_1,.slice A0_2 l0_2.length c0_2] 25 (0,0)) (by (with_reducible repeat (first|refine blk_drewN ?_ _|refine blk_drew ?_|refine blk_alloc ?_ _));exact BK369.out) hb);have n9_:=Aside0.mk (blk_below (g:=gb386) (o:=.cells #[.int .i64 t378,.slice Ao23 t379.length co23,.slice Ao24 t382.length co24] 29 (0,0)) (by (with_reducible repeat (first|refine blk_drewN ?_ _|refine blk_drew ?_|refine blk_alloc ?_ _));exact BK386.out) hb);have n10_:=Aside0.mk (blk_below (g:=gb394) (o:=.cells #[.int .i64 t387,.slice Ao31 t388.length co31,.slice Ao32 t391.length co32] 29 (0,0)) (by (with_reducible repeat (first|refine blk_drewN ?_ _|refine blk_drew ?_|refine blk_alloc ?_ _));exact BK394.out) hb);have n11_:=Aside0.mk (blk_below (g:=gb403) (o:=.cells #[.int .i64 t395,.slice Ao39 t396.length co39,.slice Ao40 t399.length co40] 29 (0,0)) (by (with_reducible repeat (first|refine blk_drewN ?_ _|refine blk_drew ?_|refine blk_alloc ?_ _));exact BK403.out) hb);have n12_:=Aside0.mk (below_step (by repeat (first|(with_reducible first|exact HB.out|apply below_alloc|apply pw_below_drewN|apply below_drew1|refine below_set ?_ GE369.out|refine below_set ?_ GE386.out|refine below_set ?_ GE394.out|refine below_set ?_ GE403.out)|exact HB.out)) hb);clear HO_387001;clear HO_387002;clear HO_395001;clear HO_395002;clear HO_404001;clear HO_404002;clear HO408;clear HO411;clear BK369;clear BK386;clear BK394;clear BK403;clear HB;have HO_387001:=n0_;have HO_387002:=n1_;have HO_395001:=n2_;have HO_395002:=n3_;have HO_404001:=n4_;have HO_404002:=n5_;have HO408:=n6_;have HO411:=n7_;have BK369:=n8_;have BK386:=n9_;have BK394:=n10_;have BK403:=n11_;have HB:=n12_;clear n0_ n1_ n2_ n3_ n4_ n5_ n6_ n7_ n8_ n9_ n10_ n11_ n12_;(try clear hb)))
         go_meet
         case rel=>exact ⟨_,(true),(by first|rfl|(simp;done)|(simp [*];done)),H',⟨by have:=HJ10.out;first|omega|exact Nat.le_refl _⟩,⟨by (with_reducible repeat (first|apply Kd.R_alloc|apply Kd.R_drewN|apply Kd.R_drew));exact Kd.R_mono HO_387001.out (fun _ hk=>⟨hk.1,hk.2.1⟩)⟩,⟨by (with_reducible repeat (first|apply Kd.R_alloc|apply Kd.R_drewN|apply Kd.R_drew));exact Kd.R_mono HO_387002.out (fun _ hk=>⟨hk.1,hk.2.1⟩)⟩,⟨by (with_reducible repeat (first|apply Kd.R_alloc|apply Kd.R_drewN|apply Kd.R_drew));exact Kd.R_mono HO_395001.out (fun _ hk=>⟨hk.1.1,hk.1.2⟩)⟩,⟨by (with_reducible repeat (first|apply Kd.R_alloc|apply Kd.R_drewN|apply Kd.R_drew));exact Kd.R_mono HO_395002.out (fun _ hk=>⟨hk.1.1,hk.1.2⟩)⟩,⟨by (with_reducible repeat (first|apply Kd.R_alloc|apply Kd.R_drewN|apply Kd.R_drew));exact Kd.R_mono HO_404001.out (fun _ hk=>⟨hk.1,hk.2.1⟩)⟩,⟨by (with_reducible repeat (first|apply Kd.R_alloc|apply Kd.R_drewN|apply Kd.R_drew));exact Kd.R_mono HO_404002.out (fun _ hk=>⟨hk.1,hk.2.1⟩)⟩,⟨by (with_reducible repeat (first|refine blk_drewN ?_ _|refine blk_drew ?_|refine blk_alloc ?_ _));exact BK369.out⟩,⟨by (with_reducible repeat (first|refine blk_drewN ?_ _|refine blk_drew ?_|refine blk_alloc ?_ _));exact BK386.out⟩,⟨by (with_reducible repeat (first|refine blk_drewN ?_ _|refine blk_drew ?_|refine blk_alloc ?_ _));exact BK394.out⟩,⟨by (with_reducible repeat (first|refine blk_drewN ?_ _|refine blk_drew ?_|refine blk_alloc ?_ _));exact BK403.out⟩,⟨by repeat (first|(with_reducible first|exact HB.out|apply below_alloc|apply pw_below_drewN|apply below_drew1|refine below_set ?_ GE369.out|refine below_set ?_ GE386.out|refine below_set ?_ GE394.out|refine below_set ?_ GE403.out)|exact HB.out)⟩⟩
      case rest=>
       clear HC64
       try clear c1
       try clear c2
       try clear p2
       try clear c3
       try clear c3b0
       try clear c4
       try clear c5
       try clear c6
       try clear c7
       try clear c8
       try clear c9
       try clear c10
       try clear c12
       try clear c14
       try clear c15
       try clear c21
       try clear c22
       try clear c23
       try clear c28
       try clear c29
       try clear c35
       try clear c36
       try clear c37
       try clear c42
       try clear c43
       try clear c44
       try clear c45
       try clear c47
       try clear c48
       try clear c51
       try clear c52
       try clear c53
       try clear c55
       try clear c56
       try clear c59
       try clear c62
       try clear c70
       try clear c71
       try clear c72
       try clear c75
       try clear c75b0
       try clear c77
       try clear c78
       try clear c79
       try clear c80
       try clear c82
       try clear c83
       try clear c86
       try clear c87
       try clear c88
       try clear c90
       try clear c91
       try clear hcz13_0
       try clear hcz13_1
       try clear hcz13_2
       try clear hcz15_0
       try clear hcz15_1
       try clear hcz15_2
       try clear hcz22_0
       try clear hcz22_1
       try clear hcz22_2
       try clear hcz25_0
       try clear hcz25_1
       try clear hcz25_2
       try clear hcz30_0
       try clear hcz30_1
       try clear hcz30_2
       try clear hcz38_0
       try clear hcz38_1
       try clear hcz38_2
       try clear hcz46_0
       try clear hcz46_1
       try clear hcz46_2
       try clear hcz49_0
       try clear hcz49_1
       try clear hcz49_2
       try clear hcz54_0
       try clear hcz54_1
       try clear hcz54_2
       try clear hcz57_0
       try clear hcz57_1
       try clear hcz57_2
       try clear hcz5_0
       try clear hcz5_1
       try clear hcz5_2
       try clear hcz73_0
       try clear hcz73_1
       try clear hcz73_2
       try clear hcz81_0
       try clear hcz81_1
       try clear hcz81_2
       try clear hcz84_0
       try clear hcz84_1
       try clear hcz84_2
       try clear hcz89_0
       try clear hcz89_1
       try clear hcz89_2
       try clear hcz92_0
       try clear hcz92_1
       try clear hcz92_2
       try clear hfz13_0
       try clear hfz13_1
       try clear hfz13_2
       try clear hfz15_0
       try clear hfz15_1
       try clear hfz15_2
       try clear hfz22_0
       try clear hfz22_1
       try clear hfz22_2
       try clear hfz25_0
       try clear hfz25_1
       try clear hfz25_2
       try clear hfz30_0
       try clear hfz30_1
       try clear hfz30_2
       try clear hfz38_0
       try clear hfz38_1
       try clear hfz38_2
       try clear hfz46_0
       try clear hfz46_1
       try clear hfz46_2
       try clear hfz49_0
       try clear hfz49_1
       try clear hfz49_2
       try clear hfz54_0
       try clear hfz54_1
       try clear hfz54_2
       try clear hfz57_0
       try clear hfz57_1
       try clear hfz57_2
       try clear hfz5_0
       try clear hfz5_1
       try clear hfz5_2
       try clear hfz73_0
       try clear hfz73_1
       try clear hfz73_2
       try clear hfz81_0
       try clear hfz81_1
       try clear hfz81_2
       try clear hfz84_0
       try clear hfz84_1
       try clear hfz84_2
       try clear hfz89_0
       try clear hfz89_1
       try clear hfz89_2
       try clear hfz92_0
       try clear hfz92_1
       try clear hfz92_2
       try clear p2
       obtain ⟨kq,x61_63,rfl,HA,HJ63,HO_387001,HO_387002,HO_395001,HO_395002,HO_404001,HO_404002,BK369,BK386,BK394,BK403,HB⟩:=hcut
       have hl395001_63:=(Kd.R_reads' HO_395001.out).1
       rw [hl395001_63] at HO_395001
       (try simp only [hl395001_63])
       (try simp only [hl395001_63] at BK369)
       (try simp only [hl395001_63] at BK386)
       (try simp only [hl395001_63] at BK394)
       (try simp only [hl395001_63] at BK403)
       (try simp only [hl395001_63] at HO_387001)
       (try simp only [hl395001_63] at HO_387002)
       (try simp only [hl395001_63] at HO_395002)
       (try simp only [hl395001_63] at HO_404001)
       (try simp only [hl395001_63] at HO_404002)
       have hl395002_63:=(Kd.R_reads' HO_395002.out).1
       rw [hl395002_63] at HO_395002
       (try simp only [hl395002_63])
       (try simp only [hl395002_63] at BK369)
       (try simp only [hl395002_63] at BK386)
       (try simp only [hl395002_63] at BK394)
       (try simp only [hl395002_63] at BK403)
       (try simp only [hl395002_63] at HO_387001)
       (try simp only [hl395002_63] at HO_387002)
       (try simp only [hl395002_63] at HO_395001)
       (try simp only [hl395002_63] at HO_404001)
       (try simp only [hl395002_63] at HO_404002)
       cases kq with
       | zero=>exact absurd HA.out (by simp [laws_FnExactTrimPlan.j1])
       | succ kj63=>
        have H:=HA.out
        clear HA
        simp only [laws_FnExactTrimPlan.j1] at H
        by_cases c94 : x61_63 = true
        ·subst c94
         have H1 : (some false) = some r:=by rw [if_pos rfl] at H;exact H
         clear H
         have H:=H1
         clear H1
         obtain rfl:=Option.some.inj H
         go_wp2
         go_ret
         exact ⟨by first|rfl|(simp [errW_none,errW_some] <;> rfl)|(simp [*,errW_none,errW_some] <;> rfl),by repeat (first|(with_reducible first|exact HB.out|apply below_alloc|apply pw_below_drewN|apply below_drew1|refine below_set ?_ GE369.out|refine below_set ?_ GE386.out|refine below_set ?_ GE394.out|refine below_set ?_ GE403.out)|exact HB.out)⟩
        ·replace c94:=Bool.eq_false_iff.mpr c94
         subst c94
         have H1 : ((laws_markPlan.f kj63 t395 t396 t399 1).bind fun bt417=>((laws_heldPlan.f kj63 t395 bt417.2.1 bt417.2.2 1).bind fun t420=>(if t420 < 0 then (some false) else (if t420 = bt417.1 then ((laws_toPlan.f kj63 a0_0 l0_1 l0_2).bind fun bt421=>((impl_TrimPlan.f kj63 bt421.1 bt421.2.1 bt421.2.2).bind fun bt428=>((laws_eqPlan.f kj63 bt428.1 bt428.2.1 bt428.2.2.1 t378 t379 t382).bind fun t437=>(if t437 = true then (laws_FnExactTrimPlan.j2 kj63 bt417.1 (bt428.2.2.2 != t385) t395 bt417.2.1 bt417.2.2) else (laws_FnExactTrimPlan.j2 kj63 bt417.1 true t395 bt417.2.1 bt417.2.2))))) else (some false))))) = some r:=by rw [if_neg (show ¬ (false = true) by decide)] at H;exact H
         clear H
         have H:=H1
         clear H1
         replace H:=Option.bind_eq_some_iff.mp H
         obtain ⟨⟨t417,t418,t419⟩,A950,H⟩:=H
         replace H : ((laws_heldPlan.f kj63 t395 t418 t419 1).bind fun t420=>(if t420 < 0 then (some false) else (if t420 = t417 then ((laws_toPlan.f kj63 a0_0 l0_1 l0_2).bind fun bt421=>((impl_TrimPlan.f kj63 bt421.1 bt421.2.1 bt421.2.2).bind fun bt428=>((laws_eqPlan.f kj63 bt428.1 bt428.2.1 bt428.2.2.1 t378 t379 t382).bind fun t437=>(if t437 = true then (laws_FnExactTrimPlan.j2 kj63 t417 (bt428.2.2.2 != t385) t395 t418 t419) else (laws_FnExactTrimPlan.j2 kj63 t417 true t395 t418 t419))))) else (some false)))) = some r:=H
         have A95:=Aside0.mk A950
         clear A950
         replace H:=Option.bind_eq_some_iff.mp H
         obtain ⟨t420,A960,H⟩:=H
         replace H : (if t420 < 0 then (some false) else (if t420 = t417 then ((laws_toPlan.f kj63 a0_0 l0_1 l0_2).bind fun bt421=>((impl_TrimPlan.f kj63 bt421.1 bt421.2.1 bt421.2.2).bind fun bt428=>((laws_eqPlan.f kj63 bt428.1 bt428.2.1 bt428.2.2.1 t378 t379 t382).bind fun t437=>(if t437 = true then (laws_FnExactTrimPlan.j2 kj63 t417 (bt428.2.2.2 != t385) t395 t418 t419) else (laws_FnExactTrimPlan.j2 kj63 t417 true t395 t418 t419))))) else (some false))) = some r:=H
         have A96:=Aside0.mk A960
         clear A960
         by_cases c97 : t420 < 0
         ·rw [if_pos c97] at H
          have c97b0 : decide (t420 < 0) = true:=decide_eq_true c97
          clear c97
          obtain rfl:=Option.some.inj H
          have hnb98:=NB403_369.out
          have hnc98:=NB369_403.out
          have hnb99:=NB403_386.out
          have hnc99:=NB386_403.out
          have hnb100:=NB403_394.out
          have hnc100:=NB394_403.out
          have hcz101_0 : wc.cell? ⟨gb403,0,none⟩ = some (.int .i64 t395):=(blk_cell BK403.out 0).trans rfl
          have hcz101_1 : wc.cell? ⟨gb403,1,none⟩ = some (.slice Ao39 t396.length co39):=(blk_cell BK403.out 1).trans rfl
          have hcz101_2 : wc.cell? ⟨gb403,2,none⟩ = some (.slice Ao40 t399.length co40):=(blk_cell BK403.out 2).trans rfl
          have hfz101_0:=blk_frozen BK403.out 0
          have hfz101_1:=blk_frozen BK403.out 1
          have hfz101_2:=blk_frozen BK403.out 2
          go_wp2_with (first|((with_reducible refine gate_callee (f:=15) rfl ?_);refine goesL_ (some 64) rfl rfl Try.func15 (by kernel_rfl) rfl #[.agg #[.int .i64 t395,.slice Ao39 t396.length co39,.slice Ao40 t399.length co40],.int .i64 1] rfl (by (try simp only [List.map_toArray,List.map_cons,List.map_nil]);first|done|rfl|(simp only [List.length_drop,List.length_take];rfl)) ?_;(with_reducible refine (laws_markPlan.calls kj63 t395 (fun k_=>some k_ = (.slice Ao39 t396.length co39 : Value).ownBlock) (.slice Ao39 t396.length co39) t396 (fun k_=>some k_ = (.slice Ao40 t399.length co40 : Value).ownBlock) (.slice Ao40 t399.length co40) t399 1 t417 t418 t419 w _ ?side1 ?side2 ?side3 A95.out).mono ?_);(case side1=>repeat (first|(with_reducible first|exact HB.out|apply below_alloc|apply pw_below_drewN|apply below_drew1|refine below_set ?_ GE369.out|refine below_set ?_ GE386.out|refine below_set ?_ GE394.out|refine below_set ?_ GE403.out)|exact HB.out));(case side2=>exact Kd.R_tight rfl HO_404001.out);(case side3=>exact Kd.R_tight rfl HO_404002.out);rintro e w102 ⟨rfl,hy0,hy1,hb,hkp⟩;refine ⟨_,rfl,?_⟩;have n0_:=Aside0.mk (Kd.R_mono (ok':=fun k_=>some k_ ≠ (.slice Ao31 t414.length co31 : Value).ownBlock ∧ some k_ ≠ (.slice Ao39 t396.length co39 : Value).ownBlock) (Kd.R_keptB ((Kd.R_apart' HO_387001.out (Kd.R_typed HO_404002.out) (by decide))) hkp (fun k_ hk_ hs_=>Or.elim hs_ (fun e_=>(hk_.1.2) e_) (fun e_=>(hk_.2) e_))) (fun k_ hk_=>⟨hk_.1.1.1,hk_.1.1.2⟩));have n1_:=Aside0.mk (Kd.R_mono (ok':=fun k_=>some k_ ≠ (.slice Ao32 t415.length co32 : Value).ownBlock ∧ some k_ ≠ (.slice Ao40 t399.length co40 : Value).ownBlock) (Kd.R_keptB ((Kd.R_apart' HO_387002.out (Kd.R_typed HO_404001.out) (by decide))) hkp (fun k_ hk_ hs_=>Or.elim hs_ (fun e_=>(hk_.2) e_) (fun e_=>(hk_.1.2) e_))) (fun k_ hk_=>⟨hk_.1.1.1,hk_.1.1.2⟩));have n2_:=Aside0.mk (Kd.R_mono (ok':=fun k_=>some k_ ≠ (.slice Ao23 t379.length co23 : Value).ownBlock ∧ some k_ ≠ (.slice Ao39 t396.length co39 : Value).ownBlock) (Kd.R_keptB ((Kd.R_apart' HO_395001.out (Kd.R_typed HO_404002.out) (by decide))) hkp (fun k_ hk_ hs_=>Or.elim hs_ (fun e_=>(hk_.1.2) e_) (fun e_=>(hk_.2) e_))) (fun k_ hk_=>⟨hk_.1.1.1,hk_.1.1.2⟩));have n3_:=Aside0.mk (Kd.R_mono (ok':=fun k_=>some k_ ≠ (.slice Ao24 t382.length co24 : Value).ownBlock ∧ some k_ ≠ (.slice Ao40 t399.length co40 : Value).ownBlock) (Kd.R_keptB ((Kd.R_apart' HO_395002.out (Kd.R_typed HO_404001.out) (by decide))) hkp (fun k_ hk_ hs_=>Or.elim hs_ (fun e_=>(hk_.2) e_) (fun e_=>(hk_.1.2) e_))) (fun k_ hk_=>⟨hk_.1.1.1,hk_.1.1.2⟩));have n4_:=Aside0.mk (Kd.R_reok rfl hy0 (fun k_ e_=>HO_404001.out.1 k_ e_));have n5_:=Aside0.mk (Kd.R_reok rfl hy1 (fun k_ e_=>HO_404002.out.1 k_ e_));have n6_:=Aside0.mk (blk_kept (by (with_reducible repeat (first|refine blk_drewN ?_ _|refine blk_drew ?_|refine blk_alloc ?_ _));exact BK369.out) hkp (fun hs_=>Or.elim hs_ (fun e_=>(fun e_=>(Kd.R_ne HO_404001.out BK369.out (by decide)) e_) e_) (fun e_=>(fun e_=>(Kd.R_ne HO_404002.out BK369.out (by decide)) e_) e_)));have n7_:=Aside0.mk (blk_kept (by (with_reducible repeat (first|refine blk_drewN ?_ _|refine blk_drew ?_|refine blk_alloc ?_ _));exact BK386.out) hkp (fun hs_=>Or.elim hs_ (fun e_=>(fun e_=>(Kd.R_ne HO_404001.out BK386.out (by decide)) e_) e_) (fun e_=>(fun e_=>(Kd.R_ne HO_404002.out BK386.out (by decide)) e_) e_)));have n8_:=Aside0.mk (blk_kept (by (with_reducible repeat (first|refine blk_drewN ?_ _|refine blk_drew ?_|refine blk_alloc ?_ _));exact BK394.out) hkp (fun hs_=>Or.elim hs_ (fun e_=>(fun e_=>(Kd.R_ne HO_404001.out BK394.out (by decide)) e_) e_) (fun e_=>(fun e_=>(Kd.R_ne HO_404002.out BK394.out (by decide)) e_) e_)));have n9_:=Aside0.mk (blk_kept (by (with_reducible repeat (first|refine blk_drewN ?_ _|refine blk_drew ?_|refine blk_alloc ?_ _));exact BK403.out) hkp (fun hs_=>Or.elim hs_ (fun e_=>(fun e_=>(Kd.R_ne HO_404001.out BK403.out (by decide)) e_) e_) (fun e_=>(fun e_=>(Kd.R_ne HO_404002.out BK403.out (by decide)) e_) e_)));have n10_:=Aside0.mk (hb);clear HO_387001;clear HO_387002;clear HO_395001;clear HO_395002;clear HO_404001;clear HO_404002;clear BK369;clear BK386;clear BK394;clear BK403;clear HB;have HO_387001:=n0_;have HO_387002:=n1_;have HO_395001:=n2_;have HO_395002:=n3_;have HO_404001:=n4_;have HO_404002:=n5_;have BK369:=n6_;have BK386:=n7_;have BK394:=n8_;have BK403:=n9_;have HB:=n10_;clear n0_ n1_ n2_ n3_ n4_ n5_ n6_ n7_ n8_ n9_ n10_;(try clear hb);(try clear hkp);(try clear hy0);(try clear hy1);have hcz103_0 : w102.cell? ⟨gb403,0,none⟩ = some (.int .i64 t395):=(blk_cell BK403.out 0).trans rfl;have hcz103_1 : w102.cell? ⟨gb403,1,none⟩ = some (.slice Ao39 t396.length co39):=(blk_cell BK403.out 1).trans rfl;have hcz103_2 : w102.cell? ⟨gb403,2,none⟩ = some (.slice Ao40 t399.length co40):=(blk_cell BK403.out 2).trans rfl;have hfz103_0:=blk_frozen BK403.out 0;have hfz103_1:=blk_frozen BK403.out 1;have hfz103_2:=blk_frozen BK403.out 2)|((with_reducible refine gate_callee (f:=16) rfl ?_);refine goesL_ (some 67) rfl rfl Try.func16 (by kernel_rfl) rfl #[.agg #[.int .i64 t395,.slice Ao39 t418.length co39,.slice Ao40 t419.length co40],.int .i64 1] rfl (by (try simp only [List.map_toArray,List.map_cons,List.map_nil]);first|done|(rw [show t418.length = t396.length from (Kd.R_reads' HO_404001.out).1.symm,show t419.length = t399.length from (Kd.R_reads' HO_404002.out).1.symm] <;> rfl)|rfl|(simp only [List.length_drop,List.length_take];rfl)) ?_;(with_reducible refine (laws_heldPlan.calls kj63 t395 _ _ t418 _ _ t419 1 t420 _ ?side1 ?side2 ?side3 ?side4 A96.out).mono ?_);(case side1=>repeat (first|exact (Kd.R_reads' HO_404001.out).2.2|(with_reducible refine Kd.C_alloc ?_ _)|(with_reducible refine Kd.C_drewN ?_ _)|(with_reducible refine Kd.C_drew ?_)));(case side2=>rw [show t418.length = t396.length from (Kd.R_reads' HO_404001.out).1.symm];exact (Kd.R_reads' HO_404001.out).2.1);(case side3=>repeat (first|exact (Kd.R_reads' HO_404002.out).2.2|(with_reducible refine Kd.C_alloc ?_ _)|(with_reducible refine Kd.C_drewN ?_ _)|(with_reducible refine Kd.C_drew ?_)));(case side4=>rw [show t419.length = t399.length from (Kd.R_reads' HO_404002.out).1.symm];exact (Kd.R_reads' HO_404002.out).2.1);rintro e w104 ⟨rfl,hb⟩;refine ⟨_,rfl,?_⟩;have n0_:=Aside0.mk (Kd.R_below (by (with_reducible repeat (first|apply Kd.R_alloc|apply Kd.R_drewN|apply Kd.R_drew));exact HO_387001.out) hb);have n1_:=Aside0.mk (Kd.R_below (by (with_reducible repeat (first|apply Kd.R_alloc|apply Kd.R_drewN|apply Kd.R_drew));exact HO_387002.out) hb);have n2_:=Aside0.mk (Kd.R_below (by (with_reducible repeat (first|apply Kd.R_alloc|apply Kd.R_drewN|apply Kd.R_drew));exact HO_395001.out) hb);have n3_:=Aside0.mk (Kd.R_below (by (with_reducible repeat (first|apply Kd.R_alloc|apply Kd.R_drewN|apply Kd.R_drew));exact HO_395002.out) hb);have n4_:=Aside0.mk (Kd.R_below (by (with_reducible repeat (first|apply Kd.R_alloc|apply Kd.R_drewN|apply Kd.R_drew));exact HO_404001.out) hb);have n5_:=Aside0.mk (Kd.R_below (by (with_reducible repeat (first|apply Kd.R_alloc|apply Kd.R_drewN|apply Kd.R_drew));exact HO_404002.out) hb);have n6_:=Aside0.mk (blk_below (g:=gb369) (o:=.cells #[.int .i64 a0_0,.slice A0_1 l0_1.length c0_1,.slice A0_2 l0_2.length c0_2] 25 (0,0)) (by (with_reducible repeat (first|refine blk_drewN ?_ _|refine blk_drew ?_|refine blk_alloc ?_ _));exact BK369.out) hb);have n7_:=Aside0.mk (blk_below (g:=gb386) (o:=.cells #[.int .i64 t378,.slice Ao23 t379.length co23,.slice Ao24 t382.length co24] 29 (0,0)) (by (with_reducible repeat (first|refine blk_drewN ?_ _|refine blk_drew ?_|refine blk_alloc ?_ _));exact BK386.out) hb);have n8_:=Aside0.mk (blk_below (g:=gb394) (o:=.cells #[.int .i64 t387,.slice Ao31 t414.length co31,.slice Ao32 t415.length co32] 29 (0,0)) (by (with_reducible repeat (first|refine blk_drewN ?_ _|refine blk_drew ?_|refine blk_alloc ?_ _));exact BK394.out) hb);have n9_:=Aside0.mk (blk_below (g:=gb403) (o:=.cells #[.int .i64 t395,.slice Ao39 t396.length co39,.slice Ao40 t399.length co40] 29 (0,0)) (by (with_reducible repeat (first|refine blk_drewN ?_ _|refine blk_drew ?_|refine blk_alloc ?_ _));exact BK403.out) hb);have n10_:=Aside0.mk (below_step (by repeat (first|(with_reducible first|exact HB.out|apply below_alloc|apply pw_below_drewN|apply below_drew1|refine below_set ?_ GE369.out|refine below_set ?_ GE386.out|refine below_set ?_ GE394.out|refine below_set ?_ GE403.out)|exact HB.out)) hb);clear HO_387001;clear HO_387002;clear HO_395001;clear HO_395002;clear HO_404001;clear HO_404002;clear BK369;clear BK386;clear BK394;clear BK403;clear HB;have HO_387001:=n0_;have HO_387002:=n1_;have HO_395001:=n2_;have HO_395002:=n3_;have HO_404001:=n4_;have HO_404002:=n5_;have BK369:=n6_;have BK386:=n7_;have BK394:=n8_;have BK403:=n9_;have HB:=n10_;clear n0_ n1_ n2_ n3_ n4_ n5_ n6_ n7_ n8_ n9_ n10_;(try clear hb)))
          go_ret
          exact ⟨by first|rfl|(simp [errW_none,errW_some] <;> rfl)|(simp [*,errW_none,errW_some] <;> rfl),by repeat (first|(with_reducible first|exact HB.out|apply below_alloc|apply pw_below_drewN|apply below_drew1|refine below_set ?_ GE369.out|refine below_set ?_ GE386.out|refine below_set ?_ GE394.out|refine below_set ?_ GE403.out)|exact HB.out)⟩
         ·rw [if_neg c97] at H
          have c97b0 : decide (t420 < 0) = false:=decide_eq_false c97
          clear c97
          by_cases c105 : t420 = t417
          ·rw [if_pos c105] at H
           have c105b0 : (t420 == t417) = true:=beq_iff_eq.mpr c105
           have c105b1 : (t420 != t417) = false:=bne_eq_false_iff_eq.mpr c105
           clear c105
           replace H:=Option.bind_eq_some_iff.mp H
           obtain ⟨⟨t421,t422,t425⟩,A1060,H⟩:=H
           replace H : ((impl_TrimPlan.f kj63 t421 t422 t425).bind fun bt428=>((laws_eqPlan.f kj63 bt428.1 bt428.2.1 bt428.2.2.1 t378 t379 t382).bind fun t437=>(if t437 = true then (laws_FnExactTrimPlan.j2 kj63 t417 (bt428.2.2.2 != t385) t395 t418 t419) else (laws_FnExactTrimPlan.j2 kj63 t417 true t395 t418 t419)))) = some r:=H
           have A106:=Aside0.mk A1060
           clear A1060
           replace H:=Option.bind_eq_some_iff.mp H
           obtain ⟨⟨t428,t429,t432,t435⟩,A1070,H⟩:=H
           replace H : ((laws_eqPlan.f kj63 t428 t429 t432 t378 t379 t382).bind fun t437=>(if t437 = true then (laws_FnExactTrimPlan.j2 kj63 t417 (t435 != t385) t395 t418 t419) else (laws_FnExactTrimPlan.j2 kj63 t417 true t395 t418 t419))) = some r:=H
           have A107:=Aside0.mk A1070
           clear A1070
           have HC108:=Aside0.mk H
           clear H
           have hnb109:=NB403_369.out
           have hnc109:=NB369_403.out
           have hnb110:=NB403_386.out
           have hnc110:=NB386_403.out
           have hnb111:=NB403_394.out
           have hnc111:=NB394_403.out
           have hcz112_0 : wc.cell? ⟨gb403,0,none⟩ = some (.int .i64 t395):=(blk_cell BK403.out 0).trans rfl
           have hcz112_1 : wc.cell? ⟨gb403,1,none⟩ = some (.slice Ao39 t396.length co39):=(blk_cell BK403.out 1).trans rfl
           have hcz112_2 : wc.cell? ⟨gb403,2,none⟩ = some (.slice Ao40 t399.length co40):=(blk_cell BK403.out 2).trans rfl
           have hfz112_0:=blk_frozen BK403.out 0
           have hfz112_1:=blk_frozen BK403.out 1
           have hfz112_2:=blk_frozen BK403.out 2
           go_upto_region 25 with (first|((with_reducible refine gate_callee (f:=15) rfl ?_);refine goesL_ (some 64) rfl rfl Try.func15 (by kernel_rfl) rfl #[.agg #[.int .i64 t395,.slice Ao39 t396.length co39,.slice Ao40 t399.length co40],.int .i64 1] rfl (by (try simp only [List.map_toArray,List.map_cons,List.map_nil]);first|done|rfl|(simp only [List.length_drop,List.length_take];rfl)) ?_;(with_reducible refine (laws_markPlan.calls kj63 t395 (fun k_=>some k_ = (.slice Ao39 t396.length co39 : Value).ownBlock) (.slice Ao39 t396.length co39) t396 (fun k_=>some k_ = (.slice Ao40 t399.length co40 : Value).ownBlock) (.slice Ao40 t399.length co40) t399 1 t417 t418 t419 w _ ?side1 ?side2 ?side3 A95.out).mono ?_);(case side1=>repeat (first|(with_reducible first|exact HB.out|apply below_alloc|apply pw_below_drewN|apply below_drew1|refine below_set ?_ GE369.out|refine below_set ?_ GE386.out|refine below_set ?_ GE394.out|refine below_set ?_ GE403.out)|exact HB.out));(case side2=>exact Kd.R_tight rfl HO_404001.out);(case side3=>exact Kd.R_tight rfl HO_404002.out);rintro e w113 ⟨rfl,hy0,hy1,hb,hkp⟩;refine ⟨_,rfl,?_⟩;have n0_:=Aside0.mk (Kd.R_mono (ok':=fun k_=>some k_ ≠ (.slice Ao31 t414.length co31 : Value).ownBlock ∧ some k_ ≠ (.slice Ao39 t396.length co39 : Value).ownBlock) (Kd.R_keptB ((Kd.R_apart' HO_387001.out (Kd.R_typed HO_404002.out) (by decide))) hkp (fun k_ hk_ hs_=>Or.elim hs_ (fun e_=>(hk_.1.2) e_) (fun e_=>(hk_.2) e_))) (fun k_ hk_=>⟨hk_.1.1.1,hk_.1.1.2⟩));have n1_:=Aside0.mk (Kd.R_mono (ok':=fun k_=>some k_ ≠ (.slice Ao32 t415.length co32 : Value).ownBlock ∧ some k_ ≠ (.slice Ao40 t399.length co40 : Value).ownBlock) (Kd.R_keptB ((Kd.R_apart' HO_387002.out (Kd.R_typed HO_404001.out) (by decide))) hkp (fun k_ hk_ hs_=>Or.elim hs_ (fun e_=>(hk_.2) e_) (fun e_=>(hk_.1.2) e_))) (fun k_ hk_=>⟨hk_.1.1.1,hk_.1.1.2⟩));have n2_:=Aside0.mk (Kd.R_mono (ok':=fun k_=>some k_ ≠ (.slice Ao23 t379.length co23 : Value).ownBlock ∧ some k_ ≠ (.slice Ao39 t396.length co39 : Value).ownBlock) (Kd.R_keptB ((Kd.R_apart' HO_395001.out (Kd.R_typed HO_404002.out) (by decide))) hkp (fun k_ hk_ hs_=>Or.elim hs_ (fun e_=>(hk_.1.2) e_) (fun e_=>(hk_.2) e_))) (fun k_ hk_=>⟨hk_.1.1.1,hk_.1.1.2⟩));have n3_:=Aside0.mk (Kd.R_mono (ok':=fun k_=>some k_ ≠ (.slice Ao24 t382.length co24 : Value).ownBlock ∧ some k_ ≠ (.slice Ao40 t399.length co40 : Value).ownBlock) (Kd.R_keptB ((Kd.R_apart' HO_395002.out (Kd.R_typed HO_404001.out) (by decide))) hkp (fun k_ hk_ hs_=>Or.elim hs_ (fun e_=>(hk_.2) e_) (fun e_=>(hk_.1.2) e_))) (fun k_ hk_=>⟨hk_.1.1.1,hk_.1.1.2⟩));have n4_:=Aside0.mk (Kd.R_reok rfl hy0 (fun k_ e_=>HO_404001.out.1 k_ e_));have n5_:=Aside0.mk (Kd.R_reok rfl hy1 (fun k_ e_=>HO_404002.out.1 k_ e_));have n6_:=Aside0.mk (blk_kept (by (with_reducible repeat (first|refine blk_drewN ?_ _|refine blk_drew ?_|refine blk_alloc ?_ _));exact BK369.out) hkp (fun hs_=>Or.elim hs_ (fun e_=>(fun e_=>(Kd.R_ne HO_404001.out BK369.out (by decide)) e_) e_) (fun e_=>(fun e_=>(Kd.R_ne HO_404002.out BK369.out (by decide)) e_) e_)));have n7_:=Aside0.mk (blk_kept (by (with_reducible repeat (first|refine blk_drewN ?_ _|refine blk_drew ?_|refine blk_alloc ?_ _));exact BK386.out) hkp (fun hs_=>Or.elim hs_ (fun e_=>(fun e_=>(Kd.R_ne HO_404001.out BK386.out (by decide)) e_) e_) (fun e_=>(fun e_=>(Kd.R_ne HO_404002.out BK386.out (by decide)) e_) e_)));have n8_:=Aside0.mk (blk_kept (by (with_reducible repeat (first|refine blk_drewN ?_ _|refine blk_drew ?_|refine blk_alloc ?_ _));exact BK394.out) hkp (fun hs_=>Or.elim hs_ (fun e_=>(fun e_=>(Kd.R_ne HO_404001.out BK394.out (by decide)) e_) e_) (fun e_=>(fun e_=>(Kd.R_ne HO_404002.out BK394.out (by decide)) e_) e_)));have n9_:=Aside0.mk (blk_kept (by (with_reducible repeat (first|refine blk_drewN ?_ _|refine blk_drew ?_|refine blk_alloc ?_ _));exact BK403.out) hkp (fun hs_=>Or.elim hs_ (fun e_=>(fun e_=>(Kd.R_ne HO_404001.out BK403.out (by decide)) e_) e_) (fun e_=>(fun e_=>(Kd.R_ne HO_404002.out BK403.out (by decide)) e_) e_)));have n10_:=Aside0.mk (hb);clear HO_387001;clear HO_387002;clear HO_395001;clear HO_395002;clear HO_404001;clear HO_404002;clear BK369;clear BK386;clear BK394;clear BK403;clear HB;have HO_387001:=n0_;have HO_387002:=n1_;have HO_395001:=n2_;have HO_395002:=n3_;have HO_404001:=n4_;have HO_404002:=n5_;have BK369:=n6_;have BK386:=n7_;have BK394:=n8_;have BK403:=n9_;have HB:=n10_;clear n0_ n1_ n2_ n3_ n4_ n5_ n6_ n7_ n8_ n9_ n10_;(try clear hb);(try clear hkp);(try clear hy0);(try clear hy1);have hcz114_0 : w113.cell? ⟨gb403,0,none⟩ = some (.int .i64 t395):=(blk_cell BK403.out 0).trans rfl;have hcz114_1 : w113.cell? ⟨gb403,1,none⟩ = some (.slice Ao39 t396.length co39):=(blk_cell BK403.out 1).trans rfl;have hcz114_2 : w113.cell? ⟨gb403,2,none⟩ = some (.slice Ao40 t399.length co40):=(blk_cell BK403.out 2).trans rfl;have hfz114_0:=blk_frozen BK403.out 0;have hfz114_1:=blk_frozen BK403.out 1;have hfz114_2:=blk_frozen BK403.out 2)|((with_reducible refine gate_callee (f:=16) rfl ?_);refine goesL_ (some 67) rfl rfl Try.func16 (by kernel_rfl) rfl #[.agg #[.int .i64 t395,.slice Ao39 t418.length co39,.slice Ao40 t419.length co40],.int .i64 1] rfl (by (try simp only [List.map_toArray,List.map_cons,List.map_nil]);first|done|(rw [show t418.length = t396.length from (Kd.R_reads' HO_404001.out).1.symm,show t419.length = t399.length from (Kd.R_reads' HO_404002.out).1.symm] <;> rfl)|rfl|(simp only [List.length_drop,List.length_take];rfl)) ?_;(with_reducible refine (laws_heldPlan.calls kj63 t395 _ _ t418 _ _ t419 1 t420 _ ?side1 ?side2 ?side3 ?side4 A96.out).mono ?_);(case side1=>repeat (first|exact (Kd.R_reads' HO_404001.out).2.2|(with_reducible refine Kd.C_alloc ?_ _)|(with_reducible refine Kd.C_drewN ?_ _)|(with_reducible refine Kd.C_drew ?_)));(case side2=>rw [show t418.length = t396.length from (Kd.R_reads' HO_404001.out).1.symm];exact (Kd.R_reads' HO_404001.out).2.1);(case side3=>repeat (first|exact (Kd.R_reads' HO_404002.out).2.2|(with_reducible refine Kd.C_alloc ?_ _)|(with_reducible refine Kd.C_drewN ?_ _)|(with_reducible refine Kd.C_drew ?_)));(case side4=>rw [show t419.length = t399.length from (Kd.R_reads' HO_404002.out).1.symm];exact (Kd.R_reads' HO_404002.out).2.1);rintro e w115 ⟨rfl,hb⟩;refine ⟨_,rfl,?_⟩;have n0_:=Aside0.mk (Kd.R_below (by (with_reducible repeat (first|apply Kd.R_alloc|apply Kd.R_drewN|apply Kd.R_drew));exact HO_387001.out) hb);have n1_:=Aside0.mk (Kd.R_below (by (with_reducible repeat (first|apply Kd.R_alloc|apply Kd.R_drewN|apply Kd.R_drew));exact HO_387002.out) hb);have n2_:=Aside0.mk (Kd.R_below (by (with_reducible repeat (first|apply Kd.R_alloc|apply Kd.R_drewN|apply Kd.R_drew));exact HO_395001.out) hb);have n3_:=Aside0.mk (Kd.R_below (by (with_reducible repeat (first|apply Kd.R_alloc|apply Kd.R_drewN|apply Kd.R_drew));exact HO_395002.out) hb);have n4_:=Aside0.mk (Kd.R_below (by (with_reducible repeat (first|apply Kd.R_alloc|apply Kd.R_drewN|apply Kd.R_drew));exact HO_404001.out) hb);have n5_:=Aside0.mk (Kd.R_below (by (with_reducible repeat (first|apply Kd.R_alloc|apply Kd.R_drewN|apply Kd.R_drew));exact HO_404002.out) hb);have n6_:=Aside0.mk (blk_below (g:=gb369) (o:=.cells #[.int .i64 a0_0,.slice A0_1 l0_1.length c0_1,.slice A0_2 l0_2.length c0_2] 25 (0,0)) (by (with_reducible repeat (first|refine blk_drewN ?_ _|refine blk_drew ?_|refine blk_alloc ?_ _));exact BK369.out) hb);have n7_:=Aside0.mk (blk_below (g:=gb386) (o:=.cells #[.int .i64 t378,.slice Ao23 t379.length co23,.slice Ao24 t382.length co24] 29 (0,0)) (by (with_reducible repeat (first|refine blk_drewN ?_ _|refine blk_drew ?_|refine blk_alloc ?_ _));exact BK386.out) hb);have n8_:=Aside0.mk (blk_below (g:=gb394) (o:=.cells #[.int .i64 t387,.slice Ao31 t414.length co31,.slice Ao32 t415.length co32] 29 (0,0)) (by (with_reducible repeat (first|refine blk_drewN ?_ _|refine blk_drew ?_|refine blk_alloc ?_ _));exact BK394.out) hb);have n9_:=Aside0.mk (blk_below (g:=gb403) (o:=.cells #[.int .i64 t395,.slice Ao39 t396.length co39,.slice Ao40 t399.length co40] 29 (0,0)) (by (with_reducible repeat (first|refine blk_drewN ?_ _|refine blk_drew ?_|refine blk_alloc ?_ _));exact BK403.out) hb);have n10_:=Aside0.mk (below_step (by repeat (first|(with_reducible first|exact HB.out|apply below_alloc|apply pw_below_drewN|apply below_drew1|refine below_set ?_ GE369.out|refine below_set ?_ GE386.out|refine below_set ?_ GE394.out|refine below_set ?_ GE403.out)|exact HB.out)) hb);clear HO_387001;clear HO_387002;clear HO_395001;clear HO_395002;clear HO_404001;clear HO_404002;clear BK369;clear BK386;clear BK394;clear BK403;clear HB;have HO_387001:=n0_;have HO_387002:=n1_;have HO_395001:=n2_;have HO_395002:=n3_;have HO_404001:=n4_;have HO_404002:=n5_;have BK369:=n6_;have BK386:=n7_;have BK394:=n8_;have BK403:=n9_;have HB:=n10_;clear n0_ n1_ n2_ n3_ n4_ n5_ n6_ n7_ n8_ n9_ n10_;(try clear hb);have hnb116:=NB369_386.out;have hnc116:=NB386_369.out;have hnb117:=NB369_394.out;have hnc117:=NB394_369.out;have hcz118_0 : w115.cell? ⟨gb369,0,none⟩ = some (.int .i64 a0_0):=(blk_cell BK369.out 0).trans rfl;have hcz118_1 : w115.cell? ⟨gb369,1,none⟩ = some (.slice A0_1 l0_1.length c0_1):=(blk_cell BK369.out 1).trans rfl;have hcz118_2 : w115.cell? ⟨gb369,2,none⟩ = some (.slice A0_2 l0_2.length c0_2):=(blk_cell BK369.out 2).trans rfl;have hfz118_0:=blk_frozen BK369.out 0;have hfz118_1:=blk_frozen BK369.out 1;have hfz118_2:=blk_frozen BK369.out 2)|((with_reducible refine gate_callee (f:=12) rfl ?_);refine goesL_ (some 75) rfl rfl Try.func12 (by kernel_rfl) rfl #[.agg #[.int .i64 a0_0,.slice A0_1 l0_1.length c0_1,.slice A0_2 l0_2.length c0_2]] rfl (by (try simp only [List.map_toArray,List.map_cons,List.map_nil]);first|done|rfl|(simp only [List.length_drop,List.length_take];rfl)) ?_;(with_reducible refine (laws_toPlan.calls kj63 a0_0 _ _ l0_1 _ _ l0_2 t421 t422 t425 _ ?side1 ?side2 ?side3 ?side4 A106.out).mono ?_);(case side1=>repeat (first|exact (Kd.C_below HR0_1.out HB.out)|(with_reducible refine Kd.C_alloc ?_ _)|(with_reducible refine Kd.C_drewN ?_ _)|(with_reducible refine Kd.C_drew ?_)));(case side2=>exact HC0_1.out);(case side3=>repeat (first|exact (Kd.C_below HR0_2.out HB.out)|(with_reducible refine Kd.C_alloc ?_ _)|(with_reducible refine Kd.C_drewN ?_ _)|(with_reducible refine Kd.C_drew ?_)));(case side4=>exact HC0_2.out);rintro e w119 ⟨v423,v426,rfl,ho0,ho1,hb⟩;refine ⟨_,rfl,?_⟩;have n0_:=Aside0.mk (Kd.R_elder' (by (with_reducible repeat (first|apply Kd.R_alloc|apply Kd.R_drewN|apply Kd.R_drew));exact HO_387001.out) (Kd.R_base ho0) hb);have n1_:=Aside0.mk (Kd.R_elder' (by (with_reducible repeat (first|apply Kd.R_alloc|apply Kd.R_drewN|apply Kd.R_drew));exact HO_387002.out) (Kd.R_base ho1) hb);have n2_:=Aside0.mk (Kd.R_elder' (by (with_reducible repeat (first|apply Kd.R_alloc|apply Kd.R_drewN|apply Kd.R_drew));exact HO_395001.out) (Kd.R_base ho0) hb);have n3_:=Aside0.mk (Kd.R_elder' (by (with_reducible repeat (first|apply Kd.R_alloc|apply Kd.R_drewN|apply Kd.R_drew));exact HO_395002.out) (Kd.R_base ho1) hb);have n4_:=Aside0.mk (Kd.R_elder' (by (with_reducible repeat (first|apply Kd.R_alloc|apply Kd.R_drewN|apply Kd.R_drew));exact HO_404001.out) (Kd.R_base ho0) hb);have n5_:=Aside0.mk (Kd.R_elder' (by (with_reducible repeat (first|apply Kd.R_alloc|apply Kd.R_drewN|apply Kd.R_drew));exact HO_404002.out) (Kd.R_base ho1) hb);have n6_:=Aside0.mk (Kd.R_lower (Kd.R_new' (Kd.R_new' (Kd.R_new' ho0 (Kd.R_lt (by (with_reducible repeat (first|apply Kd.R_alloc|apply Kd.R_drewN|apply Kd.R_drew));exact HO_387001.out))) (Kd.R_lt (by (with_reducible repeat (first|apply Kd.R_alloc|apply Kd.R_drewN|apply Kd.R_drew));exact HO_395001.out))) (Kd.R_lt (by (with_reducible repeat (first|apply Kd.R_alloc|apply Kd.R_drewN|apply Kd.R_drew));exact HO_404001.out))) (below_size (by repeat (first|(with_reducible first|exact HB.out|apply below_alloc|apply pw_below_drewN|apply below_drew1|refine below_set ?_ GE369.out|refine below_set ?_ GE386.out|refine below_set ?_ GE394.out|refine below_set ?_ GE403.out)|exact HB.out))));have n7_:=Aside0.mk (Kd.R_lower (Kd.R_new' (Kd.R_new' (Kd.R_new' ho1 (Kd.R_lt (by (with_reducible repeat (first|apply Kd.R_alloc|apply Kd.R_drewN|apply Kd.R_drew));exact HO_387002.out))) (Kd.R_lt (by (with_reducible repeat (first|apply Kd.R_alloc|apply Kd.R_drewN|apply Kd.R_drew));exact HO_395002.out))) (Kd.R_lt (by (with_reducible repeat (first|apply Kd.R_alloc|apply Kd.R_drewN|apply Kd.R_drew));exact HO_404002.out))) (below_size (by repeat (first|(with_reducible first|exact HB.out|apply below_alloc|apply pw_below_drewN|apply below_drew1|refine below_set ?_ GE369.out|refine below_set ?_ GE386.out|refine below_set ?_ GE394.out|refine below_set ?_ GE403.out)|exact HB.out))));have n8_:=Aside0.mk (blk_below (g:=gb369) (o:=.cells #[.int .i64 a0_0,.slice A0_1 l0_1.length c0_1,.slice A0_2 l0_2.length c0_2] 25 (0,0)) (by (with_reducible repeat (first|refine blk_drewN ?_ _|refine blk_drew ?_|refine blk_alloc ?_ _));exact BK369.out) hb);have n9_:=Aside0.mk (blk_below (g:=gb386) (o:=.cells #[.int .i64 t378,.slice Ao23 t379.length co23,.slice Ao24 t382.length co24] 29 (0,0)) (by (with_reducible repeat (first|refine blk_drewN ?_ _|refine blk_drew ?_|refine blk_alloc ?_ _));exact BK386.out) hb);have n10_:=Aside0.mk (blk_below (g:=gb394) (o:=.cells #[.int .i64 t387,.slice Ao31 t414.length co31,.slice Ao32 t415.length co32] 29 (0,0)) (by (with_reducible repeat (first|refine blk_drewN ?_ _|refine blk_drew ?_|refine blk_alloc ?_ _));exact BK394.out) hb);have n11_:=Aside0.mk (blk_below (g:=gb403) (o:=.cells #[.int .i64 t395,.slice Ao39 t396.length co39,.slice Ao40 t399.length co40] 29 (0,0)) (by (with_reducible repeat (first|refine blk_drewN ?_ _|refine blk_drew ?_|refine blk_alloc ?_ _));exact BK403.out) hb);have n12_:=Aside0.mk (below_step (by repeat (first|(with_reducible first|exact HB.out|apply below_alloc|apply pw_below_drewN|apply below_drew1|refine below_set ?_ GE369.out|refine below_set ?_ GE386.out|refine below_set ?_ GE394.out|refine below_set ?_ GE403.out)|exact HB.out)) hb);clear HO_387001;clear HO_387002;clear HO_395001;clear HO_395002;clear HO_404001;clear HO_404002;clear BK369;clear BK386;clear BK394;clear BK403;clear HB;have HO_387001:=n0_;have HO_387002:=n1_;have HO_395001:=n2_;have HO_395002:=n3_;have HO_404001:=n4_;have HO_404002:=n5_;have HO424:=n6_;have HO427:=n7_;have BK369:=n8_;have BK386:=n9_;have BK394:=n10_;have BK403:=n11_;have HB:=n12_;clear n0_ n1_ n2_ n3_ n4_ n5_ n6_ n7_ n8_ n9_ n10_ n11_ n12_;(try clear hb);(try clear ho0);(try clear ho1);obtain ⟨Ao120,co120,eo120⟩:=Kd.R_slice HO424.out;subst eo120;obtain ⟨Ao121,co121,eo121⟩:=Kd.R_slice HO427.out;subst eo121)|((with_reducible refine gate_callee (f:=23) rfl ?_);refine goesL_ (some 76) rfl rfl Try.func23 (by kernel_rfl) rfl #[.agg #[.int .i64 t421,.slice Ao120 t422.length co120,.slice Ao121 t425.length co121]] rfl (by (try simp only [List.map_toArray,List.map_cons,List.map_nil]);first|done|rfl|(simp only [List.length_drop,List.length_take];rfl)) ?_;(with_reducible refine (impl_TrimPlan.calls kj63 t421 _ _ t422 _ _ t425 t428 t429 t432 t435 _ ?side1 ?side2 ?side3 ?side4 A107.out).mono ?_);(case side1=>repeat (first|exact (Kd.R_reads' HO424.out).2.2|(with_reducible refine Kd.C_alloc ?_ _)|(with_reducible refine Kd.C_drewN ?_ _)|(with_reducible refine Kd.C_drew ?_)));(case side2=>exact (Kd.R_reads' HO424.out).2.1);(case side3=>repeat (first|exact (Kd.R_reads' HO427.out).2.2|(with_reducible refine Kd.C_alloc ?_ _)|(with_reducible refine Kd.C_drewN ?_ _)|(with_reducible refine Kd.C_drew ?_)));(case side4=>exact (Kd.R_reads' HO427.out).2.1);rintro e w122 ⟨v430,v433,rfl,ho0,ho1,hb⟩;refine ⟨_,rfl,?_⟩;have n0_:=Aside0.mk (Kd.R_elder' (by (with_reducible repeat (first|apply Kd.R_alloc|apply Kd.R_drewN|apply Kd.R_drew));exact HO_387001.out) (Kd.R_base ho0) hb);have n1_:=Aside0.mk (Kd.R_elder' (by (with_reducible repeat (first|apply Kd.R_alloc|apply Kd.R_drewN|apply Kd.R_drew));exact HO_387002.out) (Kd.R_base ho1) hb);have n2_:=Aside0.mk (Kd.R_elder' (by (with_reducible repeat (first|apply Kd.R_alloc|apply Kd.R_drewN|apply Kd.R_drew));exact HO_395001.out) (Kd.R_base ho0) hb);have n3_:=Aside0.mk (Kd.R_elder' (by (with_reducible repeat (first|apply Kd.R_alloc|apply Kd.R_drewN|apply Kd.R_drew));exact HO_395002.out) (Kd.R_base ho1) hb);have n4_:=Aside0.mk (Kd.R_elder' (by (with_reducible repeat (first|apply Kd.R_alloc|apply Kd.R_drewN|apply Kd.R_drew));exact HO_404001.out) (Kd.R_base ho0) hb);have n5_:=Aside0.mk (Kd.R_elder' (by (with_reducible repeat (first|apply Kd.R_alloc|apply Kd.R_drewN|apply Kd.R_drew));exact HO_404002.out) (Kd.R_base ho1) hb);have n6_:=Aside0.mk (Kd.R_elder' (by (with_reducible repeat (first|apply Kd.R_alloc|apply Kd.R_drewN|apply Kd.R_drew));exact HO424.out) (Kd.R_base ho0) hb);have n7_:=Aside0.mk (Kd.R_elder' (by (with_reducible repeat (first|apply Kd.R_alloc|apply Kd.R_drewN|apply Kd.R_drew));exact HO427.out) (Kd.R_base ho1) hb);have n8_:=Aside0.mk (Kd.R_lower (Kd.R_new' (Kd.R_new' (Kd.R_new' (Kd.R_new' ho0 (Kd.R_lt (by (with_reducible repeat (first|apply Kd.R_alloc|apply Kd.R_drewN|apply Kd.R_drew));exact HO_387001.out))) (Kd.R_lt (by (with_reducible repeat (first|apply Kd.R_alloc|apply Kd.R_drewN|apply Kd.R_drew));exact HO_395001.out))) (Kd.R_lt (by (with_reducible repeat (first|apply Kd.R_alloc|apply Kd.R_drewN|apply Kd.R_drew));exact HO_404001.out))) (Kd.R_lt (by (with_reducible repeat (first|apply Kd.R_alloc|apply Kd.R_drewN|apply Kd.R_drew));exact HO424.out))) (below_size (by repeat (first|(with_reducible first|exact HB.out|apply below_alloc|apply pw_below_drewN|apply below_drew1|refine below_set ?_ GE369.out|refine below_set ?_ GE386.out|refine below_set ?_ GE394.out|refine below_set ?_ GE403.out)|exact HB.out))));have n9_:=Aside0.mk (Kd.R_lower (Kd.R_new' (Kd.R_new' (Kd.R_new' (Kd.R_new' ho1 (Kd.R_lt (by (with_reducible repeat (first|apply Kd.R_alloc|apply Kd.R_drewN|apply Kd.R_drew));exact HO_387002.out))) (Kd.R_lt (by (with_reducible repeat (first|apply Kd.R_alloc|apply Kd.R_drewN|apply Kd.R_drew));exact HO_395002.out))) (Kd.R_lt (by (with_reducible repeat (first|apply Kd.R_alloc|apply Kd.R_drewN|apply Kd.R_drew));exact HO_404002.out))) (Kd.R_lt (by (with_reducible repeat (first|apply Kd.R_alloc|apply Kd.R_drewN|apply Kd.R_drew));exact HO427.out))) (below_size (by repeat (first|(with_reducible first|exact HB.out|apply below_alloc|apply pw_below_drewN|apply below_drew1|refine below_set ?_ GE369.out|refine below_set ?_ GE386.out|refine below_set ?_ GE394.out|refine below_set ?_ GE403.out)|exact HB.out))));have n10_:=Aside0.mk (blk_below (g:=gb369) (o:=.cells #[.int .i64 a0_0,.slice A0_1 l0_1.length c0_1,.slice A0_2 l0_2.length c0_2] 25 (0,0)) (by (with_reducible repeat (first|refine blk_drewN ?_ _|refine blk_drew ?_|refine blk_alloc ?_ _));exact BK369.out) hb);have n11_:=Aside0.mk (blk_below (g:=gb386) (o:=.cells #[.int .i64 t378,.slice Ao23 t379.length co23,.slice Ao24 t382.length co24] 29 (0,0)) (by (with_reducible repeat (first|refine blk_drewN ?_ _|refine blk_drew ?_|refine blk_alloc ?_ _));exact BK386.out) hb);have n12_:=Aside0.mk (blk_below (g:=gb394) (o:=.cells #[.int .i64 t387,.slice Ao31 t414.length co31,.slice Ao32 t415.length co32] 29 (0,0)) (by (with_reducible repeat (first|refine blk_drewN ?_ _|refine blk_drew ?_|refine blk_alloc ?_ _));exact BK394.out) hb);have n13_:=Aside0.mk (blk_below (g:=gb403) (o:=.cells #[.int .i64 t395,.slice Ao39 t396.length co39,.slice Ao40 t399.length co40] 29 (0,0)) (by (with_reducible repeat (first|refine blk_drewN ?_ _|refine blk_drew ?_|refine blk_alloc ?_ _));exact BK403.out) hb);have n14_:=Aside0.mk (below_step (by repeat (first|(with_reducible first|exact HB.out|apply below_alloc|apply pw_below_drewN|apply below_drew1|refine below_set ?_ GE369.out|refine below_set ?_ GE386.out|refine below_set ?_ GE394.out|refine below_set ?_ GE403.out)|exact HB.out)) hb);clear HO_387001;clear HO_387002;clear HO_395001;clear HO_395002;clear HO_404001;clear HO_404002;clear HO424;clear HO427;clear BK369;clear BK386;clear BK394;clear BK403;clear HB;have HO_387001:=n0_;have HO_387002:=n1_;have HO_395001:=n2_;have HO_395002:=n3_;have HO_404001:=n4_;have HO_404002:=n5_;have HO424:=n6_;have HO427:=n7_;have HO431:=n8_;have HO434:=n9_;have BK369:=n10_;have BK386:=n11_;have BK394:=n12_;have BK403:=n13_;have HB:=n14_;clear n0_ n1_ n2_ n3_ n4_ n5_ n6_ n7_ n8_ n9_ n10_ n11_ n12_ n13_ n14_;(try clear hb);(try clear ho0);(try clear ho1))|((with_reducible refine gate_dst (N:=12) rfl ?_);refine box_event ?hg (N:=12) ?hd (cs:=#[.int .i64 0,.slice none 0 0,.slice none 0 0]) (t:=29) ?hr ?_;(case hd=>rfl);(case hg=>rfl);(case hr=>first|(go_simp;done)|(go_simp;rfl));intro gb436 hg w123 hbox hb;have n0_:=Aside0.mk (Kd.R_below (by (with_reducible repeat (first|apply Kd.R_alloc|apply Kd.R_drewN|apply Kd.R_drew));exact HO_387001.out) hb);have n1_:=Aside0.mk (Kd.R_below (by (with_reducible repeat (first|apply Kd.R_alloc|apply Kd.R_drewN|apply Kd.R_drew));exact HO_387002.out) hb);have n2_:=Aside0.mk (Kd.R_below (by (with_reducible repeat (first|apply Kd.R_alloc|apply Kd.R_drewN|apply Kd.R_drew));exact HO_395001.out) hb);have n3_:=Aside0.mk (Kd.R_below (by (with_reducible repeat (first|apply Kd.R_alloc|apply Kd.R_drewN|apply Kd.R_drew));exact HO_395002.out) hb);have n4_:=Aside0.mk (Kd.R_below (by (with_reducible repeat (first|apply Kd.R_alloc|apply Kd.R_drewN|apply Kd.R_drew));exact HO_404001.out) hb);have n5_:=Aside0.mk (Kd.R_below (by (with_reducible repeat (first|apply Kd.R_alloc|apply Kd.R_drewN|apply Kd.R_drew));exact HO_404002.out) hb);have n6_:=Aside0.mk (Kd.R_below (by (with_reducible repeat (first|apply Kd.R_alloc|apply Kd.R_drewN|apply Kd.R_drew));exact HO424.out) hb);have n7_:=Aside0.mk (Kd.R_below (by (with_reducible repeat (first|apply Kd.R_alloc|apply Kd.R_drewN|apply Kd.R_drew));exact HO427.out) hb);have n8_:=Aside0.mk (Kd.R_below (by (with_reducible repeat (first|apply Kd.R_alloc|apply Kd.R_drewN|apply Kd.R_drew));exact HO431.out) hb);have n9_:=Aside0.mk (Kd.R_below (by (with_reducible repeat (first|apply Kd.R_alloc|apply Kd.R_drewN|apply Kd.R_drew));exact HO434.out) hb);have n10_:=Aside0.mk (blk_below (g:=gb369) (o:=.cells #[.int .i64 a0_0,.slice A0_1 l0_1.length c0_1,.slice A0_2 l0_2.length c0_2] 25 (0,0)) (by (with_reducible repeat (first|refine blk_drewN ?_ _|refine blk_drew ?_|refine blk_alloc ?_ _));exact BK369.out) hb);have n11_:=Aside0.mk (blk_below (g:=gb386) (o:=.cells #[.int .i64 t378,.slice Ao23 t379.length co23,.slice Ao24 t382.length co24] 29 (0,0)) (by (with_reducible repeat (first|refine blk_drewN ?_ _|refine blk_drew ?_|refine blk_alloc ?_ _));exact BK386.out) hb);have n12_:=Aside0.mk (blk_below (g:=gb394) (o:=.cells #[.int .i64 t387,.slice Ao31 t414.length co31,.slice Ao32 t415.length co32] 29 (0,0)) (by (with_reducible repeat (first|refine blk_drewN ?_ _|refine blk_drew ?_|refine blk_alloc ?_ _));exact BK394.out) hb);have n13_:=Aside0.mk (blk_below (g:=gb403) (o:=.cells #[.int .i64 t395,.slice Ao39 t396.length co39,.slice Ao40 t399.length co40] 29 (0,0)) (by (with_reducible repeat (first|refine blk_drewN ?_ _|refine blk_drew ?_|refine blk_alloc ?_ _));exact BK403.out) hb);have n14_:=Aside0.mk (below_step (by repeat (first|(with_reducible first|exact HB.out|apply below_alloc|apply pw_below_drewN|apply below_drew1|refine below_set ?_ GE369.out|refine below_set ?_ GE386.out|refine below_set ?_ GE394.out|refine below_set ?_ GE403.out)|exact HB.out)) hb);have n15_:=Aside0.mk (hbox);have n16_:=Aside0.mk ((by rw [hg];exact (below_size (by repeat (first|(with_reducible first|exact HB.out|apply below_alloc|apply pw_below_drewN|apply below_drew1|refine below_set ?_ GE369.out|refine below_set ?_ GE386.out|refine below_set ?_ GE394.out|refine below_set ?_ GE403.out)|exact HB.out))) : w.heap.size ≤ gb436));have n17_:=Aside0.mk ((by rw [hg];exact (below_size (by repeat (first|(with_reducible first|exact HB.out|apply below_alloc|apply pw_below_drewN|apply below_drew1|refine below_set ?_ GE369.out|refine below_set ?_ GE386.out|refine below_set ?_ GE394.out|refine below_set ?_ GE403.out)|exact HB.out))) : w.heap.size ≤ gb436));have n18_:=Aside0.mk ((by rw [hg];exact Nat.ne_of_lt (blk_lt (g:=gb369) (o:=.cells #[.int .i64 a0_0,.slice A0_1 l0_1.length c0_1,.slice A0_2 l0_2.length c0_2] 25 (0,0)) (by (with_reducible repeat (first|refine blk_drewN ?_ _|refine blk_drew ?_|refine blk_alloc ?_ _));exact BK369.out)) : gb369 ≠ gb436));have n19_:=Aside0.mk ((by rw [hg];exact Nat.ne_of_gt (blk_lt (g:=gb369) (o:=.cells #[.int .i64 a0_0,.slice A0_1 l0_1.length c0_1,.slice A0_2 l0_2.length c0_2] 25 (0,0)) (by (with_reducible repeat (first|refine blk_drewN ?_ _|refine blk_drew ?_|refine blk_alloc ?_ _));exact BK369.out)) : gb436 ≠ gb369));have n20_:=Aside0.mk ((by rw [hg];exact Nat.ne_of_lt (blk_lt (g:=gb386) (o:=.cells #[.int .i64 t378,.slice Ao23 t379.length co23,.slice Ao24 t382.length co24] 29 (0,0)) (by (with_reducible repeat (first|refine blk_drewN ?_ _|refine blk_drew ?_|refine blk_alloc ?_ _));exact BK386.out)) : gb386 ≠ gb436));have n21_:=Aside0.mk ((by rw [hg];exact Nat.ne_of_gt (blk_lt (g:=gb386) (o:=.cells #[.int .i64 t378,.slice Ao23 t379.length co23,.slice Ao24 t382.length co24] 29 (0,0)) (by (with_reducible repeat (first|refine blk_drewN ?_ _|refine blk_drew ?_|refine blk_alloc ?_ _));exact BK386.out)) : gb436 ≠ gb386));have n22_:=Aside0.mk ((by rw [hg];exact Nat.ne_of_lt (blk_lt (g:=gb394) (o:=.cells #[.int .i64 t387,.slice Ao31 t414.length co31,.slice Ao32 t415.length co32] 29 (0,0)) (by (with_reducible repeat (first|refine blk_drewN ?_ _|refine blk_drew ?_|refine blk_alloc ?_ _));exact BK394.out)) : gb394 ≠ gb436));have n23_:=Aside0.mk ((by rw [hg];exact Nat.ne_of_gt (blk_lt (g:=gb394) (o:=.cells #[.int .i64 t387,.slice Ao31 t414.length co31,.slice Ao32 t415.length co32] 29 (0,0)) (by (with_reducible repeat (first|refine blk_drewN ?_ _|refine blk_drew ?_|refine blk_alloc ?_ _));exact BK394.out)) : gb436 ≠ gb394));have n24_:=Aside0.mk ((by rw [hg];exact Nat.ne_of_lt (blk_lt (g:=gb403) (o:=.cells #[.int .i64 t395,.slice Ao39 t396.length co39,.slice Ao40 t399.length co40] 29 (0,0)) (by (with_reducible repeat (first|refine blk_drewN ?_ _|refine blk_drew ?_|refine blk_alloc ?_ _));exact BK403.out)) : gb403 ≠ gb436));have n25_:=Aside0.mk ((by rw [hg];exact Nat.ne_of_gt (blk_lt (g:=gb403) (o:=.cells #[.int .i64 t395,.slice Ao39 t396.length co39,.slice Ao40 t399.length co40] 29 (0,0)) (by (with_reducible repeat (first|refine blk_drewN ?_ _|refine blk_drew ?_|refine blk_alloc ?_ _));exact BK403.out)) : gb436 ≠ gb403));clear HO_387001;clear HO_387002;clear HO_395001;clear HO_395002;clear HO_404001;clear HO_404002;clear HO424;clear HO427;clear HO431;clear HO434;clear BK369;clear BK386;clear BK394;clear BK403;clear HB;have HO_387001:=n0_;have HO_387002:=n1_;have HO_395001:=n2_;have HO_395002:=n3_;have HO_404001:=n4_;have HO_404002:=n5_;have HO424:=n6_;have HO427:=n7_;have HO431:=n8_;have HO434:=n9_;have BK369:=n10_;have BK386:=n11_;have BK394:=n12_;have BK403:=n13_;have HB:=n14_;have BK436:=n15_;have GW436:=n16_;have GE436:=n17_;have NB369_436:=n18_;have NB436_369:=n19_;have NB386_436:=n20_;have NB436_386:=n21_;have NB394_436:=n22_;have NB436_394:=n23_;have NB403_436:=n24_;have NB436_403:=n25_;clear n0_ n1_ n2_ n3_ n4_ n5_ n6_ n7_ n8_ n9_ n10_ n11_ n12_ n13_ n14_ n15_ n16_ n17_ n18_ n19_ n20_ n21_ n22_ n23_ n24_ n25_;clear hb hbox hg;have hnb124:=NB436_369.out;have hnc124:=NB369_436.out;have hnb125:=NB436_386.out;have hnc125:=NB386_436.out;have hnb126:=NB436_394.out;have hnc126:=NB394_436.out;have hnb127:=NB436_403.out;have hnc127:=NB403_436.out;have hcz128_0 : w123.cell? ⟨gb436,0,none⟩ = some (.int .i64 0):=(blk_cell BK436.out 0).trans rfl;have hcz128_1 : w123.cell? ⟨gb436,1,none⟩ = some (.slice none 0 0):=(blk_cell BK436.out 1).trans rfl;have hcz128_2 : w123.cell? ⟨gb436,2,none⟩ = some (.slice none 0 0):=(blk_cell BK436.out 2).trans rfl;have hfz128_0:=blk_frozen BK436.out 0;have hfz128_1:=blk_frozen BK436.out 1;have hfz128_2:=blk_frozen BK436.out 2;obtain ⟨Ao129,co129,eo129⟩:=Kd.R_slice HO431.out;subst eo129;obtain ⟨Ao130,co130,eo130⟩:=Kd.R_slice HO434.out;subst eo130))
           (try simp only [Act.put,List.setIfInBounds_toArray,List.set_cons_zero,List.set_cons_succ])
           go_cut [87] (fun v87 wc=>∃ (kq : Nat) (x87_107 : Bool),v87 = .bool x87_107 ∧ Aside0 (laws_FnExactTrimPlan.j2 kq t417 x87_107 t395 t418 t419 = some r) ∧ Aside0 (kq ≤ kj63) ∧ Aside0 (Kd.R k73 73 wc w.heap.size (fun k_=>some k_ ≠ ((.slice Ao31 t414.length co31) : Value).ownBlock ∧ some k_ ≠ ((.slice Ao39 t396.length co39) : Value).ownBlock ∧ some k_ ≠ ((.slice Ao129 t429.length co129) : Value).ownBlock) (.slice Ao23 t379.length co23) t379) ∧ Aside0 (Kd.R (Kd.int .i64) 3 wc w.heap.size (fun k_=>some k_ ≠ ((.slice Ao32 t415.length co32) : Value).ownBlock ∧ some k_ ≠ ((.slice Ao40 t399.length co40) : Value).ownBlock ∧ some k_ ≠ ((.slice Ao130 t432.length co130) : Value).ownBlock) (.slice Ao24 t382.length co24) t382) ∧ Aside0 (Kd.R k73 73 wc w.heap.size (fun k_=>some k_ ≠ ((.slice Ao23 t379.length co23) : Value).ownBlock ∧ some k_ ≠ ((.slice Ao39 t396.length co39) : Value).ownBlock ∧ some k_ ≠ ((.slice Ao129 t429.length co129) : Value).ownBlock) (.slice Ao31 t414.length co31) t414) ∧ Aside0 (Kd.R (Kd.int .i64) 3 wc w.heap.size (fun k_=>some k_ ≠ ((.slice Ao24 t382.length co24) : Value).ownBlock ∧ some k_ ≠ ((.slice Ao40 t399.length co40) : Value).ownBlock ∧ some k_ ≠ ((.slice Ao130 t432.length co130) : Value).ownBlock) (.slice Ao32 t415.length co32) t415) ∧ Aside0 (Kd.R k73 73 wc w.heap.size (fun k_=>some k_ ≠ ((.slice Ao23 t379.length co23) : Value).ownBlock ∧ some k_ ≠ ((.slice Ao31 t414.length co31) : Value).ownBlock ∧ some k_ ≠ ((.slice Ao129 t429.length co129) : Value).ownBlock) (.slice Ao39 t396.length co39) t418) ∧ Aside0 (Kd.R (Kd.int .i64) 3 wc w.heap.size (fun k_=>some k_ ≠ ((.slice Ao24 t382.length co24) : Value).ownBlock ∧ some k_ ≠ ((.slice Ao32 t415.length co32) : Value).ownBlock ∧ some k_ ≠ ((.slice Ao130 t432.length co130) : Value).ownBlock) (.slice Ao40 t399.length co40) t419) ∧ Aside0 (Kd.R k73 73 wc w.heap.size (fun k_=>some k_ ≠ ((.slice Ao23 t379.length co23) : Value).ownBlock ∧ some k_ ≠ ((.slice Ao31 t414.length co31) : Value).ownBlock ∧ some k_ ≠ ((.slice Ao39 t396.length co39) : Value).ownBlock) (.slice Ao129 t429.length co129) t429) ∧ Aside0 (Kd.R (Kd.int .i64) 3 wc w.heap.size (fun k_=>some k_ ≠ ((.slice Ao24 t382.length co24) : Value).ownBlock ∧ some k_ ≠ ((.slice Ao32 t415.length co32) : Value).ownBlock ∧ some k_ ≠ ((.slice Ao40 t399.length co40) : Value).ownBlock) (.slice Ao130 t432.length co130) t432) ∧ Aside0 (wc.heap[gb369]? = some (.cells #[.int .i64 a0_0,(.slice A0_1 l0_1.length c0_1),(.slice A0_2 l0_2.length c0_2)] 25 (0,0))) ∧ Aside0 (wc.heap[gb386]? = some (.cells #[.int .i64 t378,(.slice Ao23 t379.length co23),(.slice Ao24 t382.length co24)] 29 (0,0))) ∧ Aside0 (wc.heap[gb394]? = some (.cells #[.int .i64 t387,(.slice Ao31 t414.length co31),(.slice Ao32 t415.length co32)] 29 (0,0))) ∧ Aside0 (wc.heap[gb403]? = some (.cells #[.int .i64 t395,(.slice Ao39 t396.length co39),(.slice Ao40 t399.length co40)] 29 (0,0))) ∧ Aside0 (wc.heap[gb436]? = some (.cells #[.int .i64 t428,(.slice Ao129 t429.length co129),(.slice Ao130 t432.length co130)] 29 (0,0))) ∧ Aside0 (Below w.heap.size w wc))
           case first=>
            have H:=HC108.out
            clear HC108
            replace H:=Option.bind_eq_some_iff.mp H
            obtain ⟨t437,A1310,H⟩:=H
            replace H : (if t437 = true then (laws_FnExactTrimPlan.j2 kj63 t417 (t435 != t385) t395 t418 t419) else (laws_FnExactTrimPlan.j2 kj63 t417 true t395 t418 t419)) = some r:=H
            have A131:=Aside0.mk A1310
            clear A1310
            by_cases c132 : t437 = true
            ·subst c132
             have H1 : (laws_FnExactTrimPlan.j2 kj63 t417 (t435 != t385) t395 t418 t419) = some r:=by rw [if_pos rfl] at H;exact H
             clear H
             have H:=H1
             clear H1
             have H':=Aside0.mk H
             clear H
             have hnb133:=NB436_369.out
             have hnc133:=NB369_436.out
             have hnb134:=NB436_386.out
             have hnc134:=NB386_436.out
             have hnb135:=NB436_394.out
             have hnc135:=NB394_436.out
             have hnb136:=NB436_403.out
             have hnc136:=NB403_436.out
             have hcz137_0 : w123.cell? ⟨gb436,0,none⟩ = some (.int .i64 0):=(blk_cell BK436.out 0).trans rfl
             have hcz137_1 : w123.cell? ⟨gb436,1,none⟩ = some (.slice none 0 0):=(blk_cell BK436.out 1).trans rfl
             have hcz137_2 : w123.cell? ⟨gb436,2,none⟩ = some (.slice none 0 0):=(blk_cell BK436.out 2).trans rfl
             have hfz137_0:=blk_frozen BK436.out 0
             have hfz137_1:=blk_frozen BK436.out 1
             have hfz137_2:=blk_frozen BK436.out 2
             have hnb138:=NB386_369.out
             have hnc138:=NB369_386.out
             have hnb139:=NB386_394.out
             have hnc139:=NB394_386.out
             have hnb140:=NB386_403.out
             have hnc140:=NB403_386.out
             have hcz141_0 : w123.cell? ⟨gb386,0,none⟩ = some (.int .i64 t378):=(blk_cell BK386.out 0).trans rfl
             have hcz141_1 : w123.cell? ⟨gb386,1,none⟩ = some (.slice Ao23 t379.length co23):=(blk_cell BK386.out 1).trans rfl
             have hcz141_2 : w123.cell? ⟨gb386,2,none⟩ = some (.slice Ao24 t382.length co24):=(blk_cell BK386.out 2).trans rfl
             have hfz141_0:=blk_frozen BK386.out 0
             have hfz141_1:=blk_frozen BK386.out 1
             have hfz141_2:=blk_frozen BK386.out 2
             go_wp2_with (first|((with_reducible refine gate_callee (f:=14) rfl ?_);refine goesL_ (some 81) rfl rfl Try.func14 (by kernel_rfl) rfl #[.agg #[.int .i64 t428,.slice Ao129 t429.length co129,.slice Ao130 t432.length co130],.agg #[.int .i64 t378,.slice Ao23 t379.length co23,.slice Ao24 t382.length co24]] rfl (by (try simp only [List.map_toArray,List.map_cons,List.map_nil]);first|done|rfl|(simp only [List.length_drop,List.length_take];rfl)) ?_;(with_reducible refine (laws_eqPlan.calls kj63 t428 _ _ t429 _ _ t432 t378 _ _ t379 _ _ t382 true _ ?side1 ?side2 ?side3 ?side4 ?side5 ?side6 ?side7 ?side8 A131.out).mono ?_);(case side1=>refine (Kd.R_reads' (e:=73) (base:=w.heap.size) (ok:=fun k_=>((((True ∧ some k_ ≠ (.slice Ao23 t379.length co23 : Value).ownBlock) ∧ some k_ ≠ (.slice Ao31 t414.length co31 : Value).ownBlock) ∧ some k_ ≠ (.slice Ao39 t396.length co39 : Value).ownBlock) ∧ some k_ ≠ (.slice Ao120 t422.length co120 : Value).ownBlock)) (n:=t429.length) (c:=co129) ?_).2.2;exact (by (with_reducible repeat (first|apply Kd.R_alloc|apply Kd.R_drewN|apply Kd.R_drew));exact (Kd.R_mono (Kd.R_far (p:=⟨gb436,2,none⟩) (Kd.R_far (p:=⟨gb436,1,none⟩) (Kd.R_far (p:=⟨gb436,0,none⟩) (Kd.R_types HO431.out BK436.out (by decide)) (fun _ hk=>hk.2) (.int .i64 t428)) (fun _ hk=>hk.2) (.slice Ao129 t429.length co129)) (fun _ hk=>hk.2) (.slice Ao130 t432.length co130)) (fun _ h_=>h_.1))));(case side2=>exact (Kd.R_reads' HO431.out).2.1);(case side3=>refine (Kd.R_reads' (e:=3) (base:=w.heap.size) (ok:=fun k_=>((((True ∧ some k_ ≠ (.slice Ao24 t382.length co24 : Value).ownBlock) ∧ some k_ ≠ (.slice Ao32 t415.length co32 : Value).ownBlock) ∧ some k_ ≠ (.slice Ao40 t399.length co40 : Value).ownBlock) ∧ some k_ ≠ (.slice Ao121 t425.length co121 : Value).ownBlock)) (n:=t432.length) (c:=co130) ?_).2.2;exact (by (with_reducible repeat (first|apply Kd.R_alloc|apply Kd.R_drewN|apply Kd.R_drew));exact (Kd.R_mono (Kd.R_far (p:=⟨gb436,2,none⟩) (Kd.R_far (p:=⟨gb436,1,none⟩) (Kd.R_far (p:=⟨gb436,0,none⟩) (Kd.R_types HO434.out BK436.out (by decide)) (fun _ hk=>hk.2) (.int .i64 t428)) (fun _ hk=>hk.2) (.slice Ao129 t429.length co129)) (fun _ hk=>hk.2) (.slice Ao130 t432.length co130)) (fun _ h_=>h_.1))));(case side4=>exact (Kd.R_reads' HO434.out).2.1);(case side5=>refine (Kd.R_reads' (e:=73) (base:=w.heap.size) (ok:=fun k_=>(((some k_ ≠ (.slice Ao31 t414.length co31 : Value).ownBlock ∧ some k_ ≠ (.slice Ao39 t396.length co39 : Value).ownBlock) ∧ some k_ ≠ (.slice Ao120 t422.length co120 : Value).ownBlock) ∧ some k_ ≠ (.slice Ao129 t429.length co129 : Value).ownBlock)) (n:=t379.length) (c:=co23) ?_).2.2;exact (by (with_reducible repeat (first|apply Kd.R_alloc|apply Kd.R_drewN|apply Kd.R_drew));exact (Kd.R_mono (Kd.R_far (p:=⟨gb436,2,none⟩) (Kd.R_far (p:=⟨gb436,1,none⟩) (Kd.R_far (p:=⟨gb436,0,none⟩) (Kd.R_types HO_387001.out BK436.out (by decide)) (fun _ hk=>hk.2) (.int .i64 t428)) (fun _ hk=>hk.2) (.slice Ao129 t429.length co129)) (fun _ hk=>hk.2) (.slice Ao130 t432.length co130)) (fun _ h_=>h_.1))));(case side6=>exact (Kd.R_reads' HO_387001.out).2.1);(case side7=>refine (Kd.R_reads' (e:=3) (base:=w.heap.size) (ok:=fun k_=>(((some k_ ≠ (.slice Ao32 t415.length co32 : Value).ownBlock ∧ some k_ ≠ (.slice Ao40 t399.length co40 : Value).ownBlock) ∧ some k_ ≠ (.slice Ao121 t425.length co121 : Value).ownBlock) ∧ some k_ ≠ (.slice Ao130 t432.length co130 : Value).ownBlock)) (n:=t382.length) (c:=co24) ?_).2.2;exact (by (with_reducible repeat (first|apply Kd.R_alloc|apply Kd.R_drewN|apply Kd.R_drew));exact (Kd.R_mono (Kd.R_far (p:=⟨gb436,2,none⟩) (Kd.R_far (p:=⟨gb436,1,none⟩) (Kd.R_far (p:=⟨gb436,0,none⟩) (Kd.R_types HO_387002.out BK436.out (by decide)) (fun _ hk=>hk.2) (.int .i64 t428)) (fun _ hk=>hk.2) (.slice Ao129 t429.length co129)) (fun _ hk=>hk.2) (.slice Ao130 t432.length co130)) (fun _ h_=>h_.1))));(case side8=>exact (Kd.R_reads' HO_387002.out).2.1);rintro e w142 ⟨rfl,hb⟩;refine ⟨_,rfl,?_⟩;have n0_:=Aside0.mk (Kd.R_below (by (with_reducible repeat (first|apply Kd.R_alloc|apply Kd.R_drewN|apply Kd.R_drew));exact (Kd.R_mono (Kd.R_far (p:=⟨gb436,2,none⟩) (Kd.R_far (p:=⟨gb436,1,none⟩) (Kd.R_far (p:=⟨gb436,0,none⟩) (Kd.R_types HO_387001.out BK436.out (by decide)) (fun _ hk=>hk.2) (.int .i64 t428)) (fun _ hk=>hk.2) (.slice Ao129 t429.length co129)) (fun _ hk=>hk.2) (.slice Ao130 t432.length co130)) (fun _ h_=>h_.1))) hb);have n1_:=Aside0.mk (Kd.R_below (by (with_reducible repeat (first|apply Kd.R_alloc|apply Kd.R_drewN|apply Kd.R_drew));exact (Kd.R_mono (Kd.R_far (p:=⟨gb436,2,none⟩) (Kd.R_far (p:=⟨gb436,1,none⟩) (Kd.R_far (p:=⟨gb436,0,none⟩) (Kd.R_types HO_387002.out BK436.out (by decide)) (fun _ hk=>hk.2) (.int .i64 t428)) (fun _ hk=>hk.2) (.slice Ao129 t429.length co129)) (fun _ hk=>hk.2) (.slice Ao130 t432.length co130)) (fun _ h_=>h_.1))) hb);have n2_:=Aside0.mk (Kd.R_below (by (with_reducible repeat (first|apply Kd.R_alloc|apply Kd.R_drewN|apply Kd.R_drew));exact (Kd.R_mono (Kd.R_far (p:=⟨gb436,2,none⟩) (Kd.R_far (p:=⟨gb436,1,none⟩) (Kd.R_far (p:=⟨gb436,0,none⟩) (Kd.R_types HO_395001.out BK436.out (by decide)) (fun _ hk=>hk.2) (.int .i64 t428)) (fun _ hk=>hk.2) (.slice Ao129 t429.length co129)) (fun _ hk=>hk.2) (.slice Ao130 t432.length co130)) (fun _ h_=>h_.1))) hb);have n3_:=Aside0.mk (Kd.R_below (by (with_reducible repeat (first|apply Kd.R_alloc|apply Kd.R_drewN|apply Kd.R_drew));exact (Kd.R_mono (Kd.R_far (p:=⟨gb436,2,none⟩) (Kd.R_far (p:=⟨gb436,1,none⟩) (Kd.R_far (p:=⟨gb436,0,none⟩) (Kd.R_types HO_395002.out BK436.out (by decide)) (fun _ hk=>hk.2) (.int .i64 t428)) (fun _ hk=>hk.2) (.slice Ao129 t429.length co129)) (fun _ hk=>hk.2) (.slice Ao130 t432.length co130)) (fun _ h_=>h_.1))) hb);have n4_:=Aside0.mk (Kd.R_below (by (with_reducible repeat (first|apply Kd.R_alloc|apply Kd.R_drewN|apply Kd.R_drew));exact (Kd.R_mono (Kd.R_far (p:=⟨gb436,2,none⟩) (Kd.R_far (p:=⟨gb436,1,none⟩) (Kd.R_far (p:=⟨gb436,0,none⟩) (Kd.R_types HO_404001.out BK436.out (by decide)) (fun _ hk=>hk.2) (.int .i64 t428)) (fun _ hk=>hk.2) (.slice Ao129 t429.length co129)) (fun _ hk=>hk.2) (.slice Ao130 t432.length co130)) (fun _ h_=>h_.1))) hb);have n5_:=Aside0.mk (Kd.R_below (by (with_reducible repeat (first|apply Kd.R_alloc|apply Kd.R_drewN|apply Kd.R_drew));exact (Kd.R_mono (Kd.R_far (p:=⟨gb436,2,none⟩) (Kd.R_far (p:=⟨gb436,1,none⟩) (Kd.R_far (p:=⟨gb436,0,none⟩) (Kd.R_types HO_404002.out BK436.out (by decide)) (fun _ hk=>hk.2) (.int .i64 t428)) (fun _ hk=>hk.2) (.slice Ao129 t429.length co129)) (fun _ hk=>hk.2) (.slice Ao130 t432.length co130)) (fun _ h_=>h_.1))) hb);have n6_:=Aside0.mk (Kd.R_below (by (with_reducible repeat (first|apply Kd.R_alloc|apply Kd.R_drewN|apply Kd.R_drew));exact (Kd.R_mono (Kd.R_far (p:=⟨gb436,2,none⟩) (Kd.R_far (p:=⟨gb436,1,none⟩) (Kd.R_far (p:=⟨gb436,0,none⟩) (Kd.R_types HO424.out BK436.out (by decide)) (fun _ hk=>hk.2) (.int .i64 t428)) (fun _ hk=>hk.2) (.slice Ao129 t429.length co129)) (fun _ hk=>hk.2) (.slice Ao130 t432.length co130)) (fun _ h_=>h_.1))) hb);have n7_:=Aside0.mk (Kd.R_below (by (with_reducible repeat (first|apply Kd.R_alloc|apply Kd.R_drewN|apply Kd.R_drew));exact (Kd.R_mono (Kd.R_far (p:=⟨gb436,2,none⟩) (Kd.R_far (p:=⟨gb436,1,none⟩) (Kd.R_far (p:=⟨gb436,0,none⟩) (Kd.R_types HO427.out BK436.out (by decide)) (fun _ hk=>hk.2) (.int .i64 t428)) (fun _ hk=>hk.2) (.slice Ao129 t429.length co129)) (fun _ hk=>hk.2) (.slice Ao130 t432.length co130)) (fun _ h_=>h_.1))) hb);have n8_:=Aside0.mk (Kd.R_below (by (with_reducible repeat (first|apply Kd.R_alloc|apply Kd.R_drewN|apply Kd.R_drew));exact (Kd.R_mono (Kd.R_far (p:=⟨gb436,2,none⟩) (Kd.R_far (p:=⟨gb436,1,none⟩) (Kd.R_far (p:=⟨gb436,0,none⟩) (Kd.R_types HO431.out BK436.out (by decide)) (fun _ hk=>hk.2) (.int .i64 t428)) (fun _ hk=>hk.2) (.slice Ao129 t429.length co129)) (fun _ hk=>hk.2) (.slice Ao130 t432.length co130)) (fun _ h_=>h_.1))) hb);have n9_:=Aside0.mk (Kd.R_below (by (with_reducible repeat (first|apply Kd.R_alloc|apply Kd.R_drewN|apply Kd.R_drew));exact (Kd.R_mono (Kd.R_far (p:=⟨gb436,2,none⟩) (Kd.R_far (p:=⟨gb436,1,none⟩) (Kd.R_far (p:=⟨gb436,0,none⟩) (Kd.R_types HO434.out BK436.out (by decide)) (fun _ hk=>hk.2) (.int .i64 t428)) (fun _ hk=>hk.2) (.slice Ao129 t429.length co129)) (fun _ hk=>hk.2) (.slice Ao130 t432.length co130)) (fun _ h_=>h_.1))) hb);have n10_:=Aside0.mk (blk_below (g:=gb369) (o:=.cells #[.int .i64 a0_0,.slice A0_1 l0_1.length c0_1,.slice A0_2 l0_2.length c0_2] 25 (0,0)) (by (with_reducible repeat (first|refine blk_drewN ?_ _|refine blk_drew ?_|refine blk_alloc ?_ _));refine blk_far ?_ NB369_436.out _;(with_reducible repeat (first|refine blk_drewN ?_ _|refine blk_drew ?_|refine blk_alloc ?_ _));refine blk_far ?_ NB369_436.out _;(with_reducible repeat (first|refine blk_drewN ?_ _|refine blk_drew ?_|refine blk_alloc ?_ _));refine blk_far ?_ NB369_436.out _;(with_reducible repeat (first|refine blk_drewN ?_ _|refine blk_drew ?_|refine blk_alloc ?_ _));exact BK369.out) hb);have n11_:=Aside0.mk (blk_below (g:=gb386) (o:=.cells #[.int .i64 t378,.slice Ao23 t379.length co23,.slice Ao24 t382.length co24] 29 (0,0)) (by (with_reducible repeat (first|refine blk_drewN ?_ _|refine blk_drew ?_|refine blk_alloc ?_ _));refine blk_far ?_ NB386_436.out _;(with_reducible repeat (first|refine blk_drewN ?_ _|refine blk_drew ?_|refine blk_alloc ?_ _));refine blk_far ?_ NB386_436.out _;(with_reducible repeat (first|refine blk_drewN ?_ _|refine blk_drew ?_|refine blk_alloc ?_ _));refine blk_far ?_ NB386_436.out _;(with_reducible repeat (first|refine blk_drewN ?_ _|refine blk_drew ?_|refine blk_alloc ?_ _));exact BK386.out) hb);have n12_:=Aside0.mk (blk_below (g:=gb394) (o:=.cells #[.int .i64 t387,.slice Ao31 t414.length co31,.slice Ao32 t415.length co32] 29 (0,0)) (by (with_reducible repeat (first|refine blk_drewN ?_ _|refine blk_drew ?_|refine blk_alloc ?_ _));refine blk_far ?_ NB394_436.out _;(with_reducible repeat (first|refine blk_drewN ?_ _|refine blk_drew ?_|refine blk_alloc ?_ _));refine blk_far ?_ NB394_436.out _;(with_reducible repeat (first|refine blk_drewN ?_ _|refine blk_drew ?_|refine blk_alloc ?_ _));refine blk_far ?_ NB394_436.out _;(with_reducible repeat (first|refine blk_drewN ?_ _|refine blk_drew ?_|refine blk_alloc ?_ _));exact BK394.out) hb);have n13_:=Aside0.mk (blk_below (g:=gb403) (o:=.cells #[.int .i64 t395,.slice Ao39 t396.length co39,.slice Ao40 t399.length co40] 29 (0,0)) (by (with_reducible repeat (first|refine blk_drewN ?_ _|refine blk_drew ?_|refine blk_alloc ?_ _));refine blk_far ?_ NB403_436.out _;(with_reducible repeat (first|refine blk_drewN ?_ _|refine blk_drew ?_|refine blk_alloc ?_ _));refine blk_far ?_ NB403_436.out _;(with_reducible repeat (first|refine blk_drewN ?_ _|refine blk_drew ?_|refine blk_alloc ?_ _));refine blk_far ?_ NB403_436.out _;(with_reducible repeat (first|refine blk_drewN ?_ _|refine blk_drew ?_|refine blk_alloc ?_ _));exact BK403.out) hb);have n14_:=Aside0.mk (blk_below (g:=gb436) (o:=.cells #[.int .i64 t428,.slice Ao129 t429.length co129,.slice Ao130 t432.length co130] 29 (0,0)) (by (with_reducible repeat (first|refine blk_drewN ?_ _|refine blk_drew ?_|refine blk_alloc ?_ _));refine blk_put (cs:=#[.int .i64 t428,.slice Ao129 t429.length co129,.slice none 0 0]) ?_ 2 _ rfl;(with_reducible repeat (first|refine blk_drewN ?_ _|refine blk_drew ?_|refine blk_alloc ?_ _));refine blk_put (cs:=#[.int .i64 t428,.slice none 0 0,.slice none 0 0]) ?_ 1 _ rfl;(with_reducible repeat (first|refine blk_drewN ?_ _|refine blk_drew ?_|refine blk_alloc ?_ _));refine blk_put (cs:=#[.int .i64 0,.slice none 0 0,.slice none 0 0]) ?_ 0 _ rfl;(with_reducible repeat (first|refine blk_drewN ?_ _|refine blk_drew ?_|refine blk_alloc ?_ _));exact BK436.out) hb);have n15_:=Aside0.mk (below_step (by repeat (first|(with_reducible first|exact HB.out|apply below_alloc|apply pw_below_drewN|apply below_drew1|refine below_set ?_ GE369.out|refine below_set ?_ GE386.out|refine below_set ?_ GE394.out|refine below_set ?_ GE403.out|refine below_set ?_ GE436.out)|exact HB.out)) hb);clear HO_387001;clear HO_387002;clear HO_395001;clear HO_395002;clear HO_404001;clear HO_404002;clear HO424;clear HO427;clear HO431;clear HO434;clear BK369;clear BK386;clear BK394;clear BK403;clear BK436;clear HB;have HO_387001:=n0_;have HO_387002:=n1_;have HO_395001:=n2_;have HO_395002:=n3_;have HO_404001:=n4_;have HO_404002:=n5_;have HO424:=n6_;have HO427:=n7_;have HO431:=n8_;have HO434:=n9_;have BK369:=n10_;have BK386:=n11_;have BK394:=n12_;have BK403:=n13_;have BK436:=n14_;have HB:=n15_;clear n0_ n1_ n2_ n3_ n4_ n5_ n6_ n7_ n8_ n9_ n10_ n11_ n12_ n13_ n14_ n15_;(try clear hb)))
             go_meet
             case rel=>exact ⟨_,((t435 != t385)),(by first|rfl|(simp;done)|(simp [*];done)),H',⟨by have:=HJ10.out;have:=HJ63.out;first|omega|exact Nat.le_refl _⟩,⟨by (try simp only [hl395001_63]);(try simp only [hl395002_63]);(with_reducible repeat (first|apply Kd.R_alloc|apply Kd.R_drewN|apply Kd.R_drew));exact Kd.R_mono HO_387001.out (fun _ hk=>⟨hk.1.1.1,⟨hk.1.1.2,hk.2⟩⟩)⟩,⟨by (try simp only [hl395001_63]);(try simp only [hl395002_63]);(with_reducible repeat (first|apply Kd.R_alloc|apply Kd.R_drewN|apply Kd.R_drew));exact Kd.R_mono HO_387002.out (fun _ hk=>⟨hk.1.1.1,⟨hk.1.1.2,hk.2⟩⟩)⟩,⟨by (try simp only [hl395001_63]);(try simp only [hl395002_63]);(with_reducible repeat (first|apply Kd.R_alloc|apply Kd.R_drewN|apply Kd.R_drew));exact Kd.R_mono HO_395001.out (fun _ hk=>⟨hk.1.1.1,⟨hk.1.1.2,hk.2⟩⟩)⟩,⟨by (try simp only [hl395001_63]);(try simp only [hl395002_63]);(with_reducible repeat (first|apply Kd.R_alloc|apply Kd.R_drewN|apply Kd.R_drew));exact Kd.R_mono HO_395002.out (fun _ hk=>⟨hk.1.1.1,⟨hk.1.1.2,hk.2⟩⟩)⟩,⟨by (try simp only [hl395001_63]);(try simp only [hl395002_63]);(with_reducible repeat (first|apply Kd.R_alloc|apply Kd.R_drewN|apply Kd.R_drew));exact Kd.R_mono HO_404001.out (fun _ hk=>⟨hk.1.1.1,⟨hk.1.1.2,hk.2⟩⟩)⟩,⟨by (try simp only [hl395001_63]);(try simp only [hl395002_63]);(with_reducible repeat (first|apply Kd.R_alloc|apply Kd.R_drewN|apply Kd.R_drew));exact Kd.R_mono HO_404002.out (fun _ hk=>⟨hk.1.1.1,⟨hk.1.1.2,hk.2⟩⟩)⟩,⟨by (try simp only [hl395001_63]);(try simp only [hl395002_63]);(with_reducible repeat (first|apply Kd.R_alloc|apply Kd.R_drewN|apply Kd.R_drew));exact Kd.R_mono HO431.out (fun _ hk=>⟨hk.1.1.1.2,⟨hk.1.1.2,hk.1.2⟩⟩)⟩,⟨by (try simp only [hl395001_63]);(try simp only [hl395002_63]);(with_reducible repeat (first|apply Kd.R_alloc|apply Kd.R_drewN|apply Kd.R_drew));exact Kd.R_mono HO434.out (fun _ hk=>⟨hk.1.1.1.2,⟨hk.1.1.2,hk.1.2⟩⟩)⟩,⟨by (try simp only [hl395001_63]);(try simp only [hl395002_63]);(with_reducible repeat (first|refine blk_drewN ?_ _|refine blk_drew ?_|refine blk_alloc ?_ _));exact BK369.out⟩,⟨by (try simp only [hl395001_63]);(try simp only [hl395002_63]);(with_reducible repeat (first|refine blk_drewN ?_ _|refine blk_drew ?_|refine blk_alloc ?_ _));exact BK386.out⟩,⟨by (try simp only [hl395001_63]);(try simp only [hl395002_63]);(with_reducible repeat (first|refine blk_drewN ?_ _|refine blk_drew ?_|refine blk_alloc ?_ _));exact BK394.out⟩,⟨by (try simp only [hl395001_63]);(try simp only [hl395002_63]);(with_reducible repeat (first|refine blk_drewN ?_ _|refine blk_drew ?_|refine blk_alloc ?_ _));exact BK403.out⟩,⟨by (try simp only [hl395001_63]);(try simp only [hl395002_63]);(with_reducible repeat (first|refine blk_drewN ?_ _|refine blk_drew ?_|refine blk_alloc ?_ _));exact BK436.out⟩,⟨by repeat (first|(with_reducible first|exact HB.out|apply below_alloc|apply pw_below_drewN|apply below_drew1|refine below_set ?_ GE369.out|refine below_set ?_ GE386.out|refine below_set ?_ GE394.out|refine below_set ?_ GE403.out|refine below_set ?_ GE436.out)|exact HB.out)⟩⟩
            ·replace c132:=Bool.eq_false_iff.mpr c132
             subst c132
             have H1 : (laws_FnExactTrimPlan.j2 kj63 t417 true t395 t418 t419) = some r:=by rw [if_neg (show ¬ (false = true) by decide)] at H;exact H
             clear H
             have H:=H1
             clear H1
             have H':=Aside0.mk H
             clear H
             have hnb143:=NB436_369.out
             have hnc143:=NB369_436.out
             have hnb144:=NB436_386.out
             have hnc144:=NB386_436.out
             have hnb145:=NB436_394.out
             have hnc145:=NB394_436.out
             have hnb146:=NB436_403.out
             have hnc146:=NB403_436.out
             have hcz147_0 : w123.cell? ⟨gb436,0,none⟩ = some (.int .i64 0):=(blk_cell BK436.out 0).trans rfl
             have hcz147_1 : w123.cell? ⟨gb436,1,none⟩ = some (.slice none 0 0):=(blk_cell BK436.out 1).trans rfl
             have hcz147_2 : w123.cell? ⟨gb436,2,none⟩ = some (.slice none 0 0):=(blk_cell BK436.out 2).trans rfl
             have hfz147_0:=blk_frozen BK436.out 0
             have hfz147_1:=blk_frozen BK436.out 1
             have hfz147_2:=blk_frozen BK436.out 2
             have hnb148:=NB386_369.out
             have hnc148:=NB369_386.out
             have hnb149:=NB386_394.out
             have hnc149:=NB394_386.out
             have hnb150:=NB386_403.out
             have hnc150:=NB403_386.out
             have hcz151_0 : w123.cell? ⟨gb386,0,none⟩ = some (.int .i64 t378):=(blk_cell BK386.out 0).trans rfl
             have hcz151_1 : w123.cell? ⟨gb386,1,none⟩ = some (.slice Ao23 t379.length co23):=(blk_cell BK386.out 1).trans rfl
             have hcz151_2 : w123.cell? ⟨gb386,2,none⟩ = some (.slice Ao24 t382.length co24):=(blk_cell BK386.out 2).trans rfl
             have hfz151_0:=blk_frozen BK386.out 0
             have hfz151_1:=blk_frozen BK386.out 1
             have hfz151_2:=blk_frozen BK386.out 2
             go_wp2_with (first|((with_reducible refine gate_callee (f:=14) rfl ?_);refine goesL_ (some 81) rfl rfl Try.func14 (by kernel_rfl) rfl #[.agg #[.int .i64 t428,.slice Ao129 t429.length co129,.slice Ao130 t432.length co130],.agg #[.int .i64 t378,.slice Ao23 t379.length co23,.slice Ao24 t382.length co24]] rfl (by (try simp only [List.map_toArray,List.map_cons,List.map_nil]);first|done|rfl|(simp only [List.length_drop,List.length_take];rfl)) ?_;(with_reducible refine (laws_eqPlan.calls kj63 t428 _ _ t429 _ _ t432 t378 _ _ t379 _ _ t382 false _ ?side1 ?side2 ?side3 ?side4 ?side5 ?side6 ?side7 ?side8 A131.out).mono ?_);(case side1=>refine (Kd.R_reads' (e:=73) (base:=w.heap.size) (ok:=fun k_=>((((True ∧ some k_ ≠ (.slice Ao23 t379.length co23 : Value).ownBlock) ∧ some k_ ≠ (.slice Ao31 t414.length co31 : Value).ownBlock) ∧ some k_ ≠ (.slice Ao39 t396.length co39 : Value).ownBlock) ∧ some k_ ≠ (.slice Ao120 t422.length co120 : Value).ownBlock)) (n:=t429.length) (c:=co129) ?_).2.2;exact (by (with_reducible repeat (first|apply Kd.R_alloc|apply Kd.R_drewN|apply Kd.R_drew));exact (Kd.R_mono (Kd.R_far (p:=⟨gb436,2,none⟩) (Kd.R_far (p:=⟨gb436,1,none⟩) (Kd.R_far (p:=⟨gb436,0,none⟩) (Kd.R_types HO431.out BK436.out (by decide)) (fun _ hk=>hk.2) (.int .i64 t428)) (fun _ hk=>hk.2) (.slice Ao129 t429.length co129)) (fun _ hk=>hk.2) (.slice Ao130 t432.length co130)) (fun _ h_=>h_.1))));(case side2=>exact (Kd.R_reads' HO431.out).2.1);(case side3=>refine (Kd.R_reads' (e:=3) (base:=w.heap.size) (ok:=fun k_=>((((True ∧ some k_ ≠ (.slice Ao24 t382.length co24 : Value).ownBlock) ∧ some k_ ≠ (.slice Ao32 t415.length co32 : Value).ownBlock) ∧ some k_ ≠ (.slice Ao40 t399.length co40 : Value).ownBlock) ∧ some k_ ≠ (.slice Ao121 t425.length co121 : Value).ownBlock)) (n:=t432.length) (c:=co130) ?_).2.2;exact (by (with_reducible repeat (first|apply Kd.R_alloc|apply Kd.R_drewN|apply Kd.R_drew));exact (Kd.R_mono (Kd.R_far (p:=⟨gb436,2,none⟩) (Kd.R_far (p:=⟨gb436,1,none⟩) (Kd.R_far (p:=⟨gb436,0,none⟩) (Kd.R_types HO434.out BK436.out (by decide)) (fun _ hk=>hk.2) (.int .i64 t428)) (fun _ hk=>hk.2) (.slice Ao129 t429.length co129)) (fun _ hk=>hk.2) (.slice Ao130 t432.length co130)) (fun _ h_=>h_.1))));(case side4=>exact (Kd.R_reads' HO434.out).2.1);(case side5=>refine (Kd.R_reads' (e:=73) (base:=w.heap.size) (ok:=fun k_=>(((some k_ ≠ (.slice Ao31 t414.length co31 : Value).ownBlock ∧ some k_ ≠ (.slice Ao39 t396.length co39 : Value).ownBlock) ∧ some k_ ≠ (.slice Ao120 t422.length co120 : Value).ownBlock) ∧ some k_ ≠ (.slice Ao129 t429.length co129 : Value).ownBlock)) (n:=t379.length) (c:=co23) ?_).2.2;exact (by (with_reducible repeat (first|apply Kd.R_alloc|apply Kd.R_drewN|apply Kd.R_drew));exact (Kd.R_mono (Kd.R_far (p:=⟨gb436,2,none⟩) (Kd.R_far (p:=⟨gb436,1,none⟩) (Kd.R_far (p:=⟨gb436,0,none⟩) (Kd.R_types HO_387001.out BK436.out (by decide)) (fun _ hk=>hk.2) (.int .i64 t428)) (fun _ hk=>hk.2) (.slice Ao129 t429.length co129)) (fun _ hk=>hk.2) (.slice Ao130 t432.length co130)) (fun _ h_=>h_.1))));(case side6=>exact (Kd.R_reads' HO_387001.out).2.1);(case side7=>refine (Kd.R_reads' (e:=3) (base:=w.heap.size) (ok:=fun k_=>(((some k_ ≠ (.slice Ao32 t415.length co32 : Value).ownBlock ∧ some k_ ≠ (.slice Ao40 t399.length co40 : Value).ownBlock) ∧ some k_ ≠ (.slice Ao121 t425.length co121 : Value).ownBlock) ∧ some k_ ≠ (.slice Ao130 t432.length co130 : Value).ownBlock)) (n:=t382.length) (c:=co24) ?_).2.2;exact (by (with_reducible repeat (first|apply Kd.R_alloc|apply Kd.R_drewN|apply Kd.R_drew));exact (Kd.R_mono (Kd.R_far (p:=⟨gb436,2,none⟩) (Kd.R_far (p:=⟨gb436,1,none⟩) (Kd.R_far (p:=⟨gb436,0,none⟩) (Kd.R_types HO_387002.out BK436.out (by decide)) (fun _ hk=>hk.2) (.int .i64 t428)) (fun _ hk=>hk.2) (.slice Ao129 t429.length co129)) (fun _ hk=>hk.2) (.slice Ao130 t432.length co130)) (fun _ h_=>h_.1))));(case side8=>exact (Kd.R_reads' HO_387002.out).2.1);rintro e w152 ⟨rfl,hb⟩;refine ⟨_,rfl,?_⟩;have n0_:=Aside0.mk (Kd.R_below (by (with_reducible repeat (first|apply Kd.R_alloc|apply Kd.R_drewN|apply Kd.R_drew));exact (Kd.R_mono (Kd.R_far (p:=⟨gb436,2,none⟩) (Kd.R_far (p:=⟨gb436,1,none⟩) (Kd.R_far (p:=⟨gb436,0,none⟩) (Kd.R_types HO_387001.out BK436.out (by decide)) (fun _ hk=>hk.2) (.int .i64 t428)) (fun _ hk=>hk.2) (.slice Ao129 t429.length co129)) (fun _ hk=>hk.2) (.slice Ao130 t432.length co130)) (fun _ h_=>h_.1))) hb);have n1_:=Aside0.mk (Kd.R_below (by (with_reducible repeat (first|apply Kd.R_alloc|apply Kd.R_drewN|apply Kd.R_drew));exact (Kd.R_mono (Kd.R_far (p:=⟨gb436,2,none⟩) (Kd.R_far (p:=⟨gb436,1,none⟩) (Kd.R_far (p:=⟨gb436,0,none⟩) (Kd.R_types HO_387002.out BK436.out (by decide)) (fun _ hk=>hk.2) (.int .i64 t428)) (fun _ hk=>hk.2) (.slice Ao129 t429.length co129)) (fun _ hk=>hk.2) (.slice Ao130 t432.length co130)) (fun _ h_=>h_.1))) hb);have n2_:=Aside0.mk (Kd.R_below (by (with_reducible repeat (first|apply Kd.R_alloc|apply Kd.R_drewN|apply Kd.R_drew));exact (Kd.R_mono (Kd.R_far (p:=⟨gb436,2,none⟩) (Kd.R_far (p:=⟨gb436,1,none⟩) (Kd.R_far (p:=⟨gb436,0,none⟩) (Kd.R_types HO_395001.out BK436.out (by decide)) (fun _ hk=>hk.2) (.int .i64 t428)) (fun _ hk=>hk.2) (.slice Ao129 t429.length co129)) (fun _ hk=>hk.2) (.slice Ao130 t432.length co130)) (fun _ h_=>h_.1))) hb);have n3_:=Aside0.mk (Kd.R_below (by (with_reducible repeat (first|apply Kd.R_alloc|apply Kd.R_drewN|apply Kd.R_drew));exact (Kd.R_mono (Kd.R_far (p:=⟨gb436,2,none⟩) (Kd.R_far (p:=⟨gb436,1,none⟩) (Kd.R_far (p:=⟨gb436,0,none⟩) (Kd.R_types HO_395002.out BK436.out (by decide)) (fun _ hk=>hk.2) (.int .i64 t428)) (fun _ hk=>hk.2) (.slice Ao129 t429.length co129)) (fun _ hk=>hk.2) (.slice Ao130 t432.length co130)) (fun _ h_=>h_.1))) hb);have n4_:=Aside0.mk (Kd.R_below (by (with_reducible repeat (first|apply Kd.R_alloc|apply Kd.R_drewN|apply Kd.R_drew));exact (Kd.R_mono (Kd.R_far (p:=⟨gb436,2,none⟩) (Kd.R_far (p:=⟨gb436,1,none⟩) (Kd.R_far (p:=⟨gb436,0,none⟩) (Kd.R_types HO_404001.out BK436.out (by decide)) (fun _ hk=>hk.2) (.int .i64 t428)) (fun _ hk=>hk.2) (.slice Ao129 t429.length co129)) (fun _ hk=>hk.2) (.slice Ao130 t432.length co130)) (fun _ h_=>h_.1))) hb);have n5_:=Aside0.mk (Kd.R_below (by (with_reducible repeat (first|apply Kd.R_alloc|apply Kd.R_drewN|apply Kd.R_drew));exact (Kd.R_mono (Kd.R_far (p:=⟨gb436,2,none⟩) (Kd.R_far (p:=⟨gb436,1,none⟩) (Kd.R_far (p:=⟨gb436,0,none⟩) (Kd.R_types HO_404002.out BK436.out (by decide)) (fun _ hk=>hk.2) (.int .i64 t428)) (fun _ hk=>hk.2) (.slice Ao129 t429.length co129)) (fun _ hk=>hk.2) (.slice Ao130 t432.length co130)) (fun _ h_=>h_.1))) hb);have n6_:=Aside0.mk (Kd.R_below (by (with_reducible repeat (first|apply Kd.R_alloc|apply Kd.R_drewN|apply Kd.R_drew));exact (Kd.R_mono (Kd.R_far (p:=⟨gb436,2,none⟩) (Kd.R_far (p:=⟨gb436,1,none⟩) (Kd.R_far (p:=⟨gb436,0,none⟩) (Kd.R_types HO424.out BK436.out (by decide)) (fun _ hk=>hk.2) (.int .i64 t428)) (fun _ hk=>hk.2) (.slice Ao129 t429.length co129)) (fun _ hk=>hk.2) (.slice Ao130 t432.length co130)) (fun _ h_=>h_.1))) hb);have n7_:=Aside0.mk (Kd.R_below (by (with_reducible repeat (first|apply Kd.R_alloc|apply Kd.R_drewN|apply Kd.R_drew));exact (Kd.R_mono (Kd.R_far (p:=⟨gb436,2,none⟩) (Kd.R_far (p:=⟨gb436,1,none⟩) (Kd.R_far (p:=⟨gb436,0,none⟩) (Kd.R_types HO427.out BK436.out (by decide)) (fun _ hk=>hk.2) (.int .i64 t428)) (fun _ hk=>hk.2) (.slice Ao129 t429.length co129)) (fun _ hk=>hk.2) (.slice Ao130 t432.length co130)) (fun _ h_=>h_.1))) hb);have n8_:=Aside0.mk (Kd.R_below (by (with_reducible repeat (first|apply Kd.R_alloc|apply Kd.R_drewN|apply Kd.R_drew));exact (Kd.R_mono (Kd.R_far (p:=⟨gb436,2,none⟩) (Kd.R_far (p:=⟨gb436,1,none⟩) (Kd.R_far (p:=⟨gb436,0,none⟩) (Kd.R_types HO431.out BK436.out (by decide)) (fun _ hk=>hk.2) (.int .i64 t428)) (fun _ hk=>hk.2) (.slice Ao129 t429.length co129)) (fun _ hk=>hk.2) (.slice Ao130 t432.length co130)) (fun _ h_=>h_.1))) hb);have n9_:=Aside0.mk (Kd.R_below (by (with_reducible repeat (first|apply Kd.R_alloc|apply Kd.R_drewN|apply Kd.R_drew));exact (Kd.R_mono (Kd.R_far (p:=⟨gb436,2,none⟩) (Kd.R_far (p:=⟨gb436,1,none⟩) (Kd.R_far (p:=⟨gb436,0,none⟩) (Kd.R_types HO434.out BK436.out (by decide)) (fun _ hk=>hk.2) (.int .i64 t428)) (fun _ hk=>hk.2) (.slice Ao129 t429.length co129)) (fun _ hk=>hk.2) (.slice Ao130 t432.length co130)) (fun _ h_=>h_.1))) hb);have n10_:=Aside0.mk (blk_below (g:=gb369) (o:=.cells #[.int .i64 a0_0,.slice A0_1 l0_1.length c0_1,.slice A0_2 l0_2.length c0_2] 25 (0,0)) (by (with_reducible repeat (first|refine blk_drewN ?_ _|refine blk_drew ?_|refine blk_alloc ?_ _));refine blk_far ?_ NB369_436.out _;(with_reducible repeat (first|refine blk_drewN ?_ _|refine blk_drew ?_|refine blk_alloc ?_ _));refine blk_far ?_ NB369_436.out _;(with_reducible repeat (first|refine blk_drewN ?_ _|refine blk_drew ?_|refine blk_alloc ?_ _));refine blk_far ?_ NB369_436.out _;(with_reducible repeat (first|refine blk_drewN ?_ _|refine blk_drew ?_|refine blk_alloc ?_ _));exact BK369.out) hb);have n11_:=Aside0.mk (blk_below (g:=gb386) (o:=.cells #[.int .i64 t378,.slice Ao23 t379.length co23,.slice Ao24 t382.length co24] 29 (0,0)) (by (with_reducible repeat (first|refine blk_drewN ?_ _|refine blk_drew ?_|refine blk_alloc ?_ _));refine blk_far ?_ NB386_436.out _;(with_reducible repeat (first|refine blk_drewN ?_ _|refine blk_drew ?_|refine blk_alloc ?_ _));refine blk_far ?_ NB386_436.out _;(with_reducible repeat (first|refine blk_drewN ?_ _|refine blk_drew ?_|refine blk_alloc ?_ _));refine blk_far ?_ NB386_436.out _;(with_reducible repeat (first|refine blk_drewN ?_ _|refine blk_drew ?_|refine blk_alloc ?_ _));exact BK386.out) hb);have n12_:=Aside0.mk (blk_below (g:=gb394) (o:=.cells #[.int .i64 t387,.slice Ao31 t414.length co31,.slice Ao32 t415.length co32] 29 (0,0)) (by (with_reducible repeat (first|refine blk_drewN ?_ _|refine blk_drew ?_|refine blk_alloc ?_ _));refine blk_far ?_ NB394_436.out _;(with_reducible repeat (first|refine blk_drewN ?_ _|refine blk_drew ?_|refine blk_alloc ?_ _));refine blk_far ?_ NB394_436.out _;(with_reducible repeat (first|refine blk_drewN ?_ _|refine blk_drew ?_|refine blk_alloc ?_ _));refine blk_far ?_ NB394_436.out _;(with_reducible repeat (first|refine blk_drewN ?_ _|refine blk_drew ?_|refine blk_alloc ?_ _));exact BK394.out) hb);have n13_:=Aside0.mk (blk_below (g:=gb403) (o:=.cells #[.int .i64 t395,.slice Ao39 t396.length co39,.slice Ao40 t399.length co40] 29 (0,0)) (by (with_reducible repeat (first|refine blk_drewN ?_ _|refine blk_drew ?_|refine blk_alloc ?_ _));refine blk_far ?_ NB403_436.out _;(with_reducible repeat (first|refine blk_drewN ?_ _|refine blk_drew ?_|refine blk_alloc ?_ _));refine blk_far ?_ NB403_436.out _;(with_reducible repeat (first|refine blk_drewN ?_ _|refine blk_drew ?_|refine blk_alloc ?_ _));refine blk_far ?_ NB403_436.out _;(with_reducible repeat (first|refine blk_drewN ?_ _|refine blk_drew ?_|refine blk_alloc ?_ _));exact BK403.out) hb);have n14_:=Aside0.mk (blk_below (g:=gb436) (o:=.cells #[.int .i64 t428,.slice Ao129 t429.length co129,.slice Ao130 t432.length co130] 29 (0,0)) (by (with_reducible repeat (first|refine blk_drewN ?_ _|refine blk_drew ?_|refine blk_alloc ?_ _));refine blk_put (cs:=#[.int .i64 t428,.slice Ao129 t429.length co129,.slice none 0 0]) ?_ 2 _ rfl;(with_reducible repeat (first|refine blk_drewN ?_ _|refine blk_drew ?_|refine blk_alloc ?_ _));refine blk_put (cs:=#[.int .i64 t428,.slice none 0 0,.slice none 0 0]) ?_ 1 _ rfl;(with_reducible repeat (first|refine blk_drewN ?_ _|refine blk_drew ?_|refine blk_alloc ?_ _));refine blk_put (cs:=#[.int .i64 0,.slice none 0 0,.slice none 0 0]) ?_ 0 _ rfl;(with_reducible repeat (first|refine blk_drewN ?_ _|refine blk_drew ?_|refine blk_alloc ?_ _));exact BK436.out) hb);have n15_:=Aside0.mk (below_step (by repeat (first|(with_reducible first|exact HB.out|apply below_alloc|apply pw_below_drewN|apply below_drew1|refine below_set ?_ GE369.out|refine below_set ?_ GE386.out|refine below_set ?_ GE394.out|refine below_set ?_ GE403.out|refine below_set ?_ GE436.out)|exact HB.out)) hb);clear HO_387001;clear HO_387002;clear HO_395001;clear HO_395002;clear HO_404001;clear HO_404002;clear HO424;clear HO427;clear HO431;clear HO434;clear BK369;clear BK386;clear BK394;clear BK403;clear BK436;clear HB;have HO_387001:=n0_;have HO_387002:=n1_;have HO_395001:=n2_;have HO_395002:=n3_;have HO_404001:=n4_;have HO_404002:=n5_;have HO424:=n6_;have HO427:=n7_;have HO431:=n8_;have HO434:=n9_;have BK369:=n10_;have BK386:=n11_;have BK394:=n12_;have BK403:=n13_;have BK436:=n14_;have HB:=n15_;clear n0_ n1_ n2_ n3_ n4_ n5_ n6_ n7_ n8_ n9_ n10_ n11_ n12_ n13_ n14_ n15_;(try clear hb)))
             go_meet
             case rel=>exact ⟨_,(true),(by first|rfl|(simp;done)|(simp [*];done)),H',⟨by have:=HJ10.out;have:=HJ63.out;first|omega|exact Nat.le_refl _⟩,⟨by (try simp only [hl395001_63]);(try simp only [hl395002_63]);(with_reducible repeat (first|apply Kd.R_alloc|apply Kd.R_drewN|apply Kd.R_drew));exact Kd.R_mono HO_387001.out (fun _ hk=>⟨hk.1.1.1,⟨hk.1.1.2,hk.2⟩⟩)⟩,⟨by (try simp only [hl395001_63]);(try simp only [hl395002_63]);(with_reducible repeat (first|apply Kd.R_alloc|apply Kd.R_drewN|apply Kd.R_drew));exact Kd.R_mono HO_387002.out (fun _ hk=>⟨hk.1.1.1,⟨hk.1.1.2,hk.2⟩⟩)⟩,⟨by (try simp only [hl395001_63]);(try simp only [hl395002_63]);(with_reducible repeat (first|apply Kd.R_alloc|apply Kd.R_drewN|apply Kd.R_drew));exact Kd.R_mono HO_395001.out (fun _ hk=>⟨hk.1.1.1,⟨hk.1.1.2,hk.2⟩⟩)⟩,⟨by (try simp only [hl395001_63]);(try simp only [hl395002_63]);(with_reducible repeat (first|apply Kd.R_alloc|apply Kd.R_drewN|apply Kd.R_drew));exact Kd.R_mono HO_395002.out (fun _ hk=>⟨hk.1.1.1,⟨hk.1.1.2,hk.2⟩⟩)⟩,⟨by (try simp only [hl395001_63]);(try simp only [hl395002_63]);(with_reducible repeat (first|apply Kd.R_alloc|apply Kd.R_drewN|apply Kd.R_drew));exact Kd.R_mono HO_404001.out (fun _ hk=>⟨hk.1.1.1,⟨hk.1.1.2,hk.2⟩⟩)⟩,⟨by (try simp only [hl395001_63]);(try simp only [hl395002_63]);(with_reducible repeat (first|apply Kd.R_alloc|apply Kd.R_drewN|apply Kd.R_drew));exact Kd.R_mono HO_404002.out (fun _ hk=>⟨hk.1.1.1,⟨hk.1.1.2,hk.2⟩⟩)⟩,⟨by (try simp only [hl395001_63]);(try simp only [hl395002_63]);(with_reducible repeat (first|apply Kd.R_alloc|apply Kd.R_drewN|apply Kd.R_drew));exact Kd.R_mono HO431.out (fun _ hk=>⟨hk.1.1.1.2,⟨hk.1.1.2,hk.1.2⟩⟩)⟩,⟨by (try simp only [hl395001_63]);(try simp only [hl395002_63]);(with_reducible repeat (first|apply Kd.R_alloc|apply Kd.R_drewN|apply Kd.R_drew));exact Kd.R_mono HO434.out (fun _ hk=>⟨hk.1.1.1.2,⟨hk.1.1.2,hk.1.2⟩⟩)⟩,⟨by (try simp only [hl395001_63]);(try simp only [hl395002_63]);(with_reducible repeat (first|refine blk_drewN ?_ _|refine blk_drew ?_|refine blk_alloc ?_ _));exact BK369.out⟩,⟨by (try simp only [hl395001_63]);(try simp only [hl395002_63]);(with_reducible repeat (first|refine blk_drewN ?_ _|refine blk_drew ?_|refine blk_alloc ?_ _));exact BK386.out⟩,⟨by (try simp only [hl395001_63]);(try simp only [hl395002_63]);(with_reducible repeat (first|refine blk_drewN ?_ _|refine blk_drew ?_|refine blk_alloc ?_ _));exact BK394.out⟩,⟨by (try simp only [hl395001_63]);(try simp only [hl395002_63]);(with_reducible repeat (first|refine blk_drewN ?_ _|refine blk_drew ?_|refine blk_alloc ?_ _));exact BK403.out⟩,⟨by (try simp only [hl395001_63]);(try simp only [hl395002_63]);(with_reducible repeat (first|refine blk_drewN ?_ _|refine blk_drew ?_|refine blk_alloc ?_ _));exact BK436.out⟩,⟨by repeat (first|(with_reducible first|exact HB.out|apply below_alloc|apply pw_below_drewN|apply below_drew1|refine below_set ?_ GE369.out|refine below_set ?_ GE386.out|refine below_set ?_ GE394.out|refine below_set ?_ GE403.out|refine below_set ?_ GE436.out)|exact HB.out)⟩⟩
           case rest=>
            clear HC108
            try clear c1
            try clear c2
            try clear p2
            try clear c3
            try clear c3b0
            try clear c4
            try clear c5
            try clear c6
            try clear c7
            try clear c8
            try clear c9
            try clear c10
            try clear c11
            try clear c12
            try clear c13
            try clear c14
            try clear c15
            try clear c16
            try clear c21
            try clear c22
            try clear c23
            try clear c28
            try clear c29
            try clear c35
            try clear c36
            try clear c37
            try clear c42
            try clear c43
            try clear c44
            try clear c45
            try clear c47
            try clear c48
            try clear c51
            try clear c52
            try clear c53
            try clear c55
            try clear c56
            try clear c59
            try clear c62
            try clear c70
            try clear c71
            try clear c72
            try clear c75
            try clear c75b0
            try clear c77
            try clear c78
            try clear c79
            try clear c80
            try clear c82
            try clear c83
            try clear c86
            try clear c87
            try clear c88
            try clear c90
            try clear c91
            try clear c94
            try clear c97
            try clear c97b0
            try clear c98
            try clear c99
            try clear c100
            try clear c105
            try clear c105b0
            try clear c105b1
            try clear c109
            try clear c110
            try clear c111
            try clear c116
            try clear c117
            try clear c124
            try clear c125
            try clear c126
            try clear c127
            try clear c132
            try clear c133
            try clear c134
            try clear c135
            try clear c136
            try clear c138
            try clear c139
            try clear c140
            try clear c143
            try clear c144
            try clear c145
            try clear c146
            try clear c148
            try clear c149
            try clear c150
            try clear hcz101_0
            try clear hcz101_1
            try clear hcz101_2
            try clear hcz103_0
            try clear hcz103_1
            try clear hcz103_2
            try clear hcz112_0
            try clear hcz112_1
            try clear hcz112_2
            try clear hcz114_0
            try clear hcz114_1
            try clear hcz114_2
            try clear hcz118_0
            try clear hcz118_1
            try clear hcz118_2
            try clear hcz128_0
            try clear hcz128_1
            try clear hcz128_2
            try clear hcz137_0
            try clear hcz137_1
            try clear hcz137_2
            try clear hcz13_0
            try clear hcz13_1
            try clear hcz13_2
            try clear hcz141_0
            try clear hcz141_1
            try clear hcz141_2
            try clear hcz147_0
            try clear hcz147_1
            try clear hcz147_2
            try clear hcz151_0
            try clear hcz151_1
            try clear hcz151_2
            try clear hcz15_0
            try clear hcz15_1
            try clear hcz15_2
            try clear hcz22_0
            try clear hcz22_1
            try clear hcz22_2
            try clear hcz25_0
            try clear hcz25_1
            try clear hcz25_2
            try clear hcz30_0
            try clear hcz30_1
            try clear hcz30_2
            try clear hcz38_0
            try clear hcz38_1
            try clear hcz38_2
            try clear hcz46_0
            try clear hcz46_1
            try clear hcz46_2
            try clear hcz49_0
            try clear hcz49_1
            try clear hcz49_2
            try clear hcz54_0
            try clear hcz54_1
            try clear hcz54_2
            try clear hcz57_0
            try clear hcz57_1
            try clear hcz57_2
            try clear hcz5_0
            try clear hcz5_1
            try clear hcz5_2
            try clear hcz73_0
            try clear hcz73_1
            try clear hcz73_2
            try clear hcz81_0
            try clear hcz81_1
            try clear hcz81_2
            try clear hcz84_0
            try clear hcz84_1
            try clear hcz84_2
            try clear hcz89_0
            try clear hcz89_1
            try clear hcz89_2
            try clear hcz92_0
            try clear hcz92_1
            try clear hcz92_2
            try clear hfz101_0
            try clear hfz101_1
            try clear hfz101_2
            try clear hfz103_0
            try clear hfz103_1
            try clear hfz103_2
            try clear hfz112_0
            try clear hfz112_1
            try clear hfz112_2
            try clear hfz114_0
            try clear hfz114_1
            try clear hfz114_2
            try clear hfz118_0
            try clear hfz118_1
            try clear hfz118_2
            try clear hfz128_0
            try clear hfz128_1
            try clear hfz128_2
            try clear hfz137_0
            try clear hfz137_1
            try clear hfz137_2
            try clear hfz13_0
            try clear hfz13_1
            try clear hfz13_2
            try clear hfz141_0
            try clear hfz141_1
            try clear hfz141_2
            try clear hfz147_0
            try clear hfz147_1
            try clear hfz147_2
            try clear hfz151_0
            try clear hfz151_1
            try clear hfz151_2
            try clear hfz15_0
            try clear hfz15_1
            try clear hfz15_2
            try clear hfz22_0
            try clear hfz22_1
            try clear hfz22_2
            try clear hfz25_0
            try clear hfz25_1
            try clear hfz25_2
            try clear hfz30_0
            try clear hfz30_1
            try clear hfz30_2
            try clear hfz38_0
            try clear hfz38_1
            try clear hfz38_2
            try clear hfz46_0
            try clear hfz46_1
            try clear hfz46_2
            try clear hfz49_0
            try clear hfz49_1
            try clear hfz49_2
            try clear hfz54_0
            try clear hfz54_1
            try clear hfz54_2
            try clear hfz57_0
            try clear hfz57_1
            try clear hfz57_2
            try clear hfz5_0
            try clear hfz5_1
            try clear hfz5_2
            try clear hfz73_0
            try clear hfz73_1
            try clear hfz73_2
            try clear hfz81_0
            try clear hfz81_1
            try clear hfz81_2
            try clear hfz84_0
            try clear hfz84_1
            try clear hfz84_2
            try clear hfz89_0
            try clear hfz89_1
            try clear hfz89_2
            try clear hfz92_0
            try clear hfz92_1
            try clear hfz92_2
            try clear p2
            obtain ⟨kq,x87_107,rfl,HA,HJ107,HO_387001,HO_387002,HO_395001,HO_395002,HO_404001,HO_404002,HO_437001,HO_437002,BK369,BK386,BK394,BK403,BK436,HB⟩:=hcut
            have hl404001_107:=(Kd.R_reads' HO_404001.out).1
            rw [hl404001_107] at HO_404001
            (try simp only [hl404001_107])
            (try simp only [hl404001_107] at BK369)
            (try simp only [hl404001_107] at BK386)
            (try simp only [hl404001_107] at BK394)
            (try simp only [hl404001_107] at BK403)
            (try simp only [hl404001_107] at BK436)
            (try simp only [hl404001_107] at HO_387001)
            (try simp only [hl404001_107] at HO_387002)
            (try simp only [hl404001_107] at HO_395001)
            (try simp only [hl404001_107] at HO_395002)
            (try simp only [hl404001_107] at HO_404002)
            (try simp only [hl404001_107] at HO_437001)
            (try simp only [hl404001_107] at HO_437002)
            have hl404002_107:=(Kd.R_reads' HO_404002.out).1
            rw [hl404002_107] at HO_404002
            (try simp only [hl404002_107])
            (try simp only [hl404002_107] at BK369)
            (try simp only [hl404002_107] at BK386)
            (try simp only [hl404002_107] at BK394)
            (try simp only [hl404002_107] at BK403)
            (try simp only [hl404002_107] at BK436)
            (try simp only [hl404002_107] at HO_387001)
            (try simp only [hl404002_107] at HO_387002)
            (try simp only [hl404002_107] at HO_395001)
            (try simp only [hl404002_107] at HO_395002)
            (try simp only [hl404002_107] at HO_404001)
            (try simp only [hl404002_107] at HO_437001)
            (try simp only [hl404002_107] at HO_437002)
            cases kq with
            | zero=>exact absurd HA.out (by simp [laws_FnExactTrimPlan.j2])
            | succ kj107=>
             have H:=HA.out
             clear HA
             simp only [laws_FnExactTrimPlan.j2] at H
             by_cases c153 : x87_107 = true
             ·subst c153
              have H1 : (some false) = some r:=by rw [if_pos rfl] at H;exact H
              clear H
              have H:=H1
              clear H1
              obtain rfl:=Option.some.inj H
              go_wp2
              go_ret
              exact ⟨by first|rfl|(simp [errW_none,errW_some] <;> rfl)|(simp [*,errW_none,errW_some] <;> rfl),by repeat (first|(with_reducible first|exact HB.out|apply below_alloc|apply pw_below_drewN|apply below_drew1|refine below_set ?_ GE369.out|refine below_set ?_ GE386.out|refine below_set ?_ GE394.out|refine below_set ?_ GE403.out|refine below_set ?_ GE436.out)|exact HB.out)⟩
             ·replace c153:=Bool.eq_false_iff.mpr c153
              subst c153
              have H1 : ((laws_heldPlan.f kj107 t395 t418 t419 1).bind fun t438=>(if t438 < 0 then (some false) else (if t438 = t417 then (some true) else (some false)))) = some r:=by rw [if_neg (show ¬ (false = true) by decide)] at H;exact H
              clear H
              have H:=H1
              clear H1
              replace H:=Option.bind_eq_some_iff.mp H
              obtain ⟨t438,A1540,H⟩:=H
              replace H : (if t438 < 0 then (some false) else (if t438 = t417 then (some true) else (some false))) = some r:=H
              have A154:=Aside0.mk A1540
              clear A1540
              by_cases c155 : t438 < 0
              ·rw [if_pos c155] at H
               have c155b0 : decide (t438 < 0) = true:=decide_eq_true c155
               clear c155
               obtain rfl:=Option.some.inj H
               have hnb156:=NB403_369.out
               have hnc156:=NB369_403.out
               have hnb157:=NB403_386.out
               have hnc157:=NB386_403.out
               have hnb158:=NB403_394.out
               have hnc158:=NB394_403.out
               have hnb159:=NB403_436.out
               have hnc159:=NB436_403.out
               have hcz160_0 : wc.cell? ⟨gb403,0,none⟩ = some (.int .i64 t395):=(blk_cell BK403.out 0).trans rfl
               have hcz160_1 : wc.cell? ⟨gb403,1,none⟩ = some (.slice Ao39 t418.length co39):=(blk_cell BK403.out 1).trans rfl
               have hcz160_2 : wc.cell? ⟨gb403,2,none⟩ = some (.slice Ao40 t419.length co40):=(blk_cell BK403.out 2).trans rfl
               have hfz160_0:=blk_frozen BK403.out 0
               have hfz160_1:=blk_frozen BK403.out 1
               have hfz160_2:=blk_frozen BK403.out 2
               go_wp2_with (first|((with_reducible refine gate_callee (f:=16) rfl ?_);refine goesL_ (some 90) rfl rfl Try.func16 (by kernel_rfl) rfl #[.agg #[.int .i64 t395,.slice Ao39 t418.length co39,.slice Ao40 t419.length co40],.int .i64 1] rfl (by (try simp only [List.map_toArray,List.map_cons,List.map_nil]);first|done|rfl|(simp only [List.length_drop,List.length_take];rfl)) ?_;(with_reducible refine (laws_heldPlan.calls kj107 t395 _ _ t418 _ _ t419 1 t438 _ ?side1 ?side2 ?side3 ?side4 A154.out).mono ?_);(case side1=>repeat (first|exact (Kd.R_reads' HO_404001.out).2.2|(with_reducible refine Kd.C_alloc ?_ _)|(with_reducible refine Kd.C_drewN ?_ _)|(with_reducible refine Kd.C_drew ?_)));(case side2=>exact (Kd.R_reads' HO_404001.out).2.1);(case side3=>repeat (first|exact (Kd.R_reads' HO_404002.out).2.2|(with_reducible refine Kd.C_alloc ?_ _)|(with_reducible refine Kd.C_drewN ?_ _)|(with_reducible refine Kd.C_drew ?_)));(case side4=>exact (Kd.R_reads' HO_404002.out).2.1);rintro e w161 ⟨rfl,hb⟩;refine ⟨_,rfl,?_⟩;have n0_:=Aside0.mk (Kd.R_below (by (with_reducible repeat (first|apply Kd.R_alloc|apply Kd.R_drewN|apply Kd.R_drew));exact HO_387001.out) hb);have n1_:=Aside0.mk (Kd.R_below (by (with_reducible repeat (first|apply Kd.R_alloc|apply Kd.R_drewN|apply Kd.R_drew));exact HO_387002.out) hb);have n2_:=Aside0.mk (Kd.R_below (by (with_reducible repeat (first|apply Kd.R_alloc|apply Kd.R_drewN|apply Kd.R_drew));exact HO_395001.out) hb);have n3_:=Aside0.mk (Kd.R_below (by (with_reducible repeat (first|apply Kd.R_alloc|apply Kd.R_drewN|apply Kd.R_drew));exact HO_395002.out) hb);have n4_:=Aside0.mk (Kd.R_below (by (with_reducible repeat (first|apply Kd.R_alloc|apply Kd.R_drewN|apply Kd.R_drew));exact HO_404001.out) hb);have n5_:=Aside0.mk (Kd.R_below (by (with_reducible repeat (first|apply Kd.R_alloc|apply Kd.R_drewN|apply Kd.R_drew));exact HO_404002.out) hb);have n6_:=Aside0.mk (Kd.R_below (by (with_reducible repeat (first|apply Kd.R_alloc|apply Kd.R_drewN|apply Kd.R_drew));exact HO_437001.out) hb);have n7_:=Aside0.mk (Kd.R_below (by (with_reducible repeat (first|apply Kd.R_alloc|apply Kd.R_drewN|apply Kd.R_drew));exact HO_437002.out) hb);have n8_:=Aside0.mk (blk_below (g:=gb369) (o:=.cells #[.int .i64 a0_0,.slice A0_1 l0_1.length c0_1,.slice A0_2 l0_2.length c0_2] 25 (0,0)) (by (with_reducible repeat (first|refine blk_drewN ?_ _|refine blk_drew ?_|refine blk_alloc ?_ _));exact BK369.out) hb);have n9_:=Aside0.mk (blk_below (g:=gb386) (o:=.cells #[.int .i64 t378,.slice Ao23 t379.length co23,.slice Ao24 t382.length co24] 29 (0,0)) (by (with_reducible repeat (first|refine blk_drewN ?_ _|refine blk_drew ?_|refine blk_alloc ?_ _));exact BK386.out) hb);have n10_:=Aside0.mk (blk_below (g:=gb394) (o:=.cells #[.int .i64 t387,.slice Ao31 t414.length co31,.slice Ao32 t415.length co32] 29 (0,0)) (by (with_reducible repeat (first|refine blk_drewN ?_ _|refine blk_drew ?_|refine blk_alloc ?_ _));exact BK394.out) hb);have n11_:=Aside0.mk (blk_below (g:=gb403) (o:=.cells #[.int .i64 t395,.slice Ao39 t418.length co39,.slice Ao40 t419.length co40] 29 (0,0)) (by (with_reducible repeat (first|refine blk_drewN ?_ _|refine blk_drew ?_|refine blk_alloc ?_ _));exact BK403.out) hb);have n12_:=Aside0.mk (blk_below (g:=gb436) (o:=.cells #[.int .i64 t428,.slice Ao129 t429.length co129,.slice Ao130 t432.length co130] 29 (0,0)) (by (with_reducible repeat (first|refine blk_drewN ?_ _|refine blk_drew ?_|refine blk_alloc ?_ _));exact BK436.out) hb);have n13_:=Aside0.mk (below_step (by repeat (first|(with_reducible first|exact HB.out|apply below_alloc|apply pw_below_drewN|apply below_drew1|refine below_set ?_ GE369.out|refine below_set ?_ GE386.out|refine below_set ?_ GE394.out|refine below_set ?_ GE403.out|refine below_set ?_ GE436.out)|exact HB.out)) hb);clear HO_387001;clear HO_387002;clear HO_395001;clear HO_395002;clear HO_404001;clear HO_404002;clear HO_437001;clear HO_437002;clear BK369;clear BK386;clear BK394;clear BK403;clear BK436;clear HB;have HO_387001:=n0_;have HO_387002:=n1_;have HO_395001:=n2_;have HO_395002:=n3_;have HO_404001:=n4_;have HO_404002:=n5_;have HO_437001:=n6_;have HO_437002:=n7_;have BK369:=n8_;have BK386:=n9_;have BK394:=n10_;have BK403:=n11_;have BK436:=n12_;have HB:=n13_;clear n0_ n1_ n2_ n3_ n4_ n5_ n6_ n7_ n8_ n9_ n10_ n11_ n12_ n13_;(try clear hb)))
               go_ret
               exact ⟨by first|rfl|(simp [errW_none,errW_some] <;> rfl)|(simp [*,errW_none,errW_some] <;> rfl),by repeat (first|(with_reducible first|exact HB.out|apply below_alloc|apply pw_below_drewN|apply below_drew1|refine below_set ?_ GE369.out|refine below_set ?_ GE386.out|refine below_set ?_ GE394.out|refine below_set ?_ GE403.out|refine below_set ?_ GE436.out)|exact HB.out)⟩
              ·rw [if_neg c155] at H
               have c155b0 : decide (t438 < 0) = false:=decide_eq_false c155
               clear c155
               by_cases c162 : t438 = t417
               ·rw [if_pos c162] at H
                have c162b0 : (t438 == t417) = true:=beq_iff_eq.mpr c162
                have c162b1 : (t438 != t417) = false:=bne_eq_false_iff_eq.mpr c162
                clear c162
                obtain rfl:=Option.some.inj H
                have hnb163:=NB403_369.out
                have hnc163:=NB369_403.out
                have hnb164:=NB403_386.out
                have hnc164:=NB386_403.out
                have hnb165:=NB403_394.out
                have hnc165:=NB394_403.out
                have hnb166:=NB403_436.out
                have hnc166:=NB436_403.out
                have hcz167_0 : wc.cell? ⟨gb403,0,none⟩ = some (.int .i64 t395):=(blk_cell BK403.out 0).trans rfl
                have hcz167_1 : wc.cell? ⟨gb403,1,none⟩ = some (.slice Ao39 t418.length co39):=(blk_cell BK403.out 1).trans rfl
                have hcz167_2 : wc.cell? ⟨gb403,2,none⟩ = some (.slice Ao40 t419.length co40):=(blk_cell BK403.out 2).trans rfl
                have hfz167_0:=blk_frozen BK403.out 0
                have hfz167_1:=blk_frozen BK403.out 1
                have hfz167_2:=blk_frozen BK403.out 2
                go_wp2_with (first|((with_reducible refine gate_callee (f:=16) rfl ?_);refine goesL_ (some 90) rfl rfl Try.func16 (by kernel_rfl) rfl #[.agg #[.int .i64 t395,.slice Ao39 t418.length co39,.slice Ao40 t419.length co40],.int .i64 1] rfl (by (try simp only [List.map_toArray,List.map_cons,List.map_nil]);first|done|rfl|(simp only [List.length_drop,List.length_take];rfl)) ?_;(with_reducible refine (laws_heldPlan.calls kj107 t395 _ _ t418 _ _ t419 1 t438 _ ?side1 ?side2 ?side3 ?side4 A154.out).mono ?_);(case side1=>repeat (first|exact (Kd.R_reads' HO_404001.out).2.2|(with_reducible refine Kd.C_alloc ?_ _)|(with_reducible refine Kd.C_drewN ?_ _)|(with_reducible refine Kd.C_drew ?_)));(case side2=>exact (Kd.R_reads' HO_404001.out).2.1);(case side3=>repeat (first|exact (Kd.R_reads' HO_404002.out).2.2|(with_reducible refine Kd.C_alloc ?_ _)|(with_reducible refine Kd.C_drewN ?_ _)|(with_reducible refine Kd.C_drew ?_)));(case side4=>exact (Kd.R_reads' HO_404002.out).2.1);rintro e w168 ⟨rfl,hb⟩;refine ⟨_,rfl,?_⟩;have n0_:=Aside0.mk (Kd.R_below (by (with_reducible repeat (first|apply Kd.R_alloc|apply Kd.R_drewN|apply Kd.R_drew));exact HO_387001.out) hb);have n1_:=Aside0.mk (Kd.R_below (by (with_reducible repeat (first|apply Kd.R_alloc|apply Kd.R_drewN|apply Kd.R_drew));exact HO_387002.out) hb);have n2_:=Aside0.mk (Kd.R_below (by (with_reducible repeat (first|apply Kd.R_alloc|apply Kd.R_drewN|apply Kd.R_drew));exact HO_395001.out) hb);have n3_:=Aside0.mk (Kd.R_below (by (with_reducible repeat (first|apply Kd.R_alloc|apply Kd.R_drewN|apply Kd.R_drew));exact HO_395002.out) hb);have n4_:=Aside0.mk (Kd.R_below (by (with_reducible repeat (first|apply Kd.R_alloc|apply Kd.R_drewN|apply Kd.R_drew));exact HO_404001.out) hb);have n5_:=Aside0.mk (Kd.R_below (by (with_reducible repeat (first|apply Kd.R_alloc|apply Kd.R_drewN|apply Kd.R_drew));exact HO_404002.out) hb);have n6_:=Aside0.mk (Kd.R_below (by (with_reducible repeat (first|apply Kd.R_alloc|apply Kd.R_drewN|apply Kd.R_drew));exact HO_437001.out) hb);have n7_:=Aside0.mk (Kd.R_below (by (with_reducible repeat (first|apply Kd.R_alloc|apply Kd.R_drewN|apply Kd.R_drew));exact HO_437002.out) hb);have n8_:=Aside0.mk (blk_below (g:=gb369) (o:=.cells #[.int .i64 a0_0,.slice A0_1 l0_1.length c0_1,.slice A0_2 l0_2.length c0_2] 25 (0,0)) (by (with_reducible repeat (first|refine blk_drewN ?_ _|refine blk_drew ?_|refine blk_alloc ?_ _));exact BK369.out) hb);have n9_:=Aside0.mk (blk_below (g:=gb386) (o:=.cells #[.int .i64 t378,.slice Ao23 t379.length co23,.slice Ao24 t382.length co24] 29 (0,0)) (by (with_reducible repeat (first|refine blk_drewN ?_ _|refine blk_drew ?_|refine blk_alloc ?_ _));exact BK386.out) hb);have n10_:=Aside0.mk (blk_below (g:=gb394) (o:=.cells #[.int .i64 t387,.slice Ao31 t414.length co31,.slice Ao32 t415.length co32] 29 (0,0)) (by (with_reducible repeat (first|refine blk_drewN ?_ _|refine blk_drew ?_|refine blk_alloc ?_ _));exact BK394.out) hb);have n11_:=Aside0.mk (blk_below (g:=gb403) (o:=.cells #[.int .i64 t395,.slice Ao39 t418.length co39,.slice Ao40 t419.length co40] 29 (0,0)) (by (with_reducible repeat (first|refine blk_drewN ?_ _|refine blk_drew ?_|refine blk_alloc ?_ _));exact BK403.out) hb);have n12_:=Aside0.mk (blk_below (g:=gb436) (o:=.cells #[.int .i64 t428,.slice Ao129 t429.length co129,.slice Ao130 t432.length co130] 29 (0,0)) (by (with_reducible repeat (first|refine blk_drewN ?_ _|refine blk_drew ?_|refine blk_alloc ?_ _));exact BK436.out) hb);have n13_:=Aside0.mk (below_step (by repeat (first|(with_reducible first|exact HB.out|apply below_alloc|apply pw_below_drewN|apply below_drew1|refine below_set ?_ GE369.out|refine below_set ?_ GE386.out|refine below_set ?_ GE394.out|refine below_set ?_ GE403.out|refine below_set ?_ GE436.out)|exact HB.out)) hb);clear HO_387001;clear HO_387002;clear HO_395001;clear HO_395002;clear HO_404001;clear HO_404002;clear HO_437001;clear HO_437002;clear BK369;clear BK386;clear BK394;clear BK403;clear BK436;clear HB;have HO_387001:=n0_;have HO_387002:=n1_;have HO_395001:=n2_;have HO_395002:=n3_;have HO_404001:=n4_;have HO_404002:=n5_;have HO_437001:=n6_;have HO_437002:=n7_;have BK369:=n8_;have BK386:=n9_;have BK394:=n10_;have BK403:=n11_;have BK436:=n12_;have HB:=n13_;clear n0_ n1_ n2_ n3_ n4_ n5_ n6_ n7_ n8_ n9_ n10_ n11_ n12_ n13_;(try clear hb)))
                go_ret
                exact ⟨by first|rfl|(simp [errW_none,errW_some] <;> rfl)|(simp [*,errW_none,errW_some] <;> rfl),by repeat (first|(with_reducible first|exact HB.out|apply below_alloc|apply pw_below_drewN|apply below_drew1|refine below_set ?_ GE369.out|refine below_set ?_ GE386.out|refine below_set ?_ GE394.out|refine below_set ?_ GE403.out|refine below_set ?_ GE436.out)|exact HB.out)⟩
               ·rw [if_neg c162] at H
                have c162b0 : (t438 == t417) = false:=beq_eq_false_iff_ne.mpr c162
                have c162b1 : (t438 != t417) = true:=bne_iff_ne.mpr c162
                obtain rfl:=Option.some.inj H
                have hnb169:=NB403_369.out
                have hnc169:=NB369_403.out
                have hnb170:=NB403_386.out
                have hnc170:=NB386_403.out
                have hnb171:=NB403_394.out
                have hnc171:=NB394_403.out
                have hnb172:=NB403_436.out
                have hnc172:=NB436_403.out
                have hcz173_0 : wc.cell? ⟨gb403,0,none⟩ = some (.int .i64 t395):=(blk_cell BK403.out 0).trans rfl
                have hcz173_1 : wc.cell? ⟨gb403,1,none⟩ = some (.slice Ao39 t418.length co39):=(blk_cell BK403.out 1).trans rfl
                have hcz173_2 : wc.cell? ⟨gb403,2,none⟩ = some (.slice Ao40 t419.length co40):=(blk_cell BK403.out 2).trans rfl
                have hfz173_0:=blk_frozen BK403.out 0
                have hfz173_1:=blk_frozen BK403.out 1
                have hfz173_2:=blk_frozen BK403.out 2
                go_wp2_with (first|((with_reducible refine gate_callee (f:=16) rfl ?_);refine goesL_ (some 90) rfl rfl Try.func16 (by kernel_rfl) rfl #[.agg #[.int .i64 t395,.slice Ao39 t418.length co39,.slice Ao40 t419.length co40],.int .i64 1] rfl (by (try simp only [List.map_toArray,List.map_cons,List.map_nil]);first|done|rfl|(simp only [List.length_drop,List.length_take];rfl)) ?_;(with_reducible refine (laws_heldPlan.calls kj107 t395 _ _ t418 _ _ t419 1 t438 _ ?side1 ?side2 ?side3 ?side4 A154.out).mono ?_);(case side1=>repeat (first|exact (Kd.R_reads' HO_404001.out).2.2|(with_reducible refine Kd.C_alloc ?_ _)|(with_reducible refine Kd.C_drewN ?_ _)|(with_reducible refine Kd.C_drew ?_)));(case side2=>exact (Kd.R_reads' HO_404001.out).2.1);(case side3=>repeat (first|exact (Kd.R_reads' HO_404002.out).2.2|(with_reducible refine Kd.C_alloc ?_ _)|(with_reducible refine Kd.C_drewN ?_ _)|(with_reducible refine Kd.C_drew ?_)));(case side4=>exact (Kd.R_reads' HO_404002.out).2.1);rintro e w174 ⟨rfl,hb⟩;refine ⟨_,rfl,?_⟩;have n0_:=Aside0.mk (Kd.R_below (by (with_reducible repeat (first|apply Kd.R_alloc|apply Kd.R_drewN|apply Kd.R_drew));exact HO_387001.out) hb);have n1_:=Aside0.mk (Kd.R_below (by (with_reducible repeat (first|apply Kd.R_alloc|apply Kd.R_drewN|apply Kd.R_drew));exact HO_387002.out) hb);have n2_:=Aside0.mk (Kd.R_below (by (with_reducible repeat (first|apply Kd.R_alloc|apply Kd.R_drewN|apply Kd.R_drew));exact HO_395001.out) hb);have n3_:=Aside0.mk (Kd.R_below (by (with_reducible repeat (first|apply Kd.R_alloc|apply Kd.R_drewN|apply Kd.R_drew));exact HO_395002.out) hb);have n4_:=Aside0.mk (Kd.R_below (by (with_reducible repeat (first|apply Kd.R_alloc|apply Kd.R_drewN|apply Kd.R_drew));exact HO_404001.out) hb);have n5_:=Aside0.mk (Kd.R_below (by (with_reducible repeat (first|apply Kd.R_alloc|apply Kd.R_drewN|apply Kd.R_drew));exact HO_404002.out) hb);have n6_:=Aside0.mk (Kd.R_below (by (with_reducible repeat (first|apply Kd.R_alloc|apply Kd.R_drewN|apply Kd.R_drew));exact HO_437001.out) hb);have n7_:=Aside0.mk (Kd.R_below (by (with_reducible repeat (first|apply Kd.R_alloc|apply Kd.R_drewN|apply Kd.R_drew));exact HO_437002.out) hb);have n8_:=Aside0.mk (blk_below (g:=gb369) (o:=.cells #[.int .i64 a0_0,.slice A0_1 l0_1.length c0_1,.slice A0_2 l0_2.length c0_2] 25 (0,0)) (by (with_reducible repeat (first|refine blk_drewN ?_ _|refine blk_drew ?_|refine blk_alloc ?_ _));exact BK369.out) hb);have n9_:=Aside0.mk (blk_below (g:=gb386) (o:=.cells #[.int .i64 t378,.slice Ao23 t379.length co23,.slice Ao24 t382.length co24] 29 (0,0)) (by (with_reducible repeat (first|refine blk_drewN ?_ _|refine blk_drew ?_|refine blk_alloc ?_ _));exact BK386.out) hb);have n10_:=Aside0.mk (blk_below (g:=gb394) (o:=.cells #[.int .i64 t387,.slice Ao31 t414.length co31,.slice Ao32 t415.length co32] 29 (0,0)) (by (with_reducible repeat (first|refine blk_drewN ?_ _|refine blk_drew ?_|refine blk_alloc ?_ _));exact BK394.out) hb);have n11_:=Aside0.mk (blk_below (g:=gb403) (o:=.cells #[.int .i64 t395,.slice Ao39 t418.length co39,.slice Ao40 t419.length co40] 29 (0,0)) (by (with_reducible repeat (first|refine blk_drewN ?_ _|refine blk_drew ?_|refine blk_alloc ?_ _));exact BK403.out) hb);have n12_:=Aside0.mk (blk_below (g:=gb436) (o:=.cells #[.int .i64 t428,.slice Ao129 t429.length co129,.slice Ao130 t432.length co130] 29 (0,0)) (by (with_reducible repeat (first|refine blk_drewN ?_ _|refine blk_drew ?_|refine blk_alloc ?_ _));exact BK436.out) hb);have n13_:=Aside0.mk (below_step (by repeat (first|(with_reducible first|exact HB.out|apply below_alloc|apply pw_below_drewN|apply below_drew1|refine below_set ?_ GE369.out|refine below_set ?_ GE386.out|refine below_set ?_ GE394.out|refine below_set ?_ GE403.out|refine below_set ?_ GE436.out)|exact HB.out)) hb);clear HO_387001;clear HO_387002;clear HO_395001;clear HO_395002;clear HO_404001;clear HO_404002;clear HO_437001;clear HO_437002;clear BK369;clear BK386;clear BK394;clear BK403;clear BK436;clear HB;have HO_387001:=n0_;have HO_387002:=n1_;have HO_395001:=n2_;have HO_395002:=n3_;have HO_404001:=n4_;have HO_404002:=n5_;have HO_437001:=n6_;have HO_437002:=n7_;have BK369:=n8_;have BK386:=n9_;have BK394:=n10_;have BK403:=n11_;have BK436:=n12_;have HB:=n13_;clear n0_ n1_ n2_ n3_ n4_ n5_ n6_ n7_ n8_ n9_ n10_ n11_ n12_ n13_;(try clear hb)))
                go_ret
                exact ⟨by first|rfl|(simp [errW_none,errW_some] <;> rfl)|(simp [*,errW_none,errW_some] <;> rfl),by repeat (first|(with_reducible first|exact HB.out|apply below_alloc|apply pw_below_drewN|apply below_drew1|refine below_set ?_ GE369.out|refine below_set ?_ GE386.out|refine below_set ?_ GE394.out|refine below_set ?_ GE403.out|refine below_set ?_ GE436.out)|exact HB.out)⟩
          ·rw [if_neg c105] at H
           have c105b0 : (t420 == t417) = false:=beq_eq_false_iff_ne.mpr c105
           have c105b1 : (t420 != t417) = true:=bne_iff_ne.mpr c105
           obtain rfl:=Option.some.inj H
           have hnb175:=NB403_369.out
           have hnc175:=NB369_403.out
           have hnb176:=NB403_386.out
           have hnc176:=NB386_403.out
           have hnb177:=NB403_394.out
           have hnc177:=NB394_403.out
           have hcz178_0 : wc.cell? ⟨gb403,0,none⟩ = some (.int .i64 t395):=(blk_cell BK403.out 0).trans rfl
           have hcz178_1 : wc.cell? ⟨gb403,1,none⟩ = some (.slice Ao39 t396.length co39):=(blk_cell BK403.out 1).trans rfl
           have hcz178_2 : wc.cell? ⟨gb403,2,none⟩ = some (.slice Ao40 t399.length co40):=(blk_cell BK403.out 2).trans rfl
           have hfz178_0:=blk_frozen BK403.out 0
           have hfz178_1:=blk_frozen BK403.out 1
           have hfz178_2:=blk_frozen BK403.out 2
           go_wp2_with (first|((with_reducible refine gate_callee (f:=15) rfl ?_);refine goesL_ (some 64) rfl rfl Try.func15 (by kernel_rfl) rfl #[.agg #[.int .i64 t395,.slice Ao39 t396.length co39,.slice Ao40 t399.length co40],.int .i64 1] rfl (by (try simp only [List.map_toArray,List.map_cons,List.map_nil]);first|done|rfl|(simp only [List.length_drop,List.length_take];rfl)) ?_;(with_reducible refine (laws_markPlan.calls kj63 t395 (fun k_=>some k_ = (.slice Ao39 t396.length co39 : Value).ownBlock) (.slice Ao39 t396.length co39) t396 (fun k_=>some k_ = (.slice Ao40 t399.length co40 : Value).ownBlock) (.slice Ao40 t399.length co40) t399 1 t417 t418 t419 w _ ?side1 ?side2 ?side3 A95.out).mono ?_);(case side1=>repeat (first|(with_reducible first|exact HB.out|apply below_alloc|apply pw_below_drewN|apply below_drew1|refine below_set ?_ GE369.out|refine below_set ?_ GE386.out|refine below_set ?_ GE394.out|refine below_set ?_ GE403.out)|exact HB.out));(case side2=>exact Kd.R_tight rfl HO_404001.out);(case side3=>exact Kd.R_tight rfl HO_404002.out);rintro e w179 ⟨rfl,hy0,hy1,hb,hkp⟩;refine ⟨_,rfl,?_⟩;have n0_:=Aside0.mk (Kd.R_mono (ok':=fun k_=>some k_ ≠ (.slice Ao31 t414.length co31 : Value).ownBlock ∧ some k_ ≠ (.slice Ao39 t396.length co39 : Value).ownBlock) (Kd.R_keptB ((Kd.R_apart' HO_387001.out (Kd.R_typed HO_404002.out) (by decide))) hkp (fun k_ hk_ hs_=>Or.elim hs_ (fun e_=>(hk_.1.2) e_) (fun e_=>(hk_.2) e_))) (fun k_ hk_=>⟨hk_.1.1.1,hk_.1.1.2⟩));have n1_:=Aside0.mk (Kd.R_mono (ok':=fun k_=>some k_ ≠ (.slice Ao32 t415.length co32 : Value).ownBlock ∧ some k_ ≠ (.slice Ao40 t399.length co40 : Value).ownBlock) (Kd.R_keptB ((Kd.R_apart' HO_387002.out (Kd.R_typed HO_404001.out) (by decide))) hkp (fun k_ hk_ hs_=>Or.elim hs_ (fun e_=>(hk_.2) e_) (fun e_=>(hk_.1.2) e_))) (fun k_ hk_=>⟨hk_.1.1.1,hk_.1.1.2⟩));have n2_:=Aside0.mk (Kd.R_mono (ok':=fun k_=>some k_ ≠ (.slice Ao23 t379.length co23 : Value).ownBlock ∧ some k_ ≠ (.slice Ao39 t396.length co39 : Value).ownBlock) (Kd.R_keptB ((Kd.R_apart' HO_395001.out (Kd.R_typed HO_404002.out) (by decide))) hkp (fun k_ hk_ hs_=>Or.elim hs_ (fun e_=>(hk_.1.2) e_) (fun e_=>(hk_.2) e_))) (fun k_ hk_=>⟨hk_.1.1.1,hk_.1.1.2⟩));have n3_:=Aside0.mk (Kd.R_mono (ok':=fun k_=>some k_ ≠ (.slice Ao24 t382.length co24 : Value).ownBlock ∧ some k_ ≠ (.slice Ao40 t399.length co40 : Value).ownBlock) (Kd.R_keptB ((Kd.R_apart' HO_395002.out (Kd.R_typed HO_404001.out) (by decide))) hkp (fun k_ hk_ hs_=>Or.elim hs_ (fun e_=>(hk_.2) e_) (fun e_=>(hk_.1.2) e_))) (fun k_ hk_=>⟨hk_.1.1.1,hk_.1.1.2⟩));have n4_:=Aside0.mk (Kd.R_reok rfl hy0 (fun k_ e_=>HO_404001.out.1 k_ e_));have n5_:=Aside0.mk (Kd.R_reok rfl hy1 (fun k_ e_=>HO_404002.out.1 k_ e_));have n6_:=Aside0.mk (blk_kept (by (with_reducible repeat (first|refine blk_drewN ?_ _|refine blk_drew ?_|refine blk_alloc ?_ _));exact BK369.out) hkp (fun hs_=>Or.elim hs_ (fun e_=>(fun e_=>(Kd.R_ne HO_404001.out BK369.out (by decide)) e_) e_) (fun e_=>(fun e_=>(Kd.R_ne HO_404002.out BK369.out (by decide)) e_) e_)));have n7_:=Aside0.mk (blk_kept (by (with_reducible repeat (first|refine blk_drewN ?_ _|refine blk_drew ?_|refine blk_alloc ?_ _));exact BK386.out) hkp (fun hs_=>Or.elim hs_ (fun e_=>(fun e_=>(Kd.R_ne HO_404001.out BK386.out (by decide)) e_) e_) (fun e_=>(fun e_=>(Kd.R_ne HO_404002.out BK386.out (by decide)) e_) e_)));have n8_:=Aside0.mk (blk_kept (by (with_reducible repeat (first|refine blk_drewN ?_ _|refine blk_drew ?_|refine blk_alloc ?_ _));exact BK394.out) hkp (fun hs_=>Or.elim hs_ (fun e_=>(fun e_=>(Kd.R_ne HO_404001.out BK394.out (by decide)) e_) e_) (fun e_=>(fun e_=>(Kd.R_ne HO_404002.out BK394.out (by decide)) e_) e_)));have n9_:=Aside0.mk (blk_kept (by (with_reducible repeat (first|refine blk_drewN ?_ _|refine blk_drew ?_|refine blk_alloc ?_ _));exact BK403.out) hkp (fun hs_=>Or.elim hs_ (fun e_=>(fun e_=>(Kd.R_ne HO_404001.out BK403.out (by decide)) e_) e_) (fun e_=>(fun e_=>(Kd.R_ne HO_404002.out BK403.out (by decide)) e_) e_)));have n10_:=Aside0.mk (hb);clear HO_387001;clear HO_387002;clear HO_395001;clear HO_395002;clear HO_404001;clear HO_404002;clear BK369;clear BK386;clear BK394;clear BK403;clear HB;have HO_387001:=n0_;have HO_387002:=n1_;have HO_395001:=n2_;have HO_395002:=n3_;have HO_404001:=n4_;have HO_404002:=n5_;have BK369:=n6_;have BK386:=n7_;have BK394:=n8_;have BK403:=n9_;have HB:=n10_;clear n0_ n1_ n2_ n3_ n4_ n5_ n6_ n7_ n8_ n9_ n10_;(try clear hb);(try clear hkp);(try clear hy0);(try clear hy1);have hcz180_0 : w179.cell? ⟨gb403,0,none⟩ = some (.int .i64 t395):=(blk_cell BK403.out 0).trans rfl;have hcz180_1 : w179.cell? ⟨gb403,1,none⟩ = some (.slice Ao39 t396.length co39):=(blk_cell BK403.out 1).trans rfl;have hcz180_2 : w179.cell? ⟨gb403,2,none⟩ = some (.slice Ao40 t399.length co40):=(blk_cell BK403.out 2).trans rfl;have hfz180_0:=blk_frozen BK403.out 0;have hfz180_1:=blk_frozen BK403.out 1;have hfz180_2:=blk_frozen BK403.out 2)|((with_reducible refine gate_callee (f:=16) rfl ?_);refine goesL_ (some 67) rfl rfl Try.func16 (by kernel_rfl) rfl #[.agg #[.int .i64 t395,.slice Ao39 t418.length co39,.slice Ao40 t419.length co40],.int .i64 1] rfl (by (try simp only [List.map_toArray,List.map_cons,List.map_nil]);first|done|(rw [show t418.length = t396.length from (Kd.R_reads' HO_404001.out).1.symm,show t419.length = t399.length from (Kd.R_reads' HO_404002.out).1.symm] <;> rfl)|rfl|(simp only [List.length_drop,List.length_take];rfl)) ?_;(with_reducible refine (laws_heldPlan.calls kj63 t395 _ _ t418 _ _ t419 1 t420 _ ?side1 ?side2 ?side3 ?side4 A96.out).mono ?_);(case side1=>repeat (first|exact (Kd.R_reads' HO_404001.out).2.2|(with_reducible refine Kd.C_alloc ?_ _)|(with_reducible refine Kd.C_drewN ?_ _)|(with_reducible refine Kd.C_drew ?_)));(case side2=>rw [show t418.length = t396.length from (Kd.R_reads' HO_404001.out).1.symm];exact (Kd.R_reads' HO_404001.out).2.1);(case side3=>repeat (first|exact (Kd.R_reads' HO_404002.out).2.2|(with_reducible refine Kd.C_alloc ?_ _)|(with_reducible refine Kd.C_drewN ?_ _)|(with_reducible refine Kd.C_drew ?_)));(case side4=>rw [show t419.length = t399.length from (Kd.R_reads' HO_404002.out).1.symm];exact (Kd.R_reads' HO_404002.out).2.1);rintro e w181 ⟨rfl,hb⟩;refine ⟨_,rfl,?_⟩;have n0_:=Aside0.mk (Kd.R_below (by (with_reducible repeat (first|apply Kd.R_alloc|apply Kd.R_drewN|apply Kd.R_drew));exact HO_387001.out) hb);have n1_:=Aside0.mk (Kd.R_below (by (with_reducible repeat (first|apply Kd.R_alloc|apply Kd.R_drewN|apply Kd.R_drew));exact HO_387002.out) hb);have n2_:=Aside0.mk (Kd.R_below (by (with_reducible repeat (first|apply Kd.R_alloc|apply Kd.R_drewN|apply Kd.R_drew));exact HO_395001.out) hb);have n3_:=Aside0.mk (Kd.R_below (by (with_reducible repeat (first|apply Kd.R_alloc|apply Kd.R_drewN|apply Kd.R_drew));exact HO_395002.out) hb);have n4_:=Aside0.mk (Kd.R_below (by (with_reducible repeat (first|apply Kd.R_alloc|apply Kd.R_drewN|apply Kd.R_drew));exact HO_404001.out) hb);have n5_:=Aside0.mk (Kd.R_below (by (with_reducible repeat (first|apply Kd.R_alloc|apply Kd.R_drewN|apply Kd.R_drew));exact HO_404002.out) hb);have n6_:=Aside0.mk (blk_below (g:=gb369) (o:=.cells #[.int .i64 a0_0,.slice A0_1 l0_1.length c0_1,.slice A0_2 l0_2.length c0_2] 25 (0,0)) (by (with_reducible repeat (first|refine blk_drewN ?_ _|refine blk_drew ?_|refine blk_alloc ?_ _));exact BK369.out) hb);have n7_:=Aside0.mk (blk_below (g:=gb386) (o:=.cells #[.int .i64 t378,.slice Ao23 t379.length co23,.slice Ao24 t382.length co24] 29 (0,0)) (by (with_reducible repeat (first|refine blk_drewN ?_ _|refine blk_drew ?_|refine blk_alloc ?_ _));exact BK386.out) hb);have n8_:=Aside0.mk (blk_below (g:=gb394) (o:=.cells #[.int .i64 t387,.slice Ao31 t414.length co31,.slice Ao32 t415.length co32] 29 (0,0)) (by (with_reducible repeat (first|refine blk_drewN ?_ _|refine blk_drew ?_|refine blk_alloc ?_ _));exact BK394.out) hb);have n9_:=Aside0.mk (blk_below (g:=gb403) (o:=.cells #[.int .i64 t395,.slice Ao39 t396.length co39,.slice Ao40 t399.length co40] 29 (0,0)) (by (with_reducible repeat (first|refine blk_drewN ?_ _|refine blk_drew ?_|refine blk_alloc ?_ _));exact BK403.out) hb);have n10_:=Aside0.mk (below_step (by repeat (first|(with_reducible first|exact HB.out|apply below_alloc|apply pw_below_drewN|apply below_drew1|refine below_set ?_ GE369.out|refine below_set ?_ GE386.out|refine below_set ?_ GE394.out|refine below_set ?_ GE403.out)|exact HB.out)) hb);clear HO_387001;clear HO_387002;clear HO_395001;clear HO_395002;clear HO_404001;clear HO_404002;clear BK369;clear BK386;clear BK394;clear BK403;clear HB;have HO_387001:=n0_;have HO_387002:=n1_;have HO_395001:=n2_;have HO_395002:=n3_;have HO_404001:=n4_;have HO_404002:=n5_;have BK369:=n6_;have BK386:=n7_;have BK394:=n8_;have BK403:=n9_;have HB:=n10_;clear n0_ n1_ n2_ n3_ n4_ n5_ n6_ n7_ n8_ n9_ n10_;(try clear hb)))
           go_ret
           exact ⟨by first|rfl|(simp [errW_none,errW_some] <;> rfl)|(simp [*,errW_none,errW_some] <;> rfl),by repeat (first|(with_reducible first|exact HB.out|apply below_alloc|apply pw_below_drewN|apply below_drew1|refine below_set ?_ GE369.out|refine below_set ?_ GE386.out|refine below_set ?_ GE394.out|refine below_set ?_ GE403.out)|exact HB.out)⟩
     ·replace c62:=Bool.eq_false_iff.mpr c62
      subst c62
      have H1 : (some false) = some r:=by rw [if_neg (show ¬ (false = true) by decide)] at H;exact H
      clear H
      have H:=H1
      clear H1
      obtain rfl:=Option.some.inj H
      try go_wp2
      have n0_:=Aside0.mk (Kd.R_drew HO_387001.out)
      have n1_:=Aside0.mk (Kd.R_drew HO_387002.out)
      have n2_:=Aside0.mk (Kd.R_drew HO_395001.out)
      have n3_:=Aside0.mk (Kd.R_drew HO_395002.out)
      have n4_:=Aside0.mk (Kd.R_drew HO_404001.out)
      have n5_:=Aside0.mk (Kd.R_drew HO_404002.out)
      have n6_:=Aside0.mk (blk_drew BK369.out)
      have n7_:=Aside0.mk (blk_drew BK386.out)
      have n8_:=Aside0.mk (blk_drew BK394.out)
      have n9_:=Aside0.mk (blk_drew BK403.out)
      have n10_:=Aside0.mk (below_drew1 HB.out)
      clear HO_387001
      clear HO_387002
      clear HO_395001
      clear HO_395002
      clear HO_404001
      clear HO_404002
      clear BK369
      clear BK386
      clear BK394
      clear BK403
      clear HB
      have HO_387001:=n0_
      have HO_387002:=n1_
      have HO_395001:=n2_
      have HO_395002:=n3_
      have HO_404001:=n4_
      have HO_404002:=n5_
      have BK369:=n6_
      have BK386:=n7_
      have BK394:=n8_
      have BK403:=n9_
      have HB:=n10_
      clear n0_ n1_ n2_ n3_ n4_ n5_ n6_ n7_ n8_ n9_ n10_
      refine start_ (n:=5) (S:=fun w'=>w'.cell? ⟨gb394,0,none⟩ = some (.int .i64 t387) ∧ w'.cell? ⟨gb394,1,none⟩ = some (.slice Ao31 t388.length co31) ∧ w'.cell? ⟨gb394,2,none⟩ = some (.slice Ao32 t391.length co32) ∧ w'.cell? ⟨gb369,0,none⟩ = some (.int .i64 a0_0) ∧ w'.cell? ⟨gb369,1,none⟩ = some (.slice A0_1 l0_1.length c0_1) ∧ w'.cell? ⟨gb369,2,none⟩ = some (.slice A0_2 l0_2.length c0_2)) (ds:=[]) #[false,false,false,false,false] (by kernel_rfl) rfl rfl ⟨(blk_cell BK394.out 0).trans rfl,(blk_cell BK394.out 1).trans rfl,(blk_cell BK394.out 2).trans rfl,(blk_cell BK369.out 0).trans rfl,(blk_cell BK369.out 1).trans rfl,(blk_cell BK369.out 2).trans rfl⟩ (fun hHeld=>?_)
      generalize wc.drew = w182 at HO_387001 HO_387002 HO_395001 HO_395002 HO_404001 HO_404002 BK369 BK386 BK394 BK403 HB hHeld ⊢
      refine take_ (i:=0) (N:=some 41) (v:=?_) (a':=?_) #[true,false,false,false,false] rfl rfl (by kernel_rfl) (fun _ _ _ h=>h) (Or.inl ⟨by rfl,?_⟩) hHeld ?_ ?_
      rotate_left
      ·rintro w' ⟨s0,s1,s2,s3,s4,s5⟩
       go_simp
       with_reducible rfl
      rotate_left
      ·simp only [Act.put,List.setIfInBounds_toArray,List.set_cons_zero,List.set_cons_succ,i64_w,i32_w]
       rfl
      refine take_ (i:=1) (N:=some 42) (v:=?_) (a':=?_) #[true,true,false,false,false] rfl rfl (by kernel_rfl) (fun _ _ _ h=>h) (Or.inl ⟨by rfl,?_⟩) hHeld ?_ ?_
      rotate_left
      ·rintro w' ⟨s0,s1,s2,s3,s4,s5⟩
       go_simp
       with_reducible rfl
      rotate_left
      ·simp only [Act.put,List.setIfInBounds_toArray,List.set_cons_zero,List.set_cons_succ,i64_w,i32_w]
       rfl
      refine one_ (i:=2) (N:=some 43) #[true,true,true,false,false] rfl rfl (by kernel_rfl) (by decide) (fun K hK=>?_)
      refine goes_ Try.func12 (by kernel_rfl) rfl #[.agg #[.int .i64 a0_0,.slice A0_1 l0_1.length c0_1,.slice A0_2 l0_2.length c0_2]] (by rfl) rfl rfl (by (try simp only [List.map_toArray,List.map_cons,List.map_nil]);first|done|rfl|(simp only [List.length_drop,List.length_take];rfl)) ?_
      with_reducible refine (laws_toPlan.calls kj10 a0_0 _ _ l0_1 _ _ l0_2 t405 t406 t409 _ ?side1 ?side2 ?side3 ?side4 A60.out).mono ?_
      (case side1=>repeat (first|exact (Kd.C_below HR0_1.out HB.out)|(with_reducible refine Kd.C_alloc ?_ _)|(with_reducible refine Kd.C_drewN ?_ _)|(with_reducible refine Kd.C_drew ?_)))
      (case side2=>exact HC0_1.out)
      (case side3=>repeat (first|exact (Kd.C_below HR0_2.out HB.out)|(with_reducible refine Kd.C_alloc ?_ _)|(with_reducible refine Kd.C_drewN ?_ _)|(with_reducible refine Kd.C_drew ?_)))
      (case side4=>exact HC0_2.out)
      rintro e w183 ⟨v407,v410,rfl,ho0,ho1,hb⟩
      refine ⟨_,rfl,?_⟩
      have n0_:=Aside0.mk (Kd.R_elder' (by (with_reducible repeat (first|apply Kd.R_alloc|apply Kd.R_drewN|apply Kd.R_drew));exact HO_387001.out) (Kd.R_base ho0) hb)
      have n1_:=Aside0.mk (Kd.R_elder' (by (with_reducible repeat (first|apply Kd.R_alloc|apply Kd.R_drewN|apply Kd.R_drew));exact HO_387002.out) (Kd.R_base ho1) hb)
      have n2_:=Aside0.mk (Kd.R_elder' (by (with_reducible repeat (first|apply Kd.R_alloc|apply Kd.R_drewN|apply Kd.R_drew));exact HO_395001.out) (Kd.R_base ho0) hb)
      have n3_:=Aside0.mk (Kd.R_elder' (by (with_reducible repeat (first|apply Kd.R_alloc|apply Kd.R_drewN|apply Kd.R_drew));exact HO_395002.out) (Kd.R_base ho1) hb)
      have n4_:=Aside0.mk (Kd.R_elder' (by (with_reducible repeat (first|apply Kd.R_alloc|apply Kd.R_drewN|apply Kd.R_drew));exact HO_404001.out) (Kd.R_base ho0) hb)
      have n5_:=Aside0.mk (Kd.R_elder' (by (with_reducible repeat (first|apply Kd.R_alloc|apply Kd.R_drewN|apply Kd.R_drew));exact HO_404002.out) (Kd.R_base ho1) hb)
      have n6_:=Aside0.mk (Kd.R_lower (Kd.R_new' (Kd.R_new' (Kd.R_new' ho0 (Kd.R_lt (by (with_reducible repeat (first|apply Kd.R_alloc|apply Kd.R_drewN|apply Kd.R_drew));exact HO_387001.out))) (Kd.R_lt (by (with_reducible repeat (first|apply Kd.R_alloc|apply Kd.R_drewN|apply Kd.R_drew));exact HO_395001.out))) (Kd.R_lt (by (with_reducible repeat (first|apply Kd.R_alloc|apply Kd.R_drewN|apply Kd.R_drew));exact HO_404001.out))) (below_size (by repeat (first|(with_reducible first|exact HB.out|apply below_alloc|apply pw_below_drewN|apply below_drew1|refine below_set ?_ GE369.out|refine below_set ?_ GE386.out|refine below_set ?_ GE394.out|refine below_set ?_ GE403.out)|exact HB.out))))
      have n7_:=Aside0.mk (Kd.R_lower (Kd.R_new' (Kd.R_new' (Kd.R_new' ho1 (Kd.R_lt (by (with_reducible repeat (first|apply Kd.R_alloc|apply Kd.R_drewN|apply Kd.R_drew));exact HO_387002.out))) (Kd.R_lt (by (with_reducible repeat (first|apply Kd.R_alloc|apply Kd.R_drewN|apply Kd.R_drew));exact HO_395002.out))) (Kd.R_lt (by (with_reducible repeat (first|apply Kd.R_alloc|apply Kd.R_drewN|apply Kd.R_drew));exact HO_404002.out))) (below_size (by repeat (first|(with_reducible first|exact HB.out|apply below_alloc|apply pw_below_drewN|apply below_drew1|refine below_set ?_ GE369.out|refine below_set ?_ GE386.out|refine below_set ?_ GE394.out|refine below_set ?_ GE403.out)|exact HB.out))))
      have n8_:=Aside0.mk (blk_below (g:=gb369) (o:=.cells #[.int .i64 a0_0,.slice A0_1 l0_1.length c0_1,.slice A0_2 l0_2.length c0_2] 25 (0,0)) (by (with_reducible repeat (first|refine blk_drewN ?_ _|refine blk_drew ?_|refine blk_alloc ?_ _));exact BK369.out) hb)
      have n9_:=Aside0.mk (blk_below (g:=gb386) (o:=.cells #[.int .i64 t378,.slice Ao23 t379.length co23,.slice Ao24 t382.length co24] 29 (0,0)) (by (with_reducible repeat (first|refine blk_drewN ?_ _|refine blk_drew ?_|refine blk_alloc ?_ _));exact BK386.out) hb)
      have n10_:=Aside0.mk (blk_below (g:=gb394) (o:=.cells #[.int .i64 t387,.slice Ao31 t388.length co31,.slice Ao32 t391.length co32] 29 (0,0)) (by (with_reducible repeat (first|refine blk_drewN ?_ _|refine blk_drew ?_|refine blk_alloc ?_ _));exact BK394.out) hb)
      have n11_:=Aside0.mk (blk_below (g:=gb403) (o:=.cells #[.int .i64 t395,.slice Ao39 t396.length co39,.slice Ao40 t399.length co40] 29 (0,0)) (by (with_reducible repeat (first|refine blk_drewN ?_ _|refine blk_drew ?_|refine blk_alloc ?_ _));exact BK403.out) hb)
      have n12_:=Aside0.mk (below_step (by repeat (first|(with_reducible first|exact HB.out|apply below_alloc|apply pw_below_drewN|apply below_drew1|refine below_set ?_ GE369.out|refine below_set ?_ GE386.out|refine below_set ?_ GE394.out|refine below_set ?_ GE403.out)|exact HB.out)) hb)
      clear HO_387001
      clear HO_387002
      clear HO_395001
      clear HO_395002
      clear HO_404001
      clear HO_404002
      clear BK369
      clear BK386
      clear BK394
      clear BK403
      clear HB
      have HO_387001:=n0_
      have HO_387002:=n1_
      have HO_395001:=n2_
      have HO_395002:=n3_
      have HO_404001:=n4_
      have HO_404002:=n5_
      have HO408:=n6_
      have HO411:=n7_
      have BK369:=n8_
      have BK386:=n9_
      have BK394:=n10_
      have BK403:=n11_
      have HB:=n12_
      clear n0_ n1_ n2_ n3_ n4_ n5_ n6_ n7_ n8_ n9_ n10_ n11_ n12_
      (try clear hb)
      (try clear ho0)
      (try clear ho1)
      obtain ⟨Ao184,co184,eo184⟩:=Kd.R_slice HO408.out
      (first|subst eo184|(injection eo184 with f1_ f2_ f3_;have f4_:=f1_.symm;have f5_:=f3_.symm;clear f1_ f2_ f3_;subst f4_;subst f5_))
      obtain ⟨Ao185,co185,eo185⟩:=Kd.R_slice HO411.out
      (first|subst eo185|(injection eo185 with f1_ f2_ f3_;have f4_:=f1_.symm;have f5_:=f3_.symm;clear f1_ f2_ f3_;subst f4_;subst f5_))
      refine hK.out _ _ ⟨(blk_cell BK394.out 0).trans rfl,(blk_cell BK394.out 1).trans rfl,(blk_cell BK394.out 2).trans rfl,(blk_cell BK369.out 0).trans rfl,(blk_cell BK369.out 1).trans rfl,(blk_cell BK369.out 2).trans rfl⟩ (fun hHeld=>?_)
      clear hK K
      refine norm_ (a':=?_) ?_ ?_
      rotate_left
      ·show Act.put _ (some 43) _ = _
       simp only [Act.put,List.setIfInBounds_toArray,List.set_cons_zero,List.set_cons_succ,i64_w,i32_w]
       rfl
      refine one_ (i:=3) (N:=some 44) #[true,true,true,true,false] rfl rfl (by kernel_rfl) (by decide) (fun K hK=>?_)
      refine goes_ Try.func14 (by kernel_rfl) rfl #[.agg #[.int .i64 t387,.slice Ao31 t388.length co31,.slice Ao32 t391.length co32],.agg #[.int .i64 t405,.slice Ao184 t406.length co184,.slice Ao185 t409.length co185]] (by rfl) rfl rfl (by (try simp only [List.map_toArray,List.map_cons,List.map_nil]);first|done|rfl|(simp only [List.length_drop,List.length_take];rfl)) ?_
      with_reducible refine (laws_eqPlan.calls kj10 t387 _ _ t388 _ _ t391 t405 _ _ t406 _ _ t409 false _ ?side1 ?side2 ?side3 ?side4 ?side5 ?side6 ?side7 ?side8 A61.out).mono ?_
      (case side1=>repeat (first|exact (Kd.R_reads' HO_395001.out).2.2|(with_reducible refine Kd.C_alloc ?_ _)|(with_reducible refine Kd.C_drewN ?_ _)|(with_reducible refine Kd.C_drew ?_)))
      (case side2=>exact (Kd.R_reads' HO_395001.out).2.1)
      (case side3=>repeat (first|exact (Kd.R_reads' HO_395002.out).2.2|(with_reducible refine Kd.C_alloc ?_ _)|(with_reducible refine Kd.C_drewN ?_ _)|(with_reducible refine Kd.C_drew ?_)))
      (case side4=>exact (Kd.R_reads' HO_395002.out).2.1)
      (case side5=>repeat (first|exact (Kd.R_reads' HO408.out).2.2|(with_reducible refine Kd.C_alloc ?_ _)|(with_reducible refine Kd.C_drewN ?_ _)|(with_reducible refine Kd.C_drew ?_)))
      (case side6=>exact (Kd.R_reads' HO408.out).2.1)
      (case side7=>repeat (first|exact (Kd.R_reads' HO411.out).2.2|(with_reducible refine Kd.C_alloc ?_ _)|(with_reducible refine Kd.C_drewN ?_ _)|(with_reducible refine Kd.C_drew ?_)))
      (case side8=>exact (Kd.R_reads' HO411.out).2.1)
      rintro e w186 ⟨rfl,hb⟩
      refine ⟨_,rfl,?_⟩
      have n0_:=Aside0.mk (Kd.R_below (by (with_reducible repeat (first|apply Kd.R_alloc|apply Kd.R_drewN|apply Kd.R_drew));exact HO_387001.out) hb)
      have n1_:=Aside0.mk (Kd.R_below (by (with_reducible repeat (first|apply Kd.R_alloc|apply Kd.R_drewN|apply Kd.R_drew));exact HO_387002.out) hb)
      have n2_:=Aside0.mk (Kd.R_below (by (with_reducible repeat (first|apply Kd.R_alloc|apply Kd.R_drewN|apply Kd.R_drew));exact HO_395001.out) hb)
      have n3_:=Aside0.mk (Kd.R_below (by (with_reducible repeat (first|apply Kd.R_alloc|apply Kd.R_drewN|apply Kd.R_drew));exact HO_395002.out) hb)
      have n4_:=Aside0.mk (Kd.R_below (by (with_reducible repeat (first|apply Kd.R_alloc|apply Kd.R_drewN|apply Kd.R_drew));exact HO_404001.out) hb)
      have n5_:=Aside0.mk (Kd.R_below (by (with_reducible repeat (first|apply Kd.R_alloc|apply Kd.R_drewN|apply Kd.R_drew));exact HO_404002.out) hb)
      have n6_:=Aside0.mk (Kd.R_below (by (with_reducible repeat (first|apply Kd.R_alloc|apply Kd.R_drewN|apply Kd.R_drew));exact HO408.out) hb)
      have n7_:=Aside0.mk (Kd.R_below (by (with_reducible repeat (first|apply Kd.R_alloc|apply Kd.R_drewN|apply Kd.R_drew));exact HO411.out) hb)
      have n8_:=Aside0.mk (blk_below (g:=gb369) (o:=.cells #[.int .i64 a0_0,.slice A0_1 l0_1.length c0_1,.slice A0_2 l0_2.length c0_2] 25 (0,0)) (by (with_reducible repeat (first|refine blk_drewN ?_ _|refine blk_drew ?_|refine blk_alloc ?_ _));exact BK369.out) hb)
      have n9_:=Aside0.mk (blk_below (g:=gb386) (o:=.cells #[.int .i64 t378,.slice Ao23 t379.length co23,.slice Ao24 t382.length co24] 29 (0,0)) (by (with_reducible repeat (first|refine blk_drewN ?_ _|refine blk_drew ?_|refine blk_alloc ?_ _));exact BK386.out) hb)
      have n10_:=Aside0.mk (blk_below (g:=gb394) (o:=.cells #[.int .i64 t387,.slice Ao31 t388.length co31,.slice Ao32 t391.length co32] 29 (0,0)) (by (with_reducible repeat (first|refine blk_drewN ?_ _|refine blk_drew ?_|refine blk_alloc ?_ _));exact BK394.out) hb)
      have n11_:=Aside0.mk (blk_below (g:=gb403) (o:=.cells #[.int .i64 t395,.slice Ao39 t396.length co39,.slice Ao40 t399.length co40] 29 (0,0)) (by (with_reducible repeat (first|refine blk_drewN ?_ _|refine blk_drew ?_|refine blk_alloc ?_ _));exact BK403.out) hb)
      have n12_:=Aside0.mk (below_step (by repeat (first|(with_reducible first|exact HB.out|apply below_alloc|apply pw_below_drewN|apply below_drew1|refine below_set ?_ GE369.out|refine below_set ?_ GE386.out|refine below_set ?_ GE394.out|refine below_set ?_ GE403.out)|exact HB.out)) hb)
      clear HO_387001
      clear HO_387002
      clear HO_395001
      clear HO_395002
      clear HO_404001
      clear HO_404002
      clear HO408
      clear HO411
      clear BK369
      clear BK386
      clear BK394
      clear BK403
      clear HB
      have HO_387001:=n0_
      have HO_387002:=n1_
      have HO_395001:=n2_
      have HO_395002:=n3_
      have HO_404001:=n4_
      have HO_404002:=n5_
      have HO408:=n6_
      have HO411:=n7_
      have BK369:=n8_
      have BK386:=n9_
      have BK394:=n10_
      have BK403:=n11_
      have HB:=n12_
      clear n0_ n1_ n2_ n3_ n4_ n5_ n6_ n7_ n8_ n9_ n10_ n11_ n12_
      (try clear hb)
      refine hK.out _ _ ⟨(blk_cell BK394.out 0).trans rfl,(blk_cell BK394.out 1).trans rfl,(blk_cell BK394.out 2).trans rfl,(blk_cell BK369.out 0).trans rfl,(blk_cell BK369.out 1).trans rfl,(blk_cell BK369.out 2).trans rfl⟩ (fun hHeld=>?_)
      clear hK K
      refine norm_ (a':=?_) ?_ ?_
      rotate_left
      ·show Act.put _ (some 44) _ = _
       simp only [Act.put,List.setIfInBounds_toArray,List.set_cons_zero,List.set_cons_succ,i64_w,i32_w]
       rfl
      refine pure_ (i:=4) (N:=some 45) (v:=?_) (a':=?_) #[true,true,true,true,true] rfl rfl (by kernel_rfl) (fun _ _ _ h=>h) (Or.inl ⟨by rfl,?_⟩) ?_ ?_
      rotate_left
      ·intro w'
       go_simp
       with_reducible rfl
      rotate_left
      ·simp only [Act.put,List.setIfInBounds_toArray,List.set_cons_zero,List.set_cons_succ,i64_w,i32_w]
       rfl
      refine done_ (by kernel_rfl) ?_
      try go_wp2
      go_ret
      exact ⟨by first|rfl|(simp [errW_none,errW_some] <;> rfl)|(simp [*,errW_none,errW_some] <;> rfl),by repeat (first|(with_reducible first|exact HB.out|apply below_alloc|apply pw_below_drewN|apply below_drew1|refine below_set ?_ GE369.out|refine below_set ?_ GE386.out|refine below_set ?_ GE394.out|refine below_set ?_ GE403.out)|exact HB.out)⟩
end Go.Proofs.Ytdcdaoancmpbeaa.MFnExactTrimPlan
--sq
