import Derived.Test.YtdcdaoancmpbeaaMFnExactSharePlanx0
import Derived.Test.YtdcdaoancmpbeaaMFnExactSharePlanx1
import Derived.Test.YtdcdaoancmpbeaaMFnExactSharePlanx2
import Derived.Test.YtdcdaoancmpbeaaMFnExactSharePlanx3
import Derived.Test.YtdcdaoancmpbeaaMFnExactSharePlanx9
import Derived.Test.YtdcdaoancmpbeaaMFnExactSharePlanx15
namespace Go.Proofs.Ytdcdaoancmpbeaa.MFnExactSharePlan
open Go.RowKit Go.Proofs.YtdcdaoancmpbeaaW.PrintWords Go.Proofs.YtdcdaoancmpbeaaW.PrintLast Go.Proofs.YtdcdaoancmpbeaaW.PrintMore Go.Proofs.YtdcdaoancmpbeaaV Go.Proofs.YtdcdaoancmpbeaaZ
attribute [local go_sem] max2_int min2_int max_two min_two max_three min_three max_four min_four   -- for this text's walks alone
set_option linter.unusedVariables false
set_option linter.unusedSimpArgs false
/-! ### laws_FnExactSharePlan: function 6 -/
mutual
def laws_FnExactSharePlan.j0 : Nat → Bool → Bool → Bool → Int → List (S93) → List Int → Int → List (S73) → List Int → Int → List (S73) → List Int → Int → List (S73) → List Int → Option (Bool)
 | 0,_,_,_,_,_,_,_,_,_,_,_,_,_,_,_=>none
 | k + 1,x5,x8,x40,x419000,x419001,x419002,x436000,x436001,x436002,x444000,x444001,x444002,x453000,x453001,x453002=>if x40 = true then (some false) else ((laws_toPlan.f k x419000 x419001 x419002).bind fun bt454=>((laws_eqPlan.f k x444000 x444001 x444002 bt454.1 bt454.2.1 bt454.2.2).bind fun t461=>(if t461 = true then ((laws_markPlan.f k x444000 x444001 x444002 1).bind fun bt462=>(if bt462.1 < 0 then (laws_FnExactSharePlan.j1 k x5 true x419000 x419001 x419002 x436000 x436001 x436002 x453000 x453001 x453002) else ((laws_eqPlan.f k x453000 x453001 x453002 x436000 x436001 x436002).bind fun t465=>(if t465 = true then (laws_FnExactSharePlan.j1 k x5 (x8 != x5) x419000 x419001 x419002 x436000 x436001 x436002 x453000 x453001 x453002) else (laws_FnExactSharePlan.j1 k x5 true x419000 x419001 x419002 x436000 x436001 x436002 x453000 x453001 x453002))))) else (some false))))
def laws_FnExactSharePlan.j1 : Nat → Bool → Bool → Int → List (S93) → List Int → Int → List (S73) → List Int → Int → List (S73) → List Int → Option (Bool)
 | 0,_,_,_,_,_,_,_,_,_,_,_=>none
 | k + 1,x5,x61,x419000,x419001,x419002,x436000,x436001,x436002,x453000,x453001,x453002=>if x61 = true then (some false) else ((laws_markPlan.f k x453000 x453001 x453002 1).bind fun bt466=>((laws_heldPlan.f k x453000 bt466.2.1 bt466.2.2 1).bind fun t469=>(if t469 < 0 then (some false) else (if t469 = bt466.1 then ((laws_toPlan.f k x419000 x419001 x419002).bind fun bt470=>((impl_SharePlan.f k bt470.1 bt470.2.1 bt470.2.2).bind fun bt477=>((laws_eqPlan.f k bt477.1 bt477.2.1 bt477.2.2.1 x436000 x436001 x436002).bind fun t486=>(if t486 = true then (laws_FnExactSharePlan.j2 k bt466.1 (bt477.2.2.2 != x5) x453000 bt466.2.1 bt466.2.2) else (laws_FnExactSharePlan.j2 k bt466.1 true x453000 bt466.2.1 bt466.2.2))))) else (some false)))))
def laws_FnExactSharePlan.j2 : Nat → Int → Bool → Int → List (S73) → List Int → Option (Bool)
 | 0,_,_,_,_,_=>none
 | k + 1,x10,x87,x453000,x453001,x453002=>if x87 = true then (some false) else ((laws_heldPlan.f k x453000 x453001 x453002 1).bind fun t487=>(if t487 < 0 then (some false) else (if t487 = x10 then (some true) else (some false))))
end
def laws_FnExactSharePlan.f (k : Nat) (a0_0 : Int) (l0_1 : List (S93)) (l0_2 : List Int) : Option (Bool):=(laws_szPlan.f a0_0 l0_1 l0_2 1048576).bind fun t419=>(if t419 < 0 then (some true) else ((laws_toPlan.f k a0_0 l0_1 l0_2).bind fun bt420=>((spec_SharePlan.f k bt420.1 bt420.2.1 bt420.2.2).bind fun bt427=>((laws_toPlan.f k a0_0 l0_1 l0_2).bind fun bt436=>((impl_SharePlan.f k bt436.1 bt436.2.1 bt436.2.2).bind fun bt444=>((laws_eqPlan.f k bt444.1 bt444.2.1 bt444.2.2.1 bt427.1 bt427.2.1 bt427.2.2.1).bind fun t453=>(if t453 = true then (laws_FnExactSharePlan.j0 k bt427.2.2.2 bt444.2.2.2 (bt444.2.2.2 != bt427.2.2.2) a0_0 l0_1 l0_2 bt427.1 bt427.2.1 bt427.2.2.1 bt436.1 bt436.2.1 bt436.2.2 bt444.1 bt444.2.1 bt444.2.2.1) else (laws_FnExactSharePlan.j0 k bt427.2.2.2 bt444.2.2.2 true a0_0 l0_1 l0_2 bt427.1 bt427.2.1 bt427.2.2.1 bt436.1 bt436.2.1 bt436.2.2 bt444.1 bt444.2.1 bt444.2.2.1))))))))
theorem laws_FnExactSharePlan.mono_l : ∀ k,(∀ y0 y1 y2 y3 y4 y5 y6 y7 y8 y9 y10 y11 y12 y13 y14,LeO (laws_FnExactSharePlan.j0 k y0 y1 y2 y3 y4 y5 y6 y7 y8 y9 y10 y11 y12 y13 y14) (laws_FnExactSharePlan.j0 (k + 1) y0 y1 y2 y3 y4 y5 y6 y7 y8 y9 y10 y11 y12 y13 y14)) ∧ (∀ y0 y1 y2 y3 y4 y5 y6 y7 y8 y9 y10,LeO (laws_FnExactSharePlan.j1 k y0 y1 y2 y3 y4 y5 y6 y7 y8 y9 y10) (laws_FnExactSharePlan.j1 (k + 1) y0 y1 y2 y3 y4 y5 y6 y7 y8 y9 y10)) ∧ (∀ y0 y1 y2 y3 y4,LeO (laws_FnExactSharePlan.j2 k y0 y1 y2 y3 y4) (laws_FnExactSharePlan.j2 (k + 1) y0 y1 y2 y3 y4))
 | 0=>⟨fun _ _ _ _ _ _ _ _ _ _ _ _ _ _ _ r h=>by simp [laws_FnExactSharePlan.j0] at h,fun _ _ _ _ _ _ _ _ _ _ _ r h=>by simp [laws_FnExactSharePlan.j1] at h,fun _ _ _ _ _ r h=>by simp [laws_FnExactSharePlan.j2] at h⟩
 | k + 1=>by
  obtain ⟨ih0,ih1,ih2⟩:=laws_FnExactSharePlan.mono_l k
  refine ⟨?_,?_,?_⟩
  ·intro y0 y1 y2 y3 y4 y5 y6 y7 y8 y9 y10 y11 y12 y13 y14
   unfold laws_FnExactSharePlan.j0
   repeat' first
   | (with_reducible exact ih0 _ _ _ _ _ _ _ _ _ _ _ _ _ _ _)
   | (with_reducible exact ih1 _ _ _ _ _ _ _ _ _ _ _)
   | (with_reducible exact ih2 _ _ _ _ _)
   | (with_reducible exact impl_SharePlan.mono _ _ _ _)
   | (with_reducible exact laws_eqPlan.mono _ _ _ _ _ _ _)
   | (with_reducible exact laws_heldPlan.mono _ _ _ _ _)
   | (with_reducible exact laws_markPlan.mono _ _ _ _ _)
   | (with_reducible exact laws_toPlan.mono _ _ _ _)
   | (with_reducible exact spec_SharePlan.mono _ _ _ _)
   | (with_reducible exact LeO.refl _)
   | (with_reducible exact LeO.none _)
   | (with_reducible refine LeO.ite ?_ ?_)
   | (with_reducible refine LeO.bind ?_ (fun _=>?_))
   | exact ih0 _ _ _ _ _ _ _ _ _ _ _ _ _ _ _
   | exact ih1 _ _ _ _ _ _ _ _ _ _ _
   | exact ih2 _ _ _ _ _
   | exact impl_SharePlan.mono _ _ _ _
   | exact laws_eqPlan.mono _ _ _ _ _ _ _
   | exact laws_heldPlan.mono _ _ _ _ _
   | exact laws_markPlan.mono _ _ _ _ _
   | exact laws_toPlan.mono _ _ _ _
   | exact spec_SharePlan.mono _ _ _ _
   | exact LeO.none _
   | refine LeO.ite ?_ ?_
   | refine LeO.bind ?_ (fun _=>?_)
  ·intro y0 y1 y2 y3 y4 y5 y6 y7 y8 y9 y10
   unfold laws_FnExactSharePlan.j1
   repeat' first
   | (with_reducible exact ih0 _ _ _ _ _ _ _ _ _ _ _ _ _ _ _)
   | (with_reducible exact ih1 _ _ _ _ _ _ _ _ _ _ _)
   | (with_reducible exact ih2 _ _ _ _ _)
   | (with_reducible exact impl_SharePlan.mono _ _ _ _)
   | (with_reducible exact laws_eqPlan.mono _ _ _ _ _ _ _)
   | (with_reducible exact laws_heldPlan.mono _ _ _ _ _)
   | (with_reducible exact laws_markPlan.mono _ _ _ _ _)
   | (with_reducible exact laws_toPlan.mono _ _ _ _)
   | (with_reducible exact spec_SharePlan.mono _ _ _ _)
   | (with_reducible exact LeO.refl _)
   | (with_reducible exact LeO.none _)
   | (with_reducible refine LeO.ite ?_ ?_)
   | (with_reducible refine LeO.bind ?_ (fun _=>?_))
   | exact ih0 _ _ _ _ _ _ _ _ _ _ _ _ _ _ _
   | exact ih1 _ _ _ _ _ _ _ _ _ _ _
   | exact ih2 _ _ _ _ _
   | exact impl_SharePlan.mono _ _ _ _
   | exact laws_eqPlan.mono _ _ _ _ _ _ _
   | exact laws_heldPlan.mono _ _ _ _ _
   | exact laws_markPlan.mono _ _ _ _ _
   | exact laws_toPlan.mono _ _ _ _
   | exact spec_SharePlan.mono _ _ _ _
   | exact LeO.none _
   | refine LeO.ite ?_ ?_
   | refine LeO.bind ?_ (fun _=>?_)
  ·intro y0 y1 y2 y3 y4
   unfold laws_FnExactSharePlan.j2
   repeat' first
   | (with_reducible exact ih0 _ _ _ _ _ _ _ _ _ _ _ _ _ _ _)
   | (with_reducible exact ih1 _ _ _ _ _ _ _ _ _ _ _)
   | (with_reducible exact ih2 _ _ _ _ _)
   | (with_reducible exact impl_SharePlan.mono _ _ _ _)
   | (with_reducible exact laws_eqPlan.mono _ _ _ _ _ _ _)
   | (with_reducible exact laws_heldPlan.mono _ _ _ _ _)
   | (with_reducible exact laws_markPlan.mono _ _ _ _ _)
   | (with_reducible exact laws_toPlan.mono _ _ _ _)
   | (with_reducible exact spec_SharePlan.mono _ _ _ _)
   | (with_reducible exact LeO.refl _)
   | (with_reducible exact LeO.none _)
   | (with_reducible refine LeO.ite ?_ ?_)
   | (with_reducible refine LeO.bind ?_ (fun _=>?_))
   | exact ih0 _ _ _ _ _ _ _ _ _ _ _ _ _ _ _
   | exact ih1 _ _ _ _ _ _ _ _ _ _ _
   | exact ih2 _ _ _ _ _
   | exact impl_SharePlan.mono _ _ _ _
   | exact laws_eqPlan.mono _ _ _ _ _ _ _
   | exact laws_heldPlan.mono _ _ _ _ _
   | exact laws_markPlan.mono _ _ _ _ _
   | exact laws_toPlan.mono _ _ _ _
   | exact spec_SharePlan.mono _ _ _ _
   | exact LeO.none _
   | refine LeO.ite ?_ ?_
   | refine LeO.bind ?_ (fun _=>?_)
theorem laws_FnExactSharePlan.mono : ∀ a0 a1 a2 k,LeO (laws_FnExactSharePlan.f k a0 a1 a2) (laws_FnExactSharePlan.f (k + 1) a0 a1 a2):=by
 intro a0 a1 a2 k
 obtain ⟨ih0,ih1,ih2⟩:=laws_FnExactSharePlan.mono_l k
 unfold laws_FnExactSharePlan.f
 repeat' first
   | (with_reducible exact ih0 _ _ _ _ _ _ _ _ _ _ _ _ _ _ _)
   | (with_reducible exact ih1 _ _ _ _ _ _ _ _ _ _ _)
   | (with_reducible exact ih2 _ _ _ _ _)
   | (with_reducible exact impl_SharePlan.mono _ _ _ _)
   | (with_reducible exact laws_eqPlan.mono _ _ _ _ _ _ _)
   | (with_reducible exact laws_heldPlan.mono _ _ _ _ _)
   | (with_reducible exact laws_markPlan.mono _ _ _ _ _)
   | (with_reducible exact laws_toPlan.mono _ _ _ _)
   | (with_reducible exact spec_SharePlan.mono _ _ _ _)
   | (with_reducible exact LeO.refl _)
   | (with_reducible exact LeO.none _)
   | (with_reducible refine LeO.ite ?_ ?_)
   | (with_reducible refine LeO.bind ?_ (fun _=>?_))
   | exact ih0 _ _ _ _ _ _ _ _ _ _ _ _ _ _ _
   | exact ih1 _ _ _ _ _ _ _ _ _ _ _
   | exact ih2 _ _ _ _ _
   | exact impl_SharePlan.mono _ _ _ _
   | exact laws_eqPlan.mono _ _ _ _ _ _ _
   | exact laws_heldPlan.mono _ _ _ _ _
   | exact laws_markPlan.mono _ _ _ _ _
   | exact laws_toPlan.mono _ _ _ _
   | exact spec_SharePlan.mono _ _ _ _
   | exact LeO.none _
   | refine LeO.ite ?_ ?_
   | refine LeO.bind ?_ (fun _=>?_)
set_option maxHeartbeats 8000000 in
set_option maxRecDepth 100000 in
theorem laws_FnExactSharePlan.calls (k : Nat) (a0_0 : Int) (A0_1 : Option Addr) (c0_1 : Nat) (l0_1 : List (S93)) (A0_2 : Option Addr) (c0_2 : Nat) (l0_2 : List Int) (r : Bool) (w : World) (hr0_1 : Kd.C k93 w A0_1 l0_1.length l0_1) (hc0_1 : l0_1.length ≤ c0_1) (hr0_2 : Kd.C (Kd.int .i64) w A0_2 l0_2.length l0_2) (hc0_2 : l0_2.length ≤ c0_2) (h : laws_FnExactSharePlan.f k a0_0 l0_1 l0_2 = some r) :
  Calls Try.prog 6 #[.agg #[.int .i64 a0_0,.slice A0_1 l0_1.length c0_1,.slice A0_2 l0_2.length c0_2]] w fun e w'=>e = .returned (.bool r) ∧ Below w.heap.size w w':=by
 have hu25:=Try.underlying25
 have hu29:=Try.underlying29
 have HR0_1:=Aside0.mk hr0_1
 have HC0_1:=Aside0.mk hc0_1
 clear hr0_1 hc0_1
 have HR0_2:=Aside0.mk hr0_2
 have HC0_2:=Aside0.mk hc0_2
 clear hr0_2 hc0_2
 have HB:=Aside0.mk (Below.refl w.heap.size w)
 have H : ((laws_szPlan.f a0_0 l0_1 l0_2 1048576).bind fun t419=>(if t419 < 0 then (some true) else ((laws_toPlan.f k a0_0 l0_1 l0_2).bind fun bt420=>((spec_SharePlan.f k bt420.1 bt420.2.1 bt420.2.2).bind fun bt427=>((laws_toPlan.f k a0_0 l0_1 l0_2).bind fun bt436=>((impl_SharePlan.f k bt436.1 bt436.2.1 bt436.2.2).bind fun bt444=>((laws_eqPlan.f k bt444.1 bt444.2.1 bt444.2.2.1 bt427.1 bt427.2.1 bt427.2.2.1).bind fun t453=>(if t453 = true then (laws_FnExactSharePlan.j0 k bt427.2.2.2 bt444.2.2.2 (bt444.2.2.2 != bt427.2.2.2) a0_0 l0_1 l0_2 bt427.1 bt427.2.1 bt427.2.2.1 bt436.1 bt436.2.1 bt436.2.2 bt444.1 bt444.2.1 bt444.2.2.1) else (laws_FnExactSharePlan.j0 k bt427.2.2.2 bt444.2.2.2 true a0_0 l0_1 l0_2 bt427.1 bt427.2.1 bt427.2.2.1 bt436.1 bt436.2.1 bt436.2.2 bt444.1 bt444.2.1 bt444.2.2.1))))))))) = some r:=h
 clear h
 replace H:=Option.bind_eq_some_iff.mp H
 obtain ⟨t419,A20,H⟩:=H
 replace H : (if t419 < 0 then (some true) else ((laws_toPlan.f k a0_0 l0_1 l0_2).bind fun bt420=>((spec_SharePlan.f k bt420.1 bt420.2.1 bt420.2.2).bind fun bt427=>((laws_toPlan.f k a0_0 l0_1 l0_2).bind fun bt436=>((impl_SharePlan.f k bt436.1 bt436.2.1 bt436.2.2).bind fun bt444=>((laws_eqPlan.f k bt444.1 bt444.2.1 bt444.2.2.1 bt427.1 bt427.2.1 bt427.2.2.1).bind fun t453=>(if t453 = true then (laws_FnExactSharePlan.j0 k bt427.2.2.2 bt444.2.2.2 (bt444.2.2.2 != bt427.2.2.2) a0_0 l0_1 l0_2 bt427.1 bt427.2.1 bt427.2.2.1 bt436.1 bt436.2.1 bt436.2.2 bt444.1 bt444.2.1 bt444.2.2.1) else (laws_FnExactSharePlan.j0 k bt427.2.2.2 bt444.2.2.2 true a0_0 l0_1 l0_2 bt427.1 bt427.2.1 bt427.2.2.1 bt436.1 bt436.2.1 bt436.2.2 bt444.1 bt444.2.1 bt444.2.2.1)))))))) = some r:=H
 have A2:=Aside0.mk A20
 clear A20
 by_cases c3 : t419 < 0
 ·rw [if_pos c3] at H
  have c3b0 : decide (t419 < 0) = true:=decide_eq_true c3
  clear c3
  obtain rfl:=Option.some.inj H
  go_enter Try.func6,Try.ntmps6
  go_wp2_with (first|((with_reducible refine gate_dst (N:=1) rfl ?_);refine box_event ?hg (N:=1) ?hd (cs:=#[.int .i64 a0_0,.slice A0_1 l0_1.length c0_1,.slice A0_2 l0_2.length c0_2]) (t:=25) ?hr ?_;(case hd=>rfl);(case hg=>rfl);(case hr=>first|(go_simp;done)|(go_simp;rfl));intro gb418 hg w4 hbox hb;have n0_:=Aside0.mk (below_step bz hb);have n1_:=Aside0.mk (hbox);have n2_:=Aside0.mk ((by rw [hg];exact (below_size bz) : w.heap.size ≤ gb418));have n3_:=Aside0.mk ((by rw [hg];exact (below_size bz) : w.heap.size ≤ gb418));clear HB;have HB:=n0_;have BK418:=n1_;have GW418:=n2_;have GE418:=n3_;clear n0_ n1_ n2_ n3_;clear hb hbox hg;have hcz5_0 : w4.cell? ⟨gb418,0,none⟩ = some (.int .i64 a0_0):=(blk_cell BK418.out 0).trans rfl;have hcz5_1 : w4.cell? ⟨gb418,1,none⟩ = some (.slice A0_1 l0_1.length c0_1):=(blk_cell BK418.out 1).trans rfl;have hcz5_2 : w4.cell? ⟨gb418,2,none⟩ = some (.slice A0_2 l0_2.length c0_2):=(blk_cell BK418.out 2).trans rfl;have hfz5_0:=blk_frozen BK418.out 0;have hfz5_1:=blk_frozen BK418.out 1;have hfz5_2:=blk_frozen BK418.out 2)|((with_reducible refine gate_callee (f:=10) rfl ?_);refine goesL_ (some 16) rfl rfl Try.func10 (by kernel_rfl) rfl #[.agg #[.int .i64 a0_0,.slice A0_1 l0_1.length c0_1,.slice A0_2 l0_2.length c0_2],.int .i64 1048576] rfl mz ?_;(with_reducible refine (laws_szPlan.calls a0_0 _ _ l0_1 _ _ l0_2 1048576 t419 _ ?side1 ?side2 ?side3 ?side4 A2.out).mono ?_);(case side1=>exact cz (Kd.C_below HR0_1.out HB.out));(case side2=>exact HC0_1.out);(case side3=>exact cz (Kd.C_below HR0_2.out HB.out));(case side4=>exact HC0_2.out);rintro e w6 ⟨rfl,hb⟩;refine ⟨_,rfl,?_⟩;have n0_:=Aside0.mk (blk_below (g:=gb418) (o:=.cells #[.int .i64 a0_0,.slice A0_1 l0_1.length c0_1,.slice A0_2 l0_2.length c0_2] 25 (0,0)) (kz BK418.out) hb);have n1_:=Aside0.mk (below_step bs hb);clear BK418 HB;have BK418:=n0_;have HB:=n1_;clear n0_ n1_;(try clear hb)))
  go_ret
  exact ⟨by first|rfl|(simp [errW_none,errW_some] <;> rfl)|(simp [*,errW_none,errW_some] <;> rfl),by repeat (first|(with_reducible first|exact HB.out|apply below_alloc|apply pw_below_drewN|apply below_drew1|refine below_set ?_ GE418.out)|exact HB.out)⟩
 ·rw [if_neg c3] at H
  have c3b0 : decide (t419 < 0) = false:=decide_eq_false c3
  clear c3
  replace H:=Option.bind_eq_some_iff.mp H
  obtain ⟨⟨t420,t421,t424⟩,A70,H⟩:=H
  replace H : ((spec_SharePlan.f k t420 t421 t424).bind fun bt427=>((laws_toPlan.f k a0_0 l0_1 l0_2).bind fun bt436=>((impl_SharePlan.f k bt436.1 bt436.2.1 bt436.2.2).bind fun bt444=>((laws_eqPlan.f k bt444.1 bt444.2.1 bt444.2.2.1 bt427.1 bt427.2.1 bt427.2.2.1).bind fun t453=>(if t453 = true then (laws_FnExactSharePlan.j0 k bt427.2.2.2 bt444.2.2.2 (bt444.2.2.2 != bt427.2.2.2) a0_0 l0_1 l0_2 bt427.1 bt427.2.1 bt427.2.2.1 bt436.1 bt436.2.1 bt436.2.2 bt444.1 bt444.2.1 bt444.2.2.1) else (laws_FnExactSharePlan.j0 k bt427.2.2.2 bt444.2.2.2 true a0_0 l0_1 l0_2 bt427.1 bt427.2.1 bt427.2.2.1 bt436.1 bt436.2.1 bt436.2.2 bt444.1 bt444.2.1 bt444.2.2.1)))))) = some r:=H
  have A7:=Aside0.mk A70
  clear A70
  replace H:=Option.bind_eq_some_iff.mp H
  obtain ⟨⟨t427,t428,t431,t434⟩,A80,H⟩:=H
  replace H : ((laws_toPlan.f k a0_0 l0_1 l0_2).bind fun bt436=>((impl_SharePlan.f k bt436.1 bt436.2.1 bt436.2.2).bind fun bt444=>((laws_eqPlan.f k bt444.1 bt444.2.1 bt444.2.2.1 t427 t428 t431).bind fun t453=>(if t453 = true then (laws_FnExactSharePlan.j0 k t434 bt444.2.2.2 (bt444.2.2.2 != t434) a0_0 l0_1 l0_2 t427 t428 t431 bt436.1 bt436.2.1 bt436.2.2 bt444.1 bt444.2.1 bt444.2.2.1) else (laws_FnExactSharePlan.j0 k t434 bt444.2.2.2 true a0_0 l0_1 l0_2 t427 t428 t431 bt436.1 bt436.2.1 bt436.2.2 bt444.1 bt444.2.1 bt444.2.2.1))))) = some r:=H
  have A8:=Aside0.mk A80
  clear A80
  replace H:=Option.bind_eq_some_iff.mp H
  obtain ⟨⟨t436,t437,t440⟩,A90,H⟩:=H
  replace H : ((impl_SharePlan.f k t436 t437 t440).bind fun bt444=>((laws_eqPlan.f k bt444.1 bt444.2.1 bt444.2.2.1 t427 t428 t431).bind fun t453=>(if t453 = true then (laws_FnExactSharePlan.j0 k t434 bt444.2.2.2 (bt444.2.2.2 != t434) a0_0 l0_1 l0_2 t427 t428 t431 t436 t437 t440 bt444.1 bt444.2.1 bt444.2.2.1) else (laws_FnExactSharePlan.j0 k t434 bt444.2.2.2 true a0_0 l0_1 l0_2 t427 t428 t431 t436 t437 t440 bt444.1 bt444.2.1 bt444.2.2.1)))) = some r:=H
  have A9:=Aside0.mk A90
  clear A90
  replace H:=Option.bind_eq_some_iff.mp H
  obtain ⟨⟨t444,t445,t448,t451⟩,A100,H⟩:=H
  replace H : ((laws_eqPlan.f k t444 t445 t448 t427 t428 t431).bind fun t453=>(if t453 = true then (laws_FnExactSharePlan.j0 k t434 t451 (t451 != t434) a0_0 l0_1 l0_2 t427 t428 t431 t436 t437 t440 t444 t445 t448) else (laws_FnExactSharePlan.j0 k t434 t451 true a0_0 l0_1 l0_2 t427 t428 t431 t436 t437 t440 t444 t445 t448))) = some r:=H
  have A10:=Aside0.mk A100
  clear A100
  have HC11:=Aside0.mk H
  clear H
  go_enter Try.func6,Try.ntmps6
  go_upto_region 8 with (first|((with_reducible refine gate_dst (N:=1) rfl ?_);refine box_event ?hg (N:=1) ?hd (cs:=#[.int .i64 a0_0,.slice A0_1 l0_1.length c0_1,.slice A0_2 l0_2.length c0_2]) (t:=25) ?hr ?_;(case hd=>rfl);(case hg=>rfl);(case hr=>first|(go_simp;done)|(go_simp;rfl));intro gb418 hg w12 hbox hb;have n0_:=Aside0.mk (below_step bz hb);have n1_:=Aside0.mk (hbox);have n2_:=Aside0.mk ((by rw [hg];exact (below_size bz) : w.heap.size ≤ gb418));have n3_:=Aside0.mk ((by rw [hg];exact (below_size bz) : w.heap.size ≤ gb418));clear HB;have HB:=n0_;have BK418:=n1_;have GW418:=n2_;have GE418:=n3_;clear n0_ n1_ n2_ n3_;clear hb hbox hg;have hcz13_0 : w12.cell? ⟨gb418,0,none⟩ = some (.int .i64 a0_0):=(blk_cell BK418.out 0).trans rfl;have hcz13_1 : w12.cell? ⟨gb418,1,none⟩ = some (.slice A0_1 l0_1.length c0_1):=(blk_cell BK418.out 1).trans rfl;have hcz13_2 : w12.cell? ⟨gb418,2,none⟩ = some (.slice A0_2 l0_2.length c0_2):=(blk_cell BK418.out 2).trans rfl;have hfz13_0:=blk_frozen BK418.out 0;have hfz13_1:=blk_frozen BK418.out 1;have hfz13_2:=blk_frozen BK418.out 2)|((with_reducible refine gate_callee (f:=10) rfl ?_);refine goesL_ (some 16) rfl rfl Try.func10 (by kernel_rfl) rfl #[.agg #[.int .i64 a0_0,.slice A0_1 l0_1.length c0_1,.slice A0_2 l0_2.length c0_2],.int .i64 1048576] rfl mz ?_;(with_reducible refine (laws_szPlan.calls a0_0 _ _ l0_1 _ _ l0_2 1048576 t419 _ ?side1 ?side2 ?side3 ?side4 A2.out).mono ?_);(case side1=>exact cz (Kd.C_below HR0_1.out HB.out));(case side2=>exact HC0_1.out);(case side3=>exact cz (Kd.C_below HR0_2.out HB.out));(case side4=>exact HC0_2.out);rintro e w14 ⟨rfl,hb⟩;refine ⟨_,rfl,?_⟩;have n0_:=Aside0.mk (blk_below (g:=gb418) (o:=.cells #[.int .i64 a0_0,.slice A0_1 l0_1.length c0_1,.slice A0_2 l0_2.length c0_2] 25 (0,0)) (kz BK418.out) hb);have n1_:=Aside0.mk (below_step bs hb);clear BK418 HB;have BK418:=n0_;have HB:=n1_;clear n0_ n1_;(try clear hb);have hcz15_0 : w14.cell? ⟨gb418,0,none⟩ = some (.int .i64 a0_0):=(blk_cell BK418.out 0).trans rfl;have hcz15_1 : w14.cell? ⟨gb418,1,none⟩ = some (.slice A0_1 l0_1.length c0_1):=(blk_cell BK418.out 1).trans rfl;have hcz15_2 : w14.cell? ⟨gb418,2,none⟩ = some (.slice A0_2 l0_2.length c0_2):=(blk_cell BK418.out 2).trans rfl;have hfz15_0:=blk_frozen BK418.out 0;have hfz15_1:=blk_frozen BK418.out 1;have hfz15_2:=blk_frozen BK418.out 2)|((with_reducible refine gate_callee (f:=12) rfl ?_);refine goesL_ (some 21) rfl rfl Try.func12 (by kernel_rfl) rfl #[.agg #[.int .i64 a0_0,.slice A0_1 l0_1.length c0_1,.slice A0_2 l0_2.length c0_2]] rfl mz ?_;(with_reducible refine (laws_toPlan.calls k a0_0 _ _ l0_1 _ _ l0_2 t420 t421 t424 _ ?side1 ?side2 ?side3 ?side4 A7.out).mono ?_);(case side1=>exact cz (Kd.C_below HR0_1.out HB.out));(case side2=>exact HC0_1.out);(case side3=>exact cz (Kd.C_below HR0_2.out HB.out));(case side4=>exact HC0_2.out);rintro e w16 ⟨v422,v425,rfl,ho0,ho1,hb⟩;refine ⟨_,rfl,?_⟩;have n0_:=Aside0.mk (Kd.R_lower ho0 (below_size bs));have n1_:=Aside0.mk (Kd.R_lower ho1 (below_size bs));have n2_:=Aside0.mk (blk_below (g:=gb418) (o:=.cells #[.int .i64 a0_0,.slice A0_1 l0_1.length c0_1,.slice A0_2 l0_2.length c0_2] 25 (0,0)) (kz BK418.out) hb);have n3_:=Aside0.mk (below_step bs hb);clear BK418 HB;have HO423:=n0_;have HO426:=n1_;have BK418:=n2_;have HB:=n3_;clear n0_ n1_ n2_ n3_;(try clear hb);(try clear ho0);(try clear ho1);obtain ⟨Ao17,co17,eo17⟩:=Kd.R_slice HO423.out;subst eo17;obtain ⟨Ao18,co18,eo18⟩:=Kd.R_slice HO426.out;subst eo18)|((with_reducible refine gate_callee (f:=24) rfl ?_);refine goesL_ (some 22) rfl rfl Try.func24 (by kernel_rfl) rfl #[.agg #[.int .i64 t420,.slice Ao17 t421.length co17,.slice Ao18 t424.length co18]] rfl mz ?_;(with_reducible refine (spec_SharePlan.calls k t420 _ _ t421 _ _ t424 t427 t428 t431 t434 _ ?side1 ?side2 ?side3 ?side4 A8.out).mono ?_);(case side1=>exact cz (Kd.R_reads' HO423.out).2.2);(case side2=>exact (Kd.R_reads' HO423.out).2.1);(case side3=>exact cz (Kd.R_reads' HO426.out).2.2);(case side4=>exact (Kd.R_reads' HO426.out).2.1);rintro e w19 ⟨v429,v432,rfl,ho0,ho1,hb⟩;refine ⟨_,rfl,?_⟩;have n0_:=Aside0.mk (Kd.R_elder' (rz HO423.out) (Kd.R_base ho0) hb);have n1_:=Aside0.mk (Kd.R_elder' (rz HO426.out) (Kd.R_base ho1) hb);have n2_:=Aside0.mk (Kd.R_lower (Kd.R_new' ho0 (Kd.R_lt (rz HO423.out))) (below_size bs));have n3_:=Aside0.mk (Kd.R_lower (Kd.R_new' ho1 (Kd.R_lt (rz HO426.out))) (below_size bs));have n4_:=Aside0.mk (blk_below (g:=gb418) (o:=.cells #[.int .i64 a0_0,.slice A0_1 l0_1.length c0_1,.slice A0_2 l0_2.length c0_2] 25 (0,0)) (kz BK418.out) hb);have n5_:=Aside0.mk (below_step bs hb);clear HO423 HO426 BK418 HB;have HO423:=n0_;have HO426:=n1_;have HO430:=n2_;have HO433:=n3_;have BK418:=n4_;have HB:=n5_;clear n0_ n1_ n2_ n3_ n4_ n5_;(try clear hb);(try clear ho0);(try clear ho1))|((with_reducible refine gate_dst (N:=4) rfl ?_);refine box_event ?hg (N:=4) ?hd (cs:=#[.int .i64 0,.slice none 0 0,.slice none 0 0]) (t:=29) ?hr ?_;(case hd=>rfl);(case hg=>rfl);(case hr=>first|(go_simp;done)|(go_simp;rfl));intro gb435 hg w20 hbox hb;have n0_:=Aside0.mk (Kd.R_below (rz HO423.out) hb);have n1_:=Aside0.mk (Kd.R_below (rz HO426.out) hb);have n2_:=Aside0.mk (Kd.R_below (rz HO430.out) hb);have n3_:=Aside0.mk (Kd.R_below (rz HO433.out) hb);have n4_:=Aside0.mk (blk_below (g:=gb418) (o:=.cells #[.int .i64 a0_0,.slice A0_1 l0_1.length c0_1,.slice A0_2 l0_2.length c0_2] 25 (0,0)) (kz BK418.out) hb);have n5_:=Aside0.mk (below_step bs hb);have n6_:=Aside0.mk (hbox);have n7_:=Aside0.mk ((by rw [hg];exact (below_size bs) : w.heap.size ≤ gb435));have n8_:=Aside0.mk ((by rw [hg];exact (below_size bs) : w.heap.size ≤ gb435));have n9_:=Aside0.mk ((by rw [hg];exact Nat.ne_of_lt (blk_lt (g:=gb418) (o:=.cells #[.int .i64 a0_0,.slice A0_1 l0_1.length c0_1,.slice A0_2 l0_2.length c0_2] 25 (0,0)) (kz BK418.out)) : gb418 ≠ gb435));have n10_:=Aside0.mk ((by rw [hg];exact Nat.ne_of_gt (blk_lt (g:=gb418) (o:=.cells #[.int .i64 a0_0,.slice A0_1 l0_1.length c0_1,.slice A0_2 l0_2.length c0_2] 25 (0,0)) (kz BK418.out)) : gb435 ≠ gb418));clear HO423 HO426 HO430 HO433 BK418 HB;have HO423:=n0_;have HO426:=n1_;have HO430:=n2_;have HO433:=n3_;have BK418:=n4_;have HB:=n5_;have BK435:=n6_;have GW435:=n7_;have GE435:=n8_;have NB418_435:=n9_;have NB435_418:=n10_;clear n0_ n1_ n2_ n3_ n4_ n5_ n6_ n7_ n8_ n9_ n10_;clear hb hbox hg;have hnb21:=NB435_418.out;have hnc21:=NB418_435.out;have hcz22_0 : w20.cell? ⟨gb435,0,none⟩ = some (.int .i64 0):=(blk_cell BK435.out 0).trans rfl;have hcz22_1 : w20.cell? ⟨gb435,1,none⟩ = some (.slice none 0 0):=(blk_cell BK435.out 1).trans rfl;have hcz22_2 : w20.cell? ⟨gb435,2,none⟩ = some (.slice none 0 0):=(blk_cell BK435.out 2).trans rfl;have hfz22_0:=blk_frozen BK435.out 0;have hfz22_1:=blk_frozen BK435.out 1;have hfz22_2:=blk_frozen BK435.out 2;obtain ⟨Ao23,co23,eo23⟩:=Kd.R_slice HO430.out;subst eo23;obtain ⟨Ao24,co24,eo24⟩:=Kd.R_slice HO433.out;subst eo24;have hcz25_0 : w20.cell? ⟨gb418,0,none⟩ = some (.int .i64 a0_0):=(blk_cell BK418.out 0).trans rfl;have hcz25_1 : w20.cell? ⟨gb418,1,none⟩ = some (.slice A0_1 l0_1.length c0_1):=(blk_cell BK418.out 1).trans rfl;have hcz25_2 : w20.cell? ⟨gb418,2,none⟩ = some (.slice A0_2 l0_2.length c0_2):=(blk_cell BK418.out 2).trans rfl;have hfz25_0:=blk_frozen BK418.out 0;have hfz25_1:=blk_frozen BK418.out 1;have hfz25_2:=blk_frozen BK418.out 2)|((with_reducible refine gate_callee (f:=12) rfl ?_);refine goesL_ (some 26) rfl rfl Try.func12 (by kernel_rfl) rfl #[.agg #[.int .i64 a0_0,.slice A0_1 l0_1.length c0_1,.slice A0_2 l0_2.length c0_2]] rfl mz ?_;(with_reducible refine (laws_toPlan.calls k a0_0 _ _ l0_1 _ _ l0_2 t436 t437 t440 _ ?side1 ?side2 ?side3 ?side4 A9.out).mono ?_);(case side1=>exact Kd.C_below HR0_1.out bs);(case side2=>exact HC0_1.out);(case side3=>exact Kd.C_below HR0_2.out bs);(case side4=>exact HC0_2.out);rintro e w26 ⟨v438,v441,rfl,ho0,ho1,hb⟩;refine ⟨_,rfl,?_⟩;have n0_:=Aside0.mk (Kd.R_elder' (by (with_reducible repeat (first|apply Kd.R_alloc|apply Kd.R_drewN|apply Kd.R_drew));exact (Kd.R_mono (Kd.R_far (p:=⟨gb435,2,none⟩) (Kd.R_far (p:=⟨gb435,1,none⟩) (Kd.R_far (p:=⟨gb435,0,none⟩) (Kd.R_types HO423.out BK435.out (by decide)) (fun _ hk=>hk.2) (.int .i64 t427)) (fun _ hk=>hk.2) (.slice Ao23 t428.length co23)) (fun _ hk=>hk.2) (.slice Ao24 t431.length co24)) (fun _ h_=>h_.1))) (Kd.R_base ho0) hb);have n1_:=Aside0.mk (Kd.R_elder' (by (with_reducible repeat (first|apply Kd.R_alloc|apply Kd.R_drewN|apply Kd.R_drew));exact (Kd.R_mono (Kd.R_far (p:=⟨gb435,2,none⟩) (Kd.R_far (p:=⟨gb435,1,none⟩) (Kd.R_far (p:=⟨gb435,0,none⟩) (Kd.R_types HO426.out BK435.out (by decide)) (fun _ hk=>hk.2) (.int .i64 t427)) (fun _ hk=>hk.2) (.slice Ao23 t428.length co23)) (fun _ hk=>hk.2) (.slice Ao24 t431.length co24)) (fun _ h_=>h_.1))) (Kd.R_base ho1) hb);have n2_:=Aside0.mk (Kd.R_elder' (by (with_reducible repeat (first|apply Kd.R_alloc|apply Kd.R_drewN|apply Kd.R_drew));exact (Kd.R_mono (Kd.R_far (p:=⟨gb435,2,none⟩) (Kd.R_far (p:=⟨gb435,1,none⟩) (Kd.R_far (p:=⟨gb435,0,none⟩) (Kd.R_types HO430.out BK435.out (by decide)) (fun _ hk=>hk.2) (.int .i64 t427)) (fun _ hk=>hk.2) (.slice Ao23 t428.length co23)) (fun _ hk=>hk.2) (.slice Ao24 t431.length co24)) (fun _ h_=>h_.1))) (Kd.R_base ho0) hb);have n3_:=Aside0.mk (Kd.R_elder' (by (with_reducible repeat (first|apply Kd.R_alloc|apply Kd.R_drewN|apply Kd.R_drew));exact (Kd.R_mono (Kd.R_far (p:=⟨gb435,2,none⟩) (Kd.R_far (p:=⟨gb435,1,none⟩) (Kd.R_far (p:=⟨gb435,0,none⟩) (Kd.R_types HO433.out BK435.out (by decide)) (fun _ hk=>hk.2) (.int .i64 t427)) (fun _ hk=>hk.2) (.slice Ao23 t428.length co23)) (fun _ hk=>hk.2) (.slice Ao24 t431.length co24)) (fun _ h_=>h_.1))) (Kd.R_base ho1) hb);have n4_:=Aside0.mk (Kd.R_lower (Kd.R_new' (Kd.R_new' ho0 (Kd.R_lt (by (with_reducible repeat (first|apply Kd.R_alloc|apply Kd.R_drewN|apply Kd.R_drew));exact (Kd.R_mono (Kd.R_far (p:=⟨gb435,2,none⟩) (Kd.R_far (p:=⟨gb435,1,none⟩) (Kd.R_far (p:=⟨gb435,0,none⟩) (Kd.R_types HO423.out BK435.out (by decide)) (fun _ hk=>hk.2) (.int .i64 t427)) (fun _ hk=>hk.2) (.slice Ao23 t428.length co23)) (fun _ hk=>hk.2) (.slice Ao24 t431.length co24)) (fun _ h_=>h_.1))))) (Kd.R_lt (by (with_reducible repeat (first|apply Kd.R_alloc|apply Kd.R_drewN|apply Kd.R_drew));exact (Kd.R_mono (Kd.R_far (p:=⟨gb435,2,none⟩) (Kd.R_far (p:=⟨gb435,1,none⟩) (Kd.R_far (p:=⟨gb435,0,none⟩) (Kd.R_types HO430.out BK435.out (by decide)) (fun _ hk=>hk.2) (.int .i64 t427)) (fun _ hk=>hk.2) (.slice Ao23 t428.length co23)) (fun _ hk=>hk.2) (.slice Ao24 t431.length co24)) (fun _ h_=>h_.1))))) (below_size bs));have n5_:=Aside0.mk (Kd.R_lower (Kd.R_new' (Kd.R_new' ho1 (Kd.R_lt (by (with_reducible repeat (first|apply Kd.R_alloc|apply Kd.R_drewN|apply Kd.R_drew));exact (Kd.R_mono (Kd.R_far (p:=⟨gb435,2,none⟩) (Kd.R_far (p:=⟨gb435,1,none⟩) (Kd.R_far (p:=⟨gb435,0,none⟩) (Kd.R_types HO426.out BK435.out (by decide)) (fun _ hk=>hk.2) (.int .i64 t427)) (fun _ hk=>hk.2) (.slice Ao23 t428.length co23)) (fun _ hk=>hk.2) (.slice Ao24 t431.length co24)) (fun _ h_=>h_.1))))) (Kd.R_lt (by (with_reducible repeat (first|apply Kd.R_alloc|apply Kd.R_drewN|apply Kd.R_drew));exact (Kd.R_mono (Kd.R_far (p:=⟨gb435,2,none⟩) (Kd.R_far (p:=⟨gb435,1,none⟩) (Kd.R_far (p:=⟨gb435,0,none⟩) (Kd.R_types HO433.out BK435.out (by decide)) (fun _ hk=>hk.2) (.int .i64 t427)) (fun _ hk=>hk.2) (.slice Ao23 t428.length co23)) (fun _ hk=>hk.2) (.slice Ao24 t431.length co24)) (fun _ h_=>h_.1))))) (below_size bs));have n6_:=Aside0.mk (blk_below (g:=gb418) (o:=.cells #[.int .i64 a0_0,.slice A0_1 l0_1.length c0_1,.slice A0_2 l0_2.length c0_2] 25 (0,0)) (by (with_reducible repeat (first|refine blk_drewN ?_ _|refine blk_drew ?_|refine blk_alloc ?_ _));refine blk_far ?_ NB418_435.out _;(with_reducible repeat (first|refine blk_drewN ?_ _|refine blk_drew ?_|refine blk_alloc ?_ _));refine blk_far ?_ NB418_435.out _;(with_reducible repeat (first|refine blk_drewN ?_ _|refine blk_drew ?_|refine blk_alloc ?_ _));refine blk_far ?_ NB418_435.out _;(with_reducible repeat (first|refine blk_drewN ?_ _|refine blk_drew ?_|refine blk_alloc ?_ _));exact BK418.out) hb);have n7_:=Aside0.mk (blk_below (g:=gb435) (o:=.cells #[.int .i64 t427,.slice Ao23 t428.length co23,.slice Ao24 t431.length co24] 29 (0,0)) (by (with_reducible repeat (first|refine blk_drewN ?_ _|refine blk_drew ?_|refine blk_alloc ?_ _));refine blk_put (cs:=#[.int .i64 t427,.slice Ao23 t428.length co23,.slice none 0 0]) ?_ 2 _ rfl;(with_reducible repeat (first|refine blk_drewN ?_ _|refine blk_drew ?_|refine blk_alloc ?_ _));refine blk_put (cs:=#[.int .i64 t427,.slice none 0 0,.slice none 0 0]) ?_ 1 _ rfl;(with_reducible repeat (first|refine blk_drewN ?_ _|refine blk_drew ?_|refine blk_alloc ?_ _));refine blk_put (cs:=#[.int .i64 0,.slice none 0 0,.slice none 0 0]) ?_ 0 _ rfl;(with_reducible repeat (first|refine blk_drewN ?_ _|refine blk_drew ?_|refine blk_alloc ?_ _));exact BK435.out) hb);have n8_:=Aside0.mk (below_step bs hb);clear HO423 HO426 HO430 HO433 BK418 BK435 HB;have HO423:=n0_;have HO426:=n1_;have HO430:=n2_;have HO433:=n3_;have HO439:=n4_;have HO442:=n5_;have BK418:=n6_;have BK435:=n7_;have HB:=n8_;clear n0_ n1_ n2_ n3_ n4_ n5_ n6_ n7_ n8_;(try clear hb);(try clear ho0);(try clear ho1))|((with_reducible refine gate_dst (N:=6) rfl ?_);refine box_event ?hg (N:=6) ?hd (cs:=#[.int .i64 0,.slice none 0 0,.slice none 0 0]) (t:=29) ?hr ?_;(case hd=>rfl);(case hg=>rfl);(case hr=>first|(go_simp;done)|(go_simp;rfl));intro gb443 hg w27 hbox hb;have n0_:=Aside0.mk (Kd.R_below (rz HO423.out) hb);have n1_:=Aside0.mk (Kd.R_below (rz HO426.out) hb);have n2_:=Aside0.mk (Kd.R_below (rz HO430.out) hb);have n3_:=Aside0.mk (Kd.R_below (rz HO433.out) hb);have n4_:=Aside0.mk (Kd.R_below (rz HO439.out) hb);have n5_:=Aside0.mk (Kd.R_below (rz HO442.out) hb);have n6_:=Aside0.mk (blk_below (g:=gb418) (o:=.cells #[.int .i64 a0_0,.slice A0_1 l0_1.length c0_1,.slice A0_2 l0_2.length c0_2] 25 (0,0)) (kz BK418.out) hb);have n7_:=Aside0.mk (blk_below (g:=gb435) (o:=.cells #[.int .i64 t427,.slice Ao23 t428.length co23,.slice Ao24 t431.length co24] 29 (0,0)) (kz BK435.out) hb);have n8_:=Aside0.mk (below_step bs hb);have n9_:=Aside0.mk (hbox);have n10_:=Aside0.mk ((by rw [hg];exact (below_size bs) : w.heap.size ≤ gb443));have n11_:=Aside0.mk ((by rw [hg];exact (below_size bs) : w.heap.size ≤ gb443));have n12_:=Aside0.mk ((by rw [hg];exact Nat.ne_of_lt (blk_lt (g:=gb418) (o:=.cells #[.int .i64 a0_0,.slice A0_1 l0_1.length c0_1,.slice A0_2 l0_2.length c0_2] 25 (0,0)) (kz BK418.out)) : gb418 ≠ gb443));have n13_:=Aside0.mk ((by rw [hg];exact Nat.ne_of_gt (blk_lt (g:=gb418) (o:=.cells #[.int .i64 a0_0,.slice A0_1 l0_1.length c0_1,.slice A0_2 l0_2.length c0_2] 25 (0,0)) (kz BK418.out)) : gb443 ≠ gb418));have n14_:=Aside0.mk ((by rw [hg];exact Nat.ne_of_lt (blk_lt (g:=gb435) (o:=.cells #[.int .i64 t427,.slice Ao23 t428.length co23,.slice Ao24 t431.length co24] 29 (0,0)) (kz BK435.out)) : gb435 ≠ gb443));have n15_:=Aside0.mk ((by rw [hg];exact Nat.ne_of_gt (blk_lt (g:=gb435) (o:=.cells #[.int .i64 t427,.slice Ao23 t428.length co23,.slice Ao24 t431.length co24] 29 (0,0)) (kz BK435.out)) : gb443 ≠ gb435));clear HO423 HO426 HO430 HO433 HO439 HO442 BK418 BK435 HB;have HO423:=n0_;have HO426:=n1_;have HO430:=n2_;have HO433:=n3_;have HO439:=n4_;have HO442:=n5_;have BK418:=n6_;have BK435:=n7_;have HB:=n8_;have BK443:=n9_;have GW443:=n10_;have GE443:=n11_;have NB418_443:=n12_;have NB443_418:=n13_;have NB435_443:=n14_;have NB443_435:=n15_;clear n0_ n1_ n2_ n3_ n4_ n5_ n6_ n7_ n8_ n9_ n10_ n11_ n12_ n13_ n14_ n15_;clear hb hbox hg;have hnb28:=NB443_418.out;have hnc28:=NB418_443.out;have hnb29:=NB443_435.out;have hnc29:=NB435_443.out;have hcz30_0 : w27.cell? ⟨gb443,0,none⟩ = some (.int .i64 0):=(blk_cell BK443.out 0).trans rfl;have hcz30_1 : w27.cell? ⟨gb443,1,none⟩ = some (.slice none 0 0):=(blk_cell BK443.out 1).trans rfl;have hcz30_2 : w27.cell? ⟨gb443,2,none⟩ = some (.slice none 0 0):=(blk_cell BK443.out 2).trans rfl;have hfz30_0:=blk_frozen BK443.out 0;have hfz30_1:=blk_frozen BK443.out 1;have hfz30_2:=blk_frozen BK443.out 2;obtain ⟨Ao31,co31,eo31⟩:=Kd.R_slice HO439.out;subst eo31;obtain ⟨Ao32,co32,eo32⟩:=Kd.R_slice HO442.out;subst eo32)|((with_reducible refine gate_callee (f:=25) rfl ?_);refine goesL_ (some 29) rfl rfl Try.func25 (by kernel_rfl) rfl #[.agg #[.int .i64 t436,.slice Ao31 t437.length co31,.slice Ao32 t440.length co32]] rfl mz ?_;(with_reducible refine (impl_SharePlan.calls k t436 _ _ t437 _ _ t440 t444 t445 t448 t451 _ ?side1 ?side2 ?side3 ?side4 A10.out).mono ?_);(case side1=>refine (Kd.R_reads' (e:=73) (base:=w.heap.size) (ok:=fun k_=>((True ∧ some k_ ≠ (.slice Ao17 t421.length co17 : Value).ownBlock) ∧ some k_ ≠ (.slice Ao23 t428.length co23 : Value).ownBlock)) (n:=t437.length) (c:=co31) ?_).2.2;exact (by (with_reducible repeat (first|apply Kd.R_alloc|apply Kd.R_drewN|apply Kd.R_drew));exact (Kd.R_mono (Kd.R_far (p:=⟨gb443,2,none⟩) (Kd.R_far (p:=⟨gb443,1,none⟩) (Kd.R_far (p:=⟨gb443,0,none⟩) (Kd.R_types HO439.out BK443.out (by decide)) (fun _ hk=>hk.2) (.int .i64 t436)) (fun _ hk=>hk.2) (.slice Ao31 t437.length co31)) (fun _ hk=>hk.2) (.slice Ao32 t440.length co32)) (fun _ h_=>h_.1))));(case side2=>exact (Kd.R_reads' HO439.out).2.1);(case side3=>refine (Kd.R_reads' (e:=3) (base:=w.heap.size) (ok:=fun k_=>((True ∧ some k_ ≠ (.slice Ao18 t424.length co18 : Value).ownBlock) ∧ some k_ ≠ (.slice Ao24 t431.length co24 : Value).ownBlock)) (n:=t440.length) (c:=co32) ?_).2.2;exact (by (with_reducible repeat (first|apply Kd.R_alloc|apply Kd.R_drewN|apply Kd.R_drew));exact (Kd.R_mono (Kd.R_far (p:=⟨gb443,2,none⟩) (Kd.R_far (p:=⟨gb443,1,none⟩) (Kd.R_far (p:=⟨gb443,0,none⟩) (Kd.R_types HO442.out BK443.out (by decide)) (fun _ hk=>hk.2) (.int .i64 t436)) (fun _ hk=>hk.2) (.slice Ao31 t437.length co31)) (fun _ hk=>hk.2) (.slice Ao32 t440.length co32)) (fun _ h_=>h_.1))));(case side4=>exact (Kd.R_reads' HO442.out).2.1);rintro e w33 ⟨v446,v449,rfl,ho0,ho1,hb⟩;refine ⟨_,rfl,?_⟩;have n0_:=Aside0.mk (Kd.R_elder' (by (with_reducible repeat (first|apply Kd.R_alloc|apply Kd.R_drewN|apply Kd.R_drew));exact (Kd.R_mono (Kd.R_far (p:=⟨gb443,2,none⟩) (Kd.R_far (p:=⟨gb443,1,none⟩) (Kd.R_far (p:=⟨gb443,0,none⟩) (Kd.R_types HO423.out BK443.out (by decide)) (fun _ hk=>hk.2) (.int .i64 t436)) (fun _ hk=>hk.2) (.slice Ao31 t437.length co31)) (fun _ hk=>hk.2) (.slice Ao32 t440.length co32)) (fun _ h_=>h_.1))) (Kd.R_base ho0) hb);have n1_:=Aside0.mk (Kd.R_elder' (by (with_reducible repeat (first|apply Kd.R_alloc|apply Kd.R_drewN|apply Kd.R_drew));exact (Kd.R_mono (Kd.R_far (p:=⟨gb443,2,none⟩) (Kd.R_far (p:=⟨gb443,1,none⟩) (Kd.R_far (p:=⟨gb443,0,none⟩) (Kd.R_types HO426.out BK443.out (by decide)) (fun _ hk=>hk.2) (.int .i64 t436)) (fun _ hk=>hk.2) (.slice Ao31 t437.length co31)) (fun _ hk=>hk.2) (.slice Ao32 t440.length co32)) (fun _ h_=>h_.1))) (Kd.R_base ho1) hb);have n2_:=Aside0.mk (Kd.R_elder' (by (with_reducible repeat (first|apply Kd.R_alloc|apply Kd.R_drewN|apply Kd.R_drew));exact (Kd.R_mono (Kd.R_far (p:=⟨gb443,2,none⟩) (Kd.R_far (p:=⟨gb443,1,none⟩) (Kd.R_far (p:=⟨gb443,0,none⟩) (Kd.R_types HO430.out BK443.out (by decide)) (fun _ hk=>hk.2) (.int .i64 t436)) (fun _ hk=>hk.2) (.slice Ao31 t437.length co31)) (fun _ hk=>hk.2) (.slice Ao32 t440.length co32)) (fun _ h_=>h_.1))) (Kd.R_base ho0) hb);have n3_:=Aside0.mk (Kd.R_elder' (by (with_reducible repeat (first|apply Kd.R_alloc|apply Kd.R_drewN|apply Kd.R_drew));exact (Kd.R_mono (Kd.R_far (p:=⟨gb443,2,none⟩) (Kd.R_far (p:=⟨gb443,1,none⟩) (Kd.R_far (p:=⟨gb443,0,none⟩) (Kd.R_types HO433.out BK443.out (by decide)) (fun _ hk=>hk.2) (.int .i64 t436)) (fun _ hk=>hk.2) (.slice Ao31 t437.length co31)) (fun _ hk=>hk.2) (.slice Ao32 t440.length co32)) (fun _ h_=>h_.1))) (Kd.R_base ho1) hb);have n4_:=Aside0.mk (Kd.R_elder' (by (with_reducible repeat (first|apply Kd.R_alloc|apply Kd.R_drewN|apply Kd.R_drew));exact (Kd.R_mono (Kd.R_far (p:=⟨gb443,2,none⟩) (Kd.R_far (p:=⟨gb443,1,none⟩) (Kd.R_far (p:=⟨gb443,0,none⟩) (Kd.R_types HO439.out BK443.out (by decide)) (fun _ hk=>hk.2) (.int .i64 t436)) (fun _ hk=>hk.2) (.slice Ao31 t437.length co31)) (fun _ hk=>hk.2) (.slice Ao32 t440.length co32)) (fun _ h_=>h_.1))) (Kd.R_base ho0) hb);have n5_:=Aside0.mk (Kd.R_elder' (by (with_reducible repeat (first|apply Kd.R_alloc|apply Kd.R_drewN|apply Kd.R_drew));exact (Kd.R_mono (Kd.R_far (p:=⟨gb443,2,none⟩) (Kd.R_far (p:=⟨gb443,1,none⟩) (Kd.R_far (p:=⟨gb443,0,none⟩) (Kd.R_types HO442.out BK443.out (by decide)) (fun _ hk=>hk.2) (.int .i64 t436)) (fun _ hk=>hk.2) (.slice Ao31 t437.length co31)) (fun _ hk=>hk.2) (.slice Ao32 t440.length co32)) (fun _ h_=>h_.1))) (Kd.R_base ho1) hb);have n6_:=Aside0.mk (Kd.R_lower (Kd.R_new' (Kd.R_new' (Kd.R_new' ho0 (Kd.R_lt (by (with_reducible repeat (first|apply Kd.R_alloc|apply Kd.R_drewN|apply Kd.R_drew));exact (Kd.R_mono (Kd.R_far (p:=⟨gb443,2,none⟩) (Kd.R_far (p:=⟨gb443,1,none⟩) (Kd.R_far (p:=⟨gb443,0,none⟩) (Kd.R_types HO423.out BK443.out (by decide)) (fun _ hk=>hk.2) (.int .i64 t436)) (fun _ hk=>hk.2) (.slice Ao31 t437.length co31)) (fun _ hk=>hk.2) (.slice Ao32 t440.length co32)) (fun _ h_=>h_.1))))) (Kd.R_lt (by (with_reducible repeat (first|apply Kd.R_alloc|apply Kd.R_drewN|apply Kd.R_drew));exact (Kd.R_mono (Kd.R_far (p:=⟨gb443,2,none⟩) (Kd.R_far (p:=⟨gb443,1,none⟩) (Kd.R_far (p:=⟨gb443,0,none⟩) (Kd.R_types HO430.out BK443.out (by decide)) (fun _ hk=>hk.2) (.int .i64 t436)) (fun _ hk=>hk.2) (.slice Ao31 t437.length co31)) (fun _ hk=>hk.2) (.slice Ao32 t440.length co32)) (fun _ h_=>h_.1))))) (Kd.R_lt (by (with_reducible repeat (first|apply Kd.R_alloc|apply Kd.R_drewN|apply Kd.R_drew));exact (Kd.R_mono (Kd.R_far (p:=⟨gb443,2,none⟩) (Kd.R_far (p:=⟨gb443,1,none⟩) (Kd.R_far (p:=⟨gb443,0,none⟩) (Kd.R_types HO439.out BK443.out (by decide)) (fun _ hk=>hk.2) (.int .i64 t436)) (fun _ hk=>hk.2) (.slice Ao31 t437.length co31)) (fun _ hk=>hk.2) (.slice Ao32 t440.length co32)) (fun _ h_=>h_.1))))) (below_size bs));have n7_:=Aside0.mk (Kd.R_lower (Kd.R_new' (Kd.R_new' (Kd.R_new' ho1 (Kd.R_lt (by (with_reducible repeat (first|apply Kd.R_alloc|apply Kd.R_drewN|apply Kd.R_drew));exact (Kd.R_mono (Kd.R_far (p:=⟨gb443,2,none⟩) (Kd.R_far (p:=⟨gb443,1,none⟩) (Kd.R_far (p:=⟨gb443,0,none⟩) (Kd.R_types HO426.out BK443.out (by decide)) (fun _ hk=>hk.2) (.int .i64 t436)) (fun _ hk=>hk.2) (.slice Ao31 t437.length co31)) (fun _ hk=>hk.2) (.slice Ao32 t440.length co32)) (fun _ h_=>h_.1))))) (Kd.R_lt (by (with_reducible repeat (first|apply Kd.R_alloc|apply Kd.R_drewN|apply Kd.R_drew));exact (Kd.R_mono (Kd.R_far (p:=⟨gb443,2,none⟩) (Kd.R_far (p:=⟨gb443,1,none⟩) (Kd.R_far (p:=⟨gb443,0,none⟩) (Kd.R_types HO433.out BK443.out (by decide)) (fun _ hk=>hk.2) (.int .i64 t436)) (fun _ hk=>hk.2) (.slice Ao31 t437.length co31)) (fun _ hk=>hk.2) (.slice Ao32 t440.length co32)) (fun _ h_=>h_.1))))) (Kd.R_lt (by (with_reducible repeat (first|apply Kd.R_alloc|apply Kd.R_drewN|apply Kd.R_drew));exact (Kd.R_mono (Kd.R_far (p:=⟨gb443,2,none⟩) (Kd.R_far (p:=⟨gb443,1,none⟩) (Kd.R_far (p:=⟨gb443,0,none⟩) (Kd.R_types HO442.out BK443.out (by decide)) (fun _ hk=>hk.2) (.int .i64 t436)) (fun _ hk=>hk.2) (.slice Ao31 t437.length co31)) (fun _ hk=>hk.2) (.slice Ao32 t440.length co32)) (fun _ h_=>h_.1))))) (below_size bs));have n8_:=Aside0.mk (blk_below (g:=gb418) (o:=.cells #[.int .i64 a0_0,.slice A0_1 l0_1.length c0_1,.slice A0_2 l0_2.length c0_2] 25 (0,0)) (by (with_reducible repeat (first|refine blk_drewN ?_ _|refine blk_drew ?_|refine blk_alloc ?_ _));refine blk_far ?_ NB418_443.out _;(with_reducible repeat (first|refine blk_drewN ?_ _|refine blk_drew ?_|refine blk_alloc ?_ _));refine blk_far ?_ NB418_443.out _;(with_reducible repeat (first|refine blk_drewN ?_ _|refine blk_drew ?_|refine blk_alloc ?_ _));refine blk_far ?_ NB418_443.out _;(with_reducible repeat (first|refine blk_drewN ?_ _|refine blk_drew ?_|refine blk_alloc ?_ _));exact BK418.out) hb);have n9_:=Aside0.mk (blk_below (g:=gb435) (o:=.cells #[.int .i64 t427,.slice Ao23 t428.length co23,.slice Ao24 t431.length co24] 29 (0,0)) (by (with_reducible repeat (first|refine blk_drewN ?_ _|refine blk_drew ?_|refine blk_alloc ?_ _));refine blk_far ?_ NB435_443.out _;(with_reducible repeat (first|refine blk_drewN ?_ _|refine blk_drew ?_|refine blk_alloc ?_ _));refine blk_far ?_ NB435_443.out _;(with_reducible repeat (first|refine blk_drewN ?_ _|refine blk_drew ?_|refine blk_alloc ?_ _));refine blk_far ?_ NB435_443.out _;(with_reducible repeat (first|refine blk_drewN ?_ _|refine blk_drew ?_|refine blk_alloc ?_ _));exact BK435.out) hb);have n10_:=Aside0.mk (blk_below (g:=gb443) (o:=.cells #[.int .i64 t436,.slice Ao31 t437.length co31,.slice Ao32 t440.length co32] 29 (0,0)) (by (with_reducible repeat (first|refine blk_drewN ?_ _|refine blk_drew ?_|refine blk_alloc ?_ _));refine blk_put (cs:=#[.int .i64 t436,.slice Ao31 t437.length co31,.slice none 0 0]) ?_ 2 _ rfl;(with_reducible repeat (first|refine blk_drewN ?_ _|refine blk_drew ?_|refine blk_alloc ?_ _));refine blk_put (cs:=#[.int .i64 t436,.slice none 0 0,.slice none 0 0]) ?_ 1 _ rfl;(with_reducible repeat (first|refine blk_drewN ?_ _|refine blk_drew ?_|refine blk_alloc ?_ _));refine blk_put (cs:=#[.int .i64 0,.slice none 0 0,.slice none 0 0]) ?_ 0 _ rfl;(with_reducible repeat (first|refine blk_drewN ?_ _|refine blk_drew ?_|refine blk_alloc ?_ _));exact BK443.out) hb);have n11_:=Aside0.mk (below_step bs hb);clear HO423 HO426 HO430 HO433 HO439 HO442 BK418 BK435 BK443 HB;have HO423:=n0_;have HO426:=n1_;have HO430:=n2_;have HO433:=n3_;have HO439:=n4_;have HO442:=n5_;have HO447:=n6_;have HO450:=n7_;have BK418:=n8_;have BK435:=n9_;have BK443:=n10_;have HB:=n11_;clear n0_ n1_ n2_ n3_ n4_ n5_ n6_ n7_ n8_ n9_ n10_ n11_;(try clear hb);(try clear ho0);(try clear ho1))|((with_reducible refine gate_dst (N:=7) rfl ?_);refine box_event ?hg (N:=7) ?hd (cs:=#[.int .i64 0,.slice none 0 0,.slice none 0 0]) (t:=29) ?hr ?_;(case hd=>rfl);(case hg=>rfl);(case hr=>first|(go_simp;done)|(go_simp;rfl));intro gb452 hg w34 hbox hb;have n0_:=Aside0.mk (Kd.R_below (rz HO423.out) hb);have n1_:=Aside0.mk (Kd.R_below (rz HO426.out) hb);have n2_:=Aside0.mk (Kd.R_below (rz HO430.out) hb);have n3_:=Aside0.mk (Kd.R_below (rz HO433.out) hb);have n4_:=Aside0.mk (Kd.R_below (rz HO439.out) hb);have n5_:=Aside0.mk (Kd.R_below (rz HO442.out) hb);have n6_:=Aside0.mk (Kd.R_below (rz HO447.out) hb);have n7_:=Aside0.mk (Kd.R_below (rz HO450.out) hb);have n8_:=Aside0.mk (blk_below (g:=gb418) (o:=.cells #[.int .i64 a0_0,.slice A0_1 l0_1.length c0_1,.slice A0_2 l0_2.length c0_2] 25 (0,0)) (kz BK418.out) hb);have n9_:=Aside0.mk (blk_below (g:=gb435) (o:=.cells #[.int .i64 t427,.slice Ao23 t428.length co23,.slice Ao24 t431.length co24] 29 (0,0)) (kz BK435.out) hb);have n10_:=Aside0.mk (blk_below (g:=gb443) (o:=.cells #[.int .i64 t436,.slice Ao31 t437.length co31,.slice Ao32 t440.length co32] 29 (0,0)) (kz BK443.out) hb);have n11_:=Aside0.mk (below_step bs hb);have n12_:=Aside0.mk (hbox);have n13_:=Aside0.mk ((by rw [hg];exact (below_size bs) : w.heap.size ≤ gb452));have n14_:=Aside0.mk ((by rw [hg];exact (below_size bs) : w.heap.size ≤ gb452));have n15_:=Aside0.mk ((by rw [hg];exact Nat.ne_of_lt (blk_lt (g:=gb418) (o:=.cells #[.int .i64 a0_0,.slice A0_1 l0_1.length c0_1,.slice A0_2 l0_2.length c0_2] 25 (0,0)) (kz BK418.out)) : gb418 ≠ gb452));have n16_:=Aside0.mk ((by rw [hg];exact Nat.ne_of_gt (blk_lt (g:=gb418) (o:=.cells #[.int .i64 a0_0,.slice A0_1 l0_1.length c0_1,.slice A0_2 l0_2.length c0_2] 25 (0,0)) (kz BK418.out)) : gb452 ≠ gb418));have n17_:=Aside0.mk ((by rw [hg];exact Nat.ne_of_lt (blk_lt (g:=gb435) (o:=.cells #[.int .i64 t427,.slice Ao23 t428.length co23,.slice Ao24 t431.length co24] 29 (0,0)) (kz BK435.out)) : gb435 ≠ gb452));have n18_:=Aside0.mk ((by rw [hg];exact Nat.ne_of_gt (blk_lt (g:=gb435) (o:=.cells #[.int .i64 t427,.slice Ao23 t428.length co23,.slice Ao24 t431.length co24] 29 (0,0)) (kz BK435.out)) : gb452 ≠ gb435));have n19_:=Aside0.mk ((by rw [hg];exact Nat.ne_of_lt (blk_lt (g:=gb443) (o:=.cells #[.int .i64 t436,.slice Ao31 t437.length co31,.slice Ao32 t440.length co32] 29 (0,0)) (kz BK443.out)) : gb443 ≠ gb452));have n20_:=Aside0.mk ((by rw [hg];exact Nat.ne_of_gt (blk_lt (g:=gb443) (o:=.cells #[.int .i64 t436,.slice Ao31 t437.length co31,.slice Ao32 t440.length co32] 29 (0,0)) (kz BK443.out)) : gb452 ≠ gb443));clear HO423 HO426 HO430 HO433 HO439 HO442 HO447 HO450 BK418 BK435 BK443 HB;have HO423:=n0_;have HO426:=n1_;have HO430:=n2_;have HO433:=n3_;have HO439:=n4_;have HO442:=n5_;have HO447:=n6_;have HO450:=n7_;have BK418:=n8_;have BK435:=n9_;have BK443:=n10_;have HB:=n11_;have BK452:=n12_;have GW452:=n13_;have GE452:=n14_;have NB418_452:=n15_;have NB452_418:=n16_;have NB435_452:=n17_;have NB452_435:=n18_;have NB443_452:=n19_;have NB452_443:=n20_;clear n0_ n1_ n2_ n3_ n4_ n5_ n6_ n7_ n8_ n9_ n10_ n11_ n12_ n13_ n14_ n15_ n16_ n17_ n18_ n19_ n20_;clear hb hbox hg;have hnb35:=NB452_418.out;have hnc35:=NB418_452.out;have hnb36:=NB452_435.out;have hnc36:=NB435_452.out;have hnb37:=NB452_443.out;have hnc37:=NB443_452.out;have hcz38_0 : w34.cell? ⟨gb452,0,none⟩ = some (.int .i64 0):=(blk_cell BK452.out 0).trans rfl;have hcz38_1 : w34.cell? ⟨gb452,1,none⟩ = some (.slice none 0 0):=(blk_cell BK452.out 1).trans rfl;have hcz38_2 : w34.cell? ⟨gb452,2,none⟩ = some (.slice none 0 0):=(blk_cell BK452.out 2).trans rfl;have hfz38_0:=blk_frozen BK452.out 0;have hfz38_1:=blk_frozen BK452.out 1;have hfz38_2:=blk_frozen BK452.out 2;obtain ⟨Ao39,co39,eo39⟩:=Kd.R_slice HO447.out;subst eo39;obtain ⟨Ao40,co40,eo40⟩:=Kd.R_slice HO450.out;subst eo40))
  (try simp only [Act.put,List.setIfInBounds_toArray,List.set_cons_zero,List.set_cons_succ])
  go_cut [40] (fun v40 wc=>∃ (kq : Nat) (x40_10 : Bool),v40 = .bool x40_10 ∧ Aside0 (laws_FnExactSharePlan.j0 kq t434 t451 x40_10 a0_0 l0_1 l0_2 t427 t428 t431 t436 t437 t440 t444 t445 t448 = some r) ∧ Aside0 (kq ≤ k) ∧ Aside0 (Kd.R k73 73 wc w.heap.size (fun k_=>some k_ ≠ ((.slice Ao31 t437.length co31) : Value).ownBlock ∧ some k_ ≠ ((.slice Ao39 t445.length co39) : Value).ownBlock) (.slice Ao23 t428.length co23) t428) ∧ Aside0 (Kd.R (Kd.int .i64) 3 wc w.heap.size (fun k_=>some k_ ≠ ((.slice Ao32 t440.length co32) : Value).ownBlock ∧ some k_ ≠ ((.slice Ao40 t448.length co40) : Value).ownBlock) (.slice Ao24 t431.length co24) t431) ∧ Aside0 (Kd.R k73 73 wc w.heap.size (fun k_=>some k_ ≠ ((.slice Ao23 t428.length co23) : Value).ownBlock ∧ some k_ ≠ ((.slice Ao39 t445.length co39) : Value).ownBlock) (.slice Ao31 t437.length co31) t437) ∧ Aside0 (Kd.R (Kd.int .i64) 3 wc w.heap.size (fun k_=>some k_ ≠ ((.slice Ao24 t431.length co24) : Value).ownBlock ∧ some k_ ≠ ((.slice Ao40 t448.length co40) : Value).ownBlock) (.slice Ao32 t440.length co32) t440) ∧ Aside0 (Kd.R k73 73 wc w.heap.size (fun k_=>some k_ ≠ ((.slice Ao23 t428.length co23) : Value).ownBlock ∧ some k_ ≠ ((.slice Ao31 t437.length co31) : Value).ownBlock) (.slice Ao39 t445.length co39) t445) ∧ Aside0 (Kd.R (Kd.int .i64) 3 wc w.heap.size (fun k_=>some k_ ≠ ((.slice Ao24 t431.length co24) : Value).ownBlock ∧ some k_ ≠ ((.slice Ao32 t440.length co32) : Value).ownBlock) (.slice Ao40 t448.length co40) t448) ∧ Aside0 (wc.heap[gb418]? = some (.cells #[.int .i64 a0_0,(.slice A0_1 l0_1.length c0_1),(.slice A0_2 l0_2.length c0_2)] 25 (0,0))) ∧ Aside0 (wc.heap[gb435]? = some (.cells #[.int .i64 t427,(.slice Ao23 t428.length co23),(.slice Ao24 t431.length co24)] 29 (0,0))) ∧ Aside0 (wc.heap[gb443]? = some (.cells #[.int .i64 t436,(.slice Ao31 t437.length co31),(.slice Ao32 t440.length co32)] 29 (0,0))) ∧ Aside0 (wc.heap[gb452]? = some (.cells #[.int .i64 t444,(.slice Ao39 t445.length co39),(.slice Ao40 t448.length co40)] 29 (0,0))) ∧ Aside0 (Below w.heap.size w wc))
  case first=>
   have H:=HC11.out
   clear HC11
   replace H:=Option.bind_eq_some_iff.mp H
   obtain ⟨t453,A410,H⟩:=H
   replace H : (if t453 = true then (laws_FnExactSharePlan.j0 k t434 t451 (t451 != t434) a0_0 l0_1 l0_2 t427 t428 t431 t436 t437 t440 t444 t445 t448) else (laws_FnExactSharePlan.j0 k t434 t451 true a0_0 l0_1 l0_2 t427 t428 t431 t436 t437 t440 t444 t445 t448)) = some r:=H
   have A41:=Aside0.mk A410
   clear A410
   by_cases c42 : t453 = true
   ·subst c42
    have H1 : (laws_FnExactSharePlan.j0 k t434 t451 (t451 != t434) a0_0 l0_1 l0_2 t427 t428 t431 t436 t437 t440 t444 t445 t448) = some r:=by rw [if_pos rfl] at H;exact H
    clear H
    have H:=H1
    clear H1
    have H':=Aside0.mk H
    clear H
    have hnb43:=NB452_418.out
    have hnc43:=NB418_452.out
    have hnb44:=NB452_435.out
    have hnc44:=NB435_452.out
    have hnb45:=NB452_443.out
    have hnc45:=NB443_452.out
    have hcz46_0 : w34.cell? ⟨gb452,0,none⟩ = some (.int .i64 0):=(blk_cell BK452.out 0).trans rfl
    have hcz46_1 : w34.cell? ⟨gb452,1,none⟩ = some (.slice none 0 0):=(blk_cell BK452.out 1).trans rfl
    have hcz46_2 : w34.cell? ⟨gb452,2,none⟩ = some (.slice none 0 0):=(blk_cell BK452.out 2).trans rfl
    have hfz46_0:=blk_frozen BK452.out 0
    have hfz46_1:=blk_frozen BK452.out 1
    have hfz46_2:=blk_frozen BK452.out 2
    have hnb47:=NB435_418.out
    have hnc47:=NB418_435.out
    have hnb48:=NB435_443.out
    have hnc48:=NB443_435.out
    have hcz49_0 : w34.cell? ⟨gb435,0,none⟩ = some (.int .i64 t427):=(blk_cell BK435.out 0).trans rfl
    have hcz49_1 : w34.cell? ⟨gb435,1,none⟩ = some (.slice Ao23 t428.length co23):=(blk_cell BK435.out 1).trans rfl
    have hcz49_2 : w34.cell? ⟨gb435,2,none⟩ = some (.slice Ao24 t431.length co24):=(blk_cell BK435.out 2).trans rfl
    have hfz49_0:=blk_frozen BK435.out 0
    have hfz49_1:=blk_frozen BK435.out 1
    have hfz49_2:=blk_frozen BK435.out 2
    go_wp2_with (first|((with_reducible refine gate_callee (f:=14) rfl ?_);refine goesL_ (some 34) rfl rfl Try.func14 (by kernel_rfl) rfl #[.agg #[.int .i64 t444,.slice Ao39 t445.length co39,.slice Ao40 t448.length co40],.agg #[.int .i64 t427,.slice Ao23 t428.length co23,.slice Ao24 t431.length co24]] rfl mz ?_;(with_reducible refine (laws_eqPlan.calls k t444 _ _ t445 _ _ t448 t427 _ _ t428 _ _ t431 true _ ?side1 ?side2 ?side3 ?side4 ?side5 ?side6 ?side7 ?side8 A41.out).mono ?_);(case side1=>refine (Kd.R_reads' (e:=73) (base:=w.heap.size) (ok:=fun k_=>(((True ∧ some k_ ≠ (.slice Ao17 t421.length co17 : Value).ownBlock) ∧ some k_ ≠ (.slice Ao23 t428.length co23 : Value).ownBlock) ∧ some k_ ≠ (.slice Ao31 t437.length co31 : Value).ownBlock)) (n:=t445.length) (c:=co39) ?_).2.2;exact (by (with_reducible repeat (first|apply Kd.R_alloc|apply Kd.R_drewN|apply Kd.R_drew));exact (Kd.R_mono (Kd.R_far (p:=⟨gb452,2,none⟩) (Kd.R_far (p:=⟨gb452,1,none⟩) (Kd.R_far (p:=⟨gb452,0,none⟩) (Kd.R_types HO447.out BK452.out (by decide)) (fun _ hk=>hk.2) (.int .i64 t444)) (fun _ hk=>hk.2) (.slice Ao39 t445.length co39)) (fun _ hk=>hk.2) (.slice Ao40 t448.length co40)) (fun _ h_=>h_.1))));(case side2=>exact (Kd.R_reads' HO447.out).2.1);(case side3=>refine (Kd.R_reads' (e:=3) (base:=w.heap.size) (ok:=fun k_=>(((True ∧ some k_ ≠ (.slice Ao18 t424.length co18 : Value).ownBlock) ∧ some k_ ≠ (.slice Ao24 t431.length co24 : Value).ownBlock) ∧ some k_ ≠ (.slice Ao32 t440.length co32 : Value).ownBlock)) (n:=t448.length) (c:=co40) ?_).2.2;exact (by (with_reducible repeat (first|apply Kd.R_alloc|apply Kd.R_drewN|apply Kd.R_drew));exact (Kd.R_mono (Kd.R_far (p:=⟨gb452,2,none⟩) (Kd.R_far (p:=⟨gb452,1,none⟩) (Kd.R_far (p:=⟨gb452,0,none⟩) (Kd.R_types HO450.out BK452.out (by decide)) (fun _ hk=>hk.2) (.int .i64 t444)) (fun _ hk=>hk.2) (.slice Ao39 t445.length co39)) (fun _ hk=>hk.2) (.slice Ao40 t448.length co40)) (fun _ h_=>h_.1))));(case side4=>exact (Kd.R_reads' HO450.out).2.1);(case side5=>refine (Kd.R_reads' (e:=73) (base:=w.heap.size) (ok:=fun k_=>(((True ∧ some k_ ≠ (.slice Ao17 t421.length co17 : Value).ownBlock) ∧ some k_ ≠ (.slice Ao31 t437.length co31 : Value).ownBlock) ∧ some k_ ≠ (.slice Ao39 t445.length co39 : Value).ownBlock)) (n:=t428.length) (c:=co23) ?_).2.2;exact (by (with_reducible repeat (first|apply Kd.R_alloc|apply Kd.R_drewN|apply Kd.R_drew));exact (Kd.R_mono (Kd.R_far (p:=⟨gb452,2,none⟩) (Kd.R_far (p:=⟨gb452,1,none⟩) (Kd.R_far (p:=⟨gb452,0,none⟩) (Kd.R_types HO430.out BK452.out (by decide)) (fun _ hk=>hk.2) (.int .i64 t444)) (fun _ hk=>hk.2) (.slice Ao39 t445.length co39)) (fun _ hk=>hk.2) (.slice Ao40 t448.length co40)) (fun _ h_=>h_.1))));(case side6=>exact (Kd.R_reads' HO430.out).2.1);(case side7=>refine (Kd.R_reads' (e:=3) (base:=w.heap.size) (ok:=fun k_=>(((True ∧ some k_ ≠ (.slice Ao18 t424.length co18 : Value).ownBlock) ∧ some k_ ≠ (.slice Ao32 t440.length co32 : Value).ownBlock) ∧ some k_ ≠ (.slice Ao40 t448.length co40 : Value).ownBlock)) (n:=t431.length) (c:=co24) ?_).2.2;exact (by (with_reducible repeat (first|apply Kd.R_alloc|apply Kd.R_drewN|apply Kd.R_drew));exact (Kd.R_mono (Kd.R_far (p:=⟨gb452,2,none⟩) (Kd.R_far (p:=⟨gb452,1,none⟩) (Kd.R_far (p:=⟨gb452,0,none⟩) (Kd.R_types HO433.out BK452.out (by decide)) (fun _ hk=>hk.2) (.int .i64 t444)) (fun _ hk=>hk.2) (.slice Ao39 t445.length co39)) (fun _ hk=>hk.2) (.slice Ao40 t448.length co40)) (fun _ h_=>h_.1))));(case side8=>exact (Kd.R_reads' HO433.out).2.1);rintro e w50 ⟨rfl,hb⟩;refine ⟨_,rfl,?_⟩;have n0_:=Aside0.mk (Kd.R_below (by (with_reducible repeat (first|apply Kd.R_alloc|apply Kd.R_drewN|apply Kd.R_drew));exact (Kd.R_mono (Kd.R_far (p:=⟨gb452,2,none⟩) (Kd.R_far (p:=⟨gb452,1,none⟩) (Kd.R_far (p:=⟨gb452,0,none⟩) (Kd.R_types HO423.out BK452.out (by decide)) (fun _ hk=>hk.2) (.int .i64 t444)) (fun _ hk=>hk.2) (.slice Ao39 t445.length co39)) (fun _ hk=>hk.2) (.slice Ao40 t448.length co40)) (fun _ h_=>h_.1))) hb);have n1_:=Aside0.mk (Kd.R_below (by (with_reducible repeat (first|apply Kd.R_alloc|apply Kd.R_drewN|apply Kd.R_drew));exact (Kd.R_mono (Kd.R_far (p:=⟨gb452,2,none⟩) (Kd.R_far (p:=⟨gb452,1,none⟩) (Kd.R_far (p:=⟨gb452,0,none⟩) (Kd.R_types HO426.out BK452.out (by decide)) (fun _ hk=>hk.2) (.int .i64 t444)) (fun _ hk=>hk.2) (.slice Ao39 t445.length co39)) (fun _ hk=>hk.2) (.slice Ao40 t448.length co40)) (fun _ h_=>h_.1))) hb);have n2_:=Aside0.mk (Kd.R_below (by (with_reducible repeat (first|apply Kd.R_alloc|apply Kd.R_drewN|apply Kd.R_drew));exact (Kd.R_mono (Kd.R_far (p:=⟨gb452,2,none⟩) (Kd.R_far (p:=⟨gb452,1,none⟩) (Kd.R_far (p:=⟨gb452,0,none⟩) (Kd.R_types HO430.out BK452.out (by decide)) (fun _ hk=>hk.2) (.int .i64 t444)) (fun _ hk=>hk.2) (.slice Ao39 t445.length co39)) (fun _ hk=>hk.2) (.slice Ao40 t448.length co40)) (fun _ h_=>h_.1))) hb);have n3_:=Aside0.mk (Kd.R_below (by (with_reducible repeat (first|apply Kd.R_alloc|apply Kd.R_drewN|apply Kd.R_drew));exact (Kd.R_mono (Kd.R_far (p:=⟨gb452,2,none⟩) (Kd.R_far (p:=⟨gb452,1,none⟩) (Kd.R_far (p:=⟨gb452,0,none⟩) (Kd.R_types HO433.out BK452.out (by decide)) (fun _ hk=>hk.2) (.int .i64 t444)) (fun _ hk=>hk.2) (.slice Ao39 t445.length co39)) (fun _ hk=>hk.2) (.slice Ao40 t448.length co40)) (fun _ h_=>h_.1))) hb);have n4_:=Aside0.mk (Kd.R_below (by (with_reducible repeat (first|apply Kd.R_alloc|apply Kd.R_drewN|apply Kd.R_drew));exact (Kd.R_mono (Kd.R_far (p:=⟨gb452,2,none⟩) (Kd.R_far (p:=⟨gb452,1,none⟩) (Kd.R_far (p:=⟨gb452,0,none⟩) (Kd.R_types HO439.out BK452.out (by decide)) (fun _ hk=>hk.2) (.int .i64 t444)) (fun _ hk=>hk.2) (.slice Ao39 t445.length co39)) (fun _ hk=>hk.2) (.slice Ao40 t448.length co40)) (fun _ h_=>h_.1))) hb);have n5_:=Aside0.mk (Kd.R_below (by (with_reducible repeat (first|apply Kd.R_alloc|apply Kd.R_drewN|apply Kd.R_drew));exact (Kd.R_mono (Kd.R_far (p:=⟨gb452,2,none⟩) (Kd.R_far (p:=⟨gb452,1,none⟩) (Kd.R_far (p:=⟨gb452,0,none⟩) (Kd.R_types HO442.out BK452.out (by decide)) (fun _ hk=>hk.2) (.int .i64 t444)) (fun _ hk=>hk.2) (.slice Ao39 t445.length co39)) (fun _ hk=>hk.2) (.slice Ao40 t448.length co40)) (fun _ h_=>h_.1))) hb);have n6_:=Aside0.mk (Kd.R_below (by (with_reducible repeat (first|apply Kd.R_alloc|apply Kd.R_drewN|apply Kd.R_drew));exact (Kd.R_mono (Kd.R_far (p:=⟨gb452,2,none⟩) (Kd.R_far (p:=⟨gb452,1,none⟩) (Kd.R_far (p:=⟨gb452,0,none⟩) (Kd.R_types HO447.out BK452.out (by decide)) (fun _ hk=>hk.2) (.int .i64 t444)) (fun _ hk=>hk.2) (.slice Ao39 t445.length co39)) (fun _ hk=>hk.2) (.slice Ao40 t448.length co40)) (fun _ h_=>h_.1))) hb);have n7_:=Aside0.mk (Kd.R_below (by (with_reducible repeat (first|apply Kd.R_alloc|apply Kd.R_drewN|apply Kd.R_drew));exact (Kd.R_mono (Kd.R_far (p:=⟨gb452,2,none⟩) (Kd.R_far (p:=⟨gb452,1,none⟩) (Kd.R_far (p:=⟨gb452,0,none⟩) (Kd.R_types HO450.out BK452.out (by decide)) (fun _ hk=>hk.2) (.int .i64 t444)) (fun _ hk=>hk.2) (.slice Ao39 t445.length co39)) (fun _ hk=>hk.2) (.slice Ao40 t448.length co40)) (fun _ h_=>h_.1))) hb);have n8_:=Aside0.mk (blk_below (g:=gb418) (o:=.cells #[.int .i64 a0_0,.slice A0_1 l0_1.length c0_1,.slice A0_2 l0_2.length c0_2] 25 (0,0)) (by (with_reducible repeat (first|refine blk_drewN ?_ _|refine blk_drew ?_|refine blk_alloc ?_ _));refine blk_far ?_ NB418_452.out _;(with_reducible repeat (first|refine blk_drewN ?_ _|refine blk_drew ?_|refine blk_alloc ?_ _));refine blk_far ?_ NB418_452.out _;(with_reducible repeat (first|refine blk_drewN ?_ _|refine blk_drew ?_|refine blk_alloc ?_ _));refine blk_far ?_ NB418_452.out _;(with_reducible repeat (first|refine blk_drewN ?_ _|refine blk_drew ?_|refine blk_alloc ?_ _));exact BK418.out) hb);have n9_:=Aside0.mk (blk_below (g:=gb435) (o:=.cells #[.int .i64 t427,.slice Ao23 t428.length co23,.slice Ao24 t431.length co24] 29 (0,0)) (by (with_reducible repeat (first|refine blk_drewN ?_ _|refine blk_drew ?_|refine blk_alloc ?_ _));refine blk_far ?_ NB435_452.out _;(with_reducible repeat (first|refine blk_drewN ?_ _|refine blk_drew ?_|refine blk_alloc ?_ _));refine blk_far ?_ NB435_452.out _;(with_reducible repeat (first|refine blk_drewN ?_ _|refine blk_drew ?_|refine blk_alloc ?_ _));refine blk_far ?_ NB435_452.out _;(with_reducible repeat (first|refine blk_drewN ?_ _|refine blk_drew ?_|refine blk_alloc ?_ _));exact BK435.out) hb);have n10_:=Aside0.mk (blk_below (g:=gb443) (o:=.cells #[.int .i64 t436,.slice Ao31 t437.length co31,.slice Ao32 t440.length co32] 29 (0,0)) (by (with_reducible repeat (first|refine blk_drewN ?_ _|refine blk_drew ?_|refine blk_alloc ?_ _));refine blk_far ?_ NB443_452.out _;(with_reducible repeat (first|refine blk_drewN ?_ _|refine blk_drew ?_|refine blk_alloc ?_ _));refine blk_far ?_ NB443_452.out _;(with_reducible repeat (first|refine blk_drewN ?_ _|refine blk_drew ?_|refine blk_alloc ?_ _));refine blk_far ?_ NB443_452.out _;(with_reducible repeat (first|refine blk_drewN ?_ _|refine blk_drew ?_|refine blk_alloc ?_ _));exact BK443.out) hb);have n11_:=Aside0.mk (blk_below (g:=gb452) (o:=.cells #[.int .i64 t444,.slice Ao39 t445.length co39,.slice Ao40 t448.length co40] 29 (0,0)) (by (with_reducible repeat (first|refine blk_drewN ?_ _|refine blk_drew ?_|refine blk_alloc ?_ _));refine blk_put (cs:=#[.int .i64 t444,.slice Ao39 t445.length co39,.slice none 0 0]) ?_ 2 _ rfl;(with_reducible repeat (first|refine blk_drewN ?_ _|refine blk_drew ?_|refine blk_alloc ?_ _));refine blk_put (cs:=#[.int .i64 t444,.slice none 0 0,.slice none 0 0]) ?_ 1 _ rfl;(with_reducible repeat (first|refine blk_drewN ?_ _|refine blk_drew ?_|refine blk_alloc ?_ _));refine blk_put (cs:=#[.int .i64 0,.slice none 0 0,.slice none 0 0]) ?_ 0 _ rfl;(with_reducible repeat (first|refine blk_drewN ?_ _|refine blk_drew ?_|refine blk_alloc ?_ _));exact BK452.out) hb);have n12_:=Aside0.mk (below_step bs hb);clear HO423 HO426 HO430 HO433 HO439 HO442 HO447 HO450 BK418 BK435 BK443 BK452 HB;have HO423:=n0_;have HO426:=n1_;have HO430:=n2_;have HO433:=n3_;have HO439:=n4_;have HO442:=n5_;have HO447:=n6_;have HO450:=n7_;have BK418:=n8_;have BK435:=n9_;have BK443:=n10_;have BK452:=n11_;have HB:=n12_;clear n0_ n1_ n2_ n3_ n4_ n5_ n6_ n7_ n8_ n9_ n10_ n11_ n12_;(try clear hb)))
    go_meet
    case rel=>exact ⟨_,((t451 != t434)),fz,H',⟨by first|omega|exact Nat.le_refl _⟩,⟨by (with_reducible repeat (first|apply Kd.R_alloc|apply Kd.R_drewN|apply Kd.R_drew));exact Kd.R_mono HO430.out (fun _ hk=>⟨hk.1.2,hk.2⟩)⟩,⟨by (with_reducible repeat (first|apply Kd.R_alloc|apply Kd.R_drewN|apply Kd.R_drew));exact Kd.R_mono HO433.out (fun _ hk=>⟨hk.1.2,hk.2⟩)⟩,⟨by (with_reducible repeat (first|apply Kd.R_alloc|apply Kd.R_drewN|apply Kd.R_drew));exact Kd.R_mono HO439.out (fun _ hk=>⟨hk.1.2,hk.2⟩)⟩,⟨by (with_reducible repeat (first|apply Kd.R_alloc|apply Kd.R_drewN|apply Kd.R_drew));exact Kd.R_mono HO442.out (fun _ hk=>⟨hk.1.2,hk.2⟩)⟩,⟨by (with_reducible repeat (first|apply Kd.R_alloc|apply Kd.R_drewN|apply Kd.R_drew));exact Kd.R_mono HO447.out (fun _ hk=>⟨hk.1.2,hk.2⟩)⟩,⟨by (with_reducible repeat (first|apply Kd.R_alloc|apply Kd.R_drewN|apply Kd.R_drew));exact Kd.R_mono HO450.out (fun _ hk=>⟨hk.1.2,hk.2⟩)⟩,⟨by (with_reducible repeat (first|refine blk_drewN ?_ _|refine blk_drew ?_|refine blk_alloc ?_ _));exact BK418.out⟩,⟨by (with_reducible repeat (first|refine blk_drewN ?_ _|refine blk_drew ?_|refine blk_alloc ?_ _));exact BK435.out⟩,⟨by (with_reducible repeat (first|refine blk_drewN ?_ _|refine blk_drew ?_|refine blk_alloc ?_ _));exact BK443.out⟩,⟨by (with_reducible repeat (first|refine blk_drewN ?_ _|refine blk_drew ?_|refine blk_alloc ?_ _));exact BK452.out⟩,⟨by repeat (first|(with_reducible first|exact HB.out|apply below_alloc|apply pw_below_drewN|apply below_drew1|refine below_set ?_ GE418.out|refine below_set ?_ GE435.out|refine below_set ?_ GE443.out|refine below_set ?_ GE452.out)|exact HB.out)⟩⟩
   ·replace c42:=Bool.eq_false_iff.mpr c42
    subst c42
    have H1 : (laws_FnExactSharePlan.j0 k t434 t451 true a0_0 l0_1 l0_2 t427 t428 t431 t436 t437 t440 t444 t445 t448) = some r:=by rw [if_neg (show ¬ (false = true) by decide)] at H;exact H
    clear H
    have H:=H1
    clear H1
    have H':=Aside0.mk H
    clear H
    have hnb51:=NB452_418.out
    have hnc51:=NB418_452.out
    have hnb52:=NB452_435.out
    have hnc52:=NB435_452.out
    have hnb53:=NB452_443.out
    have hnc53:=NB443_452.out
    have hcz54_0 : w34.cell? ⟨gb452,0,none⟩ = some (.int .i64 0):=(blk_cell BK452.out 0).trans rfl
    have hcz54_1 : w34.cell? ⟨gb452,1,none⟩ = some (.slice none 0 0):=(blk_cell BK452.out 1).trans rfl
    have hcz54_2 : w34.cell? ⟨gb452,2,none⟩ = some (.slice none 0 0):=(blk_cell BK452.out 2).trans rfl
    have hfz54_0:=blk_frozen BK452.out 0
    have hfz54_1:=blk_frozen BK452.out 1
    have hfz54_2:=blk_frozen BK452.out 2
    have hnb55:=NB435_418.out
    have hnc55:=NB418_435.out
    have hnb56:=NB435_443.out
    have hnc56:=NB443_435.out
    have hcz57_0 : w34.cell? ⟨gb435,0,none⟩ = some (.int .i64 t427):=(blk_cell BK435.out 0).trans rfl
    have hcz57_1 : w34.cell? ⟨gb435,1,none⟩ = some (.slice Ao23 t428.length co23):=(blk_cell BK435.out 1).trans rfl
    have hcz57_2 : w34.cell? ⟨gb435,2,none⟩ = some (.slice Ao24 t431.length co24):=(blk_cell BK435.out 2).trans rfl
    have hfz57_0:=blk_frozen BK435.out 0
    have hfz57_1:=blk_frozen BK435.out 1
    have hfz57_2:=blk_frozen BK435.out 2
    go_wp2_with (first|((with_reducible refine gate_callee (f:=14) rfl ?_);refine goesL_ (some 34) rfl rfl Try.func14 (by kernel_rfl) rfl #[.agg #[.int .i64 t444,.slice Ao39 t445.length co39,.slice Ao40 t448.length co40],.agg #[.int .i64 t427,.slice Ao23 t428.length co23,.slice Ao24 t431.length co24]] rfl mz ?_;(with_reducible refine (laws_eqPlan.calls k t444 _ _ t445 _ _ t448 t427 _ _ t428 _ _ t431 false _ ?side1 ?side2 ?side3 ?side4 ?side5 ?side6 ?side7 ?side8 A41.out).mono ?_);(case side1=>refine (Kd.R_reads' (e:=73) (base:=w.heap.size) (ok:=fun k_=>(((True ∧ some k_ ≠ (.slice Ao17 t421.length co17 : Value).ownBlock) ∧ some k_ ≠ (.slice Ao23 t428.length co23 : Value).ownBlock) ∧ some k_ ≠ (.slice Ao31 t437.length co31 : Value).ownBlock)) (n:=t445.length) (c:=co39) ?_).2.2;exact (by (with_reducible repeat (first|apply Kd.R_alloc|apply Kd.R_drewN|apply Kd.R_drew));exact (Kd.R_mono (Kd.R_far (p:=⟨gb452,2,none⟩) (Kd.R_far (p:=⟨gb452,1,none⟩) (Kd.R_far (p:=⟨gb452,0,none⟩) (Kd.R_types HO447.out BK452.out (by decide)) (fun _ hk=>hk.2) (.int .i64 t444)) (fun _ hk=>hk.2) (.slice Ao39 t445.length co39)) (fun _ hk=>hk.2) (.slice Ao40 t448.length co40)) (fun _ h_=>h_.1))));(case side2=>exact (Kd.R_reads' HO447.out).2.1);(case side3=>refine (Kd.R_reads' (e:=3) (base:=w.heap.size) (ok:=fun k_=>(((True ∧ some k_ ≠ (.slice Ao18 t424.length co18 : Value).ownBlock) ∧ some k_ ≠ (.slice Ao24 t431.length co24 : Value).ownBlock) ∧ some k_ ≠ (.slice Ao32 t440.length co32 : Value).ownBlock)) (n:=t448.length) (c:=co40) ?_).2.2;exact (by (with_reducible repeat (first|apply Kd.R_alloc|apply Kd.R_drewN|apply Kd.R_drew));exact (Kd.R_mono (Kd.R_far (p:=⟨gb452,2,none⟩) (Kd.R_far (p:=⟨gb452,1,none⟩) (Kd.R_far (p:=⟨gb452,0,none⟩) (Kd.R_types HO450.out BK452.out (by decide)) (fun _ hk=>hk.2) (.int .i64 t444)) (fun _ hk=>hk.2) (.slice Ao39 t445.length co39)) (fun _ hk=>hk.2) (.slice Ao40 t448.length co40)) (fun _ h_=>h_.1))));(case side4=>exact (Kd.R_reads' HO450.out).2.1);(case side5=>refine (Kd.R_reads' (e:=73) (base:=w.heap.size) (ok:=fun k_=>(((True ∧ some k_ ≠ (.slice Ao17 t421.length co17 : Value).ownBlock) ∧ some k_ ≠ (.slice Ao31 t437.length co31 : Value).ownBlock) ∧ some k_ ≠ (.slice Ao39 t445.length co39 : Value).ownBlock)) (n:=t428.length) (c:=co23) ?_).2.2;exact (by (with_reducible repeat (first|apply Kd.R_alloc|apply Kd.R_drewN|apply Kd.R_drew));exact (Kd.R_mono (Kd.R_far (p:=⟨gb452,2,none⟩) (Kd.R_far (p:=⟨gb452,1,none⟩) (Kd.R_far (p:=⟨gb452,0,none⟩) (Kd.R_types HO430.out BK452.out (by decide)) (fun _ hk=>hk.2) (.int .i64 t444)) (fun _ hk=>hk.2) (.slice Ao39 t445.length co39)) (fun _ hk=>hk.2) (.slice Ao40 t448.length co40)) (fun _ h_=>h_.1))));(case side6=>exact (Kd.R_reads' HO430.out).2.1);(case side7=>refine (Kd.R_reads' (e:=3) (base:=w.heap.size) (ok:=fun k_=>(((True ∧ some k_ ≠ (.slice Ao18 t424.length co18 : Value).ownBlock) ∧ some k_ ≠ (.slice Ao32 t440.length co32 : Value).ownBlock) ∧ some k_ ≠ (.slice Ao40 t448.length co40 : Value).ownBlock)) (n:=t431.length) (c:=co24) ?_).2.2;exact (by (with_reducible repeat (first|apply Kd.R_alloc|apply Kd.R_drewN|apply Kd.R_drew));exact (Kd.R_mono (Kd.R_far (p:=⟨gb452,2,none⟩) (Kd.R_far (p:=⟨gb452,1,none⟩) (Kd.R_far (p:=⟨gb452,0,none⟩) (Kd.R_types HO433.out BK452.out (by decide)) (fun _ hk=>hk.2) (.int .i64 t444)) (fun _ hk=>hk.2) (.slice Ao39 t445.length co39)) (fun _ hk=>hk.2) (.slice Ao40 t448.length co40)) (fun _ h_=>h_.1))));(case side8=>exact (Kd.R_reads' HO433.out).2.1);rintro e w58 ⟨rfl,hb⟩;refine ⟨_,rfl,?_⟩;have n0_:=Aside0.mk (Kd.R_below (by (with_reducible repeat (first|apply Kd.R_alloc|apply Kd.R_drewN|apply Kd.R_drew));exact (Kd.R_mono (Kd.R_far (p:=⟨gb452,2,none⟩) (Kd.R_far (p:=⟨gb452,1,none⟩) (Kd.R_far (p:=⟨gb452,0,none⟩) (Kd.R_types HO423.out BK452.out (by decide)) (fun _ hk=>hk.2) (.int .i64 t444)) (fun _ hk=>hk.2) (.slice Ao39 t445.length co39)) (fun _ hk=>hk.2) (.slice Ao40 t448.length co40)) (fun _ h_=>h_.1))) hb);have n1_:=Aside0.mk (Kd.R_below (by (with_reducible repeat (first|apply Kd.R_alloc|apply Kd.R_drewN|apply Kd.R_drew));exact (Kd.R_mono (Kd.R_far (p:=⟨gb452,2,none⟩) (Kd.R_far (p:=⟨gb452,1,none⟩) (Kd.R_far (p:=⟨gb452,0,none⟩) (Kd.R_types HO426.out BK452.out (by decide)) (fun _ hk=>hk.2) (.int .i64 t444)) (fun _ hk=>hk.2) (.slice Ao39 t445.length co39)) (fun _ hk=>hk.2) (.slice Ao40 t448.length co40)) (fun _ h_=>h_.1))) hb);have n2_:=Aside0.mk (Kd.R_below (by (with_reducible repeat (first|apply Kd.R_alloc|apply Kd.R_drewN|apply Kd.R_drew));exact (Kd.R_mono (Kd.R_far (p:=⟨gb452,2,none⟩) (Kd.R_far (p:=⟨gb452,1,none⟩) (Kd.R_far (p:=⟨gb452,0,none⟩) (Kd.R_types HO430.out BK452.out (by decide)) (fun _ hk=>hk.2) (.int .i64 t444)) (fun _ hk=>hk.2) (.slice Ao39 t445.length co39)) (fun _ hk=>hk.2) (.slice Ao40 t448.length co40)) (fun _ h_=>h_.1))) hb);have n3_:=Aside0.mk (Kd.R_below (by (with_reducible repeat (first|apply Kd.R_alloc|apply Kd.R_drewN|apply Kd.R_drew));exact (Kd.R_mono (Kd.R_far (p:=⟨gb452,2,none⟩) (Kd.R_far (p:=⟨gb452,1,none⟩) (Kd.R_far (p:=⟨gb452,0,none⟩) (Kd.R_types HO433.out BK452.out (by decide)) (fun _ hk=>hk.2) (.int .i64 t444)) (fun _ hk=>hk.2) (.slice Ao39 t445.length co39)) (fun _ hk=>hk.2) (.slice Ao40 t448.length co40)) (fun _ h_=>h_.1))) hb);have n4_:=Aside0.mk (Kd.R_below (by (with_reducible repeat (first|apply Kd.R_alloc|apply Kd.R_drewN|apply Kd.R_drew));exact (Kd.R_mono (Kd.R_far (p:=⟨gb452,2,none⟩) (Kd.R_far (p:=⟨gb452,1,none⟩) (Kd.R_far (p:=⟨gb452,0,none⟩) (Kd.R_types HO439.out BK452.out (by decide)) (fun _ hk=>hk.2) (.int .i64 t444)) (fun _ hk=>hk.2) (.slice Ao39 t445.length co39)) (fun _ hk=>hk.2) (.slice Ao40 t448.length co40)) (fun _ h_=>h_.1))) hb);have n5_:=Aside0.mk (Kd.R_below (by (with_reducible repeat (first|apply Kd.R_alloc|apply Kd.R_drewN|apply Kd.R_drew));exact (Kd.R_mono (Kd.R_far (p:=⟨gb452,2,none⟩) (Kd.R_far (p:=⟨gb452,1,none⟩) (Kd.R_far (p:=⟨gb452,0,none⟩) (Kd.R_types HO442.out BK452.out (by decide)) (fun _ hk=>hk.2) (.int .i64 t444)) (fun _ hk=>hk.2) (.slice Ao39 t445.length co39)) (fun _ hk=>hk.2) (.slice Ao40 t448.length co40)) (fun _ h_=>h_.1))) hb);have n6_:=Aside0.mk (Kd.R_below (by (with_reducible repeat (first|apply Kd.R_alloc|apply Kd.R_drewN|apply Kd.R_drew));exact (Kd.R_mono (Kd.R_far (p:=⟨gb452,2,none⟩) (Kd.R_far (p:=⟨gb452,1,none⟩) (Kd.R_far (p:=⟨gb452,0,none⟩) (Kd.R_types HO447.out BK452.out (by decide)) (fun _ hk=>hk.2) (.int .i64 t444)) (fun _ hk=>hk.2) (.slice Ao39 t445.length co39)) (fun _ hk=>hk.2) (.slice Ao40 t448.length co40)) (fun _ h_=>h_.1))) hb);have n7_:=Aside0.mk (Kd.R_below (by (with_reducible repeat (first|apply Kd.R_alloc|apply Kd.R_drewN|apply Kd.R_drew));exact (Kd.R_mono (Kd.R_far (p:=⟨gb452,2,none⟩) (Kd.R_far (p:=⟨gb452,1,none⟩) (Kd.R_far (p:=⟨gb452,0,none⟩) (Kd.R_types HO450.out BK452.out (by decide)) (fun _ hk=>hk.2) (.int .i64 t444)) (fun _ hk=>hk.2) (.slice Ao39 t445.length co39)) (fun _ hk=>hk.2) (.slice Ao40 t448.length co40)) (fun _ h_=>h_.1))) hb);have n8_:=Aside0.mk (blk_below (g:=gb418) (o:=.cells #[.int .i64 a0_0,.slice A0_1 l0_1.length c0_1,.slice A0_2 l0_2.length c0_2] 25 (0,0)) (by (with_reducible repeat (first|refine blk_drewN ?_ _|refine blk_drew ?_|refine blk_alloc ?_ _));refine blk_far ?_ NB418_452.out _;(with_reducible repeat (first|refine blk_drewN ?_ _|refine blk_drew ?_|refine blk_alloc ?_ _));refine blk_far ?_ NB418_452.out _;(with_reducible repeat (first|refine blk_drewN ?_ _|refine blk_drew ?_|refine blk_alloc ?_ _));refine blk_far ?_ NB418_452.out _;(with_reducible repeat (first|refine blk_drewN ?_ _|refine blk_drew ?_|refine blk_alloc ?_ _));exact BK418.out) hb);have n9_:=Aside0.mk (blk_below (g:=gb435) (o:=.cells #[.int .i64 t427,.slice Ao23 t428.length co23,.slice Ao24 t431.length co24] 29 (0,0)) (by (with_reducible repeat (first|refine blk_drewN ?_ _|refine blk_drew ?_|refine blk_alloc ?_ _));refine blk_far ?_ NB435_452.out _;(with_reducible repeat (first|refine blk_drewN ?_ _|refine blk_drew ?_|refine blk_alloc ?_ _));refine blk_far ?_ NB435_452.out _;(with_reducible repeat (first|refine blk_drewN ?_ _|refine blk_drew ?_|refine blk_alloc ?_ _));refine blk_far ?_ NB435_452.out _;(with_reducible repeat (first|refine blk_drewN ?_ _|refine blk_drew ?_|refine blk_alloc ?_ _));exact BK435.out) hb);have n10_:=Aside0.mk (blk_below (g:=gb443) (o:=.cells #[.int .i64 t436,.slice Ao31 t437.length co31,.slice Ao32 t440.length co32] 29 (0,0)) (by (with_reducible repeat (first|refine blk_drewN ?_ _|refine blk_drew ?_|refine blk_alloc ?_ _));refine blk_far ?_ NB443_452.out _;(with_reducible repeat (first|refine blk_drewN ?_ _|refine blk_drew ?_|refine blk_alloc ?_ _));refine blk_far ?_ NB443_452.out _;(with_reducible repeat (first|refine blk_drewN ?_ _|refine blk_drew ?_|refine blk_alloc ?_ _));refine blk_far ?_ NB443_452.out _;(with_reducible repeat (first|refine blk_drewN ?_ _|refine blk_drew ?_|refine blk_alloc ?_ _));exact BK443.out) hb);have n11_:=Aside0.mk (blk_below (g:=gb452) (o:=.cells #[.int .i64 t444,.slice Ao39 t445.length co39,.slice Ao40 t448.length co40] 29 (0,0)) (by (with_reducible repeat (first|refine blk_drewN ?_ _|refine blk_drew ?_|refine blk_alloc ?_ _));refine blk_put (cs:=#[.int .i64 t444,.slice Ao39 t445.length co39,.slice none 0 0]) ?_ 2 _ rfl;(with_reducible repeat (first|refine blk_drewN ?_ _|refine blk_drew ?_|refine blk_alloc ?_ _));refine blk_put (cs:=#[.int .i64 t444,.slice none 0 0,.slice none 0 0]) ?_ 1 _ rfl;(with_reducible repeat (first|refine blk_drewN ?_ _|refine blk_drew ?_|refine blk_alloc ?_ _));refine blk_put (cs:=#[.int .i64 0,.slice none 0 0,.slice none 0 0]) ?_ 0 _ rfl;(with_reducible repeat (first|refine blk_drewN ?_ _|refine blk_drew ?_|refine blk_alloc ?_ _));exact BK452.out) hb);have n12_:=Aside0.mk (below_step bs hb);clear HO423 HO426 HO430 HO433 HO439 HO442 HO447 HO450 BK418 BK435 BK443 BK452 HB;have HO423:=n0_;have HO426:=n1_;have HO430:=n2_;have HO433:=n3_;have HO439:=n4_;have HO442:=n5_;have HO447:=n6_;have HO450:=n7_;have BK418:=n8_;have BK435:=n9_;have BK443:=n10_;have BK452:=n11_;have HB:=n12_;clear n0_ n1_ n2_ n3_ n4_ n5_ n6_ n7_ n8_ n9_ n10_ n11_ n12_;(try clear hb)))
    go_meet
    case rel=>exact ⟨_,(true),fz,H',⟨by first|omega|exact Nat.le_refl _⟩,⟨by (with_reducible repeat (first|apply Kd.R_alloc|apply Kd.R_drewN|apply Kd.R_drew));exact Kd.R_mono HO430.out (fun _ hk=>⟨hk.1.2,hk.2⟩)⟩,⟨by (with_reducible repeat (first|apply Kd.R_alloc|apply Kd.R_drewN|apply Kd.R_drew));exact Kd.R_mono HO433.out (fun _ hk=>⟨hk.1.2,hk.2⟩)⟩,⟨by (with_reducible repeat (first|apply Kd.R_alloc|apply Kd.R_drewN|apply Kd.R_drew));exact Kd.R_mono HO439.out (fun _ hk=>⟨hk.1.2,hk.2⟩)⟩,⟨by (with_reducible repeat (first|apply Kd.R_alloc|apply Kd.R_drewN|apply Kd.R_drew));exact Kd.R_mono HO442.out (fun _ hk=>⟨hk.1.2,hk.2⟩)⟩,⟨by (with_reducible repeat (first|apply Kd.R_alloc|apply Kd.R_drewN|apply Kd.R_drew));exact Kd.R_mono HO447.out (fun _ hk=>⟨hk.1.2,hk.2⟩)⟩,⟨by (with_reducible repeat (first|apply Kd.R_alloc|apply Kd.R_drewN|apply Kd.R_drew));exact Kd.R_mono HO450.out (fun _ hk=>⟨hk.1.2,hk.2⟩)⟩,⟨by (with_reducible repeat (first|refine blk_drewN ?_ _|refine blk_drew ?_|refine blk_alloc ?_ _));exact BK418.out⟩,⟨by (with_reducible repeat (first|refine blk_drewN ?_ _|refine blk_drew ?_|refine blk_alloc ?_ _));exact BK435.out⟩,⟨by (with_reducible repeat (first|refine blk_drewN ?_ _|refine blk_drew ?_|refine blk_alloc ?_ _));exact BK443.out⟩,⟨by (with_reducible repeat (first|refine blk_drewN ?_ _|refine blk_drew ?_|refine blk_alloc ?_ _));exact BK452.out⟩,⟨by repeat (first|(with_reducible first|exact HB.out|apply below_alloc|apply pw_below_drewN|apply below_drew1|refine below_set ?_ GE418.out|refine below_set ?_ GE435.out|refine below_set ?_ GE443.out|refine below_set ?_ GE452.out)|exact HB.out)⟩⟩
  case rest=>
   clear HC11
   try clear c1
   try clear c2
   try clear p2
   try clear c3
   try clear c3b0
   try clear c4
   try clear c5
   try clear c6
   try clear c10
   try clear c12
   try clear c14
   try clear c21
   try clear c24
   try clear c25
   try clear c28
   try clear c29
   try clear c35
   try clear c36
   try clear c37
   try clear c42
   try clear c43
   try clear c44
   try clear c45
   try clear c47
   try clear c48
   try clear c51
   try clear c52
   try clear c53
   try clear c55
   try clear c56
   try clear hcz13_0
   try clear hcz13_1
   try clear hcz13_2
   try clear hcz15_0
   try clear hcz15_1
   try clear hcz15_2
   try clear hcz22_0
   try clear hcz22_1
   try clear hcz22_2
   try clear hcz25_0
   try clear hcz25_1
   try clear hcz25_2
   try clear hcz30_0
   try clear hcz30_1
   try clear hcz30_2
   try clear hcz38_0
   try clear hcz38_1
   try clear hcz38_2
   try clear hcz46_0
   try clear hcz46_1
   try clear hcz46_2
   try clear hcz49_0
   try clear hcz49_1
   try clear hcz49_2
   try clear hcz54_0
   try clear hcz54_1
   try clear hcz54_2
   try clear hcz57_0
   try clear hcz57_1
   try clear hcz57_2
   try clear hcz5_0
   try clear hcz5_1
   try clear hcz5_2
   try clear hfz13_0
   try clear hfz13_1
   try clear hfz13_2
   try clear hfz15_0
   try clear hfz15_1
   try clear hfz15_2
   try clear hfz22_0
   try clear hfz22_1
   try clear hfz22_2
   try clear hfz25_0
   try clear hfz25_1
   try clear hfz25_2
   try clear hfz30_0
   try clear hfz30_1
   try clear hfz30_2
   try clear hfz38_0
   try clear hfz38_1
   try clear hfz38_2
   try clear hfz46_0
   try clear hfz46_1
   try clear hfz46_2
   try clear hfz49_0
   try clear hfz49_1
   try clear hfz49_2
   try clear hfz54_0
   try clear hfz54_1
   try clear hfz54_2
   try clear hfz57_0
   try clear hfz57_1
   try clear hfz57_2
   try clear hfz5_0
   try clear hfz5_1
   try clear hfz5_2
   obtain ⟨kq,x40_10,rfl,HA,HJ10,HO_436001,HO_436002,HO_444001,HO_444002,HO_453001,HO_453002,BK418,BK435,BK443,BK452,HB⟩:=hcut
   cases kq with
   | zero=>exact absurd HA.out (by simp [laws_FnExactSharePlan.j0])
   | succ kj10=>
    have H:=HA.out
    clear HA
    simp only [laws_FnExactSharePlan.j0] at H
    by_cases c59 : x40_10 = true
    ·subst c59
     have H1 : (some false) = some r:=by rw [if_pos rfl] at H;exact H
     clear H
     have H:=H1
     clear H1
     obtain rfl:=Option.some.inj H
     go_wp2
     go_ret
     exact ⟨by first|rfl|(simp [errW_none,errW_some] <;> rfl)|(simp [*,errW_none,errW_some] <;> rfl),by repeat (first|(with_reducible first|exact HB.out|apply below_alloc|apply pw_below_drewN|apply below_drew1|refine below_set ?_ GE418.out|refine below_set ?_ GE435.out|refine below_set ?_ GE443.out|refine below_set ?_ GE452.out)|exact HB.out)⟩
    ·replace c59:=Bool.eq_false_iff.mpr c59
     subst c59
     have H1 : ((laws_toPlan.f kj10 a0_0 l0_1 l0_2).bind fun bt454=>((laws_eqPlan.f kj10 t436 t437 t440 bt454.1 bt454.2.1 bt454.2.2).bind fun t461=>(if t461 = true then ((laws_markPlan.f kj10 t436 t437 t440 1).bind fun bt462=>(if bt462.1 < 0 then (laws_FnExactSharePlan.j1 kj10 t434 true a0_0 l0_1 l0_2 t427 t428 t431 t444 t445 t448) else ((laws_eqPlan.f kj10 t444 t445 t448 t427 t428 t431).bind fun t465=>(if t465 = true then (laws_FnExactSharePlan.j1 kj10 t434 (t451 != t434) a0_0 l0_1 l0_2 t427 t428 t431 t444 t445 t448) else (laws_FnExactSharePlan.j1 kj10 t434 true a0_0 l0_1 l0_2 t427 t428 t431 t444 t445 t448))))) else (some false)))) = some r:=by rw [if_neg (show ¬ (false = true) by decide)] at H;exact H
     clear H
     have H:=H1
     clear H1
     replace H:=Option.bind_eq_some_iff.mp H
     obtain ⟨⟨t454,t455,t458⟩,A600,H⟩:=H
     replace H : ((laws_eqPlan.f kj10 t436 t437 t440 t454 t455 t458).bind fun t461=>(if t461 = true then ((laws_markPlan.f kj10 t436 t437 t440 1).bind fun bt462=>(if bt462.1 < 0 then (laws_FnExactSharePlan.j1 kj10 t434 true a0_0 l0_1 l0_2 t427 t428 t431 t444 t445 t448) else ((laws_eqPlan.f kj10 t444 t445 t448 t427 t428 t431).bind fun t465=>(if t465 = true then (laws_FnExactSharePlan.j1 kj10 t434 (t451 != t434) a0_0 l0_1 l0_2 t427 t428 t431 t444 t445 t448) else (laws_FnExactSharePlan.j1 kj10 t434 true a0_0 l0_1 l0_2 t427 t428 t431 t444 t445 t448))))) else (some false))) = some r:=H
     have A60:=Aside0.mk A600
     clear A600
     replace H:=Option.bind_eq_some_iff.mp H
     obtain ⟨t461,A610,H⟩:=H
     replace H : (if t461 = true then ((laws_markPlan.f kj10 t436 t437 t440 1).bind fun bt462=>(if bt462.1 < 0 then (laws_FnExactSharePlan.j1 kj10 t434 true a0_0 l0_1 l0_2 t427 t428 t431 t444 t445 t448) else ((laws_eqPlan.f kj10 t444 t445 t448 t427 t428 t431).bind fun t465=>(if t465 = true then (laws_FnExactSharePlan.j1 kj10 t434 (t451 != t434) a0_0 l0_1 l0_2 t427 t428 t431 t444 t445 t448) else (laws_FnExactSharePlan.j1 kj10 t434 true a0_0 l0_1 l0_2 t427 t428 t431 t444 t445 t448))))) else (some false)) = some r:=H
     have A61:=Aside0.mk A610
     clear A610
     by_cases c62 : t461 = true
     ·subst c62
      have H1 : ((laws_markPlan.f kj10 t436 t437 t440 1).bind fun bt462=>(if bt462.1 < 0 then (laws_FnExactSharePlan.j1 kj10 t434 true a0_0 l0_1 l0_2 t427 t428 t431 t444 t445 t448) else ((laws_eqPlan.f kj10 t444 t445 t448 t427 t428 t431).bind fun t465=>(if t465 = true then (laws_FnExactSharePlan.j1 kj10 t434 (t451 != t434) a0_0 l0_1 l0_2 t427 t428 t431 t444 t445 t448) else (laws_FnExactSharePlan.j1 kj10 t434 true a0_0 l0_1 l0_2 t427 t428 t431 t444 t445 t448))))) = some r:=by rw [if_pos rfl] at H;exact H
      clear H
      have H:=H1
      clear H1
      replace H:=Option.bind_eq_some_iff.mp H
      obtain ⟨⟨t462,t463,t464⟩,A630,H⟩:=H
      replace H : (if t462 < 0 then (laws_FnExactSharePlan.j1 kj10 t434 true a0_0 l0_1 l0_2 t427 t428 t431 t444 t445 t448) else ((laws_eqPlan.f kj10 t444 t445 t448 t427 t428 t431).bind fun t465=>(if t465 = true then (laws_FnExactSharePlan.j1 kj10 t434 (t451 != t434) a0_0 l0_1 l0_2 t427 t428 t431 t444 t445 t448) else (laws_FnExactSharePlan.j1 kj10 t434 true a0_0 l0_1 l0_2 t427 t428 t431 t444 t445 t448)))) = some r:=H
      have A63:=Aside0.mk A630
      clear A630
      have HC64:=Aside0.mk H
      clear H
      try go_wp2
      have n0_:=Aside0.mk (Kd.R_drew HO_436001.out)
      have n1_:=Aside0.mk (Kd.R_drew HO_436002.out)
      have n2_:=Aside0.mk (Kd.R_drew HO_444001.out)
      have n3_:=Aside0.mk (Kd.R_drew HO_444002.out)
      have n4_:=Aside0.mk (Kd.R_drew HO_453001.out)
      have n5_:=Aside0.mk (Kd.R_drew HO_453002.out)
      have n6_:=Aside0.mk (blk_drew BK418.out)
      have n7_:=Aside0.mk (blk_drew BK435.out)
      have n8_:=Aside0.mk (blk_drew BK443.out)
      have n9_:=Aside0.mk (blk_drew BK452.out)
      have n10_:=Aside0.mk (below_drew1 HB.out)
      clear HO_436001
      clear HO_436002
      clear HO_444001
      clear HO_444002
      clear HO_453001
      clear HO_453002
      clear BK418
      clear BK435
      clear BK443
      clear BK452
      clear HB
      have HO_436001:=n0_
      have HO_436002:=n1_
      have HO_444001:=n2_
      have HO_444002:=n3_
      have HO_453001:=n4_
      have HO_453002:=n5_
      have BK418:=n6_
      have BK435:=n7_
      have BK443:=n8_
      have BK452:=n9_
      have HB:=n10_
      clear n0_ n1_ n2_ n3_ n4_ n5_ n6_ n7_ n8_ n9_ n10_
      refine start_ (n:=5) (S:=fun w'=>w'.cell? ⟨gb443,0,none⟩ = some (.int .i64 t436) ∧ w'.cell? ⟨gb443,1,none⟩ = some (.slice Ao31 t437.length co31) ∧ w'.cell? ⟨gb443,2,none⟩ = some (.slice Ao32 t440.length co32) ∧ w'.cell? ⟨gb418,0,none⟩ = some (.int .i64 a0_0) ∧ w'.cell? ⟨gb418,1,none⟩ = some (.slice A0_1 l0_1.length c0_1) ∧ w'.cell? ⟨gb418,2,none⟩ = some (.slice A0_2 l0_2.length c0_2)) (ds:=[]) #[false,false,false,false,false] (by kernel_rfl) rfl rfl ⟨(blk_cell BK443.out 0).trans rfl,(blk_cell BK443.out 1).trans rfl,(blk_cell BK443.out 2).trans rfl,(blk_cell BK418.out 0).trans rfl,(blk_cell BK418.out 1).trans rfl,(blk_cell BK418.out 2).trans rfl⟩ (fun hHeld=>?_)
      generalize wc.drew = w65 at HO_436001 HO_436002 HO_444001 HO_444002 HO_453001 HO_453002 BK418 BK435 BK443 BK452 HB hHeld ⊢
      refine take_ (i:=0) (N:=some 41) (v:=?_) (a':=?_) #[true,false,false,false,false] rfl rfl (by kernel_rfl) (fun _ _ _ h=>h) (Or.inl ⟨by rfl,?_⟩) hHeld ?_ ?_
      rotate_left
      ·rintro w' ⟨s0,s1,s2,s3,s4,s5⟩
       go_simp
       with_reducible rfl
      rotate_left
      ·simp only [Act.put,List.setIfInBounds_toArray,List.set_cons_zero,List.set_cons_succ,i64_w,i32_w]
       rfl
      refine take_ (i:=1) (N:=some 42) (v:=?_) (a':=?_) #[true,true,false,false,false] rfl rfl (by kernel_rfl) (fun _ _ _ h=>h) (Or.inl ⟨by rfl,?_⟩) hHeld ?_ ?_
      rotate_left
      ·rintro w' ⟨s0,s1,s2,s3,s4,s5⟩
       go_simp
       with_reducible rfl
      rotate_left
      ·simp only [Act.put,List.setIfInBounds_toArray,List.set_cons_zero,List.set_cons_succ,i64_w,i32_w]
       rfl
      refine one_ (i:=2) (N:=some 43) #[true,true,true,false,false] rfl rfl (by kernel_rfl) (by decide) (fun K hK=>?_)
      refine goes_ Try.func12 (by kernel_rfl) rfl #[.agg #[.int .i64 a0_0,.slice A0_1 l0_1.length c0_1,.slice A0_2 l0_2.length c0_2]] (by rfl) rfl rfl mz ?_
      with_reducible refine (laws_toPlan.calls kj10 a0_0 _ _ l0_1 _ _ l0_2 t454 t455 t458 _ ?side1 ?side2 ?side3 ?side4 A60.out).mono ?_
      (case side1=>exact cz (Kd.C_below HR0_1.out HB.out))
      (case side2=>exact HC0_1.out)
      (case side3=>exact cz (Kd.C_below HR0_2.out HB.out))
      (case side4=>exact HC0_2.out)
      rintro e w66 ⟨v456,v459,rfl,ho0,ho1,hb⟩
      refine ⟨_,rfl,?_⟩
      have n0_:=Aside0.mk (Kd.R_elder' (rz HO_436001.out) (Kd.R_base ho0) hb)
      have n1_:=Aside0.mk (Kd.R_elder' (rz HO_436002.out) (Kd.R_base ho1) hb)
      have n2_:=Aside0.mk (Kd.R_elder' (rz HO_444001.out) (Kd.R_base ho0) hb)
      have n3_:=Aside0.mk (Kd.R_elder' (rz HO_444002.out) (Kd.R_base ho1) hb)
      have n4_:=Aside0.mk (Kd.R_elder' (rz HO_453001.out) (Kd.R_base ho0) hb)
      have n5_:=Aside0.mk (Kd.R_elder' (rz HO_453002.out) (Kd.R_base ho1) hb)
      have n6_:=Aside0.mk (Kd.R_lower (Kd.R_new' (Kd.R_new' (Kd.R_new' ho0 (Kd.R_lt (rz HO_436001.out))) (Kd.R_lt (rz HO_444001.out))) (Kd.R_lt (rz HO_453001.out))) (below_size bs))
      have n7_:=Aside0.mk (Kd.R_lower (Kd.R_new' (Kd.R_new' (Kd.R_new' ho1 (Kd.R_lt (rz HO_436002.out))) (Kd.R_lt (rz HO_444002.out))) (Kd.R_lt (rz HO_453002.out))) (below_size bs))
      have n8_:=Aside0.mk (blk_below (g:=gb418) (o:=.cells #[.int .i64 a0_0,.slice A0_1 l0_1.length c0_1,.slice A0_2 l0_2.length c0_2] 25 (0,0)) (kz BK418.out) hb)
      have n9_:=Aside0.mk (blk_below (g:=gb435) (o:=.cells #[.int .i64 t427,.slice Ao23 t428.length co23,.slice Ao24 t431.length co24] 29 (0,0)) (kz BK435.out) hb)
      have n10_:=Aside0.mk (blk_below (g:=gb443) (o:=.cells #[.int .i64 t436,.slice Ao31 t437.length co31,.slice Ao32 t440.length co32] 29 (0,0)) (kz BK443.out) hb)
      have n11_:=Aside0.mk (blk_below (g:=gb452) (o:=.cells #[.int .i64 t444,.slice Ao39 t445.length co39,.slice Ao40 t448.length co40] 29 (0,0)) (kz BK452.out) hb)
      have n12_:=Aside0.mk (below_step bs hb)
      clear HO_436001
      clear HO_436002
      clear HO_444001
      clear HO_444002
      clear HO_453001
      clear HO_453002
      clear BK418
      clear BK435
      clear BK443
      clear BK452
      clear HB
      have HO_436001:=n0_
      have HO_436002:=n1_
      have HO_444001:=n2_
      have HO_444002:=n3_
      have HO_453001:=n4_
      have HO_453002:=n5_
      have HO457:=n6_
      have HO460:=n7_
      have BK418:=n8_
      have BK435:=n9_
      have BK443:=n10_
      have BK452:=n11_
      have HB:=n12_
      clear n0_ n1_ n2_ n3_ n4_ n5_ n6_ n7_ n8_ n9_ n10_ n11_ n12_
      (try clear hb)
      (try clear ho0)
      (try clear ho1)
      obtain ⟨Ao67,co67,eo67⟩:=Kd.R_slice HO457.out
      (first|subst eo67|(injection eo67 with f1_ f2_ f3_;have f4_:=f1_.symm;have f5_:=f3_.symm;clear f1_ f2_ f3_;subst f4_;subst f5_))
      obtain ⟨Ao68,co68,eo68⟩:=Kd.R_slice HO460.out
      (first|subst eo68|(injection eo68 with f1_ f2_ f3_;have f4_:=f1_.symm;have f5_:=f3_.symm;clear f1_ f2_ f3_;subst f4_;subst f5_))
      refine hK.out _ _ ⟨(blk_cell BK443.out 0).trans rfl,(blk_cell BK443.out 1).trans rfl,(blk_cell BK443.out 2).trans rfl,(blk_cell BK418.out 0).trans rfl,(blk_cell BK418.out 1).trans rfl,(blk_cell BK418.out 2).trans rfl⟩ (fun hHeld=>?_)
      clear hK K
      refine norm_ (a':=?_) ?_ ?_
      rotate_left
      ·show Act.put _ (some 43) _ = _
       simp only [Act.put,List.setIfInBounds_toArray,List.set_cons_zero,List.set_cons_succ,i64_w,i32_w]
       rfl
      refine one_ (i:=3) (N:=some 44) #[true,true,true,true,false] rfl rfl (by kernel_rfl) (by decide) (fun K hK=>?_)
      refine goes_ Try.func14 (by kernel_rfl) rfl #[.agg #[.int .i64 t436,.slice Ao31 t437.length co31,.slice Ao32 t440.length co32],.agg #[.int .i64 t454,.slice Ao67 t455.length co67,.slice Ao68 t458.length co68]] (by rfl) rfl rfl mz ?_
      with_reducible refine (laws_eqPlan.calls kj10 t436 _ _ t437 _ _ t440 t454 _ _ t455 _ _ t458 true _ ?side1 ?side2 ?side3 ?side4 ?side5 ?side6 ?side7 ?side8 A61.out).mono ?_
      (case side1=>exact cz (Kd.R_reads' HO_444001.out).2.2)
      (case side2=>exact (Kd.R_reads' HO_444001.out).2.1)
      (case side3=>exact cz (Kd.R_reads' HO_444002.out).2.2)
      (case side4=>exact (Kd.R_reads' HO_444002.out).2.1)
      (case side5=>exact cz (Kd.R_reads' HO457.out).2.2)
      (case side6=>exact (Kd.R_reads' HO457.out).2.1)
      (case side7=>exact cz (Kd.R_reads' HO460.out).2.2)
      (case side8=>exact (Kd.R_reads' HO460.out).2.1)
      rintro e w69 ⟨rfl,hb⟩
      refine ⟨_,rfl,?_⟩
      have n0_:=Aside0.mk (Kd.R_below (rz HO_436001.out) hb)
      have n1_:=Aside0.mk (Kd.R_below (rz HO_436002.out) hb)
      have n2_:=Aside0.mk (Kd.R_below (rz HO_444001.out) hb)
      have n3_:=Aside0.mk (Kd.R_below (rz HO_444002.out) hb)
      have n4_:=Aside0.mk (Kd.R_below (rz HO_453001.out) hb)
      have n5_:=Aside0.mk (Kd.R_below (rz HO_453002.out) hb)
      have n6_:=Aside0.mk (Kd.R_below (rz HO457.out) hb)
      have n7_:=Aside0.mk (Kd.R_below (rz HO460.out) hb)
      have n8_:=Aside0.mk (blk_below (g:=gb418) (o:=.cells #[.int .i64 a0_0,.slice A0_1 l0_1.length c0_1,.slice A0_2 l0_2.length c0_2] 25 (0,0)) (kz BK418.out) hb)
      have n9_:=Aside0.mk (blk_below (g:=gb435) (o:=.cells #[.int .i64 t427,.slice Ao23 t428.length co23,.slice Ao24 t431.length co24] 29 (0,0)) (kz BK435.out) hb)
      have n10_:=Aside0.mk (blk_below (g:=gb443) (o:=.cells #[.int .i64 t436,.slice Ao31 t437.length co31,.slice Ao32 t440.length co32] 29 (0,0)) (kz BK443.out) hb)
      have n11_:=Aside0.mk (blk_below (g:=gb452) (o:=.cells #[.int .i64 t444,.slice Ao39 t445.length co39,.slice Ao40 t448.length co40] 29 (0,0)) (kz BK452.out) hb)
      have n12_:=Aside0.mk (below_step bs hb)
      clear HO_436001
      clear HO_436002
      clear HO_444001
      clear HO_444002
      clear HO_453001
      clear HO_453002
      clear HO457
      clear HO460
      clear BK418
      clear BK435
      clear BK443
      clear BK452
      clear HB
      have HO_436001:=n0_
      have HO_436002:=n1_
      have HO_444001:=n2_
      have HO_444002:=n3_
      have HO_453001:=n4_
      have HO_453002:=n5_
      have HO457:=n6_
      have HO460:=n7_
      have BK418:=n8_
      have BK435:=n9_
      have BK443:=n10_
      have BK452:=n11_
      have HB:=n12_
      clear n0_ n1_ n2_ n3_ n4_ n5_ n6_ n7_ n8_ n9_ n10_ n11_ n12_
      (try clear hb)
      refine hK.out _ _ ⟨(blk_cell BK443.out 0).trans rfl,(blk_cell BK443.out 1).trans rfl,(blk_cell BK443.out 2).trans rfl,(blk_cell BK418.out 0).trans rfl,(blk_cell BK418.out 1).trans rfl,(blk_cell BK418.out 2).trans rfl⟩ (fun hHeld=>?_)
      clear hK K
      refine norm_ (a':=?_) ?_ ?_
      rotate_left
      ·show Act.put _ (some 44) _ = _
       simp only [Act.put,List.setIfInBounds_toArray,List.set_cons_zero,List.set_cons_succ,i64_w,i32_w]
       rfl
      refine pure_ (i:=4) (N:=some 45) (v:=?_) (a':=?_) #[true,true,true,true,true] rfl rfl (by kernel_rfl) (fun _ _ _ h=>h) (Or.inl ⟨by rfl,?_⟩) ?_ ?_
      rotate_left
      ·intro w'
       go_simp
       with_reducible rfl
      rotate_left
      ·simp only [Act.put,List.setIfInBounds_toArray,List.set_cons_zero,List.set_cons_succ,i64_w,i32_w]
       rfl
      refine done_ (by kernel_rfl) ?_
      have hnb70:=NB443_418.out
      have hnc70:=NB418_443.out
      have hnb71:=NB443_435.out
      have hnc71:=NB435_443.out
      have hnb72:=NB443_452.out
      have hnc72:=NB452_443.out
      have hcz73_0 : w69.cell? ⟨gb443,0,none⟩ = some (.int .i64 t436):=(blk_cell BK443.out 0).trans rfl
      have hcz73_1 : w69.cell? ⟨gb443,1,none⟩ = some (.slice Ao31 t437.length co31):=(blk_cell BK443.out 1).trans rfl
      have hcz73_2 : w69.cell? ⟨gb443,2,none⟩ = some (.slice Ao32 t440.length co32):=(blk_cell BK443.out 2).trans rfl
      have hfz73_0:=blk_frozen BK443.out 0
      have hfz73_1:=blk_frozen BK443.out 1
      have hfz73_2:=blk_frozen BK443.out 2
      go_upto_region 14 with (first|((with_reducible refine gate_callee (f:=15) rfl ?_);refine goesL_ (some 48) rfl rfl Try.func15 (by kernel_rfl) rfl #[.agg #[.int .i64 t436,.slice Ao31 t437.length co31,.slice Ao32 t440.length co32],.int .i64 1] rfl mz ?_;(with_reducible refine (laws_markPlan.calls kj10 t436 (fun k_=>some k_ = (.slice Ao31 t437.length co31 : Value).ownBlock) (.slice Ao31 t437.length co31) t437 (fun k_=>some k_ = (.slice Ao32 t440.length co32 : Value).ownBlock) (.slice Ao32 t440.length co32) t440 1 t462 t463 t464 w _ ?side1 ?side2 ?side3 A63.out).mono ?_);(case side1=>repeat (first|(with_reducible first|exact HB.out|apply below_alloc|apply pw_below_drewN|apply below_drew1|refine below_set ?_ GE418.out|refine below_set ?_ GE435.out|refine below_set ?_ GE443.out|refine below_set ?_ GE452.out)|exact HB.out));(case side2=>exact Kd.R_tight rfl HO_444001.out);(case side3=>exact Kd.R_tight rfl HO_444002.out);rintro e w74 ⟨rfl,hy0,hy1,hb,hkp⟩;refine ⟨_,rfl,?_⟩;have n0_:=Aside0.mk (Kd.R_mono (ok':=fun k_=>some k_ ≠ (.slice Ao31 t437.length co31 : Value).ownBlock ∧ some k_ ≠ (.slice Ao39 t445.length co39 : Value).ownBlock ∧ some k_ ≠ (.slice Ao67 t455.length co67 : Value).ownBlock) (Kd.R_keptB ((Kd.R_apart' HO_436001.out (Kd.R_typed HO_444002.out) (by decide))) hkp (fun k_ hk_ hs_=>Or.elim hs_ (fun e_=>(hk_.1.1.1) e_) (fun e_=>(hk_.2) e_))) (fun k_ hk_=>⟨hk_.1.1.1.1,hk_.1.1.1.2,hk_.1.1.2⟩));have n1_:=Aside0.mk (Kd.R_mono (ok':=fun k_=>some k_ ≠ (.slice Ao32 t440.length co32 : Value).ownBlock ∧ some k_ ≠ (.slice Ao40 t448.length co40 : Value).ownBlock ∧ some k_ ≠ (.slice Ao68 t458.length co68 : Value).ownBlock) (Kd.R_keptB ((Kd.R_apart' HO_436002.out (Kd.R_typed HO_444001.out) (by decide))) hkp (fun k_ hk_ hs_=>Or.elim hs_ (fun e_=>(hk_.2) e_) (fun e_=>(hk_.1.1.1) e_))) (fun k_ hk_=>⟨hk_.1.1.1.1,hk_.1.1.1.2,hk_.1.1.2⟩));have n2_:=Aside0.mk (Kd.R_reok rfl hy0 (fun k_ e_=>HO_444001.out.1 k_ e_));have n3_:=Aside0.mk (Kd.R_reok rfl hy1 (fun k_ e_=>HO_444002.out.1 k_ e_));have n4_:=Aside0.mk (Kd.R_mono (ok':=fun k_=>some k_ ≠ (.slice Ao23 t428.length co23 : Value).ownBlock ∧ some k_ ≠ (.slice Ao31 t437.length co31 : Value).ownBlock ∧ some k_ ≠ (.slice Ao67 t455.length co67 : Value).ownBlock) (Kd.R_keptB ((Kd.R_apart' HO_453001.out (Kd.R_typed HO_444002.out) (by decide))) hkp (fun k_ hk_ hs_=>Or.elim hs_ (fun e_=>(hk_.1.1.2) e_) (fun e_=>(hk_.2) e_))) (fun k_ hk_=>⟨hk_.1.1.1.1,hk_.1.1.1.2,hk_.1.1.2⟩));have n5_:=Aside0.mk (Kd.R_mono (ok':=fun k_=>some k_ ≠ (.slice Ao24 t431.length co24 : Value).ownBlock ∧ some k_ ≠ (.slice Ao32 t440.length co32 : Value).ownBlock ∧ some k_ ≠ (.slice Ao68 t458.length co68 : Value).ownBlock) (Kd.R_keptB ((Kd.R_apart' HO_453002.out (Kd.R_typed HO_444001.out) (by decide))) hkp (fun k_ hk_ hs_=>Or.elim hs_ (fun e_=>(hk_.2) e_) (fun e_=>(hk_.1.1.2) e_))) (fun k_ hk_=>⟨hk_.1.1.1.1,hk_.1.1.1.2,hk_.1.1.2⟩));have n6_:=Aside0.mk (blk_kept (kz BK418.out) hkp (fun hs_=>Or.elim hs_ (fun e_=>(fun e_=>(Kd.R_ne HO_444001.out BK418.out (by decide)) e_) e_) (fun e_=>(fun e_=>(Kd.R_ne HO_444002.out BK418.out (by decide)) e_) e_)));have n7_:=Aside0.mk (blk_kept (kz BK435.out) hkp (fun hs_=>Or.elim hs_ (fun e_=>(fun e_=>(Kd.R_ne HO_444001.out BK435.out (by decide)) e_) e_) (fun e_=>(fun e_=>(Kd.R_ne HO_444002.out BK435.out (by decide)) e_) e_)));have n8_:=Aside0.mk (blk_kept (kz BK443.out) hkp (fun hs_=>Or.elim hs_ (fun e_=>(fun e_=>(Kd.R_ne HO_444001.out BK443.out (by decide)) e_) e_) (fun e_=>(fun e_=>(Kd.R_ne HO_444002.out BK443.out (by decide)) e_) e_)));have n9_:=Aside0.mk (blk_kept (kz BK452.out) hkp (fun hs_=>Or.elim hs_ (fun e_=>(fun e_=>(Kd.R_ne HO_444001.out BK452.out (by decide)) e_) e_) (fun e_=>(fun e_=>(Kd.R_ne HO_444002.out BK452.out (by decide)) e_) e_)));have n10_:=Aside0.mk (Kd.R_mono (ok':=fun k_=>some k_ ≠ (.slice Ao23 t428.length co23 : Value).ownBlock ∧ some k_ ≠ (.slice Ao31 t437.length co31 : Value).ownBlock ∧ some k_ ≠ (.slice Ao39 t445.length co39 : Value).ownBlock) (Kd.R_keptB ((Kd.R_apart' HO457.out (Kd.R_typed HO_444002.out) (by decide))) hkp (fun k_ hk_ hs_=>Or.elim hs_ (fun e_=>(hk_.1.1.2) e_) (fun e_=>(hk_.2) e_))) (fun k_ hk_=>⟨hk_.1.1.1.1.2,hk_.1.1.1.2,hk_.1.1.2⟩));have n11_:=Aside0.mk (Kd.R_mono (ok':=fun k_=>some k_ ≠ (.slice Ao24 t431.length co24 : Value).ownBlock ∧ some k_ ≠ (.slice Ao32 t440.length co32 : Value).ownBlock ∧ some k_ ≠ (.slice Ao40 t448.length co40 : Value).ownBlock) (Kd.R_keptB ((Kd.R_apart' HO460.out (Kd.R_typed HO_444001.out) (by decide))) hkp (fun k_ hk_ hs_=>Or.elim hs_ (fun e_=>(hk_.2) e_) (fun e_=>(hk_.1.1.2) e_))) (fun k_ hk_=>⟨hk_.1.1.1.1.2,hk_.1.1.1.2,hk_.1.1.2⟩));have n12_:=Aside0.mk (hb);clear HO_436001 HO_436002 HO_444001 HO_444002 HO_453001 HO_453002 BK418 BK435 BK443 BK452 HO457 HO460 HB;have HO_436001:=n0_;have HO_436002:=n1_;have HO_444001:=n2_;have HO_444002:=n3_;have HO_453001:=n4_;have HO_453002:=n5_;have BK418:=n6_;have BK435:=n7_;have BK443:=n8_;have BK452:=n9_;have HO457:=n10_;have HO460:=n11_;have HB:=n12_;clear n0_ n1_ n2_ n3_ n4_ n5_ n6_ n7_ n8_ n9_ n10_ n11_ n12_;(try clear hb);(try clear hkp);(try clear hy0);(try clear hy1)))
      (try simp only [Act.put,List.setIfInBounds_toArray,List.set_cons_zero,List.set_cons_succ])
      go_cut [61] (fun v61 wc=>∃ (kq : Nat) (x61_63 : Bool),v61 = .bool x61_63 ∧ Aside0 (laws_FnExactSharePlan.j1 kq t434 x61_63 a0_0 l0_1 l0_2 t427 t428 t431 t444 t445 t448 = some r) ∧ Aside0 (kq ≤ kj10) ∧ Aside0 (Kd.R k73 73 wc w.heap.size (fun k_=>some k_ ≠ ((.slice Ao31 t437.length co31) : Value).ownBlock ∧ some k_ ≠ ((.slice Ao39 t445.length co39) : Value).ownBlock) (.slice Ao23 t428.length co23) t428) ∧ Aside0 (Kd.R (Kd.int .i64) 3 wc w.heap.size (fun k_=>some k_ ≠ ((.slice Ao32 t440.length co32) : Value).ownBlock ∧ some k_ ≠ ((.slice Ao40 t448.length co40) : Value).ownBlock) (.slice Ao24 t431.length co24) t431) ∧ Aside0 (Kd.R k73 73 wc w.heap.size (fun k_=>some k_ ≠ ((.slice Ao23 t428.length co23) : Value).ownBlock ∧ some k_ ≠ ((.slice Ao39 t445.length co39) : Value).ownBlock) (.slice Ao31 t437.length co31) t463) ∧ Aside0 (Kd.R (Kd.int .i64) 3 wc w.heap.size (fun k_=>some k_ ≠ ((.slice Ao24 t431.length co24) : Value).ownBlock ∧ some k_ ≠ ((.slice Ao40 t448.length co40) : Value).ownBlock) (.slice Ao32 t440.length co32) t464) ∧ Aside0 (Kd.R k73 73 wc w.heap.size (fun k_=>some k_ ≠ ((.slice Ao23 t428.length co23) : Value).ownBlock ∧ some k_ ≠ ((.slice Ao31 t437.length co31) : Value).ownBlock) (.slice Ao39 t445.length co39) t445) ∧ Aside0 (Kd.R (Kd.int .i64) 3 wc w.heap.size (fun k_=>some k_ ≠ ((.slice Ao24 t431.length co24) : Value).ownBlock ∧ some k_ ≠ ((.slice Ao32 t440.length co32) : Value).ownBlock) (.slice Ao40 t448.length co40) t448) ∧ Aside0 (wc.heap[gb418]? = some (.cells #[.int .i64 a0_0,(.slice A0_1 l0_1.length c0_1),(.slice A0_2 l0_2.length c0_2)] 25 (0,0))) ∧ Aside0 (wc.heap[gb435]? = some (.cells #[.int .i64 t427,(.slice Ao23 t428.length co23),(.slice Ao24 t431.length co24)] 29 (0,0))) ∧ Aside0 (wc.heap[gb443]? = some (.cells #[.int .i64 t436,(.slice Ao31 t437.length co31),(.slice Ao32 t440.length co32)] 29 (0,0))) ∧ Aside0 (wc.heap[gb452]? = some (.cells #[.int .i64 t444,(.slice Ao39 t445.length co39),(.slice Ao40 t448.length co40)] 29 (0,0))) ∧ Aside0 (Below w.heap.size w wc))
      case first=>
       have H:=HC64.out
       clear HC64
       by_cases c75 : t462 < 0
       ·rw [if_pos c75] at H
        have c75b0 : decide (t462 < 0) = true:=decide_eq_true c75
        clear c75
        (first|rw [c75b0]|(simp only [i64_w,i32_w];rw [c75b0])|skip)
        have H':=Aside0.mk H
        clear H
        go_wp2
        go_meet
        case rel=>exact ⟨_,(true),fz,H',⟨by have:=HJ10.out;first|omega|exact Nat.le_refl _⟩,⟨by (with_reducible repeat (first|apply Kd.R_alloc|apply Kd.R_drewN|apply Kd.R_drew));exact Kd.R_mono HO_436001.out (fun _ hk=>⟨hk.1,hk.2.1⟩)⟩,⟨by (with_reducible repeat (first|apply Kd.R_alloc|apply Kd.R_drewN|apply Kd.R_drew));exact Kd.R_mono HO_436002.out (fun _ hk=>⟨hk.1,hk.2.1⟩)⟩,⟨by (with_reducible repeat (first|apply Kd.R_alloc|apply Kd.R_drewN|apply Kd.R_drew));exact Kd.R_mono HO_444001.out (fun _ hk=>⟨hk.1.1,hk.1.2⟩)⟩,⟨by (with_reducible repeat (first|apply Kd.R_alloc|apply Kd.R_drewN|apply Kd.R_drew));exact Kd.R_mono HO_444002.out (fun _ hk=>⟨hk.1.1,hk.1.2⟩)⟩,⟨by (with_reducible repeat (first|apply Kd.R_alloc|apply Kd.R_drewN|apply Kd.R_drew));exact Kd.R_mono HO_453001.out (fun _ hk=>⟨hk.1,hk.2.1⟩)⟩,⟨by (with_reducible repeat (first|apply Kd.R_alloc|apply Kd.R_drewN|apply Kd.R_drew));exact Kd.R_mono HO_453002.out (fun _ hk=>⟨hk.1,hk.2.1⟩)⟩,⟨by (with_reducible repeat (first|refine blk_drewN ?_ _|refine blk_drew ?_|refine blk_alloc ?_ _));exact BK418.out⟩,⟨by (with_reducible repeat (first|refine blk_drewN ?_ _|refine blk_drew ?_|refine blk_alloc ?_ _));exact BK435.out⟩,⟨by (with_reducible repeat (first|refine blk_drewN ?_ _|refine blk_drew ?_|refine blk_alloc ?_ _));exact BK443.out⟩,⟨by (with_reducible repeat (first|refine blk_drewN ?_ _|refine blk_drew ?_|refine blk_alloc ?_ _));exact BK452.out⟩,⟨by repeat (first|(with_reducible first|exact HB.out|apply below_alloc|apply pw_below_drewN|apply below_drew1|refine below_set ?_ GE418.out|refine below_set ?_ GE435.out|refine below_set ?_ GE443.out|refine below_set ?_ GE452.out)|exact HB.out)⟩⟩
       ·rw [if_neg c75] at H
        have c75b0 : decide (t462 < 0) = false:=decide_eq_false c75
        clear c75
        (first|rw [c75b0]|(simp only [i64_w,i32_w];rw [c75b0])|skip)
        replace H:=Option.bind_eq_some_iff.mp H
        obtain ⟨t465,A760,H⟩:=H
        replace H : (if t465 = true then (laws_FnExactSharePlan.j1 kj10 t434 (t451 != t434) a0_0 l0_1 l0_2 t427 t428 t431 t444 t445 t448) else (laws_FnExactSharePlan.j1 kj10 t434 true a0_0 l0_1 l0_2 t427 t428 t431 t444 t445 t448)) = some r:=H
        have A76:=Aside0.mk A760
        clear A760
        by_cases c77 : t465 = true
        ·subst c77
         have H1 : (laws_FnExactSharePlan.j1 kj10 t434 (t451 != t434) a0_0 l0_1 l0_2 t427 t428 t431 t444 t445 t448) = some r:=by rw [if_pos rfl] at H;exact H
         clear H
         have H:=H1
         clear H1
         have H':=Aside0.mk H
         clear H
         have hnb78:=NB452_418.out
         have hnc78:=NB418_452.out
         have hnb79:=NB452_435.out
         have hnc79:=NB435_452.out
         have hnb80:=NB452_443.out
         have hnc80:=NB443_452.out
         have hcz81_0 : w74.cell? ⟨gb452,0,none⟩ = some (.int .i64 t444):=(blk_cell BK452.out 0).trans rfl
         have hcz81_1 : w74.cell? ⟨gb452,1,none⟩ = some (.slice Ao39 t445.length co39):=(blk_cell BK452.out 1).trans rfl
         have hcz81_2 : w74.cell? ⟨gb452,2,none⟩ = some (.slice Ao40 t448.length co40):=(blk_cell BK452.out 2).trans rfl
         have hfz81_0:=blk_frozen BK452.out 0
         have hfz81_1:=blk_frozen BK452.out 1
         have hfz81_2:=blk_frozen BK452.out 2
         have hnb82:=NB435_418.out
         have hnc82:=NB418_435.out
         have hnb83:=NB435_443.out
         have hnc83:=NB443_435.out
         have hcz84_0 : w74.cell? ⟨gb435,0,none⟩ = some (.int .i64 t427):=(blk_cell BK435.out 0).trans rfl
         have hcz84_1 : w74.cell? ⟨gb435,1,none⟩ = some (.slice Ao23 t428.length co23):=(blk_cell BK435.out 1).trans rfl
         have hcz84_2 : w74.cell? ⟨gb435,2,none⟩ = some (.slice Ao24 t431.length co24):=(blk_cell BK435.out 2).trans rfl
         have hfz84_0:=blk_frozen BK435.out 0
         have hfz84_1:=blk_frozen BK435.out 1
         have hfz84_2:=blk_frozen BK435.out 2
         go_wp2_with (first|(go_at_call 14;(with_reducible refine (laws_eqPlan.calls kj10 t444 _ _ t445 _ _ t448 t427 _ _ t428 _ _ t431 true _ ?side1 ?side2 ?side3 ?side4 ?side5 ?side6 ?side7 ?side8 A76.out).mono ?_);(case side1=>exact cz (Kd.R_reads' HO_453001.out).2.2);(case side2=>exact (Kd.R_reads' HO_453001.out).2.1);(case side3=>exact cz (Kd.R_reads' HO_453002.out).2.2);(case side4=>exact (Kd.R_reads' HO_453002.out).2.1);(case side5=>exact cz (Kd.R_reads' HO_436001.out).2.2);(case side6=>exact (Kd.R_reads' HO_436001.out).2.1);(case side7=>exact cz (Kd.R_reads' HO_436002.out).2.2);(case side8=>exact (Kd.R_reads' HO_436002.out).2.1);rintro e w85 ⟨rfl,hb⟩;have n0_:=Aside0.mk (Kd.R_below (rz HO_436001.out) hb);have n1_:=Aside0.mk (Kd.R_below (rz HO_436002.out) hb);have n2_:=Aside0.mk (Kd.R_below (rz HO_444001.out) hb);have n3_:=Aside0.mk (Kd.R_below (rz HO_444002.out) hb);have n4_:=Aside0.mk (Kd.R_below (rz HO_453001.out) hb);have n5_:=Aside0.mk (Kd.R_below (rz HO_453002.out) hb);have n6_:=Aside0.mk (Kd.R_below (rz HO457.out) hb);have n7_:=Aside0.mk (Kd.R_below (rz HO460.out) hb);have n8_:=Aside0.mk (blk_below (g:=gb418) (o:=.cells #[.int .i64 a0_0,.slice A0_1 l0_1.length c0_1,.slice A0_2 l0_2.length c0_2] 25 (0,0)) (kz BK418.out) hb);have n9_:=Aside0.mk (blk_below (g:=gb435) (o:=.cells #[.int .i64 t427,.slice Ao23 t428.length co23,.slice Ao24 t431.length co24] 29 (0,0)) (kz BK435.out) hb);have n10_:=Aside0.mk (blk_below (g:=gb443) (o:=.cells #[.int .i64 t436,.slice Ao31 t437.length co31,.slice Ao32 t440.length co32] 29 (0,0)) (kz BK443.out) hb);have n11_:=Aside0.mk (blk_below (g:=gb452) (o:=.cells #[.int .i64 t444,.slice Ao39 t445.length co39,.slice Ao40 t448.length co40] 29 (0,0)) (kz BK452.out) hb);have n12_:=Aside0.mk (below_step bs hb);clear HO_436001 HO_436002 HO_444001 HO_444002 HO_453001 HO_453002 HO457 HO460 BK418 BK435 BK443 BK452 HB;have HO_436001:=n0_;have HO_436002:=n1_;have HO_444001:=n2_;have HO_444002:=n3_;have HO_453001:=n4_;have HO_453002:=n5_;have HO457:=n6_;have HO460:=n7_;have BK418:=n8_;have BK435:=n9_;have BK443:=n10_;have BK452:=n11_;have HB:=n12_;clear n0_ n1_ n2_ n3_ n4_ n5_ n6_ n7_ n8_ n9_ n10_ n11_ n12_;(try clear hb)))
         go_meet
         case rel=>exact ⟨_,((t451 != t434)),fz,H',⟨by have:=HJ10.out;first|omega|exact Nat.le_refl _⟩,⟨by (with_reducible repeat (first|apply Kd.R_alloc|apply Kd.R_drewN|apply Kd.R_drew));exact Kd.R_mono HO_436001.out (fun _ hk=>⟨hk.1,hk.2.1⟩)⟩,⟨by (with_reducible repeat (first|apply Kd.R_alloc|apply Kd.R_drewN|apply Kd.R_drew));exact Kd.R_mono HO_436002.out (fun _ hk=>⟨hk.1,hk.2.1⟩)⟩,⟨by (with_reducible repeat (first|apply Kd.R_alloc|apply Kd.R_drewN|apply Kd.R_drew));exact Kd.R_mono HO_444001.out (fun _ hk=>⟨hk.1.1,hk.1.2⟩)⟩,⟨by (with_reducible repeat (first|apply Kd.R_alloc|apply Kd.R_drewN|apply Kd.R_drew));exact Kd.R_mono HO_444002.out (fun _ hk=>⟨hk.1.1,hk.1.2⟩)⟩,⟨by (with_reducible repeat (first|apply Kd.R_alloc|apply Kd.R_drewN|apply Kd.R_drew));exact Kd.R_mono HO_453001.out (fun _ hk=>⟨hk.1,hk.2.1⟩)⟩,⟨by (with_reducible repeat (first|apply Kd.R_alloc|apply Kd.R_drewN|apply Kd.R_drew));exact Kd.R_mono HO_453002.out (fun _ hk=>⟨hk.1,hk.2.1⟩)⟩,⟨by (with_reducible repeat (first|refine blk_drewN ?_ _|refine blk_drew ?_|refine blk_alloc ?_ _));exact BK418.out⟩,⟨by (with_reducible repeat (first|refine blk_drewN ?_ _|refine blk_drew ?_|refine blk_alloc ?_ _));exact BK435.out⟩,⟨by (with_reducible repeat (first|refine blk_drewN ?_ _|refine blk_drew ?_|refine blk_alloc ?_ _));exact BK443.out⟩,⟨by (with_reducible repeat (first|refine blk_drewN ?_ _|refine blk_drew ?_|refine blk_alloc ?_ _));exact BK452.out⟩,⟨by repeat (first|(with_reducible first|exact HB.out|apply below_alloc|apply pw_below_drewN|apply below_drew1|refine below_set ?_ GE418.out|refine below_set ?_ GE435.out|refine below_set ?_ GE443.out|refine below_set ?_ GE452.out)|exact HB.out)⟩⟩
        ·replace c77:=Bool.eq_false_iff.mpr c77
         subst c77
         have H1 : (laws_FnExactSharePlan.j1 kj10 t434 true a0_0 l0_1 l0_2 t427 t428 t431 t444 t445 t448) = some r:=by rw [if_neg (show ¬ (false = true) by decide)] at H;exact H
         clear H
         have H:=H1
         clear H1
         have H':=Aside0.mk H
         clear H
         have hnb86:=NB452_418.out
         have hnc86:=NB418_452.out
         have hnb87:=NB452_435.out
         have hnc87:=NB435_452.out
         have hnb88:=NB452_443.out
         have hnc88:=NB443_452.out
         have hcz89_0 : w74.cell? ⟨gb452,0,none⟩ = some (.int .i64 t444):=(blk_cell BK452.out 0).trans rfl
         have hcz89_1 : w74.cell? ⟨gb452,1,none⟩ = some (.slice Ao39 t445.length co39):=(blk_cell BK452.out 1).trans rfl
         have hcz89_2 : w74.cell? ⟨gb452,2,none⟩ = some (.slice Ao40 t448.length co40):=(blk_cell BK452.out 2).trans rfl
         have hfz89_0:=blk_frozen BK452.out 0
         have hfz89_1:=blk_frozen BK452.out 1
         have hfz89_2:=blk_frozen BK452.out 2
         have hnb90:=NB435_418.out
         have hnc90:=NB418_435.out
         have hnb91:=NB435_443.out
         have hnc91:=NB443_435.out
         have hcz92_0 : w74.cell? ⟨gb435,0,none⟩ = some (.int .i64 t427):=(blk_cell BK435.out 0).trans rfl
         have hcz92_1 : w74.cell? ⟨gb435,1,none⟩ = some (.slice Ao23 t428.length co23):=(blk_cell BK435.out 1).trans rfl
         have hcz92_2 : w74.cell? ⟨gb435,2,none⟩ = some (.slice Ao24 t431.length co24):=(blk_cell BK435.out 2).trans rfl
         have hfz92_0:=blk_frozen BK435.out 0
         have hfz92_1:=blk_frozen BK435.out 1
         have hfz92_2:=blk_frozen BK435.out 2
         go_wp2_with (first|(go_at_call 14;(with_reducible refine (laws_eqPlan.calls kj10 t444 _ _ t445 _ _ t448 t427 _ _ t428 _ _ t431 false _ ?side1 ?side2 ?side3 ?side4 ?side5 ?side6 ?side7 ?side8 A76.out).mono ?_);(case side1=>exact cz (Kd.R_reads' HO_453001.out).2.2);(case side2=>exact (Kd.R_reads' HO_453001.out).2.1);(case side3=>exact cz (Kd.R_reads' HO_453002.out).2.2);(case side4=>exact (Kd.R_reads' HO_453002.out).2.1);(case side5=>exact cz (Kd.R_reads' HO_436001.out).2.2);(case side6=>exact (Kd.R_reads' HO_436001.out).2.1);(case side7=>exact cz (Kd.R_reads' HO_436002.out).2.2);(case side8=>exact (Kd.R_reads' HO_436002.out).2.1);rintro e w93 ⟨rfl,hb⟩;have n0_:=Aside0.mk (Kd.R_below (rz HO_436001.out) hb);have n1_:=Aside0.mk (Kd.R_below (rz HO_436002.out) hb);have n2_:=Aside0.mk (Kd.R_below (rz HO_444001.out) hb);have n3_:=Aside0.mk (Kd.R_below (rz HO_444002.out) hb);have n4_:=Aside0.mk (Kd.R_below (rz HO_453001.out) hb);have n5_:=Aside0.mk (Kd.R_below (rz HO_453002.out) hb);have n6_:=Aside0.mk (Kd.R_below (rz HO457.out) hb);have n7_:=Aside0.mk (Kd.R_below (rz HO460.out) hb);have n8_:=Aside0.mk (blk_below (g:=gb418) (o:=.cells #[.int .i64 a0_0,.slice A0_1 l0_1.length c0_1,.slice A0_2 l0_2.length c0_2] 25 (0,0)) (kz BK418.out) hb);have n9_:=Aside0.mk (blk_below (g:=gb435) (o:=.cells #[.int .i64 t427,.slice Ao23 t428.length co23,.slice Ao24 t431.length co24] 29 (0,0)) (kz BK435.out) hb);have n10_:=Aside0.mk (blk_below (g:=gb443) (o:=.cells #[.int .i64 t436,.slice Ao31 t437.length co31,.slice Ao32 t440.length co32] 29 (0,0)) (kz BK443.out) hb);have n11_:=Aside0.mk (blk_below (g:=gb452) (o:=.cells #[.int .i64 t444,.slice Ao39 t445.length co39,.slice Ao40 t448.length co40] 29 (0,0)) (kz BK452.out) hb);have n12_:=Aside0.mk (below_step bs hb);clear HO_436001 HO_436002 HO_444001 HO_444002 HO_453001 HO_453002 HO457 HO460 BK418 BK435 BK443 BK452 HB;have HO_436001:=n0_;have HO_436002:=n1_;have HO_444001:=n2_;have HO_444002:=n3_;have HO_453001:=n4_;have HO_453002:=n5_;have HO457:=n6_;have HO460:=n7_;have BK418:=n8_;have BK435:=n9_;have BK443:=n10_;have BK452:=n11_;have HB:=n12_;clear n0_ n1_ n2_ n3_ n4_ n5_ n6_ n7_ n8_ n9_ n10_ n11_ n12_;(try clear hb)))
         go_meet
         case rel=>exact ⟨_,(true),fz,H',⟨by have:=HJ10.out;first|omega|exact Nat.le_refl _⟩,⟨by (with_reducible repeat (first|apply Kd.R_alloc|apply Kd.R_drewN|apply Kd.R_drew));exact Kd.R_mono HO_436001.out (fun _ hk=>⟨hk.1,hk.2.1⟩)⟩,⟨by (with_reducible repeat (first|apply Kd.R_alloc|apply Kd.R_drewN|apply Kd.R_drew));exact Kd.R_mono HO_436002.out (fun _ hk=>⟨hk.1,hk.2.1⟩)⟩,⟨by (with_reducible repeat (first|apply Kd.R_alloc|apply Kd.R_drewN|apply Kd.R_drew));exact Kd.R_mono HO_444001.out (fun _ hk=>⟨hk.1.1,hk.1.2⟩)⟩,⟨by (with_reducible repeat (first|apply Kd.R_alloc|apply Kd.R_drewN|apply Kd.R_drew));exact Kd.R_mono HO_444002.out (fun _ hk=>⟨hk.1.1,hk.1.2⟩)⟩,⟨by (with_reducible repeat (first|apply Kd.R_alloc|apply Kd.R_drewN|apply Kd.R_drew));exact Kd.R_mono HO_453001.out (fun _ hk=>⟨hk.1,hk.2.1⟩)⟩,⟨by (with_reducible repeat (first|apply Kd.R_alloc|apply Kd.R_drewN|apply Kd.R_drew));exact Kd.R_mono HO_453002.out (fun _ hk=>⟨hk.1,hk.2.1⟩)⟩,⟨by (with_reducible repeat (first|refine blk_drewN ?_ _|refine blk_drew ?_|refine blk_alloc ?_ _));exact BK418.out⟩,⟨by (with_reducible repeat (first|refine blk_drewN ?_ _|refine blk_drew ?_|refine blk_alloc ?_ _));exact BK435.out⟩,⟨by (with_reducible repeat (first|refine blk_drewN ?_ _|refine blk_drew ?_|refine blk_alloc ?_ _));exact BK443.out⟩,⟨by (with_reducible repeat (first|refine blk_drewN ?_ _|refine blk_drew ?_|refine blk_alloc ?_ _));exact BK452.out⟩,⟨by repeat (first|(with_reducible first|exact HB.out|apply below_alloc|apply pw_below_drewN|apply below_drew1|refine below_set ?_ GE418.out|refine below_set ?_ GE435.out|refine below_set ?_ GE443.out|refine below_set ?_ GE452.out)|exact HB.out)⟩⟩
      case rest=>
       clear HC64
       try clear c1
       try clear c2
       try clear p2
       try clear c3
       try clear c3b0
       try clear c4
       try clear c5
       try clear c6
       try clear c7
       try clear c8
       try clear c9
       try clear c10
       try clear c12
       try clear c14
       try clear c15
       try clear c21
       try clear c24
       try clear c25
       try clear c28
       try clear c29
       try clear c35
       try clear c36
       try clear c37
       try clear c42
       try clear c43
       try clear c44
       try clear c45
       try clear c47
       try clear c48
       try clear c51
       try clear c52
       try clear c53
       try clear c55
       try clear c56
       try clear c59
       try clear c62
       try clear c70
       try clear c71
       try clear c72
       try clear c75
       try clear c75b0
       try clear c77
       try clear c78
       try clear c79
       try clear c80
       try clear c82
       try clear c83
       try clear c86
       try clear c87
       try clear c88
       try clear c90
       try clear c91
       try clear hcz13_0
       try clear hcz13_1
       try clear hcz13_2
       try clear hcz15_0
       try clear hcz15_1
       try clear hcz15_2
       try clear hcz22_0
       try clear hcz22_1
       try clear hcz22_2
       try clear hcz25_0
       try clear hcz25_1
       try clear hcz25_2
       try clear hcz30_0
       try clear hcz30_1
       try clear hcz30_2
       try clear hcz38_0
       try clear hcz38_1
       try clear hcz38_2
       try clear hcz46_0
       try clear hcz46_1
       try clear hcz46_2
       try clear hcz49_0
       try clear hcz49_1
       try clear hcz49_2
       try clear hcz54_0
       try clear hcz54_1
       try clear hcz54_2
       try clear hcz57_0
       try clear hcz57_1
       try clear hcz57_2
       try clear hcz5_0
       try clear hcz5_1
       try clear hcz5_2
       try clear hcz73_0
       try clear hcz73_1
       try clear hcz73_2
       try clear hcz81_0
       try clear hcz81_1
       try clear hcz81_2
       try clear hcz84_0
       try clear hcz84_1
       try clear hcz84_2
       try clear hcz89_0
       try clear hcz89_1
       try clear hcz89_2
       try clear hcz92_0
       try clear hcz92_1
       try clear hcz92_2
       try clear hfz13_0
       try clear hfz13_1
       try clear hfz13_2
       try clear hfz15_0
       try clear hfz15_1
       try clear hfz15_2
       try clear hfz22_0
       try clear hfz22_1
       try clear hfz22_2
       try clear hfz25_0
       try clear hfz25_1
       try clear hfz25_2
       try clear hfz30_0
       try clear hfz30_1
       try clear hfz30_2
       try clear hfz38_0
       try clear hfz38_1
       try clear hfz38_2
       try clear hfz46_0
       try clear hfz46_1
       try clear hfz46_2
       try clear hfz49_0
       try clear hfz49_1
       try clear hfz49_2
       try clear hfz54_0
       try clear hfz54_1
       try clear hfz54_2
       try clear hfz57_0
       try clear hfz57_1
       try clear hfz57_2
       try clear hfz5_0
       try clear hfz5_1
       try clear hfz5_2
       try clear hfz73_0
       try clear hfz73_1
       try clear hfz73_2
       try clear hfz81_0
       try clear hfz81_1
       try clear hfz81_2
       try clear hfz84_0
       try clear hfz84_1
       try clear hfz84_2
       try clear hfz89_0
       try clear hfz89_1
       try clear hfz89_2
       try clear hfz92_0
       try clear hfz92_1
       try clear hfz92_2
       try clear p2
       obtain ⟨kq,x61_63,rfl,HA,HJ63,HO_436001,HO_436002,HO_444001,HO_444002,HO_453001,HO_453002,BK418,BK435,BK443,BK452,HB⟩:=hcut
       have hl444001_63:=(Kd.R_reads' HO_444001.out).1
       rw [hl444001_63] at HO_444001
       (try simp only [hl444001_63])
       (try simp only [hl444001_63] at BK418)
       (try simp only [hl444001_63] at BK435)
       (try simp only [hl444001_63] at BK443)
       (try simp only [hl444001_63] at BK452)
       (try simp only [hl444001_63] at HO_436001)
       (try simp only [hl444001_63] at HO_436002)
       (try simp only [hl444001_63] at HO_444002)
       (try simp only [hl444001_63] at HO_453001)
       (try simp only [hl444001_63] at HO_453002)
       have hl444002_63:=(Kd.R_reads' HO_444002.out).1
       rw [hl444002_63] at HO_444002
       (try simp only [hl444002_63])
       (try simp only [hl444002_63] at BK418)
       (try simp only [hl444002_63] at BK435)
       (try simp only [hl444002_63] at BK443)
       (try simp only [hl444002_63] at BK452)
       (try simp only [hl444002_63] at HO_436001)
       (try simp only [hl444002_63] at HO_436002)
       (try simp only [hl444002_63] at HO_444001)
       (try simp only [hl444002_63] at HO_453001)
       (try simp only [hl444002_63] at HO_453002)
       cases kq with
       | zero=>exact absurd HA.out (by simp [laws_FnExactSharePlan.j1])
       | succ kj63=>
        have H:=HA.out
        clear HA
        simp only [laws_FnExactSharePlan.j1] at H
        by_cases c94 : x61_63 = true
        ·subst c94
         have H1 : (some false) = some r:=by rw [if_pos rfl] at H;exact H
         clear H
         have H:=H1
         clear H1
         obtain rfl:=Option.some.inj H
         go_wp2
         go_ret
         exact ⟨by first|rfl|(simp [errW_none,errW_some] <;> rfl)|(simp [*,errW_none,errW_some] <;> rfl),by repeat (first|(with_reducible first|exact HB.out|apply below_alloc|apply pw_below_drewN|apply below_drew1|refine below_set ?_ GE418.out|refine below_set ?_ GE435.out|refine below_set ?_ GE443.out|refine below_set ?_ GE452.out)|exact HB.out)⟩
        ·replace c94:=Bool.eq_false_iff.mpr c94
         subst c94
         have H1 : ((laws_markPlan.f kj63 t444 t445 t448 1).bind fun bt466=>((laws_heldPlan.f kj63 t444 bt466.2.1 bt466.2.2 1).bind fun t469=>(if t469 < 0 then (some false) else (if t469 = bt466.1 then ((laws_toPlan.f kj63 a0_0 l0_1 l0_2).bind fun bt470=>((impl_SharePlan.f kj63 bt470.1 bt470.2.1 bt470.2.2).bind fun bt477=>((laws_eqPlan.f kj63 bt477.1 bt477.2.1 bt477.2.2.1 t427 t428 t431).bind fun t486=>(if t486 = true then (laws_FnExactSharePlan.j2 kj63 bt466.1 (bt477.2.2.2 != t434) t444 bt466.2.1 bt466.2.2) else (laws_FnExactSharePlan.j2 kj63 bt466.1 true t444 bt466.2.1 bt466.2.2))))) else (some false))))) = some r:=by rw [if_neg (show ¬ (false = true) by decide)] at H;exact H
         clear H
         have H:=H1
         clear H1
         replace H:=Option.bind_eq_some_iff.mp H
         obtain ⟨⟨t466,t467,t468⟩,A950,H⟩:=H
         replace H : ((laws_heldPlan.f kj63 t444 t467 t468 1).bind fun t469=>(if t469 < 0 then (some false) else (if t469 = t466 then ((laws_toPlan.f kj63 a0_0 l0_1 l0_2).bind fun bt470=>((impl_SharePlan.f kj63 bt470.1 bt470.2.1 bt470.2.2).bind fun bt477=>((laws_eqPlan.f kj63 bt477.1 bt477.2.1 bt477.2.2.1 t427 t428 t431).bind fun t486=>(if t486 = true then (laws_FnExactSharePlan.j2 kj63 t466 (bt477.2.2.2 != t434) t444 t467 t468) else (laws_FnExactSharePlan.j2 kj63 t466 true t444 t467 t468))))) else (some false)))) = some r:=H
         have A95:=Aside0.mk A950
         clear A950
         replace H:=Option.bind_eq_some_iff.mp H
         obtain ⟨t469,A960,H⟩:=H
         replace H : (if t469 < 0 then (some false) else (if t469 = t466 then ((laws_toPlan.f kj63 a0_0 l0_1 l0_2).bind fun bt470=>((impl_SharePlan.f kj63 bt470.1 bt470.2.1 bt470.2.2).bind fun bt477=>((laws_eqPlan.f kj63 bt477.1 bt477.2.1 bt477.2.2.1 t427 t428 t431).bind fun t486=>(if t486 = true then (laws_FnExactSharePlan.j2 kj63 t466 (bt477.2.2.2 != t434) t444 t467 t468) else (laws_FnExactSharePlan.j2 kj63 t466 true t444 t467 t468))))) else (some false))) = some r:=H
         have A96:=Aside0.mk A960
         clear A960
         by_cases c97 : t469 < 0
         ·rw [if_pos c97] at H
          have c97b0 : decide (t469 < 0) = true:=decide_eq_true c97
          clear c97
          obtain rfl:=Option.some.inj H
          have hnb98:=NB452_418.out
          have hnc98:=NB418_452.out
          have hnb99:=NB452_435.out
          have hnc99:=NB435_452.out
          have hnb100:=NB452_443.out
          have hnc100:=NB443_452.out
          have hcz101_0 : wc.cell? ⟨gb452,0,none⟩ = some (.int .i64 t444):=(blk_cell BK452.out 0).trans rfl
          have hcz101_1 : wc.cell? ⟨gb452,1,none⟩ = some (.slice Ao39 t445.length co39):=(blk_cell BK452.out 1).trans rfl
          have hcz101_2 : wc.cell? ⟨gb452,2,none⟩ = some (.slice Ao40 t448.length co40):=(blk_cell BK452.out 2).trans rfl
          have hfz101_0:=blk_frozen BK452.out 0
          have hfz101_1:=blk_frozen BK452.out 1
          have hfz101_2:=blk_frozen BK452.out 2
          go_wp2_with (first|((with_reducible refine gate_callee (f:=15) rfl ?_);refine goesL_ (some 64) rfl rfl Try.func15 (by kernel_rfl) rfl #[.agg #[.int .i64 t444,.slice Ao39 t445.length co39,.slice Ao40 t448.length co40],.int .i64 1] rfl mz ?_;(with_reducible refine (laws_markPlan.calls kj63 t444 (fun k_=>some k_ = (.slice Ao39 t445.length co39 : Value).ownBlock) (.slice Ao39 t445.length co39) t445 (fun k_=>some k_ = (.slice Ao40 t448.length co40 : Value).ownBlock) (.slice Ao40 t448.length co40) t448 1 t466 t467 t468 w _ ?side1 ?side2 ?side3 A95.out).mono ?_);(case side1=>repeat (first|(with_reducible first|exact HB.out|apply below_alloc|apply pw_below_drewN|apply below_drew1|refine below_set ?_ GE418.out|refine below_set ?_ GE435.out|refine below_set ?_ GE443.out|refine below_set ?_ GE452.out)|exact HB.out));(case side2=>exact Kd.R_tight rfl HO_453001.out);(case side3=>exact Kd.R_tight rfl HO_453002.out);rintro e w102 ⟨rfl,hy0,hy1,hb,hkp⟩;refine ⟨_,rfl,?_⟩;have n0_:=Aside0.mk (Kd.R_mono (ok':=fun k_=>some k_ ≠ (.slice Ao31 t463.length co31 : Value).ownBlock ∧ some k_ ≠ (.slice Ao39 t445.length co39 : Value).ownBlock) (Kd.R_keptB ((Kd.R_apart' HO_436001.out (Kd.R_typed HO_453002.out) (by decide))) hkp (fun k_ hk_ hs_=>Or.elim hs_ (fun e_=>(hk_.1.2) e_) (fun e_=>(hk_.2) e_))) (fun k_ hk_=>⟨hk_.1.1.1,hk_.1.1.2⟩));have n1_:=Aside0.mk (Kd.R_mono (ok':=fun k_=>some k_ ≠ (.slice Ao32 t464.length co32 : Value).ownBlock ∧ some k_ ≠ (.slice Ao40 t448.length co40 : Value).ownBlock) (Kd.R_keptB ((Kd.R_apart' HO_436002.out (Kd.R_typed HO_453001.out) (by decide))) hkp (fun k_ hk_ hs_=>Or.elim hs_ (fun e_=>(hk_.2) e_) (fun e_=>(hk_.1.2) e_))) (fun k_ hk_=>⟨hk_.1.1.1,hk_.1.1.2⟩));have n2_:=Aside0.mk (Kd.R_mono (ok':=fun k_=>some k_ ≠ (.slice Ao23 t428.length co23 : Value).ownBlock ∧ some k_ ≠ (.slice Ao39 t445.length co39 : Value).ownBlock) (Kd.R_keptB ((Kd.R_apart' HO_444001.out (Kd.R_typed HO_453002.out) (by decide))) hkp (fun k_ hk_ hs_=>Or.elim hs_ (fun e_=>(hk_.1.2) e_) (fun e_=>(hk_.2) e_))) (fun k_ hk_=>⟨hk_.1.1.1,hk_.1.1.2⟩));have n3_:=Aside0.mk (Kd.R_mono (ok':=fun k_=>some k_ ≠ (.slice Ao24 t431.length co24 : Value).ownBlock ∧ some k_ ≠ (.slice Ao40 t448.length co40 : Value).ownBlock) (Kd.R_keptB ((Kd.R_apart' HO_444002.out (Kd.R_typed HO_453001.out) (by decide))) hkp (fun k_ hk_ hs_=>Or.elim hs_ (fun e_=>(hk_.2) e_) (fun e_=>(hk_.1.2) e_))) (fun k_ hk_=>⟨hk_.1.1.1,hk_.1.1.2⟩));have n4_:=Aside0.mk (Kd.R_reok rfl hy0 (fun k_ e_=>HO_453001.out.1 k_ e_));have n5_:=Aside0.mk (Kd.R_reok rfl hy1 (fun k_ e_=>HO_453002.out.1 k_ e_));have n6_:=Aside0.mk (blk_kept (kz BK418.out) hkp (fun hs_=>Or.elim hs_ (fun e_=>(fun e_=>(Kd.R_ne HO_453001.out BK418.out (by decide)) e_) e_) (fun e_=>(fun e_=>(Kd.R_ne HO_453002.out BK418.out (by decide)) e_) e_)));have n7_:=Aside0.mk (blk_kept (kz BK435.out) hkp (fun hs_=>Or.elim hs_ (fun e_=>(fun e_=>(Kd.R_ne HO_453001.out BK435.out (by decide)) e_) e_) (fun e_=>(fun e_=>(Kd.R_ne HO_453002.out BK435.out (by decide)) e_) e_)));have n8_:=Aside0.mk (blk_kept (kz BK443.out) hkp (fun hs_=>Or.elim hs_ (fun e_=>(fun e_=>(Kd.R_ne HO_453001.out BK443.out (by decide)) e_) e_) (fun e_=>(fun e_=>(Kd.R_ne HO_453002.out BK443.out (by decide)) e_) e_)));have n9_:=Aside0.mk (blk_kept (kz BK452.out) hkp (fun hs_=>Or.elim hs_ (fun e_=>(fun e_=>(Kd.R_ne HO_453001.out BK452.out (by decide)) e_) e_) (fun e_=>(fun e_=>(Kd.R_ne HO_453002.out BK452.out (by decide)) e_) e_)));have n10_:=Aside0.mk (hb);clear HO_436001 HO_436002 HO_444001 HO_444002 HO_453001 HO_453002 BK418 BK435 BK443 BK452 HB;have HO_436001:=n0_;have HO_436002:=n1_;have HO_444001:=n2_;have HO_444002:=n3_;have HO_453001:=n4_;have HO_453002:=n5_;have BK418:=n6_;have BK435:=n7_;have BK443:=n8_;have BK452:=n9_;have HB:=n10_;clear n0_ n1_ n2_ n3_ n4_ n5_ n6_ n7_ n8_ n9_ n10_;(try clear hb);(try clear hkp);(try clear hy0);(try clear hy1);have hcz103_0 : w102.cell? ⟨gb452,0,none⟩ = some (.int .i64 t444):=(blk_cell BK452.out 0).trans rfl;have hcz103_1 : w102.cell? ⟨gb452,1,none⟩ = some (.slice Ao39 t445.length co39):=(blk_cell BK452.out 1).trans rfl;have hcz103_2 : w102.cell? ⟨gb452,2,none⟩ = some (.slice Ao40 t448.length co40):=(blk_cell BK452.out 2).trans rfl;have hfz103_0:=blk_frozen BK452.out 0;have hfz103_1:=blk_frozen BK452.out 1;have hfz103_2:=blk_frozen BK452.out 2)|((with_reducible refine gate_callee (f:=16) rfl ?_);refine goesL_ (some 67) rfl rfl Try.func16 (by kernel_rfl) rfl #[.agg #[.int .i64 t444,.slice Ao39 t467.length co39,.slice Ao40 t468.length co40],.int .i64 1] rfl (by (try simp only [List.map_toArray,List.map_cons,List.map_nil]);first|done|(rw [show t467.length = t445.length from (Kd.R_reads' HO_453001.out).1.symm,show t468.length = t448.length from (Kd.R_reads' HO_453002.out).1.symm] <;> rfl)|rfl|(simp only [List.length_drop,List.length_take];rfl)) ?_;(with_reducible refine (laws_heldPlan.calls kj63 t444 _ _ t467 _ _ t468 1 t469 _ ?side1 ?side2 ?side3 ?side4 A96.out).mono ?_);(case side1=>exact cz (Kd.R_reads' HO_453001.out).2.2);(case side2=>rw [show t467.length = t445.length from (Kd.R_reads' HO_453001.out).1.symm];exact (Kd.R_reads' HO_453001.out).2.1);(case side3=>exact cz (Kd.R_reads' HO_453002.out).2.2);(case side4=>rw [show t468.length = t448.length from (Kd.R_reads' HO_453002.out).1.symm];exact (Kd.R_reads' HO_453002.out).2.1);rintro e w104 ⟨rfl,hb⟩;refine ⟨_,rfl,?_⟩;have n0_:=Aside0.mk (Kd.R_below (rz HO_436001.out) hb);have n1_:=Aside0.mk (Kd.R_below (rz HO_436002.out) hb);have n2_:=Aside0.mk (Kd.R_below (rz HO_444001.out) hb);have n3_:=Aside0.mk (Kd.R_below (rz HO_444002.out) hb);have n4_:=Aside0.mk (Kd.R_below (rz HO_453001.out) hb);have n5_:=Aside0.mk (Kd.R_below (rz HO_453002.out) hb);have n6_:=Aside0.mk (blk_below (g:=gb418) (o:=.cells #[.int .i64 a0_0,.slice A0_1 l0_1.length c0_1,.slice A0_2 l0_2.length c0_2] 25 (0,0)) (kz BK418.out) hb);have n7_:=Aside0.mk (blk_below (g:=gb435) (o:=.cells #[.int .i64 t427,.slice Ao23 t428.length co23,.slice Ao24 t431.length co24] 29 (0,0)) (kz BK435.out) hb);have n8_:=Aside0.mk (blk_below (g:=gb443) (o:=.cells #[.int .i64 t436,.slice Ao31 t463.length co31,.slice Ao32 t464.length co32] 29 (0,0)) (kz BK443.out) hb);have n9_:=Aside0.mk (blk_below (g:=gb452) (o:=.cells #[.int .i64 t444,.slice Ao39 t445.length co39,.slice Ao40 t448.length co40] 29 (0,0)) (kz BK452.out) hb);have n10_:=Aside0.mk (below_step bs hb);clear HO_436001 HO_436002 HO_444001 HO_444002 HO_453001 HO_453002 BK418 BK435 BK443 BK452 HB;have HO_436001:=n0_;have HO_436002:=n1_;have HO_444001:=n2_;have HO_444002:=n3_;have HO_453001:=n4_;have HO_453002:=n5_;have BK418:=n6_;have BK435:=n7_;have BK443:=n8_;have BK452:=n9_;have HB:=n10_;clear n0_ n1_ n2_ n3_ n4_ n5_ n6_ n7_ n8_ n9_ n10_;(try clear hb)))
          go_ret
          exact ⟨by first|rfl|(simp [errW_none,errW_some] <;> rfl)|(simp [*,errW_none,errW_some] <;> rfl),by repeat (first|(with_reducible first|exact HB.out|apply below_alloc|apply pw_below_drewN|apply below_drew1|refine below_set ?_ GE418.out|refine below_set ?_ GE435.out|refine below_set ?_ GE443.out|refine below_set ?_ GE452.out)|exact HB.out)⟩
         ·rw [if_neg c97] at H
          have c97b0 : decide (t469 < 0) = false:=decide_eq_false c97
          clear c97
          by_cases c105 : t469 = t466
          ·rw [if_pos c105] at H
           have c105b0 : (t469 == t466) = true:=beq_iff_eq.mpr c105
           have c105b1 : (t469 != t466) = false:=bne_eq_false_iff_eq.mpr c105
           clear c105
           replace H:=Option.bind_eq_some_iff.mp H
           obtain ⟨⟨t470,t471,t474⟩,A1060,H⟩:=H
           replace H : ((impl_SharePlan.f kj63 t470 t471 t474).bind fun bt477=>((laws_eqPlan.f kj63 bt477.1 bt477.2.1 bt477.2.2.1 t427 t428 t431).bind fun t486=>(if t486 = true then (laws_FnExactSharePlan.j2 kj63 t466 (bt477.2.2.2 != t434) t444 t467 t468) else (laws_FnExactSharePlan.j2 kj63 t466 true t444 t467 t468)))) = some r:=H
           have A106:=Aside0.mk A1060
           clear A1060
           replace H:=Option.bind_eq_some_iff.mp H
           obtain ⟨⟨t477,t478,t481,t484⟩,A1070,H⟩:=H
           replace H : ((laws_eqPlan.f kj63 t477 t478 t481 t427 t428 t431).bind fun t486=>(if t486 = true then (laws_FnExactSharePlan.j2 kj63 t466 (t484 != t434) t444 t467 t468) else (laws_FnExactSharePlan.j2 kj63 t466 true t444 t467 t468))) = some r:=H
           have A107:=Aside0.mk A1070
           clear A1070
           have HC108:=Aside0.mk H
           clear H
           have hnb109:=NB452_418.out
           have hnc109:=NB418_452.out
           have hnb110:=NB452_435.out
           have hnc110:=NB435_452.out
           have hnb111:=NB452_443.out
           have hnc111:=NB443_452.out
           have hcz112_0 : wc.cell? ⟨gb452,0,none⟩ = some (.int .i64 t444):=(blk_cell BK452.out 0).trans rfl
           have hcz112_1 : wc.cell? ⟨gb452,1,none⟩ = some (.slice Ao39 t445.length co39):=(blk_cell BK452.out 1).trans rfl
           have hcz112_2 : wc.cell? ⟨gb452,2,none⟩ = some (.slice Ao40 t448.length co40):=(blk_cell BK452.out 2).trans rfl
           have hfz112_0:=blk_frozen BK452.out 0
           have hfz112_1:=blk_frozen BK452.out 1
           have hfz112_2:=blk_frozen BK452.out 2
           go_upto_region 25 with (first|((with_reducible refine gate_callee (f:=15) rfl ?_);refine goesL_ (some 64) rfl rfl Try.func15 (by kernel_rfl) rfl #[.agg #[.int .i64 t444,.slice Ao39 t445.length co39,.slice Ao40 t448.length co40],.int .i64 1] rfl mz ?_;(with_reducible refine (laws_markPlan.calls kj63 t444 (fun k_=>some k_ = (.slice Ao39 t445.length co39 : Value).ownBlock) (.slice Ao39 t445.length co39) t445 (fun k_=>some k_ = (.slice Ao40 t448.length co40 : Value).ownBlock) (.slice Ao40 t448.length co40) t448 1 t466 t467 t468 w _ ?side1 ?side2 ?side3 A95.out).mono ?_);(case side1=>repeat (first|(with_reducible first|exact HB.out|apply below_alloc|apply pw_below_drewN|apply below_drew1|refine below_set ?_ GE418.out|refine below_set ?_ GE435.out|refine below_set ?_ GE443.out|refine below_set ?_ GE452.out)|exact HB.out));(case side2=>exact Kd.R_tight rfl HO_453001.out);(case side3=>exact Kd.R_tight rfl HO_453002.out);rintro e w113 ⟨rfl,hy0,hy1,hb,hkp⟩;refine ⟨_,rfl,?_⟩;have n0_:=Aside0.mk (Kd.R_mono (ok':=fun k_=>some k_ ≠ (.slice Ao31 t463.length co31 : Value).ownBlock ∧ some k_ ≠ (.slice Ao39 t445.length co39 : Value).ownBlock) (Kd.R_keptB ((Kd.R_apart' HO_436001.out (Kd.R_typed HO_453002.out) (by decide))) hkp (fun k_ hk_ hs_=>Or.elim hs_ (fun e_=>(hk_.1.2) e_) (fun e_=>(hk_.2) e_))) (fun k_ hk_=>⟨hk_.1.1.1,hk_.1.1.2⟩));have n1_:=Aside0.mk (Kd.R_mono (ok':=fun k_=>some k_ ≠ (.slice Ao32 t464.length co32 : Value).ownBlock ∧ some k_ ≠ (.slice Ao40 t448.length co40 : Value).ownBlock) (Kd.R_keptB ((Kd.R_apart' HO_436002.out (Kd.R_typed HO_453001.out) (by decide))) hkp (fun k_ hk_ hs_=>Or.elim hs_ (fun e_=>(hk_.2) e_) (fun e_=>(hk_.1.2) e_))) (fun k_ hk_=>⟨hk_.1.1.1,hk_.1.1.2⟩));have n2_:=Aside0.mk (Kd.R_mono (ok':=fun k_=>some k_ ≠ (.slice Ao23 t428.length co23 : Value).ownBlock ∧ some k_ ≠ (.slice Ao39 t445.length co39 : Value).ownBlock) (Kd.R_keptB ((Kd.R_apart' HO_444001.out (Kd.R_typed HO_453002.out) (by decide))) hkp (fun k_ hk_ hs_=>Or.elim hs_ (fun e_=>(hk_.1.2) e_) (fun e_=>(hk_.2) e_))) (fun k_ hk_=>⟨hk_.1.1.1,hk_.1.1.2⟩));have n3_:=Aside0.mk (Kd.R_mono (ok':=fun k_=>some k_ ≠ (.slice Ao24 t431.length co24 : Value).ownBlock ∧ some k_ ≠ (.slice Ao40 t448.length co40 : Value).ownBlock) (Kd.R_keptB ((Kd.R_apart' HO_444002.out (Kd.R_typed HO_453001.out) (by decide))) hkp (fun k_ hk_ hs_=>Or.elim hs_ (fun e_=>(hk_.2) e_) (fun e_=>(hk_.1.2) e_))) (fun k_ hk_=>⟨hk_.1.1.1,hk_.1.1.2⟩));have n4_:=Aside0.mk (Kd.R_reok rfl hy0 (fun k_ e_=>HO_453001.out.1 k_ e_));have n5_:=Aside0.mk (Kd.R_reok rfl hy1 (fun k_ e_=>HO_453002.out.1 k_ e_));have n6_:=Aside0.mk (blk_kept (kz BK418.out) hkp (fun hs_=>Or.elim hs_ (fun e_=>(fun e_=>(Kd.R_ne HO_453001.out BK418.out (by decide)) e_) e_) (fun e_=>(fun e_=>(Kd.R_ne HO_453002.out BK418.out (by decide)) e_) e_)));have n7_:=Aside0.mk (blk_kept (kz BK435.out) hkp (fun hs_=>Or.elim hs_ (fun e_=>(fun e_=>(Kd.R_ne HO_453001.out BK435.out (by decide)) e_) e_) (fun e_=>(fun e_=>(Kd.R_ne HO_453002.out BK435.out (by decide)) e_) e_)));have n8_:=Aside0.mk (blk_kept (kz BK443.out) hkp (fun hs_=>Or.elim hs_ (fun e_=>(fun e_=>(Kd.R_ne HO_453001.out BK443.out (by decide)) e_) e_) (fun e_=>(fun e_=>(Kd.R_ne HO_453002.out BK443.out (by decide)) e_) e_)));have n9_:=Aside0.mk (blk_kept (kz BK452.out) hkp (fun hs_=>Or.elim hs_ (fun e_=>(fun e_=>(Kd.R_ne HO_453001.out BK452.out (by decide)) e_) e_) (fun e_=>(fun e_=>(Kd.R_ne HO_453002.out BK452.out (by decide)) e_) e_)));have n10_:=Aside0.mk (hb);clear HO_436001 HO_436002 HO_444001 HO_444002 HO_453001 HO_453002 BK418 BK435 BK443 BK452 HB;have HO_436001:=n0_;have HO_436002:=n1_;have HO_444001:=n2_;have HO_444002:=n3_;have HO_453001:=n4_;have HO_453002:=n5_;have BK418:=n6_;have BK435:=n7_;have BK443:=n8_;have BK452:=n9_;have HB:=n10_;clear n0_ n1_ n2_ n3_ n4_ n5_ n6_ n7_ n8_ n9_ n10_;(try clear hb);(try clear hkp);(try clear hy0);(try clear hy1);have hcz114_0 : w113.cell? ⟨gb452,0,none⟩ = some (.int .i64 t444):=(blk_cell BK452.out 0).trans rfl;have hcz114_1 : w113.cell? ⟨gb452,1,none⟩ = some (.slice Ao39 t445.length co39):=(blk_cell BK452.out 1).trans rfl;have hcz114_2 : w113.cell? ⟨gb452,2,none⟩ = some (.slice Ao40 t448.length co40):=(blk_cell BK452.out 2).trans rfl;have hfz114_0:=blk_frozen BK452.out 0;have hfz114_1:=blk_frozen BK452.out 1;have hfz114_2:=blk_frozen BK452.out 2)|((with_reducible refine gate_callee (f:=16) rfl ?_);refine goesL_ (some 67) rfl rfl Try.func16 (by kernel_rfl) rfl #[.agg #[.int .i64 t444,.slice Ao39 t467.length co39,.slice Ao40 t468.length co40],.int .i64 1] rfl (by (try simp only [List.map_toArray,List.map_cons,List.map_nil]);first|done|(rw [show t467.length = t445.length from (Kd.R_reads' HO_453001.out).1.symm,show t468.length = t448.length from (Kd.R_reads' HO_453002.out).1.symm] <;> rfl)|rfl|(simp only [List.length_drop,List.length_take];rfl)) ?_;(with_reducible refine (laws_heldPlan.calls kj63 t444 _ _ t467 _ _ t468 1 t469 _ ?side1 ?side2 ?side3 ?side4 A96.out).mono ?_);(case side1=>exact cz (Kd.R_reads' HO_453001.out).2.2);(case side2=>rw [show t467.length = t445.length from (Kd.R_reads' HO_453001.out).1.symm];exact (Kd.R_reads' HO_453001.out).2.1);(case side3=>exact cz (Kd.R_reads' HO_453002.out).2.2);(case side4=>rw [show t468.length = t448.length from (Kd.R_reads' HO_453002.out).1.symm];exact (Kd.R_reads' HO_453002.out).2.1);rintro e w115 ⟨rfl,hb⟩;refine ⟨_,rfl,?_⟩;have n0_:=Aside0.mk (Kd.R_below (rz HO_436001.out) hb);have n1_:=Aside0.mk (Kd.R_below (rz HO_436002.out) hb);have n2_:=Aside0.mk (Kd.R_below (rz HO_444001.out) hb);have n3_:=Aside0.mk (Kd.R_below (rz HO_444002.out) hb);have n4_:=Aside0.mk (Kd.R_below (rz HO_453001.out) hb);have n5_:=Aside0.mk (Kd.R_below (rz HO_453002.out) hb);have n6_:=Aside0.mk (blk_below (g:=gb418) (o:=.cells #[.int .i64 a0_0,.slice A0_1 l0_1.length c0_1,.slice A0_2 l0_2.length c0_2] 25 (0,0)) (kz BK418.out) hb);have n7_:=Aside0.mk (blk_below (g:=gb435) (o:=.cells #[.int .i64 t427,.slice Ao23 t428.length co23,.slice Ao24 t431.length co24] 29 (0,0)) (kz BK435.out) hb);have n8_:=Aside0.mk (blk_below (g:=gb443) (o:=.cells #[.int .i64 t436,.slice Ao31 t463.length co31,.slice Ao32 t464.length co32] 29 (0,0)) (kz BK443.out) hb);have n9_:=Aside0.mk (blk_below (g:=gb452) (o:=.cells #[.int .i64 t444,.slice Ao39 t445.length co39,.slice Ao40 t448.length co40] 29 (0,0)) (kz BK452.out) hb);have n10_:=Aside0.mk (below_step bs hb);clear HO_436001 HO_436002 HO_444001 HO_444002 HO_453001 HO_453002 BK418 BK435 BK443 BK452 HB;have HO_436001:=n0_;have HO_436002:=n1_;have HO_444001:=n2_;have HO_444002:=n3_;have HO_453001:=n4_;have HO_453002:=n5_;have BK418:=n6_;have BK435:=n7_;have BK443:=n8_;have BK452:=n9_;have HB:=n10_;clear n0_ n1_ n2_ n3_ n4_ n5_ n6_ n7_ n8_ n9_ n10_;(try clear hb);have hnb116:=NB418_435.out;have hnc116:=NB435_418.out;have hnb117:=NB418_443.out;have hnc117:=NB443_418.out;have hcz118_0 : w115.cell? ⟨gb418,0,none⟩ = some (.int .i64 a0_0):=(blk_cell BK418.out 0).trans rfl;have hcz118_1 : w115.cell? ⟨gb418,1,none⟩ = some (.slice A0_1 l0_1.length c0_1):=(blk_cell BK418.out 1).trans rfl;have hcz118_2 : w115.cell? ⟨gb418,2,none⟩ = some (.slice A0_2 l0_2.length c0_2):=(blk_cell BK418.out 2).trans rfl;have hfz118_0:=blk_frozen BK418.out 0;have hfz118_1:=blk_frozen BK418.out 1;have hfz118_2:=blk_frozen BK418.out 2)|((with_reducible refine gate_callee (f:=12) rfl ?_);refine goesL_ (some 75) rfl rfl Try.func12 (by kernel_rfl) rfl #[.agg #[.int .i64 a0_0,.slice A0_1 l0_1.length c0_1,.slice A0_2 l0_2.length c0_2]] rfl mz ?_;(with_reducible refine (laws_toPlan.calls kj63 a0_0 _ _ l0_1 _ _ l0_2 t470 t471 t474 _ ?side1 ?side2 ?side3 ?side4 A106.out).mono ?_);(case side1=>exact cz (Kd.C_below HR0_1.out HB.out));(case side2=>exact HC0_1.out);(case side3=>exact cz (Kd.C_below HR0_2.out HB.out));(case side4=>exact HC0_2.out);rintro e w119 ⟨v472,v475,rfl,ho0,ho1,hb⟩;refine ⟨_,rfl,?_⟩;have n0_:=Aside0.mk (Kd.R_elder' (rz HO_436001.out) (Kd.R_base ho0) hb);have n1_:=Aside0.mk (Kd.R_elder' (rz HO_436002.out) (Kd.R_base ho1) hb);have n2_:=Aside0.mk (Kd.R_elder' (rz HO_444001.out) (Kd.R_base ho0) hb);have n3_:=Aside0.mk (Kd.R_elder' (rz HO_444002.out) (Kd.R_base ho1) hb);have n4_:=Aside0.mk (Kd.R_elder' (rz HO_453001.out) (Kd.R_base ho0) hb);have n5_:=Aside0.mk (Kd.R_elder' (rz HO_453002.out) (Kd.R_base ho1) hb);have n6_:=Aside0.mk (Kd.R_lower (Kd.R_new' (Kd.R_new' (Kd.R_new' ho0 (Kd.R_lt (rz HO_436001.out))) (Kd.R_lt (rz HO_444001.out))) (Kd.R_lt (rz HO_453001.out))) (below_size bs));have n7_:=Aside0.mk (Kd.R_lower (Kd.R_new' (Kd.R_new' (Kd.R_new' ho1 (Kd.R_lt (rz HO_436002.out))) (Kd.R_lt (rz HO_444002.out))) (Kd.R_lt (rz HO_453002.out))) (below_size bs));have n8_:=Aside0.mk (blk_below (g:=gb418) (o:=.cells #[.int .i64 a0_0,.slice A0_1 l0_1.length c0_1,.slice A0_2 l0_2.length c0_2] 25 (0,0)) (kz BK418.out) hb);have n9_:=Aside0.mk (blk_below (g:=gb435) (o:=.cells #[.int .i64 t427,.slice Ao23 t428.length co23,.slice Ao24 t431.length co24] 29 (0,0)) (kz BK435.out) hb);have n10_:=Aside0.mk (blk_below (g:=gb443) (o:=.cells #[.int .i64 t436,.slice Ao31 t463.length co31,.slice Ao32 t464.length co32] 29 (0,0)) (kz BK443.out) hb);have n11_:=Aside0.mk (blk_below (g:=gb452) (o:=.cells #[.int .i64 t444,.slice Ao39 t445.length co39,.slice Ao40 t448.length co40] 29 (0,0)) (kz BK452.out) hb);have n12_:=Aside0.mk (below_step bs hb);clear HO_436001 HO_436002 HO_444001 HO_444002 HO_453001 HO_453002 BK418 BK435 BK443 BK452 HB;have HO_436001:=n0_;have HO_436002:=n1_;have HO_444001:=n2_;have HO_444002:=n3_;have HO_453001:=n4_;have HO_453002:=n5_;have HO473:=n6_;have HO476:=n7_;have BK418:=n8_;have BK435:=n9_;have BK443:=n10_;have BK452:=n11_;have HB:=n12_;clear n0_ n1_ n2_ n3_ n4_ n5_ n6_ n7_ n8_ n9_ n10_ n11_ n12_;(try clear hb);(try clear ho0);(try clear ho1);obtain ⟨Ao120,co120,eo120⟩:=Kd.R_slice HO473.out;subst eo120;obtain ⟨Ao121,co121,eo121⟩:=Kd.R_slice HO476.out;subst eo121)|((with_reducible refine gate_callee (f:=25) rfl ?_);refine goesL_ (some 76) rfl rfl Try.func25 (by kernel_rfl) rfl #[.agg #[.int .i64 t470,.slice Ao120 t471.length co120,.slice Ao121 t474.length co121]] rfl mz ?_;(with_reducible refine (impl_SharePlan.calls kj63 t470 _ _ t471 _ _ t474 t477 t478 t481 t484 _ ?side1 ?side2 ?side3 ?side4 A107.out).mono ?_);(case side1=>exact cz (Kd.R_reads' HO473.out).2.2);(case side2=>exact (Kd.R_reads' HO473.out).2.1);(case side3=>exact cz (Kd.R_reads' HO476.out).2.2);(case side4=>exact (Kd.R_reads' HO476.out).2.1);rintro e w122 ⟨v479,v482,rfl,ho0,ho1,hb⟩;refine ⟨_,rfl,?_⟩;have n0_:=Aside0.mk (Kd.R_elder' (rz HO_436001.out) (Kd.R_base ho0) hb);have n1_:=Aside0.mk (Kd.R_elder' (rz HO_436002.out) (Kd.R_base ho1) hb);have n2_:=Aside0.mk (Kd.R_elder' (rz HO_444001.out) (Kd.R_base ho0) hb);have n3_:=Aside0.mk (Kd.R_elder' (rz HO_444002.out) (Kd.R_base ho1) hb);have n4_:=Aside0.mk (Kd.R_elder' (rz HO_453001.out) (Kd.R_base ho0) hb);have n5_:=Aside0.mk (Kd.R_elder' (rz HO_453002.out) (Kd.R_base ho1) hb);have n6_:=Aside0.mk (Kd.R_elder' (rz HO473.out) (Kd.R_base ho0) hb);have n7_:=Aside0.mk (Kd.R_elder' (rz HO476.out) (Kd.R_base ho1) hb);have n8_:=Aside0.mk (Kd.R_lower (Kd.R_new' (Kd.R_new' (Kd.R_new' (Kd.R_new' ho0 (Kd.R_lt (rz HO_436001.out))) (Kd.R_lt (rz HO_444001.out))) (Kd.R_lt (rz HO_453001.out))) (Kd.R_lt (rz HO473.out))) (below_size bs));have n9_:=Aside0.mk (Kd.R_lower (Kd.R_new' (Kd.R_new' (Kd.R_new' (Kd.R_new' ho1 (Kd.R_lt (rz HO_436002.out))) (Kd.R_lt (rz HO_444002.out))) (Kd.R_lt (rz HO_453002.out))) (Kd.R_lt (rz HO476.out))) (below_size bs));have n10_:=Aside0.mk (blk_below (g:=gb418) (o:=.cells #[.int .i64 a0_0,.slice A0_1 l0_1.length c0_1,.slice A0_2 l0_2.length c0_2] 25 (0,0)) (kz BK418.out) hb);have n11_:=Aside0.mk (blk_below (g:=gb435) (o:=.cells #[.int .i64 t427,.slice Ao23 t428.length co23,.slice Ao24 t431.length co24] 29 (0,0)) (kz BK435.out) hb);have n12_:=Aside0.mk (blk_below (g:=gb443) (o:=.cells #[.int .i64 t436,.slice Ao31 t463.length co31,.slice Ao32 t464.length co32] 29 (0,0)) (kz BK443.out) hb);have n13_:=Aside0.mk (blk_below (g:=gb452) (o:=.cells #[.int .i64 t444,.slice Ao39 t445.length co39,.slice Ao40 t448.length co40] 29 (0,0)) (kz BK452.out) hb);have n14_:=Aside0.mk (below_step bs hb);clear HO_436001 HO_436002 HO_444001 HO_444002 HO_453001 HO_453002 HO473 HO476 BK418 BK435 BK443 BK452 HB;have HO_436001:=n0_;have HO_436002:=n1_;have HO_444001:=n2_;have HO_444002:=n3_;have HO_453001:=n4_;have HO_453002:=n5_;have HO473:=n6_;have HO476:=n7_;have HO480:=n8_;have HO483:=n9_;have BK418:=n10_;have BK435:=n11_;have BK443:=n12_;have BK452:=n13_;have HB:=n14_;clear n0_ n1_ n2_ n3_ n4_ n5_ n6_ n7_ n8_ n9_ n10_ n11_ n12_ n13_ n14_;(try clear hb);(try clear ho0);(try clear ho1))|((with_reducible refine gate_dst (N:=12) rfl ?_);refine box_event ?hg (N:=12) ?hd (cs:=#[.int .i64 0,.slice none 0 0,.slice none 0 0]) (t:=29) ?hr ?_;(case hd=>rfl);(case hg=>rfl);(case hr=>first|(go_simp;done)|(go_simp;rfl));intro gb485 hg w123 hbox hb;have n0_:=Aside0.mk (Kd.R_below (rz HO_436001.out) hb);have n1_:=Aside0.mk (Kd.R_below (rz HO_436002.out) hb);have n2_:=Aside0.mk (Kd.R_below (rz HO_444001.out) hb);have n3_:=Aside0.mk (Kd.R_below (rz HO_444002.out) hb);have n4_:=Aside0.mk (Kd.R_below (rz HO_453001.out) hb);have n5_:=Aside0.mk (Kd.R_below (rz HO_453002.out) hb);have n6_:=Aside0.mk (Kd.R_below (rz HO473.out) hb);have n7_:=Aside0.mk (Kd.R_below (rz HO476.out) hb);have n8_:=Aside0.mk (Kd.R_below (rz HO480.out) hb);have n9_:=Aside0.mk (Kd.R_below (rz HO483.out) hb);have n10_:=Aside0.mk (blk_below (g:=gb418) (o:=.cells #[.int .i64 a0_0,.slice A0_1 l0_1.length c0_1,.slice A0_2 l0_2.length c0_2] 25 (0,0)) (kz BK418.out) hb);have n11_:=Aside0.mk (blk_below (g:=gb435) (o:=.cells #[.int .i64 t427,.slice Ao23 t428.length co23,.slice Ao24 t431.length co24] 29 (0,0)) (kz BK435.out) hb);have n12_:=Aside0.mk (blk_below (g:=gb443) (o:=.cells #[.int .i64 t436,.slice Ao31 t463.length co31,.slice Ao32 t464.length co32] 29 (0,0)) (kz BK443.out) hb);have n13_:=Aside0.mk (blk_below (g:=gb452) (o:=.cells #[.int .i64 t444,.slice Ao39 t445.length co39,.slice Ao40 t448.length co40] 29 (0,0)) (kz BK452.out) hb);have n14_:=Aside0.mk (below_step bs hb);have n15_:=Aside0.mk (hbox);have n16_:=Aside0.mk ((by rw [hg];exact (below_size bs) : w.heap.size ≤ gb485));have n17_:=Aside0.mk ((by rw [hg];exact (below_size bs) : w.heap.size ≤ gb485));have n18_:=Aside0.mk ((by rw [hg];exact Nat.ne_of_lt (blk_lt (g:=gb418) (o:=.cells #[.int .i64 a0_0,.slice A0_1 l0_1.length c0_1,.slice A0_2 l0_2.length c0_2] 25 (0,0)) (kz BK418.out)) : gb418 ≠ gb485));have n19_:=Aside0.mk ((by rw [hg];exact Nat.ne_of_gt (blk_lt (g:=gb418) (o:=.cells #[.int .i64 a0_0,.slice A0_1 l0_1.length c0_1,.slice A0_2 l0_2.length c0_2] 25 (0,0)) (kz BK418.out)) : gb485 ≠ gb418));have n20_:=Aside0.mk ((by rw [hg];exact Nat.ne_of_lt (blk_lt (g:=gb435) (o:=.cells #[.int .i64 t427,.slice Ao23 t428.length co23,.slice Ao24 t431.length co24] 29 (0,0)) (kz BK435.out)) : gb435 ≠ gb485));have n21_:=Aside0.mk ((by rw [hg];exact Nat.ne_of_gt (blk_lt (g:=gb435) (o:=.cells #[.int .i64 t427,.slice Ao23 t428.length co23,.slice Ao24 t431.length co24] 29 (0,0)) (kz BK435.out)) : gb485 ≠ gb435));have n22_:=Aside0.mk ((by rw [hg];exact Nat.ne_of_lt (blk_lt (g:=gb443) (o:=.cells #[.int .i64 t436,.slice Ao31 t463.length co31,.slice Ao32 t464.length co32] 29 (0,0)) (kz BK443.out)) : gb443 ≠ gb485));have n23_:=Aside0.mk ((by rw [hg];exact Nat.ne_of_gt (blk_lt (g:=gb443) (o:=.cells #[.int .i64 t436,.slice Ao31 t463.length co31,.slice Ao32 t464.length co32] 29 (0,0)) (kz BK443.out)) : gb485 ≠ gb443));have n24_:=Aside0.mk ((by rw [hg];exact Nat.ne_of_lt (blk_lt (g:=gb452) (o:=.cells #[.int .i64 t444,.slice Ao39 t445.length co39,.slice Ao40 t448.length co40] 29 (0,0)) (kz BK452.out)) : gb452 ≠ gb485));have n25_:=Aside0.mk ((by rw [hg];exact Nat.ne_of_gt (blk_lt (g:=gb452) (o:=.cells #[.int .i64 t444,.slice Ao39 t445.length co39,.slice Ao40 t448.length co40] 29 (0,0)) (kz BK452.out)) : gb485 ≠ gb452));clear HO_436001 HO_436002 HO_444001 HO_444002 HO_453001 HO_453002 HO473 HO476 HO480 HO483 BK418 BK435 BK443 BK452 HB;have HO_436001:=n0_;have HO_436002:=n1_;have HO_444001:=n2_;have HO_444002:=n3_;have HO_453001:=n4_;have HO_453002:=n5_;have HO473:=n6_;have HO476:=n7_;have HO480:=n8_;have HO483:=n9_;have BK418:=n10_;have BK435:=n11_;have BK443:=n12_;have BK452:=n13_;have HB:=n14_;have BK485:=n15_;have GW485:=n16_;have GE485:=n17_;have NB418_485:=n18_;have NB485_418:=n19_;have NB435_485:=n20_;have NB485_435:=n21_;have NB443_485:=n22_;have NB485_443:=n23_;have NB452_485:=n24_;have NB485_452:=n25_;clear n0_ n1_ n2_ n3_ n4_ n5_ n6_ n7_ n8_ n9_ n10_ n11_ n12_ n13_ n14_ n15_ n16_ n17_ n18_ n19_ n20_ n21_ n22_ n23_ n24_ n25_;clear hb hbox hg;have hnb124:=NB485_418.out;have hnc124:=NB418_485.out;have hnb125:=NB485_435.out;have hnc125:=NB435_485.out;have hnb126:=NB485_443.out;have hnc126:=NB443_485.out;have hnb127:=NB485_452.out;have hnc127:=NB452_485.out;have hcz128_0 : w123.cell? ⟨gb485,0,none⟩ = some (.int .i64 0):=(blk_cell BK485.out 0).trans rfl;have hcz128_1 : w123.cell? ⟨gb485,1,none⟩ = some (.slice none 0 0):=(blk_cell BK485.out 1).trans rfl;have hcz128_2 : w123.cell? ⟨gb485,2,none⟩ = some (.slice none 0 0):=(blk_cell BK485.out 2).trans rfl;have hfz128_0:=blk_frozen BK485.out 0;have hfz128_1:=blk_frozen BK485.out 1;have hfz128_2:=blk_frozen BK485.out 2;obtain ⟨Ao129,co129,eo129⟩:=Kd.R_slice HO480.out;subst eo129;obtain ⟨Ao130,co130,eo130⟩:=Kd.R_slice HO483.out;subst eo130))
           (try simp only [Act.put,List.setIfInBounds_toArray,List.set_cons_zero,List.set_cons_succ])
           go_cut [87] (fun v87 wc=>∃ (kq : Nat) (x87_107 : Bool),v87 = .bool x87_107 ∧ Aside0 (laws_FnExactSharePlan.j2 kq t466 x87_107 t444 t467 t468 = some r) ∧ Aside0 (kq ≤ kj63) ∧ Aside0 (Kd.R k73 73 wc w.heap.size (fun k_=>some k_ ≠ ((.slice Ao31 t463.length co31) : Value).ownBlock ∧ some k_ ≠ ((.slice Ao39 t445.length co39) : Value).ownBlock ∧ some k_ ≠ ((.slice Ao129 t478.length co129) : Value).ownBlock) (.slice Ao23 t428.length co23) t428) ∧ Aside0 (Kd.R (Kd.int .i64) 3 wc w.heap.size (fun k_=>some k_ ≠ ((.slice Ao32 t464.length co32) : Value).ownBlock ∧ some k_ ≠ ((.slice Ao40 t448.length co40) : Value).ownBlock ∧ some k_ ≠ ((.slice Ao130 t481.length co130) : Value).ownBlock) (.slice Ao24 t431.length co24) t431) ∧ Aside0 (Kd.R k73 73 wc w.heap.size (fun k_=>some k_ ≠ ((.slice Ao23 t428.length co23) : Value).ownBlock ∧ some k_ ≠ ((.slice Ao39 t445.length co39) : Value).ownBlock ∧ some k_ ≠ ((.slice Ao129 t478.length co129) : Value).ownBlock) (.slice Ao31 t463.length co31) t463) ∧ Aside0 (Kd.R (Kd.int .i64) 3 wc w.heap.size (fun k_=>some k_ ≠ ((.slice Ao24 t431.length co24) : Value).ownBlock ∧ some k_ ≠ ((.slice Ao40 t448.length co40) : Value).ownBlock ∧ some k_ ≠ ((.slice Ao130 t481.length co130) : Value).ownBlock) (.slice Ao32 t464.length co32) t464) ∧ Aside0 (Kd.R k73 73 wc w.heap.size (fun k_=>some k_ ≠ ((.slice Ao23 t428.length co23) : Value).ownBlock ∧ some k_ ≠ ((.slice Ao31 t463.length co31) : Value).ownBlock ∧ some k_ ≠ ((.slice Ao129 t478.length co129) : Value).ownBlock) (.slice Ao39 t445.length co39) t467) ∧ Aside0 (Kd.R (Kd.int .i64) 3 wc w.heap.size (fun k_=>some k_ ≠ ((.slice Ao24 t431.length co24) : Value).ownBlock ∧ some k_ ≠ ((.slice Ao32 t464.length co32) : Value).ownBlock ∧ some k_ ≠ ((.slice Ao130 t481.length co130) : Value).ownBlock) (.slice Ao40 t448.length co40) t468) ∧ Aside0 (Kd.R k73 73 wc w.heap.size (fun k_=>some k_ ≠ ((.slice Ao23 t428.length co23) : Value).ownBlock ∧ some k_ ≠ ((.slice Ao31 t463.length co31) : Value).ownBlock ∧ some k_ ≠ ((.slice Ao39 t445.length co39) : Value).ownBlock) (.slice Ao129 t478.length co129) t478) ∧ Aside0 (Kd.R (Kd.int .i64) 3 wc w.heap.size (fun k_=>some k_ ≠ ((.slice Ao24 t431.length co24) : Value).ownBlock ∧ some k_ ≠ ((.slice Ao32 t464.length co32) : Value).ownBlock ∧ some k_ ≠ ((.slice Ao40 t448.length co40) : Value).ownBlock) (.slice Ao130 t481.length co130) t481) ∧ Aside0 (wc.heap[gb418]? = some (.cells #[.int .i64 a0_0,(.slice A0_1 l0_1.length c0_1),(.slice A0_2 l0_2.length c0_2)] 25 (0,0))) ∧ Aside0 (wc.heap[gb435]? = some (.cells #[.int .i64 t427,(.slice Ao23 t428.length co23),(.slice Ao24 t431.length co24)] 29 (0,0))) ∧ Aside0 (wc.heap[gb443]? = some (.cells #[.int .i64 t436,(.slice Ao31 t463.length co31),(.slice Ao32 t464.length co32)] 29 (0,0))) ∧ Aside0 (wc.heap[gb452]? = some (.cells #[.int .i64 t444,(.slice Ao39 t445.length co39),(.slice Ao40 t448.length co40)] 29 (0,0))) ∧ Aside0 (wc.heap[gb485]? = some (.cells #[.int .i64 t477,(.slice Ao129 t478.length co129),(.slice Ao130 t481.length co130)] 29 (0,0))) ∧ Aside0 (Below w.heap.size w wc))
           case first=>
            have H:=HC108.out
            clear HC108
            replace H:=Option.bind_eq_some_iff.mp H
            obtain ⟨t486,A1310,H⟩:=H
            replace H : (if t486 = true then (laws_FnExactSharePlan.j2 kj63 t466 (t484 != t434) t444 t467 t468) else (laws_FnExactSharePlan.j2 kj63 t466 true t444 t467 t468)) = some r:=H
            have A131:=Aside0.mk A1310
            clear A1310
            by_cases c132 : t486 = true
            ·subst c132
             have H1 : (laws_FnExactSharePlan.j2 kj63 t466 (t484 != t434) t444 t467 t468) = some r:=by rw [if_pos rfl] at H;exact H
             clear H
             have H:=H1
             clear H1
             have H':=Aside0.mk H
             clear H
             have hnb133:=NB485_418.out
             have hnc133:=NB418_485.out
             have hnb134:=NB485_435.out
             have hnc134:=NB435_485.out
             have hnb135:=NB485_443.out
             have hnc135:=NB443_485.out
             have hnb136:=NB485_452.out
             have hnc136:=NB452_485.out
             have hcz137_0 : w123.cell? ⟨gb485,0,none⟩ = some (.int .i64 0):=(blk_cell BK485.out 0).trans rfl
             have hcz137_1 : w123.cell? ⟨gb485,1,none⟩ = some (.slice none 0 0):=(blk_cell BK485.out 1).trans rfl
             have hcz137_2 : w123.cell? ⟨gb485,2,none⟩ = some (.slice none 0 0):=(blk_cell BK485.out 2).trans rfl
             have hfz137_0:=blk_frozen BK485.out 0
             have hfz137_1:=blk_frozen BK485.out 1
             have hfz137_2:=blk_frozen BK485.out 2
             have hnb138:=NB435_418.out
             have hnc138:=NB418_435.out
             have hnb139:=NB435_443.out
             have hnc139:=NB443_435.out
             have hnb140:=NB435_452.out
             have hnc140:=NB452_435.out
             have hcz141_0 : w123.cell? ⟨gb435,0,none⟩ = some (.int .i64 t427):=(blk_cell BK435.out 0).trans rfl
             have hcz141_1 : w123.cell? ⟨gb435,1,none⟩ = some (.slice Ao23 t428.length co23):=(blk_cell BK435.out 1).trans rfl
             have hcz141_2 : w123.cell? ⟨gb435,2,none⟩ = some (.slice Ao24 t431.length co24):=(blk_cell BK435.out 2).trans rfl
             have hfz141_0:=blk_frozen BK435.out 0
             have hfz141_1:=blk_frozen BK435.out 1
             have hfz141_2:=blk_frozen BK435.out 2
             go_wp2_with (first|((with_reducible refine gate_callee (f:=14) rfl ?_);refine goesL_ (some 81) rfl rfl Try.func14 (by kernel_rfl) rfl #[.agg #[.int .i64 t477,.slice Ao129 t478.length co129,.slice Ao130 t481.length co130],.agg #[.int .i64 t427,.slice Ao23 t428.length co23,.slice Ao24 t431.length co24]] rfl mz ?_;(with_reducible refine (laws_eqPlan.calls kj63 t477 _ _ t478 _ _ t481 t427 _ _ t428 _ _ t431 true _ ?side1 ?side2 ?side3 ?side4 ?side5 ?side6 ?side7 ?side8 A131.out).mono ?_);(case side1=>refine (Kd.R_reads' (e:=73) (base:=w.heap.size) (ok:=fun k_=>((((True ∧ some k_ ≠ (.slice Ao23 t428.length co23 : Value).ownBlock) ∧ some k_ ≠ (.slice Ao31 t463.length co31 : Value).ownBlock) ∧ some k_ ≠ (.slice Ao39 t445.length co39 : Value).ownBlock) ∧ some k_ ≠ (.slice Ao120 t471.length co120 : Value).ownBlock)) (n:=t478.length) (c:=co129) ?_).2.2;exact (by (with_reducible repeat (first|apply Kd.R_alloc|apply Kd.R_drewN|apply Kd.R_drew));exact (Kd.R_mono (Kd.R_far (p:=⟨gb485,2,none⟩) (Kd.R_far (p:=⟨gb485,1,none⟩) (Kd.R_far (p:=⟨gb485,0,none⟩) (Kd.R_types HO480.out BK485.out (by decide)) (fun _ hk=>hk.2) (.int .i64 t477)) (fun _ hk=>hk.2) (.slice Ao129 t478.length co129)) (fun _ hk=>hk.2) (.slice Ao130 t481.length co130)) (fun _ h_=>h_.1))));(case side2=>exact (Kd.R_reads' HO480.out).2.1);(case side3=>refine (Kd.R_reads' (e:=3) (base:=w.heap.size) (ok:=fun k_=>((((True ∧ some k_ ≠ (.slice Ao24 t431.length co24 : Value).ownBlock) ∧ some k_ ≠ (.slice Ao32 t464.length co32 : Value).ownBlock) ∧ some k_ ≠ (.slice Ao40 t448.length co40 : Value).ownBlock) ∧ some k_ ≠ (.slice Ao121 t474.length co121 : Value).ownBlock)) (n:=t481.length) (c:=co130) ?_).2.2;exact (by (with_reducible repeat (first|apply Kd.R_alloc|apply Kd.R_drewN|apply Kd.R_drew));exact (Kd.R_mono (Kd.R_far (p:=⟨gb485,2,none⟩) (Kd.R_far (p:=⟨gb485,1,none⟩) (Kd.R_far (p:=⟨gb485,0,none⟩) (Kd.R_types HO483.out BK485.out (by decide)) (fun _ hk=>hk.2) (.int .i64 t477)) (fun _ hk=>hk.2) (.slice Ao129 t478.length co129)) (fun _ hk=>hk.2) (.slice Ao130 t481.length co130)) (fun _ h_=>h_.1))));(case side4=>exact (Kd.R_reads' HO483.out).2.1);(case side5=>refine (Kd.R_reads' (e:=73) (base:=w.heap.size) (ok:=fun k_=>(((some k_ ≠ (.slice Ao31 t463.length co31 : Value).ownBlock ∧ some k_ ≠ (.slice Ao39 t445.length co39 : Value).ownBlock) ∧ some k_ ≠ (.slice Ao120 t471.length co120 : Value).ownBlock) ∧ some k_ ≠ (.slice Ao129 t478.length co129 : Value).ownBlock)) (n:=t428.length) (c:=co23) ?_).2.2;exact (by (with_reducible repeat (first|apply Kd.R_alloc|apply Kd.R_drewN|apply Kd.R_drew));exact (Kd.R_mono (Kd.R_far (p:=⟨gb485,2,none⟩) (Kd.R_far (p:=⟨gb485,1,none⟩) (Kd.R_far (p:=⟨gb485,0,none⟩) (Kd.R_types HO_436001.out BK485.out (by decide)) (fun _ hk=>hk.2) (.int .i64 t477)) (fun _ hk=>hk.2) (.slice Ao129 t478.length co129)) (fun _ hk=>hk.2) (.slice Ao130 t481.length co130)) (fun _ h_=>h_.1))));(case side6=>exact (Kd.R_reads' HO_436001.out).2.1);(case side7=>refine (Kd.R_reads' (e:=3) (base:=w.heap.size) (ok:=fun k_=>(((some k_ ≠ (.slice Ao32 t464.length co32 : Value).ownBlock ∧ some k_ ≠ (.slice Ao40 t448.length co40 : Value).ownBlock) ∧ some k_ ≠ (.slice Ao121 t474.length co121 : Value).ownBlock) ∧ some k_ ≠ (.slice Ao130 t481.length co130 : Value).ownBlock)) (n:=t431.length) (c:=co24) ?_).2.2;exact (by (with_reducible repeat (first|apply Kd.R_alloc|apply Kd.R_drewN|apply Kd.R_drew));exact (Kd.R_mono (Kd.R_far (p:=⟨gb485,2,none⟩) (Kd.R_far (p:=⟨gb485,1,none⟩) (Kd.R_far (p:=⟨gb485,0,none⟩) (Kd.R_types HO_436002.out BK485.out (by decide)) (fun _ hk=>hk.2) (.int .i64 t477)) (fun _ hk=>hk.2) (.slice Ao129 t478.length co129)) (fun _ hk=>hk.2) (.slice Ao130 t481.length co130)) (fun _ h_=>h_.1))));(case side8=>exact (Kd.R_reads' HO_436002.out).2.1);rintro e w142 ⟨rfl,hb⟩;refine ⟨_,rfl,?_⟩;have n0_:=Aside0.mk (Kd.R_below (by (with_reducible repeat (first|apply Kd.R_alloc|apply Kd.R_drewN|apply Kd.R_drew));exact (Kd.R_mono (Kd.R_far (p:=⟨gb485,2,none⟩) (Kd.R_far (p:=⟨gb485,1,none⟩) (Kd.R_far (p:=⟨gb485,0,none⟩) (Kd.R_types HO_436001.out BK485.out (by decide)) (fun _ hk=>hk.2) (.int .i64 t477)) (fun _ hk=>hk.2) (.slice Ao129 t478.length co129)) (fun _ hk=>hk.2) (.slice Ao130 t481.length co130)) (fun _ h_=>h_.1))) hb);have n1_:=Aside0.mk (Kd.R_below (by (with_reducible repeat (first|apply Kd.R_alloc|apply Kd.R_drewN|apply Kd.R_drew));exact (Kd.R_mono (Kd.R_far (p:=⟨gb485,2,none⟩) (Kd.R_far (p:=⟨gb485,1,none⟩) (Kd.R_far (p:=⟨gb485,0,none⟩) (Kd.R_types HO_436002.out BK485.out (by decide)) (fun _ hk=>hk.2) (.int .i64 t477)) (fun _ hk=>hk.2) (.slice Ao129 t478.length co129)) (fun _ hk=>hk.2) (.slice Ao130 t481.length co130)) (fun _ h_=>h_.1))) hb);have n2_:=Aside0.mk (Kd.R_below (by (with_reducible repeat (first|apply Kd.R_alloc|apply Kd.R_drewN|apply Kd.R_drew));exact (Kd.R_mono (Kd.R_far (p:=⟨gb485,2,none⟩) (Kd.R_far (p:=⟨gb485,1,none⟩) (Kd.R_far (p:=⟨gb485,0,none⟩) (Kd.R_types HO_444001.out BK485.out (by decide)) (fun _ hk=>hk.2) (.int .i64 t477)) (fun _ hk=>hk.2) (.slice Ao129 t478.length co129)) (fun _ hk=>hk.2) (.slice Ao130 t481.length co130)) (fun _ h_=>h_.1))) hb);have n3_:=Aside0.mk (Kd.R_below (by (with_reducible repeat (first|apply Kd.R_alloc|apply Kd.R_drewN|apply Kd.R_drew));exact (Kd.R_mono (Kd.R_far (p:=⟨gb485,2,none⟩) (Kd.R_far (p:=⟨gb485,1,none⟩) (Kd.R_far (p:=⟨gb485,0,none⟩) (Kd.R_types HO_444002.out BK485.out (by decide)) (fun _ hk=>hk.2) (.int .i64 t477)) (fun _ hk=>hk.2) (.slice Ao129 t478.length co129)) (fun _ hk=>hk.2) (.slice Ao130 t481.length co130)) (fun _ h_=>h_.1))) hb);have n4_:=Aside0.mk (Kd.R_below (by (with_reducible repeat (first|apply Kd.R_alloc|apply Kd.R_drewN|apply Kd.R_drew));exact (Kd.R_mono (Kd.R_far (p:=⟨gb485,2,none⟩) (Kd.R_far (p:=⟨gb485,1,none⟩) (Kd.R_far (p:=⟨gb485,0,none⟩) (Kd.R_types HO_453001.out BK485.out (by decide)) (fun _ hk=>hk.2) (.int .i64 t477)) (fun _ hk=>hk.2) (.slice Ao129 t478.length co129)) (fun _ hk=>hk.2) (.slice Ao130 t481.length co130)) (fun _ h_=>h_.1))) hb);have n5_:=Aside0.mk (Kd.R_below (by (with_reducible repeat (first|apply Kd.R_alloc|apply Kd.R_drewN|apply Kd.R_drew));exact (Kd.R_mono (Kd.R_far (p:=⟨gb485,2,none⟩) (Kd.R_far (p:=⟨gb485,1,none⟩) (Kd.R_far (p:=⟨gb485,0,none⟩) (Kd.R_types HO_453002.out BK485.out (by decide)) (fun _ hk=>hk.2) (.int .i64 t477)) (fun _ hk=>hk.2) (.slice Ao129 t478.length co129)) (fun _ hk=>hk.2) (.slice Ao130 t481.length co130)) (fun _ h_=>h_.1))) hb);have n6_:=Aside0.mk (Kd.R_below (by (with_reducible repeat (first|apply Kd.R_alloc|apply Kd.R_drewN|apply Kd.R_drew));exact (Kd.R_mono (Kd.R_far (p:=⟨gb485,2,none⟩) (Kd.R_far (p:=⟨gb485,1,none⟩) (Kd.R_far (p:=⟨gb485,0,none⟩) (Kd.R_types HO473.out BK485.out (by decide)) (fun _ hk=>hk.2) (.int .i64 t477)) (fun _ hk=>hk.2) (.slice Ao129 t478.length co129)) (fun _ hk=>hk.2) (.slice Ao130 t481.length co130)) (fun _ h_=>h_.1))) hb);have n7_:=Aside0.mk (Kd.R_below (by (with_reducible repeat (first|apply Kd.R_alloc|apply Kd.R_drewN|apply Kd.R_drew));exact (Kd.R_mono (Kd.R_far (p:=⟨gb485,2,none⟩) (Kd.R_far (p:=⟨gb485,1,none⟩) (Kd.R_far (p:=⟨gb485,0,none⟩) (Kd.R_types HO476.out BK485.out (by decide)) (fun _ hk=>hk.2) (.int .i64 t477)) (fun _ hk=>hk.2) (.slice Ao129 t478.length co129)) (fun _ hk=>hk.2) (.slice Ao130 t481.length co130)) (fun _ h_=>h_.1))) hb);have n8_:=Aside0.mk (Kd.R_below (by (with_reducible repeat (first|apply Kd.R_alloc|apply Kd.R_drewN|apply Kd.R_drew));exact (Kd.R_mono (Kd.R_far (p:=⟨gb485,2,none⟩) (Kd.R_far (p:=⟨gb485,1,none⟩) (Kd.R_far (p:=⟨gb485,0,none⟩) (Kd.R_types HO480.out BK485.out (by decide)) (fun _ hk=>hk.2) (.int .i64 t477)) (fun _ hk=>hk.2) (.slice Ao129 t478.length co129)) (fun _ hk=>hk.2) (.slice Ao130 t481.length co130)) (fun _ h_=>h_.1))) hb);have n9_:=Aside0.mk (Kd.R_below (by (with_reducible repeat (first|apply Kd.R_alloc|apply Kd.R_drewN|apply Kd.R_drew));exact (Kd.R_mono (Kd.R_far (p:=⟨gb485,2,none⟩) (Kd.R_far (p:=⟨gb485,1,none⟩) (Kd.R_far (p:=⟨gb485,0,none⟩) (Kd.R_types HO483.out BK485.out (by decide)) (fun _ hk=>hk.2) (.int .i64 t477)) (fun _ hk=>hk.2) (.slice Ao129 t478.length co129)) (fun _ hk=>hk.2) (.slice Ao130 t481.length co130)) (fun _ h_=>h_.1))) hb);have n10_:=Aside0.mk (blk_below (g:=gb418) (o:=.cells #[.int .i64 a0_0,.slice A0_1 l0_1.length c0_1,.slice A0_2 l0_2.length c0_2] 25 (0,0)) (by (with_reducible repeat (first|refine blk_drewN ?_ _|refine blk_drew ?_|refine blk_alloc ?_ _));refine blk_far ?_ NB418_485.out _;(with_reducible repeat (first|refine blk_drewN ?_ _|refine blk_drew ?_|refine blk_alloc ?_ _));refine blk_far ?_ NB418_485.out _;(with_reducible repeat (first|refine blk_drewN ?_ _|refine blk_drew ?_|refine blk_alloc ?_ _));refine blk_far ?_ NB418_485.out _;(with_reducible repeat (first|refine blk_drewN ?_ _|refine blk_drew ?_|refine blk_alloc ?_ _));exact BK418.out) hb);have n11_:=Aside0.mk (blk_below (g:=gb435) (o:=.cells #[.int .i64 t427,.slice Ao23 t428.length co23,.slice Ao24 t431.length co24] 29 (0,0)) (by (with_reducible repeat (first|refine blk_drewN ?_ _|refine blk_drew ?_|refine blk_alloc ?_ _));refine blk_far ?_ NB435_485.out _;(with_reducible repeat (first|refine blk_drewN ?_ _|refine blk_drew ?_|refine blk_alloc ?_ _));refine blk_far ?_ NB435_485.out _;(with_reducible repeat (first|refine blk_drewN ?_ _|refine blk_drew ?_|refine blk_alloc ?_ _));refine blk_far ?_ NB435_485.out _;(with_reducible repeat (first|refine blk_drewN ?_ _|refine blk_drew ?_|refine blk_alloc ?_ _));exact BK435.out) hb);have n12_:=Aside0.mk (blk_below (g:=gb443) (o:=.cells #[.int .i64 t436,.slice Ao31 t463.length co31,.slice Ao32 t464.length co32] 29 (0,0)) (by (with_reducible repeat (first|refine blk_drewN ?_ _|refine blk_drew ?_|refine blk_alloc ?_ _));refine blk_far ?_ NB443_485.out _;(with_reducible repeat (first|refine blk_drewN ?_ _|refine blk_drew ?_|refine blk_alloc ?_ _));refine blk_far ?_ NB443_485.out _;(with_reducible repeat (first|refine blk_drewN ?_ _|refine blk_drew ?_|refine blk_alloc ?_ _));refine blk_far ?_ NB443_485.out _;(with_reducible repeat (first|refine blk_drewN ?_ _|refine blk_drew ?_|refine blk_alloc ?_ _));exact BK443.out) hb);have n13_:=Aside0.mk (blk_below (g:=gb452) (o:=.cells #[.int .i64 t444,.slice Ao39 t445.length co39,.slice Ao40 t448.length co40] 29 (0,0)) (by (with_reducible repeat (first|refine blk_drewN ?_ _|refine blk_drew ?_|refine blk_alloc ?_ _));refine blk_far ?_ NB452_485.out _;(with_reducible repeat (first|refine blk_drewN ?_ _|refine blk_drew ?_|refine blk_alloc ?_ _));refine blk_far ?_ NB452_485.out _;(with_reducible repeat (first|refine blk_drewN ?_ _|refine blk_drew ?_|refine blk_alloc ?_ _));refine blk_far ?_ NB452_485.out _;(with_reducible repeat (first|refine blk_drewN ?_ _|refine blk_drew ?_|refine blk_alloc ?_ _));exact BK452.out) hb);have n14_:=Aside0.mk (blk_below (g:=gb485) (o:=.cells #[.int .i64 t477,.slice Ao129 t478.length co129,.slice Ao130 t481.length co130] 29 (0,0)) (by (with_reducible repeat (first|refine blk_drewN ?_ _|refine blk_drew ?_|refine blk_alloc ?_ _));refine blk_put (cs:=#[.int .i64 t477,.slice Ao129 t478.length co129,.slice none 0 0]) ?_ 2 _ rfl;(with_reducible repeat (first|refine blk_drewN ?_ _|refine blk_drew ?_|refine blk_alloc ?_ _));refine blk_put (cs:=#[.int .i64 t477,.slice none 0 0,.slice none 0 0]) ?_ 1 _ rfl;(with_reducible repeat (first|refine blk_drewN ?_ _|refine blk_drew ?_|refine blk_alloc ?_ _));refine blk_put (cs:=#[.int .i64 0,.slice none 0 0,.slice none 0 0]) ?_ 0 _ rfl;(with_reducible repeat (first|refine blk_drewN ?_ _|refine blk_drew ?_|refine blk_alloc ?_ _));exact BK485.out) hb);have n15_:=Aside0.mk (below_step bs hb);clear HO_436001 HO_436002 HO_444001 HO_444002 HO_453001 HO_453002 HO473 HO476 HO480 HO483 BK418 BK435 BK443 BK452 BK485 HB;have HO_436001:=n0_;have HO_436002:=n1_;have HO_444001:=n2_;have HO_444002:=n3_;have HO_453001:=n4_;have HO_453002:=n5_;have HO473:=n6_;have HO476:=n7_;have HO480:=n8_;have HO483:=n9_;have BK418:=n10_;have BK435:=n11_;have BK443:=n12_;have BK452:=n13_;have BK485:=n14_;have HB:=n15_;clear n0_ n1_ n2_ n3_ n4_ n5_ n6_ n7_ n8_ n9_ n10_ n11_ n12_ n13_ n14_ n15_;(try clear hb)))
             go_meet
             case rel=>exact ⟨_,((t484 != t434)),fz,H',⟨by have:=HJ10.out;have:=HJ63.out;first|omega|exact Nat.le_refl _⟩,⟨by (try simp only [hl444001_63]);(try simp only [hl444002_63]);(with_reducible repeat (first|apply Kd.R_alloc|apply Kd.R_drewN|apply Kd.R_drew));exact Kd.R_mono HO_436001.out (fun _ hk=>⟨hk.1.1.1,⟨hk.1.1.2,hk.2⟩⟩)⟩,⟨by (try simp only [hl444001_63]);(try simp only [hl444002_63]);(with_reducible repeat (first|apply Kd.R_alloc|apply Kd.R_drewN|apply Kd.R_drew));exact Kd.R_mono HO_436002.out (fun _ hk=>⟨hk.1.1.1,⟨hk.1.1.2,hk.2⟩⟩)⟩,⟨by (try simp only [hl444001_63]);(try simp only [hl444002_63]);(with_reducible repeat (first|apply Kd.R_alloc|apply Kd.R_drewN|apply Kd.R_drew));exact Kd.R_mono HO_444001.out (fun _ hk=>⟨hk.1.1.1,⟨hk.1.1.2,hk.2⟩⟩)⟩,⟨by (try simp only [hl444001_63]);(try simp only [hl444002_63]);(with_reducible repeat (first|apply Kd.R_alloc|apply Kd.R_drewN|apply Kd.R_drew));exact Kd.R_mono HO_444002.out (fun _ hk=>⟨hk.1.1.1,⟨hk.1.1.2,hk.2⟩⟩)⟩,⟨by (try simp only [hl444001_63]);(try simp only [hl444002_63]);(with_reducible repeat (first|apply Kd.R_alloc|apply Kd.R_drewN|apply Kd.R_drew));exact Kd.R_mono HO_453001.out (fun _ hk=>⟨hk.1.1.1,⟨hk.1.1.2,hk.2⟩⟩)⟩,⟨by (try simp only [hl444001_63]);(try simp only [hl444002_63]);(with_reducible repeat (first|apply Kd.R_alloc|apply Kd.R_drewN|apply Kd.R_drew));exact Kd.R_mono HO_453002.out (fun _ hk=>⟨hk.1.1.1,⟨hk.1.1.2,hk.2⟩⟩)⟩,⟨by (try simp only [hl444001_63]);(try simp only [hl444002_63]);(with_reducible repeat (first|apply Kd.R_alloc|apply Kd.R_drewN|apply Kd.R_drew));exact Kd.R_mono HO480.out (fun _ hk=>⟨hk.1.1.1.2,⟨hk.1.1.2,hk.1.2⟩⟩)⟩,⟨by (try simp only [hl444001_63]);(try simp only [hl444002_63]);(with_reducible repeat (first|apply Kd.R_alloc|apply Kd.R_drewN|apply Kd.R_drew));exact Kd.R_mono HO483.out (fun _ hk=>⟨hk.1.1.1.2,⟨hk.1.1.2,hk.1.2⟩⟩)⟩,⟨by (try simp only [hl444001_63]);(try simp only [hl444002_63]);(with_reducible repeat (first|refine blk_drewN ?_ _|refine blk_drew ?_|refine blk_alloc ?_ _));exact BK418.out⟩,⟨by (try simp only [hl444001_63]);(try simp only [hl444002_63]);(with_reducible repeat (first|refine blk_drewN ?_ _|refine blk_drew ?_|refine blk_alloc ?_ _));exact BK435.out⟩,⟨by (try simp only [hl444001_63]);(try simp only [hl444002_63]);(with_reducible repeat (first|refine blk_drewN ?_ _|refine blk_drew ?_|refine blk_alloc ?_ _));exact BK443.out⟩,⟨by (try simp only [hl444001_63]);(try simp only [hl444002_63]);(with_reducible repeat (first|refine blk_drewN ?_ _|refine blk_drew ?_|refine blk_alloc ?_ _));exact BK452.out⟩,⟨by (try simp only [hl444001_63]);(try simp only [hl444002_63]);(with_reducible repeat (first|refine blk_drewN ?_ _|refine blk_drew ?_|refine blk_alloc ?_ _));exact BK485.out⟩,⟨by repeat (first|(with_reducible first|exact HB.out|apply below_alloc|apply pw_below_drewN|apply below_drew1|refine below_set ?_ GE418.out|refine below_set ?_ GE435.out|refine below_set ?_ GE443.out|refine below_set ?_ GE452.out|refine below_set ?_ GE485.out)|exact HB.out)⟩⟩
            ·replace c132:=Bool.eq_false_iff.mpr c132
             subst c132
             have H1 : (laws_FnExactSharePlan.j2 kj63 t466 true t444 t467 t468) = some r:=by rw [if_neg (show ¬ (false = true) by decide)] at H;exact H
             clear H
             have H:=H1
             clear H1
             have H':=Aside0.mk H
             clear H
             have hnb143:=NB485_418.out
             have hnc143:=NB418_485.out
             have hnb144:=NB485_435.out
             have hnc144:=NB435_485.out
             have hnb145:=NB485_443.out
             have hnc145:=NB443_485.out
             have hnb146:=NB485_452.out
             have hnc146:=NB452_485.out
             have hcz147_0 : w123.cell? ⟨gb485,0,none⟩ = some (.int .i64 0):=(blk_cell BK485.out 0).trans rfl
             have hcz147_1 : w123.cell? ⟨gb485,1,none⟩ = some (.slice none 0 0):=(blk_cell BK485.out 1).trans rfl
             have hcz147_2 : w123.cell? ⟨gb485,2,none⟩ = some (.slice none 0 0):=(blk_cell BK485.out 2).trans rfl
             have hfz147_0:=blk_frozen BK485.out 0
             have hfz147_1:=blk_frozen BK485.out 1
             have hfz147_2:=blk_frozen BK485.out 2
             have hnb148:=NB435_418.out
             have hnc148:=NB418_435.out
             have hnb149:=NB435_443.out
             have hnc149:=NB443_435.out
             have hnb150:=NB435_452.out
             have hnc150:=NB452_435.out
             have hcz151_0 : w123.cell? ⟨gb435,0,none⟩ = some (.int .i64 t427):=(blk_cell BK435.out 0).trans rfl
             have hcz151_1 : w123.cell? ⟨gb435,1,none⟩ = some (.slice Ao23 t428.length co23):=(blk_cell BK435.out 1).trans rfl
             have hcz151_2 : w123.cell? ⟨gb435,2,none⟩ = some (.slice Ao24 t431.length co24):=(blk_cell BK435.out 2).trans rfl
             have hfz151_0:=blk_frozen BK435.out 0
             have hfz151_1:=blk_frozen BK435.out 1
             have hfz151_2:=blk_frozen BK435.out 2
             go_wp2_with (first|((with_reducible refine gate_callee (f:=14) rfl ?_);refine goesL_ (some 81) rfl rfl Try.func14 (by kernel_rfl) rfl #[.agg #[.int .i64 t477,.slice Ao129 t478.length co129,.slice Ao130 t481.length co130],.agg #[.int .i64 t427,.slice Ao23 t428.length co23,.slice Ao24 t431.length co24]] rfl mz ?_;(with_reducible refine (laws_eqPlan.calls kj63 t477 _ _ t478 _ _ t481 t427 _ _ t428 _ _ t431 false _ ?side1 ?side2 ?side3 ?side4 ?side5 ?side6 ?side7 ?side8 A131.out).mono ?_);(case side1=>refine (Kd.R_reads' (e:=73) (base:=w.heap.size) (ok:=fun k_=>((((True ∧ some k_ ≠ (.slice Ao23 t428.length co23 : Value).ownBlock) ∧ some k_ ≠ (.slice Ao31 t463.length co31 : Value).ownBlock) ∧ some k_ ≠ (.slice Ao39 t445.length co39 : Value).ownBlock) ∧ some k_ ≠ (.slice Ao120 t471.length co120 : Value).ownBlock)) (n:=t478.length) (c:=co129) ?_).2.2;exact (by (with_reducible repeat (first|apply Kd.R_alloc|apply Kd.R_drewN|apply Kd.R_drew));exact (Kd.R_mono (Kd.R_far (p:=⟨gb485,2,none⟩) (Kd.R_far (p:=⟨gb485,1,none⟩) (Kd.R_far (p:=⟨gb485,0,none⟩) (Kd.R_types HO480.out BK485.out (by decide)) (fun _ hk=>hk.2) (.int .i64 t477)) (fun _ hk=>hk.2) (.slice Ao129 t478.length co129)) (fun _ hk=>hk.2) (.slice Ao130 t481.length co130)) (fun _ h_=>h_.1))));(case side2=>exact (Kd.R_reads' HO480.out).2.1);(case side3=>refine (Kd.R_reads' (e:=3) (base:=w.heap.size) (ok:=fun k_=>((((True ∧ some k_ ≠ (.slice Ao24 t431.length co24 : Value).ownBlock) ∧ some k_ ≠ (.slice Ao32 t464.length co32 : Value).ownBlock) ∧ some k_ ≠ (.slice Ao40 t448.length co40 : Value).ownBlock) ∧ some k_ ≠ (.slice Ao121 t474.length co121 : Value).ownBlock)) (n:=t481.length) (c:=co130) ?_).2.2;exact (by (with_reducible repeat (first|apply Kd.R_alloc|apply Kd.R_drewN|apply Kd.R_drew));exact (Kd.R_mono (Kd.R_far (p:=⟨gb485,2,none⟩) (Kd.R_far (p:=⟨gb485,1,none⟩) (Kd.R_far (p:=⟨gb485,0,none⟩) (Kd.R_types HO483.out BK485.out (by decide)) (fun _ hk=>hk.2) (.int .i64 t477)) (fun _ hk=>hk.2) (.slice Ao129 t478.length co129)) (fun _ hk=>hk.2) (.slice Ao130 t481.length co130)) (fun _ h_=>h_.1))));(case side4=>exact (Kd.R_reads' HO483.out).2.1);(case side5=>refine (Kd.R_reads' (e:=73) (base:=w.heap.size) (ok:=fun k_=>(((some k_ ≠ (.slice Ao31 t463.length co31 : Value).ownBlock ∧ some k_ ≠ (.slice Ao39 t445.length co39 : Value).ownBlock) ∧ some k_ ≠ (.slice Ao120 t471.length co120 : Value).ownBlock) ∧ some k_ ≠ (.slice Ao129 t478.length co129 : Value).ownBlock)) (n:=t428.length) (c:=co23) ?_).2.2;exact (by (with_reducible repeat (first|apply Kd.R_alloc|apply Kd.R_drewN|apply Kd.R_drew));exact (Kd.R_mono (Kd.R_far (p:=⟨gb485,2,none⟩) (Kd.R_far (p:=⟨gb485,1,none⟩) (Kd.R_far (p:=⟨gb485,0,none⟩) (Kd.R_types HO_436001.out BK485.out (by decide)) (fun _ hk=>hk.2) (.int .i64 t477)) (fun _ hk=>hk.2) (.slice Ao129 t478.length co129)) (fun _ hk=>hk.2) (.slice Ao130 t481.length co130)) (fun _ h_=>h_.1))));(case side6=>exact (Kd.R_reads' HO_436001.out).2.1);(case side7=>refine (Kd.R_reads' (e:=3) (base:=w.heap.size) (ok:=fun k_=>(((some k_ ≠ (.slice Ao32 t464.length co32 : Value).ownBlock ∧ some k_ ≠ (.slice Ao40 t448.length co40 : Value).ownBlock) ∧ some k_ ≠ (.slice Ao121 t474.length co121 : Value).ownBlock) ∧ some k_ ≠ (.slice Ao130 t481.length co130 : Value).ownBlock)) (n:=t431.length) (c:=co24) ?_).2.2;exact (by (with_reducible repeat (first|apply Kd.R_alloc|apply Kd.R_drewN|apply Kd.R_drew));exact (Kd.R_mono (Kd.R_far (p:=⟨gb485,2,none⟩) (Kd.R_far (p:=⟨gb485,1,none⟩) (Kd.R_far (p:=⟨gb485,0,none⟩) (Kd.R_types HO_436002.out BK485.out (by decide)) (fun _ hk=>hk.2) (.int .i64 t477)) (fun _ hk=>hk.2) (.slice Ao129 t478.length co129)) (fun _ hk=>hk.2) (.slice Ao130 t481.length co130)) (fun _ h_=>h_.1))));(case side8=>exact (Kd.R_reads' HO_436002.out).2.1);rintro e w152 ⟨rfl,hb⟩;refine ⟨_,rfl,?_⟩;have n0_:=Aside0.mk (Kd.R_below (by (with_reducible repeat (first|apply Kd.R_alloc|apply Kd.R_drewN|apply Kd.R_drew));exact (Kd.R_mono (Kd.R_far (p:=⟨gb485,2,none⟩) (Kd.R_far (p:=⟨gb485,1,none⟩) (Kd.R_far (p:=⟨gb485,0,none⟩) (Kd.R_types HO_436001.out BK485.out (by decide)) (fun _ hk=>hk.2) (.int .i64 t477)) (fun _ hk=>hk.2) (.slice Ao129 t478.length co129)) (fun _ hk=>hk.2) (.slice Ao130 t481.length co130)) (fun _ h_=>h_.1))) hb);have n1_:=Aside0.mk (Kd.R_below (by (with_reducible repeat (first|apply Kd.R_alloc|apply Kd.R_drewN|apply Kd.R_drew));exact (Kd.R_mono (Kd.R_far (p:=⟨gb485,2,none⟩) (Kd.R_far (p:=⟨gb485,1,none⟩) (Kd.R_far (p:=⟨gb485,0,none⟩) (Kd.R_types HO_436002.out BK485.out (by decide)) (fun _ hk=>hk.2) (.int .i64 t477)) (fun _ hk=>hk.2) (.slice Ao129 t478.length co129)) (fun _ hk=>hk.2) (.slice Ao130 t481.length co130)) (fun _ h_=>h_.1))) hb);have n2_:=Aside0.mk (Kd.R_below (by (with_reducible repeat (first|apply Kd.R_alloc|apply Kd.R_drewN|apply Kd.R_drew));exact (Kd.R_mono (Kd.R_far (p:=⟨gb485,2,none⟩) (Kd.R_far (p:=⟨gb485,1,none⟩) (Kd.R_far (p:=⟨gb485,0,none⟩) (Kd.R_types HO_444001.out BK485.out (by decide)) (fun _ hk=>hk.2) (.int .i64 t477)) (fun _ hk=>hk.2) (.slice Ao129 t478.length co129)) (fun _ hk=>hk.2) (.slice Ao130 t481.length co130)) (fun _ h_=>h_.1))) hb);have n3_:=Aside0.mk (Kd.R_below (by (with_reducible repeat (first|apply Kd.R_alloc|apply Kd.R_drewN|apply Kd.R_drew));exact (Kd.R_mono (Kd.R_far (p:=⟨gb485,2,none⟩) (Kd.R_far (p:=⟨gb485,1,none⟩) (Kd.R_far (p:=⟨gb485,0,none⟩) (Kd.R_types HO_444002.out BK485.out (by decide)) (fun _ hk=>hk.2) (.int .i64 t477)) (fun _ hk=>hk.2) (.slice Ao129 t478.length co129)) (fun _ hk=>hk.2) (.slice Ao130 t481.length co130)) (fun _ h_=>h_.1))) hb);have n4_:=Aside0.mk (Kd.R_below (by (with_reducible repeat (first|apply Kd.R_alloc|apply Kd.R_drewN|apply Kd.R_drew));exact (Kd.R_mono (Kd.R_far (p:=⟨gb485,2,none⟩) (Kd.R_far (p:=⟨gb485,1,none⟩) (Kd.R_far (p:=⟨gb485,0,none⟩) (Kd.R_types HO_453001.out BK485.out (by decide)) (fun _ hk=>hk.2) (.int .i64 t477)) (fun _ hk=>hk.2) (.slice Ao129 t478.length co129)) (fun _ hk=>hk.2) (.slice Ao130 t481.length co130)) (fun _ h_=>h_.1))) hb);have n5_:=Aside0.mk (Kd.R_below (by (with_reducible repeat (first|apply Kd.R_alloc|apply Kd.R_drewN|apply Kd.R_drew));exact (Kd.R_mono (Kd.R_far (p:=⟨gb485,2,none⟩) (Kd.R_far (p:=⟨gb485,1,none⟩) (Kd.R_far (p:=⟨gb485,0,none⟩) (Kd.R_types HO_453002.out BK485.out (by decide)) (fun _ hk=>hk.2) (.int .i64 t477)) (fun _ hk=>hk.2) (.slice Ao129 t478.length co129)) (fun _ hk=>hk.2) (.slice Ao130 t481.length co130)) (fun _ h_=>h_.1))) hb);have n6_:=Aside0.mk (Kd.R_below (by (with_reducible repeat (first|apply Kd.R_alloc|apply Kd.R_drewN|apply Kd.R_drew));exact (Kd.R_mono (Kd.R_far (p:=⟨gb485,2,none⟩) (Kd.R_far (p:=⟨gb485,1,none⟩) (Kd.R_far (p:=⟨gb485,0,none⟩) (Kd.R_types HO473.out BK485.out (by decide)) (fun _ hk=>hk.2) (.int .i64 t477)) (fun _ hk=>hk.2) (.slice Ao129 t478.length co129)) (fun _ hk=>hk.2) (.slice Ao130 t481.length co130)) (fun _ h_=>h_.1))) hb);have n7_:=Aside0.mk (Kd.R_below (by (with_reducible repeat (first|apply Kd.R_alloc|apply Kd.R_drewN|apply Kd.R_drew));exact (Kd.R_mono (Kd.R_far (p:=⟨gb485,2,none⟩) (Kd.R_far (p:=⟨gb485,1,none⟩) (Kd.R_far (p:=⟨gb485,0,none⟩) (Kd.R_types HO476.out BK485.out (by decide)) (fun _ hk=>hk.2) (.int .i64 t477)) (fun _ hk=>hk.2) (.slice Ao129 t478.length co129)) (fun _ hk=>hk.2) (.slice Ao130 t481.length co130)) (fun _ h_=>h_.1))) hb);have n8_:=Aside0.mk (Kd.R_below (by (with_reducible repeat (first|apply Kd.R_alloc|apply Kd.R_drewN|apply Kd.R_drew));exact (Kd.R_mono (Kd.R_far (p:=⟨gb485,2,none⟩) (Kd.R_far (p:=⟨gb485,1,none⟩) (Kd.R_far (p:=⟨gb485,0,none⟩) (Kd.R_types HO480.out BK485.out (by decide)) (fun _ hk=>hk.2) (.int .i64 t477)) (fun _ hk=>hk.2) (.slice Ao129 t478.length co129)) (fun _ hk=>hk.2) (.slice Ao130 t481.length co130)) (fun _ h_=>h_.1))) hb);have n9_:=Aside0.mk (Kd.R_below (by (with_reducible repeat (first|apply Kd.R_alloc|apply Kd.R_drewN|apply Kd.R_drew));exact (Kd.R_mono (Kd.R_far (p:=⟨gb485,2,none⟩) (Kd.R_far (p:=⟨gb485,1,none⟩) (Kd.R_far (p:=⟨gb485,0,none⟩) (Kd.R_types HO483.out BK485.out (by decide)) (fun _ hk=>hk.2) (.int .i64 t477)) (fun _ hk=>hk.2) (.slice Ao129 t478.length co129)) (fun _ hk=>hk.2) (.slice Ao130 t481.length co130)) (fun _ h_=>h_.1))) hb);have n10_:=Aside0.mk (blk_below (g:=gb418) (o:=.cells #[.int .i64 a0_0,.slice A0_1 l0_1.length c0_1,.slice A0_2 l0_2.length c0_2] 25 (0,0)) (by (with_reducible repeat (first|refine blk_drewN ?_ _|refine blk_drew ?_|refine blk_alloc ?_ _));refine blk_far ?_ NB418_485.out _;(with_reducible repeat (first|refine blk_drewN ?_ _|refine blk_drew ?_|refine blk_alloc ?_ _));refine blk_far ?_ NB418_485.out _;(with_reducible repeat (first|refine blk_drewN ?_ _|refine blk_drew ?_|refine blk_alloc ?_ _));refine blk_far ?_ NB418_485.out _;(with_reducible repeat (first|refine blk_drewN ?_ _|refine blk_drew ?_|refine blk_alloc ?_ _));exact BK418.out) hb);have n11_:=Aside0.mk (blk_below (g:=gb435) (o:=.cells #[.int .i64 t427,.slice Ao23 t428.length co23,.slice Ao24 t431.length co24] 29 (0,0)) (by (with_reducible repeat (first|refine blk_drewN ?_ _|refine blk_drew ?_|refine blk_alloc ?_ _));refine blk_far ?_ NB435_485.out _;(with_reducible repeat (first|refine blk_drewN ?_ _|refine blk_drew ?_|refine blk_alloc ?_ _));refine blk_far ?_ NB435_485.out _;(with_reducible repeat (first|refine blk_drewN ?_ _|refine blk_drew ?_|refine blk_alloc ?_ _));refine blk_far ?_ NB435_485.out _;(with_reducible repeat (first|refine blk_drewN ?_ _|refine blk_drew ?_|refine blk_alloc ?_ _));exact BK435.out) hb);have n12_:=Aside0.mk (blk_below (g:=gb443) (o:=.cells #[.int .i64 t436,.slice Ao31 t463.length co31,.slice Ao32 t464.length co32] 29 (0,0)) (by (with_reducible repeat (first|refine blk_drewN ?_ _|refine blk_drew ?_|refine blk_alloc ?_ _));refine blk_far ?_ NB443_485.out _;(with_reducible repeat (first|refine blk_drewN ?_ _|refine blk_drew ?_|refine blk_alloc ?_ _));refine blk_far ?_ NB443_485.out _;(with_reducible repeat (first|refine blk_drewN ?_ _|refine blk_drew ?_|refine blk_alloc ?_ _));refine blk_far ?_ NB443_485.out _;(with_reducible repeat (first|refine blk_drewN ?_ _|refine blk_drew ?_|refine blk_alloc ?_ _));exact BK443.out) hb);have n13_:=Aside0.mk (blk_below (g:=gb452) (o:=.cells #[.int .i64 t444,.slice Ao39 t445.length co39,.slice Ao40 t448.length co40] 29 (0,0)) (by (with_reducible repeat (first|refine blk_drewN ?_ _|refine blk_drew ?_|refine blk_alloc ?_ _));refine blk_far ?_ NB452_485.out _;(with_reducible repeat (first|refine blk_drewN ?_ _|refine blk_drew ?_|refine blk_alloc ?_ _));refine blk_far ?_ NB452_485.out _;(with_reducible repeat (first|refine blk_drewN ?_ _|refine blk_drew ?_|refine blk_alloc ?_ _));refine blk_far ?_ NB452_485.out _;(with_reducible repeat (first|refine blk_drewN ?_ _|refine blk_drew ?_|refine blk_alloc ?_ _));exact BK452.out) hb);have n14_:=Aside0.mk (blk_below (g:=gb485) (o:=.cells #[.int .i64 t477,.slice Ao129 t478.length co129,.slice Ao130 t481.length co130] 29 (0,0)) (by (with_reducible repeat (first|refine blk_drewN ?_ _|refine blk_drew ?_|refine blk_alloc ?_ _));refine blk_put (cs:=#[.int .i64 t477,.slice Ao129 t478.length co129,.slice none 0 0]) ?_ 2 _ rfl;(with_reducible repeat (first|refine blk_drewN ?_ _|refine blk_drew ?_|refine blk_alloc ?_ _));refine blk_put (cs:=#[.int .i64 t477,.slice none 0 0,.slice none 0 0]) ?_ 1 _ rfl;(with_reducible repeat (first|refine blk_drewN ?_ _|refine blk_drew ?_|refine blk_alloc ?_ _));refine blk_put (cs:=#[.int .i64 0,.slice none 0 0,.slice none 0 0]) ?_ 0 _ rfl;(with_reducible repeat (first|refine blk_drewN ?_ _|refine blk_drew ?_|refine blk_alloc ?_ _));exact BK485.out) hb);have n15_:=Aside0.mk (below_step bs hb);clear HO_436001 HO_436002 HO_444001 HO_444002 HO_453001 HO_453002 HO473 HO476 HO480 HO483 BK418 BK435 BK443 BK452 BK485 HB;have HO_436001:=n0_;have HO_436002:=n1_;have HO_444001:=n2_;have HO_444002:=n3_;have HO_453001:=n4_;have HO_453002:=n5_;have HO473:=n6_;have HO476:=n7_;have HO480:=n8_;have HO483:=n9_;have BK418:=n10_;have BK435:=n11_;have BK443:=n12_;have BK452:=n13_;have BK485:=n14_;have HB:=n15_;clear n0_ n1_ n2_ n3_ n4_ n5_ n6_ n7_ n8_ n9_ n10_ n11_ n12_ n13_ n14_ n15_;(try clear hb)))
             go_meet
             case rel=>exact ⟨_,(true),fz,H',⟨by have:=HJ10.out;have:=HJ63.out;first|omega|exact Nat.le_refl _⟩,⟨by (try simp only [hl444001_63]);(try simp only [hl444002_63]);(with_reducible repeat (first|apply Kd.R_alloc|apply Kd.R_drewN|apply Kd.R_drew));exact Kd.R_mono HO_436001.out (fun _ hk=>⟨hk.1.1.1,⟨hk.1.1.2,hk.2⟩⟩)⟩,⟨by (try simp only [hl444001_63]);(try simp only [hl444002_63]);(with_reducible repeat (first|apply Kd.R_alloc|apply Kd.R_drewN|apply Kd.R_drew));exact Kd.R_mono HO_436002.out (fun _ hk=>⟨hk.1.1.1,⟨hk.1.1.2,hk.2⟩⟩)⟩,⟨by (try simp only [hl444001_63]);(try simp only [hl444002_63]);(with_reducible repeat (first|apply Kd.R_alloc|apply Kd.R_drewN|apply Kd.R_drew));exact Kd.R_mono HO_444001.out (fun _ hk=>⟨hk.1.1.1,⟨hk.1.1.2,hk.2⟩⟩)⟩,⟨by (try simp only [hl444001_63]);(try simp only [hl444002_63]);(with_reducible repeat (first|apply Kd.R_alloc|apply Kd.R_drewN|apply Kd.R_drew));exact Kd.R_mono HO_444002.out (fun _ hk=>⟨hk.1.1.1,⟨hk.1.1.2,hk.2⟩⟩)⟩,⟨by (try simp only [hl444001_63]);(try simp only [hl444002_63]);(with_reducible repeat (first|apply Kd.R_alloc|apply Kd.R_drewN|apply Kd.R_drew));exact Kd.R_mono HO_453001.out (fun _ hk=>⟨hk.1.1.1,⟨hk.1.1.2,hk.2⟩⟩)⟩,⟨by (try simp only [hl444001_63]);(try simp only [hl444002_63]);(with_reducible repeat (first|apply Kd.R_alloc|apply Kd.R_drewN|apply Kd.R_drew));exact Kd.R_mono HO_453002.out (fun _ hk=>⟨hk.1.1.1,⟨hk.1.1.2,hk.2⟩⟩)⟩,⟨by (try simp only [hl444001_63]);(try simp only [hl444002_63]);(with_reducible repeat (first|apply Kd.R_alloc|apply Kd.R_drewN|apply Kd.R_drew));exact Kd.R_mono HO480.out (fun _ hk=>⟨hk.1.1.1.2,⟨hk.1.1.2,hk.1.2⟩⟩)⟩,⟨by (try simp only [hl444001_63]);(try simp only [hl444002_63]);(with_reducible repeat (first|apply Kd.R_alloc|apply Kd.R_drewN|apply Kd.R_drew));exact Kd.R_mono HO483.out (fun _ hk=>⟨hk.1.1.1.2,⟨hk.1.1.2,hk.1.2⟩⟩)⟩,⟨by (try simp only [hl444001_63]);(try simp only [hl444002_63]);(with_reducible repeat (first|refine blk_drewN ?_ _|refine blk_drew ?_|refine blk_alloc ?_ _));exact BK418.out⟩,⟨by (try simp only [hl444001_63]);(try simp only [hl444002_63]);(with_reducible repeat (first|refine blk_drewN ?_ _|refine blk_drew ?_|refine blk_alloc ?_ _));exact BK435.out⟩,⟨by (try simp only [hl444001_63]);(try simp only [hl444002_63]);(with_reducible repeat (first|refine blk_drewN ?_ _|refine blk_drew ?_|refine blk_alloc ?_ _));exact BK443.out⟩,⟨by (try simp only [hl444001_63]);(try simp only [hl444002_63]);(with_reducible repeat (first|refine blk_drewN ?_ _|refine blk_drew ?_|refine blk_alloc ?_ _));exact BK452.out⟩,⟨by (try simp only [hl444001_63]);(try simp only [hl444002_63]);(with_reducible repeat (first|refine blk_drewN ?_ _|refine blk_drew ?_|refine blk_alloc ?_ _));exact BK485.out⟩,⟨by repeat (first|(with_reducible first|exact HB.out|apply below_alloc|apply pw_below_drewN|apply below_drew1|refine below_set ?_ GE418.out|refine below_set ?_ GE435.out|refine below_set ?_ GE443.out|refine below_set ?_ GE452.out|refine below_set ?_ GE485.out)|exact HB.out)⟩⟩
           case rest=>
            clear HC108
            try clear c1
            try clear c2
            try clear p2
            try clear c3
            try clear c3b0
            try clear c4
            try clear c5
            try clear c6
            try clear c7
            try clear c8
            try clear c9
            try clear c10
            try clear c11
            try clear c12
            try clear c13
            try clear c14
            try clear c15
            try clear c16
            try clear c21
            try clear c24
            try clear c25
            try clear c28
            try clear c29
            try clear c35
            try clear c36
            try clear c37
            try clear c42
            try clear c43
            try clear c44
            try clear c45
            try clear c47
            try clear c48
            try clear c51
            try clear c52
            try clear c53
            try clear c55
            try clear c56
            try clear c59
            try clear c62
            try clear c70
            try clear c71
            try clear c72
            try clear c75
            try clear c75b0
            try clear c77
            try clear c78
            try clear c79
            try clear c80
            try clear c82
            try clear c83
            try clear c86
            try clear c87
            try clear c88
            try clear c90
            try clear c91
            try clear c94
            try clear c97
            try clear c97b0
            try clear c98
            try clear c99
            try clear c100
            try clear c105
            try clear c105b0
            try clear c105b1
            try clear c109
            try clear c110
            try clear c111
            try clear c116
            try clear c117
            try clear c124
            try clear c125
            try clear c126
            try clear c127
            try clear c132
            try clear c133
            try clear c134
            try clear c135
            try clear c136
            try clear c138
            try clear c139
            try clear c140
            try clear c143
            try clear c144
            try clear c145
            try clear c146
            try clear c148
            try clear c149
            try clear c150
            try clear hcz101_0
            try clear hcz101_1
            try clear hcz101_2
            try clear hcz103_0
            try clear hcz103_1
            try clear hcz103_2
            try clear hcz112_0
            try clear hcz112_1
            try clear hcz112_2
            try clear hcz114_0
            try clear hcz114_1
            try clear hcz114_2
            try clear hcz118_0
            try clear hcz118_1
            try clear hcz118_2
            try clear hcz128_0
            try clear hcz128_1
            try clear hcz128_2
            try clear hcz137_0
            try clear hcz137_1
            try clear hcz137_2
            try clear hcz13_0
            try clear hcz13_1
            try clear hcz13_2
            try clear hcz141_0
            try clear hcz141_1
            try clear hcz141_2
            try clear hcz147_0
            try clear hcz147_1
            try clear hcz147_2
            try clear hcz151_0
            try clear hcz151_1
            try clear hcz151_2
            try clear hcz15_0
            try clear hcz15_1
            try clear hcz15_2
            try clear hcz22_0
            try clear hcz22_1
            try clear hcz22_2
            try clear hcz25_0
            try clear hcz25_1
            try clear hcz25_2
            try clear hcz30_0
            try clear hcz30_1
            try clear hcz30_2
            try clear hcz38_0
            try clear hcz38_1
            try clear hcz38_2
            try clear hcz46_0
            try clear hcz46_1
            try clear hcz46_2
            try clear hcz49_0
            try clear hcz49_1
            try clear hcz49_2
            try clear hcz54_0
            try clear hcz54_1
            try clear hcz54_2
            try clear hcz57_0
            try clear hcz57_1
            try clear hcz57_2
            try clear hcz5_0
            try clear hcz5_1
            try clear hcz5_2
            try clear hcz73_0
            try clear hcz73_1
            try clear hcz73_2
            try clear hcz81_0
            try clear hcz81_1
            try clear hcz81_2
            try clear hcz84_0
            try clear hcz84_1
            try clear hcz84_2
            try clear hcz89_0
            try clear hcz89_1
            try clear hcz89_2
            try clear hcz92_0
            try clear hcz92_1
            try clear hcz92_2
            try clear hfz101_0
            try clear hfz101_1
            try clear hfz101_2
            try clear hfz103_0
            try clear hfz103_1
            try clear hfz103_2
            try clear hfz112_0
            try clear hfz112_1
            try clear hfz112_2
            try clear hfz114_0
            try clear hfz114_1
            try clear hfz114_2
            try clear hfz118_0
            try clear hfz118_1
            try clear hfz118_2
            try clear hfz128_0
            try clear hfz128_1
            try clear hfz128_2
            try clear hfz137_0
            try clear hfz137_1
            try clear hfz137_2
            try clear hfz13_0
            try clear hfz13_1
            try clear hfz13_2
            try clear hfz141_0
            try clear hfz141_1
            try clear hfz141_2
            try clear hfz147_0
            try clear hfz147_1
            try clear hfz147_2
            try clear hfz151_0
            try clear hfz151_1
            try clear hfz151_2
            try clear hfz15_0
            try clear hfz15_1
            try clear hfz15_2
            try clear hfz22_0
            try clear hfz22_1
            try clear hfz22_2
            try clear hfz25_0
            try clear hfz25_1
            try clear hfz25_2
            try clear hfz30_0
            try clear hfz30_1
            try clear hfz30_2
            try clear hfz38_0
            try clear hfz38_1
            try clear hfz38_2
            try clear hfz46_0
            try clear hfz46_1
            try clear hfz46_2
            try clear hfz49_0
            try clear hfz49_1
            try clear hfz49_2
            try clear hfz54_0
            try clear hfz54_1
            try clear hfz54_2
            try clear hfz57_0
            try clear hfz57_1
            try clear hfz57_2
            try clear hfz5_0
            try clear hfz5_1
            try clear hfz5_2
            try clear hfz73_0
            try clear hfz73_1
            try clear hfz73_2
            try clear hfz81_0
            try clear hfz81_1
            try clear hfz81_2
            try clear hfz84_0
            try clear hfz84_1
            try clear hfz84_2
            try clear hfz89_0
            try clear hfz89_1
            try clear hfz89_2
            try clear hfz92_0
            try clear hfz92_1
            try clear hfz92_2
            try clear p2
            obtain ⟨kq,x87_107,rfl,HA,HJ107,HO_436001,HO_436002,HO_444001,HO_444002,HO_453001,HO_453002,HO_486001,HO_486002,BK418,BK435,BK443,BK452,BK485,HB⟩:=hcut
            have hl453001_107:=(Kd.R_reads' HO_453001.out).1
            rw [hl453001_107] at HO_453001
            (try simp only [hl453001_107])
            (try simp only [hl453001_107] at BK418)
            (try simp only [hl453001_107] at BK435)
            (try simp only [hl453001_107] at BK443)
            (try simp only [hl453001_107] at BK452)
            (try simp only [hl453001_107] at BK485)
            (try simp only [hl453001_107] at HO_436001)
            (try simp only [hl453001_107] at HO_436002)
            (try simp only [hl453001_107] at HO_444001)
            (try simp only [hl453001_107] at HO_444002)
            (try simp only [hl453001_107] at HO_453002)
            (try simp only [hl453001_107] at HO_486001)
            (try simp only [hl453001_107] at HO_486002)
            have hl453002_107:=(Kd.R_reads' HO_453002.out).1
            rw [hl453002_107] at HO_453002
            (try simp only [hl453002_107])
            (try simp only [hl453002_107] at BK418)
            (try simp only [hl453002_107] at BK435)
            (try simp only [hl453002_107] at BK443)
            (try simp only [hl453002_107] at BK452)
            (try simp only [hl453002_107] at BK485)
            (try simp only [hl453002_107] at HO_436001)
            (try simp only [hl453002_107] at HO_436002)
            (try simp only [hl453002_107] at HO_444001)
            (try simp only [hl453002_107] at HO_444002)
            (try simp only [hl453002_107] at HO_453001)
            (try simp only [hl453002_107] at HO_486001)
            (try simp only [hl453002_107] at HO_486002)
            cases kq with
            | zero=>exact absurd HA.out (by simp [laws_FnExactSharePlan.j2])
            | succ kj107=>
             have H:=HA.out
             clear HA
             simp only [laws_FnExactSharePlan.j2] at H
             by_cases c153 : x87_107 = true
             ·subst c153
              have H1 : (some false) = some r:=by rw [if_pos rfl] at H;exact H
              clear H
              have H:=H1
              clear H1
              obtain rfl:=Option.some.inj H
              go_wp2
              go_ret
              exact ⟨by first|rfl|(simp [errW_none,errW_some] <;> rfl)|(simp [*,errW_none,errW_some] <;> rfl),by repeat (first|(with_reducible first|exact HB.out|apply below_alloc|apply pw_below_drewN|apply below_drew1|refine below_set ?_ GE418.out|refine below_set ?_ GE435.out|refine below_set ?_ GE443.out|refine below_set ?_ GE452.out|refine below_set ?_ GE485.out)|exact HB.out)⟩
             ·replace c153:=Bool.eq_false_iff.mpr c153
              subst c153
              have H1 : ((laws_heldPlan.f kj107 t444 t467 t468 1).bind fun t487=>(if t487 < 0 then (some false) else (if t487 = t466 then (some true) else (some false)))) = some r:=by rw [if_neg (show ¬ (false = true) by decide)] at H;exact H
              clear H
              have H:=H1
              clear H1
              replace H:=Option.bind_eq_some_iff.mp H
              obtain ⟨t487,A1540,H⟩:=H
              replace H : (if t487 < 0 then (some false) else (if t487 = t466 then (some true) else (some false))) = some r:=H
              have A154:=Aside0.mk A1540
              clear A1540
              by_cases c155 : t487 < 0
              ·rw [if_pos c155] at H
               have c155b0 : decide (t487 < 0) = true:=decide_eq_true c155
               clear c155
               obtain rfl:=Option.some.inj H
               have hnb156:=NB452_418.out
               have hnc156:=NB418_452.out
               have hnb157:=NB452_435.out
               have hnc157:=NB435_452.out
               have hnb158:=NB452_443.out
               have hnc158:=NB443_452.out
               have hnb159:=NB452_485.out
               have hnc159:=NB485_452.out
               have hcz160_0 : wc.cell? ⟨gb452,0,none⟩ = some (.int .i64 t444):=(blk_cell BK452.out 0).trans rfl
               have hcz160_1 : wc.cell? ⟨gb452,1,none⟩ = some (.slice Ao39 t467.length co39):=(blk_cell BK452.out 1).trans rfl
               have hcz160_2 : wc.cell? ⟨gb452,2,none⟩ = some (.slice Ao40 t468.length co40):=(blk_cell BK452.out 2).trans rfl
               have hfz160_0:=blk_frozen BK452.out 0
               have hfz160_1:=blk_frozen BK452.out 1
               have hfz160_2:=blk_frozen BK452.out 2
               go_wp2_with (first|((with_reducible refine gate_callee (f:=16) rfl ?_);refine goesL_ (some 90) rfl rfl Try.func16 (by kernel_rfl) rfl #[.agg #[.int .i64 t444,.slice Ao39 t467.length co39,.slice Ao40 t468.length co40],.int .i64 1] rfl mz ?_;(with_reducible refine (laws_heldPlan.calls kj107 t444 _ _ t467 _ _ t468 1 t487 _ ?side1 ?side2 ?side3 ?side4 A154.out).mono ?_);(case side1=>exact cz (Kd.R_reads' HO_453001.out).2.2);(case side2=>exact (Kd.R_reads' HO_453001.out).2.1);(case side3=>exact cz (Kd.R_reads' HO_453002.out).2.2);(case side4=>exact (Kd.R_reads' HO_453002.out).2.1);rintro e w161 ⟨rfl,hb⟩;refine ⟨_,rfl,?_⟩;have n0_:=Aside0.mk (Kd.R_below (rz HO_436001.out) hb);have n1_:=Aside0.mk (Kd.R_below (rz HO_436002.out) hb);have n2_:=Aside0.mk (Kd.R_below (rz HO_444001.out) hb);have n3_:=Aside0.mk (Kd.R_below (rz HO_444002.out) hb);have n4_:=Aside0.mk (Kd.R_below (rz HO_453001.out) hb);have n5_:=Aside0.mk (Kd.R_below (rz HO_453002.out) hb);have n6_:=Aside0.mk (Kd.R_below (rz HO_486001.out) hb);have n7_:=Aside0.mk (Kd.R_below (rz HO_486002.out) hb);have n8_:=Aside0.mk (blk_below (g:=gb418) (o:=.cells #[.int .i64 a0_0,.slice A0_1 l0_1.length c0_1,.slice A0_2 l0_2.length c0_2] 25 (0,0)) (kz BK418.out) hb);have n9_:=Aside0.mk (blk_below (g:=gb435) (o:=.cells #[.int .i64 t427,.slice Ao23 t428.length co23,.slice Ao24 t431.length co24] 29 (0,0)) (kz BK435.out) hb);have n10_:=Aside0.mk (blk_below (g:=gb443) (o:=.cells #[.int .i64 t436,.slice Ao31 t463.length co31,.slice Ao32 t464.length co32] 29 (0,0)) (kz BK443.out) hb);have n11_:=Aside0.mk (blk_below (g:=gb452) (o:=.cells #[.int .i64 t444,.slice Ao39 t467.length co39,.slice Ao40 t468.length co40] 29 (0,0)) (kz BK452.out) hb);have n12_:=Aside0.mk (blk_below (g:=gb485) (o:=.cells #[.int .i64 t477,.slice Ao129 t478.length co129,.slice Ao130 t481.length co130] 29 (0,0)) (kz BK485.out) hb);have n13_:=Aside0.mk (below_step bs hb);clear HO_436001 HO_436002 HO_444001 HO_444002 HO_453001 HO_453002 HO_486001 HO_486002 BK418 BK435 BK443 BK452 BK485 HB;have HO_436001:=n0_;have HO_436002:=n1_;have HO_444001:=n2_;have HO_444002:=n3_;have HO_453001:=n4_;have HO_453002:=n5_;have HO_486001:=n6_;have HO_486002:=n7_;have BK418:=n8_;have BK435:=n9_;have BK443:=n10_;have BK452:=n11_;have BK485:=n12_;have HB:=n13_;clear n0_ n1_ n2_ n3_ n4_ n5_ n6_ n7_ n8_ n9_ n10_ n11_ n12_ n13_;(try clear hb)))
               go_ret
               exact ⟨by first|rfl|(simp [errW_none,errW_some] <;> rfl)|(simp [*,errW_none,errW_some] <;> rfl),by repeat (first|(with_reducible first|exact HB.out|apply below_alloc|apply pw_below_drewN|apply below_drew1|refine below_set ?_ GE418.out|refine below_set ?_ GE435.out|refine below_set ?_ GE443.out|refine below_set ?_ GE452.out|refine below_set ?_ GE485.out)|exact HB.out)⟩
              ·rw [if_neg c155] at H
               have c155b0 : decide (t487 < 0) = false:=decide_eq_false c155
               clear c155
               by_cases c162 : t487 = t466
               ·rw [if_pos c162] at H
                have c162b0 : (t487 == t466) = true:=beq_iff_eq.mpr c162
                have c162b1 : (t487 != t466) = false:=bne_eq_false_iff_eq.mpr c162
                clear c162
                obtain rfl:=Option.some.inj H
                have hnb163:=NB452_418.out
                have hnc163:=NB418_452.out
                have hnb164:=NB452_435.out
                have hnc164:=NB435_452.out
                have hnb165:=NB452_443.out
                have hnc165:=NB443_452.out
                have hnb166:=NB452_485.out
                have hnc166:=NB485_452.out
                have hcz167_0 : wc.cell? ⟨gb452,0,none⟩ = some (.int .i64 t444):=(blk_cell BK452.out 0).trans rfl
                have hcz167_1 : wc.cell? ⟨gb452,1,none⟩ = some (.slice Ao39 t467.length co39):=(blk_cell BK452.out 1).trans rfl
                have hcz167_2 : wc.cell? ⟨gb452,2,none⟩ = some (.slice Ao40 t468.length co40):=(blk_cell BK452.out 2).trans rfl
                have hfz167_0:=blk_frozen BK452.out 0
                have hfz167_1:=blk_frozen BK452.out 1
                have hfz167_2:=blk_frozen BK452.out 2
                go_wp2_with (first|((with_reducible refine gate_callee (f:=16) rfl ?_);refine goesL_ (some 90) rfl rfl Try.func16 (by kernel_rfl) rfl #[.agg #[.int .i64 t444,.slice Ao39 t467.length co39,.slice Ao40 t468.length co40],.int .i64 1] rfl mz ?_;(with_reducible refine (laws_heldPlan.calls kj107 t444 _ _ t467 _ _ t468 1 t487 _ ?side1 ?side2 ?side3 ?side4 A154.out).mono ?_);(case side1=>exact cz (Kd.R_reads' HO_453001.out).2.2);(case side2=>exact (Kd.R_reads' HO_453001.out).2.1);(case side3=>exact cz (Kd.R_reads' HO_453002.out).2.2);(case side4=>exact (Kd.R_reads' HO_453002.out).2.1);rintro e w168 ⟨rfl,hb⟩;refine ⟨_,rfl,?_⟩;have n0_:=Aside0.mk (Kd.R_below (rz HO_436001.out) hb);have n1_:=Aside0.mk (Kd.R_below (rz HO_436002.out) hb);have n2_:=Aside0.mk (Kd.R_below (rz HO_444001.out) hb);have n3_:=Aside0.mk (Kd.R_below (rz HO_444002.out) hb);have n4_:=Aside0.mk (Kd.R_below (rz HO_453001.out) hb);have n5_:=Aside0.mk (Kd.R_below (rz HO_453002.out) hb);have n6_:=Aside0.mk (Kd.R_below (rz HO_486001.out) hb);have n7_:=Aside0.mk (Kd.R_below (rz HO_486002.out) hb);have n8_:=Aside0.mk (blk_below (g:=gb418) (o:=.cells #[.int .i64 a0_0,.slice A0_1 l0_1.length c0_1,.slice A0_2 l0_2.length c0_2] 25 (0,0)) (kz BK418.out) hb);have n9_:=Aside0.mk (blk_below (g:=gb435) (o:=.cells #[.int .i64 t427,.slice Ao23 t428.length co23,.slice Ao24 t431.length co24] 29 (0,0)) (kz BK435.out) hb);have n10_:=Aside0.mk (blk_below (g:=gb443) (o:=.cells #[.int .i64 t436,.slice Ao31 t463.length co31,.slice Ao32 t464.length co32] 29 (0,0)) (kz BK443.out) hb);have n11_:=Aside0.mk (blk_below (g:=gb452) (o:=.cells #[.int .i64 t444,.slice Ao39 t467.length co39,.slice Ao40 t468.length co40] 29 (0,0)) (kz BK452.out) hb);have n12_:=Aside0.mk (blk_below (g:=gb485) (o:=.cells #[.int .i64 t477,.slice Ao129 t478.length co129,.slice Ao130 t481.length co130] 29 (0,0)) (kz BK485.out) hb);have n13_:=Aside0.mk (below_step bs hb);clear HO_436001 HO_436002 HO_444001 HO_444002 HO_453001 HO_453002 HO_486001 HO_486002 BK418 BK435 BK443 BK452 BK485 HB;have HO_436001:=n0_;have HO_436002:=n1_;have HO_444001:=n2_;have HO_444002:=n3_;have HO_453001:=n4_;have HO_453002:=n5_;have HO_486001:=n6_;have HO_486002:=n7_;have BK418:=n8_;have BK435:=n9_;have BK443:=n10_;have BK452:=n11_;have BK485:=n12_;have HB:=n13_;clear n0_ n1_ n2_ n3_ n4_ n5_ n6_ n7_ n8_ n9_ n10_ n11_ n12_ n13_;(try clear hb)))
                go_ret
                exact ⟨by first|rfl|(simp [errW_none,errW_some] <;> rfl)|(simp [*,errW_none,errW_some] <;> rfl),by repeat (first|(with_reducible first|exact HB.out|apply below_alloc|apply pw_below_drewN|apply below_drew1|refine below_set ?_ GE418.out|refine below_set ?_ GE435.out|refine below_set ?_ GE443.out|refine below_set ?_ GE452.out|refine below_set ?_ GE485.out)|exact HB.out)⟩
               ·rw [if_neg c162] at H
                have c162b0 : (t487 == t466) = false:=beq_eq_false_iff_ne.mpr c162
                have c162b1 : (t487 != t466) = true:=bne_iff_ne.mpr c162
                obtain rfl:=Option.some.inj H
                have hnb169:=NB452_418.out
                have hnc169:=NB418_452.out
                have hnb170:=NB452_435.out
                have hnc170:=NB435_452.out
                have hnb171:=NB452_443.out
                have hnc171:=NB443_452.out
                have hnb172:=NB452_485.out
                have hnc172:=NB485_452.out
                have hcz173_0 : wc.cell? ⟨gb452,0,none⟩ = some (.int .i64 t444):=(blk_cell BK452.out 0).trans rfl
                have hcz173_1 : wc.cell? ⟨gb452,1,none⟩ = some (.slice Ao39 t467.length co39):=(blk_cell BK452.out 1).trans rfl
                have hcz173_2 : wc.cell? ⟨gb452,2,none⟩ = some (.slice Ao40 t468.length co40):=(blk_cell BK452.out 2).trans rfl
                have hfz173_0:=blk_frozen BK452.out 0
                have hfz173_1:=blk_frozen BK452.out 1
                have hfz173_2:=blk_frozen BK452.out 2
                go_wp2_with (first|((with_reducible refine gate_callee (f:=16) rfl ?_);refine goesL_ (some 90) rfl rfl Try.func16 (by kernel_rfl) rfl #[.agg #[.int .i64 t444,.slice Ao39 t467.length co39,.slice Ao40 t468.length co40],.int .i64 1] rfl mz ?_;(with_reducible refine (laws_heldPlan.calls kj107 t444 _ _ t467 _ _ t468 1 t487 _ ?side1 ?side2 ?side3 ?side4 A154.out).mono ?_);(case side1=>exact cz (Kd.R_reads' HO_453001.out).2.2);(case side2=>exact (Kd.R_reads' HO_453001.out).2.1);(case side3=>exact cz (Kd.R_reads' HO_453002.out).2.2);(case side4=>exact (Kd.R_reads' HO_453002.out).2.1);rintro e w174 ⟨rfl,hb⟩;refine ⟨_,rfl,?_⟩;have n0_:=Aside0.mk (Kd.R_below (rz HO_436001.out) hb);have n1_:=Aside0.mk (Kd.R_below (rz HO_436002.out) hb);have n2_:=Aside0.mk (Kd.R_below (rz HO_444001.out) hb);have n3_:=Aside0.mk (Kd.R_below (rz HO_444002.out) hb);have n4_:=Aside0.mk (Kd.R_below (rz HO_453001.out) hb);have n5_:=Aside0.mk (Kd.R_below (rz HO_453002.out) hb);have n6_:=Aside0.mk (Kd.R_below (rz HO_486001.out) hb);have n7_:=Aside0.mk (Kd.R_below (rz HO_486002.out) hb);have n8_:=Aside0.mk (blk_below (g:=gb418) (o:=.cells #[.int .i64 a0_0,.slice A0_1 l0_1.length c0_1,.slice A0_2 l0_2.length c0_2] 25 (0,0)) (kz BK418.out) hb);have n9_:=Aside0.mk (blk_below (g:=gb435) (o:=.cells #[.int .i64 t427,.slice Ao23 t428.length co23,.slice Ao24 t431.length co24] 29 (0,0)) (kz BK435.out) hb);have n10_:=Aside0.mk (blk_below (g:=gb443) (o:=.cells #[.int .i64 t436,.slice Ao31 t463.length co31,.slice Ao32 t464.length co32] 29 (0,0)) (kz BK443.out) hb);have n11_:=Aside0.mk (blk_below (g:=gb452) (o:=.cells #[.int .i64 t444,.slice Ao39 t467.length co39,.slice Ao40 t468.length co40] 29 (0,0)) (kz BK452.out) hb);have n12_:=Aside0.mk (blk_below (g:=gb485) (o:=.cells #[.int .i64 t477,.slice Ao129 t478.length co129,.slice Ao130 t481.length co130] 29 (0,0)) (kz BK485.out) hb);have n13_:=Aside0.mk (below_step bs hb);clear HO_436001 HO_436002 HO_444001 HO_444002 HO_453001 HO_453002 HO_486001 HO_486002 BK418 BK435 BK443 BK452 BK485 HB;have HO_436001:=n0_;have HO_436002:=n1_;have HO_444001:=n2_;have HO_444002:=n3_;have HO_453001:=n4_;have HO_453002:=n5_;have HO_486001:=n6_;have HO_486002:=n7_;have BK418:=n8_;have BK435:=n9_;have BK443:=n10_;have BK452:=n11_;have BK485:=n12_;have HB:=n13_;clear n0_ n1_ n2_ n3_ n4_ n5_ n6_ n7_ n8_ n9_ n10_ n11_ n12_ n13_;(try clear hb)))
                go_ret
                exact ⟨by first|rfl|(simp [errW_none,errW_some] <;> rfl)|(simp [*,errW_none,errW_some] <;> rfl),by repeat (first|(with_reducible first|exact HB.out|apply below_alloc|apply pw_below_drewN|apply below_drew1|refine below_set ?_ GE418.out|refine below_set ?_ GE435.out|refine below_set ?_ GE443.out|refine below_set ?_ GE452.out|refine below_set ?_ GE485.out)|exact HB.out)⟩
          ·rw [if_neg c105] at H
           have c105b0 : (t469 == t466) = false:=beq_eq_false_iff_ne.mpr c105
           have c105b1 : (t469 != t466) = true:=bne_iff_ne.mpr c105
           obtain rfl:=Option.some.inj H
           have hnb175:=NB452_418.out
           have hnc175:=NB418_452.out
           have hnb176:=NB452_435.out
           have hnc176:=NB435_452.out
           have hnb177:=NB452_443.out
           have hnc177:=NB443_452.out
           have hcz178_0 : wc.cell? ⟨gb452,0,none⟩ = some (.int .i64 t444):=(blk_cell BK452.out 0).trans rfl
           have hcz178_1 : wc.cell? ⟨gb452,1,none⟩ = some (.slice Ao39 t445.length co39):=(blk_cell BK452.out 1).trans rfl
           have hcz178_2 : wc.cell? ⟨gb452,2,none⟩ = some (.slice Ao40 t448.length co40):=(blk_cell BK452.out 2).trans rfl
           have hfz178_0:=blk_frozen BK452.out 0
           have hfz178_1:=blk_frozen BK452.out 1
           have hfz178_2:=blk_frozen BK452.out 2
           go_wp2_with (first|((with_reducible refine gate_callee (f:=15) rfl ?_);refine goesL_ (some 64) rfl rfl Try.func15 (by kernel_rfl) rfl #[.agg #[.int .i64 t444,.slice Ao39 t445.length co39,.slice Ao40 t448.length co40],.int .i64 1] rfl mz ?_;(with_reducible refine (laws_markPlan.calls kj63 t444 (fun k_=>some k_ = (.slice Ao39 t445.length co39 : Value).ownBlock) (.slice Ao39 t445.length co39) t445 (fun k_=>some k_ = (.slice Ao40 t448.length co40 : Value).ownBlock) (.slice Ao40 t448.length co40) t448 1 t466 t467 t468 w _ ?side1 ?side2 ?side3 A95.out).mono ?_);(case side1=>repeat (first|(with_reducible first|exact HB.out|apply below_alloc|apply pw_below_drewN|apply below_drew1|refine below_set ?_ GE418.out|refine below_set ?_ GE435.out|refine below_set ?_ GE443.out|refine below_set ?_ GE452.out)|exact HB.out));(case side2=>exact Kd.R_tight rfl HO_453001.out);(case side3=>exact Kd.R_tight rfl HO_453002.out);rintro e w179 ⟨rfl,hy0,hy1,hb,hkp⟩;refine ⟨_,rfl,?_⟩;have n0_:=Aside0.mk (Kd.R_mono (ok':=fun k_=>some k_ ≠ (.slice Ao31 t463.length co31 : Value).ownBlock ∧ some k_ ≠ (.slice Ao39 t445.length co39 : Value).ownBlock) (Kd.R_keptB ((Kd.R_apart' HO_436001.out (Kd.R_typed HO_453002.out) (by decide))) hkp (fun k_ hk_ hs_=>Or.elim hs_ (fun e_=>(hk_.1.2) e_) (fun e_=>(hk_.2) e_))) (fun k_ hk_=>⟨hk_.1.1.1,hk_.1.1.2⟩));have n1_:=Aside0.mk (Kd.R_mono (ok':=fun k_=>some k_ ≠ (.slice Ao32 t464.length co32 : Value).ownBlock ∧ some k_ ≠ (.slice Ao40 t448.length co40 : Value).ownBlock) (Kd.R_keptB ((Kd.R_apart' HO_436002.out (Kd.R_typed HO_453001.out) (by decide))) hkp (fun k_ hk_ hs_=>Or.elim hs_ (fun e_=>(hk_.2) e_) (fun e_=>(hk_.1.2) e_))) (fun k_ hk_=>⟨hk_.1.1.1,hk_.1.1.2⟩));have n2_:=Aside0.mk (Kd.R_mono (ok':=fun k_=>some k_ ≠ (.slice Ao23 t428.length co23 : Value).ownBlock ∧ some k_ ≠ (.slice Ao39 t445.length co39 : Value).ownBlock) (Kd.R_keptB ((Kd.R_apart' HO_444001.out (Kd.R_typed HO_453002.out) (by decide))) hkp (fun k_ hk_ hs_=>Or.elim hs_ (fun e_=>(hk_.1.2) e_) (fun e_=>(hk_.2) e_))) (fun k_ hk_=>⟨hk_.1.1.1,hk_.1.1.2⟩));have n3_:=Aside0.mk (Kd.R_mono (ok':=fun k_=>some k_ ≠ (.slice Ao24 t431.length co24 : Value).ownBlock ∧ some k_ ≠ (.slice Ao40 t448.length co40 : Value).ownBlock) (Kd.R_keptB ((Kd.R_apart' HO_444002.out (Kd.R_typed HO_453001.out) (by decide))) hkp (fun k_ hk_ hs_=>Or.elim hs_ (fun e_=>(hk_.2) e_) (fun e_=>(hk_.1.2) e_))) (fun k_ hk_=>⟨hk_.1.1.1,hk_.1.1.2⟩));have n4_:=Aside0.mk (Kd.R_reok rfl hy0 (fun k_ e_=>HO_453001.out.1 k_ e_));have n5_:=Aside0.mk (Kd.R_reok rfl hy1 (fun k_ e_=>HO_453002.out.1 k_ e_));have n6_:=Aside0.mk (blk_kept (kz BK418.out) hkp (fun hs_=>Or.elim hs_ (fun e_=>(fun e_=>(Kd.R_ne HO_453001.out BK418.out (by decide)) e_) e_) (fun e_=>(fun e_=>(Kd.R_ne HO_453002.out BK418.out (by decide)) e_) e_)));have n7_:=Aside0.mk (blk_kept (kz BK435.out) hkp (fun hs_=>Or.elim hs_ (fun e_=>(fun e_=>(Kd.R_ne HO_453001.out BK435.out (by decide)) e_) e_) (fun e_=>(fun e_=>(Kd.R_ne HO_453002.out BK435.out (by decide)) e_) e_)));have n8_:=Aside0.mk (blk_kept (kz BK443.out) hkp (fun hs_=>Or.elim hs_ (fun e_=>(fun e_=>(Kd.R_ne HO_453001.out BK443.out (by decide)) e_) e_) (fun e_=>(fun e_=>(Kd.R_ne HO_453002.out BK443.out (by decide)) e_) e_)));have n9_:=Aside0.mk (blk_kept (kz BK452.out) hkp (fun hs_=>Or.elim hs_ (fun e_=>(fun e_=>(Kd.R_ne HO_453001.out BK452.out (by decide)) e_) e_) (fun e_=>(fun e_=>(Kd.R_ne HO_453002.out BK452.out (by decide)) e_) e_)));have n10_:=Aside0.mk (hb);clear HO_436001 HO_436002 HO_444001 HO_444002 HO_453001 HO_453002 BK418 BK435 BK443 BK452 HB;have HO_436001:=n0_;have HO_436002:=n1_;have HO_444001:=n2_;have HO_444002:=n3_;have HO_453001:=n4_;have HO_453002:=n5_;have BK418:=n6_;have BK435:=n7_;have BK443:=n8_;have BK452:=n9_;have HB:=n10_;clear n0_ n1_ n2_ n3_ n4_ n5_ n6_ n7_ n8_ n9_ n10_;(try clear hb);(try clear hkp);(try clear hy0);(try clear hy1);have hcz180_0 : w179.cell? ⟨gb452,0,none⟩ = some (.int .i64 t444):=(blk_cell BK452.out 0).trans rfl;have hcz180_1 : w179.cell? ⟨gb452,1,none⟩ = some (.slice Ao39 t445.length co39):=(blk_cell BK452.out 1).trans rfl;have hcz180_2 : w179.cell? ⟨gb452,2,none⟩ = some (.slice Ao40 t448.length co40):=(blk_cell BK452.out 2).trans rfl;have hfz180_0:=blk_frozen BK452.out 0;have hfz180_1:=blk_frozen BK452.out 1;have hfz180_2:=blk_frozen BK452.out 2)|((with_reducible refine gate_callee (f:=16) rfl ?_);refine goesL_ (some 67) rfl rfl Try.func16 (by kernel_rfl) rfl #[.agg #[.int .i64 t444,.slice Ao39 t467.length co39,.slice Ao40 t468.length co40],.int .i64 1] rfl (by (try simp only [List.map_toArray,List.map_cons,List.map_nil]);first|done|(rw [show t467.length = t445.length from (Kd.R_reads' HO_453001.out).1.symm,show t468.length = t448.length from (Kd.R_reads' HO_453002.out).1.symm] <;> rfl)|rfl|(simp only [List.length_drop,List.length_take];rfl)) ?_;(with_reducible refine (laws_heldPlan.calls kj63 t444 _ _ t467 _ _ t468 1 t469 _ ?side1 ?side2 ?side3 ?side4 A96.out).mono ?_);(case side1=>exact cz (Kd.R_reads' HO_453001.out).2.2);(case side2=>rw [show t467.length = t445.length from (Kd.R_reads' HO_453001.out).1.symm];exact (Kd.R_reads' HO_453001.out).2.1);(case side3=>exact cz (Kd.R_reads' HO_453002.out).2.2);(case side4=>rw [show t468.length = t448.length from (Kd.R_reads' HO_453002.out).1.symm];exact (Kd.R_reads' HO_453002.out).2.1);rintro e w181 ⟨rfl,hb⟩;refine ⟨_,rfl,?_⟩;have n0_:=Aside0.mk (Kd.R_below (rz HO_436001.out) hb);have n1_:=Aside0.mk (Kd.R_below (rz HO_436002.out) hb);have n2_:=Aside0.mk (Kd.R_below (rz HO_444001.out) hb);have n3_:=Aside0.mk (Kd.R_below (rz HO_444002.out) hb);have n4_:=Aside0.mk (Kd.R_below (rz HO_453001.out) hb);have n5_:=Aside0.mk (Kd.R_below (rz HO_453002.out) hb);have n6_:=Aside0.mk (blk_below (g:=gb418) (o:=.cells #[.int .i64 a0_0,.slice A0_1 l0_1.length c0_1,.slice A0_2 l0_2.length c0_2] 25 (0,0)) (kz BK418.out) hb);have n7_:=Aside0.mk (blk_below (g:=gb435) (o:=.cells #[.int .i64 t427,.slice Ao23 t428.length co23,.slice Ao24 t431.length co24] 29 (0,0)) (kz BK435.out) hb);have n8_:=Aside0.mk (blk_below (g:=gb443) (o:=.cells #[.int .i64 t436,.slice Ao31 t463.length co31,.slice Ao32 t464.length co32] 29 (0,0)) (kz BK443.out) hb);have n9_:=Aside0.mk (blk_below (g:=gb452) (o:=.cells #[.int .i64 t444,.slice Ao39 t445.length co39,.slice Ao40 t448.length co40] 29 (0,0)) (kz BK452.out) hb);have n10_:=Aside0.mk (below_step bs hb);clear HO_436001 HO_436002 HO_444001 HO_444002 HO_453001 HO_453002 BK418 BK435 BK443 BK452 HB;have HO_436001:=n0_;have HO_436002:=n1_;have HO_444001:=n2_;have HO_444002:=n3_;have HO_453001:=n4_;have HO_453002:=n5_;have BK418:=n6_;have BK435:=n7_;have BK443:=n8_;have BK452:=n9_;have HB:=n10_;clear n0_ n1_ n2_ n3_ n4_ n5_ n6_ n7_ n8_ n9_ n10_;(try clear hb)))
           go_ret
           exact ⟨by first|rfl|(simp [errW_none,errW_some] <;> rfl)|(simp [*,errW_none,errW_some] <;> rfl),by repeat (first|(with_reducible first|exact HB.out|apply below_alloc|apply pw_below_drewN|apply below_drew1|refine below_set ?_ GE418.out|refine below_set ?_ GE435.out|refine below_set ?_ GE443.out|refine below_set ?_ GE452.out)|exact HB.out)⟩
     ·replace c62:=Bool.eq_false_iff.mpr c62
      subst c62
      have H1 : (some false) = some r:=by rw [if_neg (show ¬ (false = true) by decide)] at H;exact H
      clear H
      have H:=H1
      clear H1
      obtain rfl:=Option.some.inj H
      try go_wp2
      have n0_:=Aside0.mk (Kd.R_drew HO_436001.out)
      have n1_:=Aside0.mk (Kd.R_drew HO_436002.out)
      have n2_:=Aside0.mk (Kd.R_drew HO_444001.out)
      have n3_:=Aside0.mk (Kd.R_drew HO_444002.out)
      have n4_:=Aside0.mk (Kd.R_drew HO_453001.out)
      have n5_:=Aside0.mk (Kd.R_drew HO_453002.out)
      have n6_:=Aside0.mk (blk_drew BK418.out)
      have n7_:=Aside0.mk (blk_drew BK435.out)
      have n8_:=Aside0.mk (blk_drew BK443.out)
      have n9_:=Aside0.mk (blk_drew BK452.out)
      have n10_:=Aside0.mk (below_drew1 HB.out)
      clear HO_436001
      clear HO_436002
      clear HO_444001
      clear HO_444002
      clear HO_453001
      clear HO_453002
      clear BK418
      clear BK435
      clear BK443
      clear BK452
      clear HB
      have HO_436001:=n0_
      have HO_436002:=n1_
      have HO_444001:=n2_
      have HO_444002:=n3_
      have HO_453001:=n4_
      have HO_453002:=n5_
      have BK418:=n6_
      have BK435:=n7_
      have BK443:=n8_
      have BK452:=n9_
      have HB:=n10_
      clear n0_ n1_ n2_ n3_ n4_ n5_ n6_ n7_ n8_ n9_ n10_
      refine start_ (n:=5) (S:=fun w'=>w'.cell? ⟨gb443,0,none⟩ = some (.int .i64 t436) ∧ w'.cell? ⟨gb443,1,none⟩ = some (.slice Ao31 t437.length co31) ∧ w'.cell? ⟨gb443,2,none⟩ = some (.slice Ao32 t440.length co32) ∧ w'.cell? ⟨gb418,0,none⟩ = some (.int .i64 a0_0) ∧ w'.cell? ⟨gb418,1,none⟩ = some (.slice A0_1 l0_1.length c0_1) ∧ w'.cell? ⟨gb418,2,none⟩ = some (.slice A0_2 l0_2.length c0_2)) (ds:=[]) #[false,false,false,false,false] (by kernel_rfl) rfl rfl ⟨(blk_cell BK443.out 0).trans rfl,(blk_cell BK443.out 1).trans rfl,(blk_cell BK443.out 2).trans rfl,(blk_cell BK418.out 0).trans rfl,(blk_cell BK418.out 1).trans rfl,(blk_cell BK418.out 2).trans rfl⟩ (fun hHeld=>?_)
      generalize wc.drew = w182 at HO_436001 HO_436002 HO_444001 HO_444002 HO_453001 HO_453002 BK418 BK435 BK443 BK452 HB hHeld ⊢
      refine take_ (i:=0) (N:=some 41) (v:=?_) (a':=?_) #[true,false,false,false,false] rfl rfl (by kernel_rfl) (fun _ _ _ h=>h) (Or.inl ⟨by rfl,?_⟩) hHeld ?_ ?_
      rotate_left
      ·rintro w' ⟨s0,s1,s2,s3,s4,s5⟩
       go_simp
       with_reducible rfl
      rotate_left
      ·simp only [Act.put,List.setIfInBounds_toArray,List.set_cons_zero,List.set_cons_succ,i64_w,i32_w]
       rfl
      refine take_ (i:=1) (N:=some 42) (v:=?_) (a':=?_) #[true,true,false,false,false] rfl rfl (by kernel_rfl) (fun _ _ _ h=>h) (Or.inl ⟨by rfl,?_⟩) hHeld ?_ ?_
      rotate_left
      ·rintro w' ⟨s0,s1,s2,s3,s4,s5⟩
       go_simp
       with_reducible rfl
      rotate_left
      ·simp only [Act.put,List.setIfInBounds_toArray,List.set_cons_zero,List.set_cons_succ,i64_w,i32_w]
       rfl
      refine one_ (i:=2) (N:=some 43) #[true,true,true,false,false] rfl rfl (by kernel_rfl) (by decide) (fun K hK=>?_)
      refine goes_ Try.func12 (by kernel_rfl) rfl #[.agg #[.int .i64 a0_0,.slice A0_1 l0_1.length c0_1,.slice A0_2 l0_2.length c0_2]] (by rfl) rfl rfl mz ?_
      with_reducible refine (laws_toPlan.calls kj10 a0_0 _ _ l0_1 _ _ l0_2 t454 t455 t458 _ ?side1 ?side2 ?side3 ?side4 A60.out).mono ?_
      (case side1=>exact cz (Kd.C_below HR0_1.out HB.out))
      (case side2=>exact HC0_1.out)
      (case side3=>exact cz (Kd.C_below HR0_2.out HB.out))
      (case side4=>exact HC0_2.out)
      rintro e w183 ⟨v456,v459,rfl,ho0,ho1,hb⟩
      refine ⟨_,rfl,?_⟩
      have n0_:=Aside0.mk (Kd.R_elder' (rz HO_436001.out) (Kd.R_base ho0) hb)
      have n1_:=Aside0.mk (Kd.R_elder' (rz HO_436002.out) (Kd.R_base ho1) hb)
      have n2_:=Aside0.mk (Kd.R_elder' (rz HO_444001.out) (Kd.R_base ho0) hb)
      have n3_:=Aside0.mk (Kd.R_elder' (rz HO_444002.out) (Kd.R_base ho1) hb)
      have n4_:=Aside0.mk (Kd.R_elder' (rz HO_453001.out) (Kd.R_base ho0) hb)
      have n5_:=Aside0.mk (Kd.R_elder' (rz HO_453002.out) (Kd.R_base ho1) hb)
      have n6_:=Aside0.mk (Kd.R_lower (Kd.R_new' (Kd.R_new' (Kd.R_new' ho0 (Kd.R_lt (rz HO_436001.out))) (Kd.R_lt (rz HO_444001.out))) (Kd.R_lt (rz HO_453001.out))) (below_size bs))
      have n7_:=Aside0.mk (Kd.R_lower (Kd.R_new' (Kd.R_new' (Kd.R_new' ho1 (Kd.R_lt (rz HO_436002.out))) (Kd.R_lt (rz HO_444002.out))) (Kd.R_lt (rz HO_453002.out))) (below_size bs))
      have n8_:=Aside0.mk (blk_below (g:=gb418) (o:=.cells #[.int .i64 a0_0,.slice A0_1 l0_1.length c0_1,.slice A0_2 l0_2.length c0_2] 25 (0,0)) (kz BK418.out) hb)
      have n9_:=Aside0.mk (blk_below (g:=gb435) (o:=.cells #[.int .i64 t427,.slice Ao23 t428.length co23,.slice Ao24 t431.length co24] 29 (0,0)) (kz BK435.out) hb)
      have n10_:=Aside0.mk (blk_below (g:=gb443) (o:=.cells #[.int .i64 t436,.slice Ao31 t437.length co31,.slice Ao32 t440.length co32] 29 (0,0)) (kz BK443.out) hb)
      have n11_:=Aside0.mk (blk_below (g:=gb452) (o:=.cells #[.int .i64 t444,.slice Ao39 t445.length co39,.slice Ao40 t448.length co40] 29 (0,0)) (kz BK452.out) hb)
      have n12_:=Aside0.mk (below_step bs hb)
      clear HO_436001
      clear HO_436002
      clear HO_444001
      clear HO_444002
      clear HO_453001
      clear HO_453002
      clear BK418
      clear BK435
      clear BK443
      clear BK452
      clear HB
      have HO_436001:=n0_
      have HO_436002:=n1_
      have HO_444001:=n2_
      have HO_444002:=n3_
      have HO_453001:=n4_
      have HO_453002:=n5_
      have HO457:=n6_
      have HO460:=n7_
      have BK418:=n8_
      have BK435:=n9_
      have BK443:=n10_
      have BK452:=n11_
      have HB:=n12_
      clear n0_ n1_ n2_ n3_ n4_ n5_ n6_ n7_ n8_ n9_ n10_ n11_ n12_
      (try clear hb)
      (try clear ho0)
      (try clear ho1)
      obtain ⟨Ao184,co184,eo184⟩:=Kd.R_slice HO457.out
      (first|subst eo184|(injection eo184 with f1_ f2_ f3_;have f4_:=f1_.symm;have f5_:=f3_.symm;clear f1_ f2_ f3_;subst f4_;subst f5_))
      obtain ⟨Ao185,co185,eo185⟩:=Kd.R_slice HO460.out
      (first|subst eo185|(injection eo185 with f1_ f2_ f3_;have f4_:=f1_.symm;have f5_:=f3_.symm;clear f1_ f2_ f3_;subst f4_;subst f5_))
      refine hK.out _ _ ⟨(blk_cell BK443.out 0).trans rfl,(blk_cell BK443.out 1).trans rfl,(blk_cell BK443.out 2).trans rfl,(blk_cell BK418.out 0).trans rfl,(blk_cell BK418.out 1).trans rfl,(blk_cell BK418.out 2).trans rfl⟩ (fun hHeld=>?_)
      clear hK K
      refine norm_ (a':=?_) ?_ ?_
      rotate_left
      ·show Act.put _ (some 43) _ = _
       simp only [Act.put,List.setIfInBounds_toArray,List.set_cons_zero,List.set_cons_succ,i64_w,i32_w]
       rfl
      refine one_ (i:=3) (N:=some 44) #[true,true,true,true,false] rfl rfl (by kernel_rfl) (by decide) (fun K hK=>?_)
      refine goes_ Try.func14 (by kernel_rfl) rfl #[.agg #[.int .i64 t436,.slice Ao31 t437.length co31,.slice Ao32 t440.length co32],.agg #[.int .i64 t454,.slice Ao184 t455.length co184,.slice Ao185 t458.length co185]] (by rfl) rfl rfl mz ?_
      with_reducible refine (laws_eqPlan.calls kj10 t436 _ _ t437 _ _ t440 t454 _ _ t455 _ _ t458 false _ ?side1 ?side2 ?side3 ?side4 ?side5 ?side6 ?side7 ?side8 A61.out).mono ?_
      (case side1=>exact cz (Kd.R_reads' HO_444001.out).2.2)
      (case side2=>exact (Kd.R_reads' HO_444001.out).2.1)
      (case side3=>exact cz (Kd.R_reads' HO_444002.out).2.2)
      (case side4=>exact (Kd.R_reads' HO_444002.out).2.1)
      (case side5=>exact cz (Kd.R_reads' HO457.out).2.2)
      (case side6=>exact (Kd.R_reads' HO457.out).2.1)
      (case side7=>exact cz (Kd.R_reads' HO460.out).2.2)
      (case side8=>exact (Kd.R_reads' HO460.out).2.1)
      rintro e w186 ⟨rfl,hb⟩
      refine ⟨_,rfl,?_⟩
      have n0_:=Aside0.mk (Kd.R_below (rz HO_436001.out) hb)
      have n1_:=Aside0.mk (Kd.R_below (rz HO_436002.out) hb)
      have n2_:=Aside0.mk (Kd.R_below (rz HO_444001.out) hb)
      have n3_:=Aside0.mk (Kd.R_below (rz HO_444002.out) hb)
      have n4_:=Aside0.mk (Kd.R_below (rz HO_453001.out) hb)
      have n5_:=Aside0.mk (Kd.R_below (rz HO_453002.out) hb)
      have n6_:=Aside0.mk (Kd.R_below (rz HO457.out) hb)
      have n7_:=Aside0.mk (Kd.R_below (rz HO460.out) hb)
      have n8_:=Aside0.mk (blk_below (g:=gb418) (o:=.cells #[.int .i64 a0_0,.slice A0_1 l0_1.length c0_1,.slice A0_2 l0_2.length c0_2] 25 (0,0)) (kz BK418.out) hb)
      have n9_:=Aside0.mk (blk_below (g:=gb435) (o:=.cells #[.int .i64 t427,.slice Ao23 t428.length co23,.slice Ao24 t431.length co24] 29 (0,0)) (kz BK435.out) hb)
      have n10_:=Aside0.mk (blk_below (g:=gb443) (o:=.cells #[.int .i64 t436,.slice Ao31 t437.length co31,.slice Ao32 t440.length co32] 29 (0,0)) (kz BK443.out) hb)
      have n11_:=Aside0.mk (blk_below (g:=gb452) (o:=.cells #[.int .i64 t444,.slice Ao39 t445.length co39,.slice Ao40 t448.length co40] 29 (0,0)) (kz BK452.out) hb)
      have n12_:=Aside0.mk (below_step bs hb)
      clear HO_436001
      clear HO_436002
      clear HO_444001
      clear HO_444002
      clear HO_453001
      clear HO_453002
      clear HO457
      clear HO460
      clear BK418
      clear BK435
      clear BK443
      clear BK452
      clear HB
      have HO_436001:=n0_
      have HO_436002:=n1_
      have HO_444001:=n2_
      have HO_444002:=n3_
      have HO_453001:=n4_
      have HO_453002:=n5_
      have HO457:=n6_
      have HO460:=n7_
      have BK418:=n8_
      have BK435:=n9_
      have BK443:=n10_
      have BK452:=n11_
      have HB:=n12_
      clear n0_ n1_ n2_ n3_ n4_ n5_ n6_ n7_ n8_ n9_ n10_ n11_ n12_
      (try clear hb)
      refine hK.out _ _ ⟨(blk_cell BK443.out 0).trans rfl,(blk_cell BK443.out 1).trans rfl,(blk_cell BK443.out 2).trans rfl,(blk_cell BK418.out 0).trans rfl,(blk_cell BK418.out 1).trans rfl,(blk_cell BK418.out 2).trans rfl⟩ (fun hHeld=>?_)
      clear hK K
      refine norm_ (a':=?_) ?_ ?_
      rotate_left
      ·show Act.put _ (some 44) _ = _
       simp only [Act.put,List.setIfInBounds_toArray,List.set_cons_zero,List.set_cons_succ,i64_w,i32_w]
       rfl
      refine pure_ (i:=4) (N:=some 45) (v:=?_) (a':=?_) #[true,true,true,true,true] rfl rfl (by kernel_rfl) (fun _ _ _ h=>h) (Or.inl ⟨by rfl,?_⟩) ?_ ?_
      rotate_left
      ·intro w'
       go_simp
       with_reducible rfl
      rotate_left
      ·simp only [Act.put,List.setIfInBounds_toArray,List.set_cons_zero,List.set_cons_succ,i64_w,i32_w]
       rfl
      refine done_ (by kernel_rfl) ?_
      try go_wp2
      go_ret
      exact ⟨by first|rfl|(simp [errW_none,errW_some] <;> rfl)|(simp [*,errW_none,errW_some] <;> rfl),by repeat (first|(with_reducible first|exact HB.out|apply below_alloc|apply pw_below_drewN|apply below_drew1|refine below_set ?_ GE418.out|refine below_set ?_ GE435.out|refine below_set ?_ GE443.out|refine below_set ?_ GE452.out)|exact HB.out)⟩
end Go.Proofs.Ytdcdaoancmpbeaa.MFnExactSharePlan
--sq
