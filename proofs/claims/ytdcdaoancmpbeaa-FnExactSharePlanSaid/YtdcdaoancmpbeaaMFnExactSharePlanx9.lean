import Derived.Test.YtdcdaoancmpbeaaMFnExactSharePlanx0
import Derived.Test.YtdcdaoancmpbeaaMFnExactSharePlanx5
import Derived.Test.YtdcdaoancmpbeaaMFnExactSharePlanx6
import Derived.Test.YtdcdaoancmpbeaaMFnExactSharePlanx7
import Derived.Test.YtdcdaoancmpbeaaMFnExactSharePlanx8
namespace Go.Proofs.Ytdcdaoancmpbeaa.MFnExactSharePlan
open Go.RowKit Go.Proofs.YtdcdaoancmpbeaaW.PrintWords Go.Proofs.YtdcdaoancmpbeaaW.PrintLast Go.Proofs.YtdcdaoancmpbeaaW.PrintMore Go.Proofs.YtdcdaoancmpbeaaV Go.Proofs.YtdcdaoancmpbeaaZ
attribute [local go_sem] max2_int min2_int max_two min_two max_three min_three max_four min_four   -- for this text's walks alone
set_option linter.unusedVariables false
set_option linter.unusedSimpArgs false
/-! ### spec_SharePlan: function 24 -/
mutual
def spec_SharePlan.l0 : Nat → List Int → List (S73) → Int → Int → Int → List (S73) → List Int → Int → List (S73) → Option (Int × (List (S73)) × List Int × Bool)
 | 0,_,_,_,_,_,_,_,_,_=>none
 | k + 1,x4,x20,x21,x22,x293000,x293001,x293002,x299000,x299001=>if x22 < x21 then (if 0 ≤ x22 then (if x22 < (x20.length : Int) then (if 0 ≤ ((rd_T73 x20 x22).f0) then (if ((rd_T73 x20 x22).f0) < (x4.length : Int) then (if 0 ≤ ((rd_T73 x20 x22).f1) then (if ((rd_T73 x20 x22).f1) < (x4.length : Int) then ((spec_plStep.f (rd x4 ((rd_T73 x20 x22).f0)) (rd x4 ((rd_T73 x20 x22).f1))).bind fun bt303=>(if x299001.length < 8796093022208 then (spec_SharePlan.l0 k x4 x20 x21 (wrap64 (x22 + 1)) x293000 x293001 x293002 x299000 (x299001 ++ [(⟨bt303.1,bt303.2⟩ : S73)])) else (none))) else (none)) else (none)) else (none)) else (none)) else (none)) else (none)) else (spec_SharePlan.l1 k x4 x293002 (x293002.length : Int) 0 x299000 x299001 ([] : List Int))
def spec_SharePlan.l1 : Nat → List Int → List Int → Int → Int → Int → List (S73) → List Int → Option (Int × (List (S73)) × List Int × Bool)
 | 0,_,_,_,_,_,_,_=>none
 | k + 1,x4,x44,x45,x46,x299000,x299001,x299002=>if x46 < x45 then (if 0 ≤ x46 then (if x46 < (x44.length : Int) then (if 0 ≤ (rd x44 x46) then (if (rd x44 x46) < (x4.length : Int) then (if x299002.length < 17592186044416 then (spec_SharePlan.l1 k x4 x44 x45 (wrap64 (x46 + 1)) x299000 x299001 (x299002 ++ [rd x4 (rd x44 x46)])) else (none)) else (none)) else (none)) else (none)) else (none)) else ((spec_plUsed.f k x299000 x299001 x299002).bind fun t313=>((spec_plKeep.f k x299000 x299001 x299002 t313).bind fun bt316=>(some (bt316.1,bt316.2.1,bt316.2.2,true))))
end
def spec_SharePlan.f (k : Nat) (a0_0 : Int) (l0_1 : List (S73)) (l0_2 : List Int) : Option (Int × (List (S73)) × List Int × Bool):=(spec_plGood.f k a0_0 l0_1 l0_2).bind fun t294=>(if t294 = true then ((spec_plFirst.f k a0_0 l0_1 l0_2).bind fun t295=>(spec_SharePlan.l0 k t295 l0_1 (l0_1.length : Int) 0 a0_0 l0_1 l0_2 a0_0 ([] : List (S73)))) else (some (0,([] : List (S73)),([] : List Int),false)))
theorem spec_SharePlan.mono_l : ∀ k,(∀ y0 y1 y2 y3 y4 y5 y6 y7 y8,LeO (spec_SharePlan.l0 k y0 y1 y2 y3 y4 y5 y6 y7 y8) (spec_SharePlan.l0 (k + 1) y0 y1 y2 y3 y4 y5 y6 y7 y8)) ∧ (∀ y0 y1 y2 y3 y4 y5 y6,LeO (spec_SharePlan.l1 k y0 y1 y2 y3 y4 y5 y6) (spec_SharePlan.l1 (k + 1) y0 y1 y2 y3 y4 y5 y6))
 | 0=>⟨fun _ _ _ _ _ _ _ _ _ r h=>by simp [spec_SharePlan.l0] at h,fun _ _ _ _ _ _ _ r h=>by simp [spec_SharePlan.l1] at h⟩
 | k + 1=>by
  obtain ⟨ih0,ih1⟩:=spec_SharePlan.mono_l k
  refine ⟨?_,?_⟩
  ·intro y0 y1 y2 y3 y4 y5 y6 y7 y8
   unfold spec_SharePlan.l0
   repeat' first
   | (with_reducible exact ih0 _ _ _ _ _ _ _ _ _)
   | (with_reducible exact ih1 _ _ _ _ _ _ _)
   | (with_reducible exact spec_plFirst.mono _ _ _ _)
   | (with_reducible exact spec_plGood.mono _ _ _ _)
   | (with_reducible exact spec_plKeep.mono _ _ _ _ _)
   | (with_reducible exact spec_plUsed.mono _ _ _ _)
   | (with_reducible exact LeO.refl _)
   | (with_reducible exact LeO.none _)
   | (with_reducible refine LeO.ite ?_ ?_)
   | (with_reducible refine LeO.bind ?_ (fun _=>?_))
   | exact ih0 _ _ _ _ _ _ _ _ _
   | exact ih1 _ _ _ _ _ _ _
   | exact spec_plFirst.mono _ _ _ _
   | exact spec_plGood.mono _ _ _ _
   | exact spec_plKeep.mono _ _ _ _ _
   | exact spec_plUsed.mono _ _ _ _
   | exact LeO.none _
   | refine LeO.ite ?_ ?_
   | refine LeO.bind ?_ (fun _=>?_)
  ·intro y0 y1 y2 y3 y4 y5 y6
   unfold spec_SharePlan.l1
   repeat' first
   | (with_reducible exact ih0 _ _ _ _ _ _ _ _ _)
   | (with_reducible exact ih1 _ _ _ _ _ _ _)
   | (with_reducible exact spec_plFirst.mono _ _ _ _)
   | (with_reducible exact spec_plGood.mono _ _ _ _)
   | (with_reducible exact spec_plKeep.mono _ _ _ _ _)
   | (with_reducible exact spec_plUsed.mono _ _ _ _)
   | (with_reducible exact LeO.refl _)
   | (with_reducible exact LeO.none _)
   | (with_reducible refine LeO.ite ?_ ?_)
   | (with_reducible refine LeO.bind ?_ (fun _=>?_))
   | exact ih0 _ _ _ _ _ _ _ _ _
   | exact ih1 _ _ _ _ _ _ _
   | exact spec_plFirst.mono _ _ _ _
   | exact spec_plGood.mono _ _ _ _
   | exact spec_plKeep.mono _ _ _ _ _
   | exact spec_plUsed.mono _ _ _ _
   | exact LeO.none _
   | refine LeO.ite ?_ ?_
   | refine LeO.bind ?_ (fun _=>?_)
theorem spec_SharePlan.mono : ∀ a0 a1 a2 k,LeO (spec_SharePlan.f k a0 a1 a2) (spec_SharePlan.f (k + 1) a0 a1 a2):=by
 intro a0 a1 a2 k
 obtain ⟨ih0,ih1⟩:=spec_SharePlan.mono_l k
 unfold spec_SharePlan.f
 repeat' first
   | (with_reducible exact ih0 _ _ _ _ _ _ _ _ _)
   | (with_reducible exact ih1 _ _ _ _ _ _ _)
   | (with_reducible exact spec_plFirst.mono _ _ _ _)
   | (with_reducible exact spec_plGood.mono _ _ _ _)
   | (with_reducible exact spec_plKeep.mono _ _ _ _ _)
   | (with_reducible exact spec_plUsed.mono _ _ _ _)
   | (with_reducible exact LeO.refl _)
   | (with_reducible exact LeO.none _)
   | (with_reducible refine LeO.ite ?_ ?_)
   | (with_reducible refine LeO.bind ?_ (fun _=>?_))
   | exact ih0 _ _ _ _ _ _ _ _ _
   | exact ih1 _ _ _ _ _ _ _
   | exact spec_plFirst.mono _ _ _ _
   | exact spec_plGood.mono _ _ _ _
   | exact spec_plKeep.mono _ _ _ _ _
   | exact spec_plUsed.mono _ _ _ _
   | exact LeO.none _
   | refine LeO.ite ?_ ?_
   | refine LeO.bind ?_ (fun _=>?_)
def spec_SharePlan.T8 : Bool × List (List Nat × List Nat):=(true,[([],[]),([0],[0]),([],[]),([],[]),([3],[3]),([2,4],[2,4]),([5],[5]),([],[]),([],[]),([8],[8]),([7,9],[7,9]),([10],[10]),([6,11],[6,11]),([12],[12]),([1,13,12],[1,13]),([0,1,2,3,4,5,6,7,8,9,10,11,12,13,14],[]),([15,14,14,0,1,2,3,4,5,6,7,8,9,10,11,12,13,14],[14,15])])
def spec_SharePlan.B8 : List Nat:=[0,1,0,0,8,28,60,0,0,256,896,1920,4092,8188,16383,32767,65535]
theorem spec_SharePlan.tab8 : rtab .any (opsOf Try.f24 8) = spec_SharePlan.T8:=by kernel_rfl
theorem spec_SharePlan.bits8 : waitsOk spec_SharePlan.T8.2 spec_SharePlan.B8 = true:=by kernel_rfl
def spec_SharePlan.T13 : Bool × List (List Nat × List Nat):=(true,[([],[]),([0],[0]),([],[]),([],[]),([2,3],[2,3]),([4],[4]),([5],[5]),([1,6],[1,6]),([0,1,2,3,4,5,6,7],[]),([8,7,7,0,1,2,3,4,5,6,7],[7,8])])
def spec_SharePlan.B13 : List Nat:=[0,1,0,0,12,28,60,127,255,511]
theorem spec_SharePlan.tab13 : rtab .any (opsOf Try.f24 13) = spec_SharePlan.T13:=by kernel_rfl
theorem spec_SharePlan.bits13 : waitsOk spec_SharePlan.T13.2 spec_SharePlan.B13 = true:=by kernel_rfl
set_option maxHeartbeats 8000000 in
set_option maxRecDepth 100000 in
theorem spec_SharePlan.calls (k : Nat) (a0_0 : Int) (A0_1 : Option Addr) (c0_1 : Nat) (l0_1 : List (S73)) (A0_2 : Option Addr) (c0_2 : Nat) (l0_2 : List Int) (r1 : Int) (r2 : List (S73)) (r3 : List Int) (r4 : Bool) (w : World) (hr0_1 : Kd.C k73 w A0_1 l0_1.length l0_1) (hc0_1 : l0_1.length ≤ c0_1) (hr0_2 : Kd.C (Kd.int .i64) w A0_2 l0_2.length l0_2) (hc0_2 : l0_2.length ≤ c0_2) (h : spec_SharePlan.f k a0_0 l0_1 l0_2 = some (r1,r2,r3,r4)) :
  Calls Try.prog 24 #[.agg #[.int .i64 a0_0,.slice A0_1 l0_1.length c0_1,.slice A0_2 l0_2.length c0_2]] w fun e w'=>∃ v1_ v2_ : Value,e = .returned (.tuple #[.agg #[.int .i64 r1,v1_,v2_],.bool r4]) ∧ Kd.R k73 73 w' w.heap.size (fun _=>True) v1_ r2 ∧ Kd.R (Kd.int .i64) 3 w' w.heap.size (fun _=>True) v2_ r3 ∧ Below w.heap.size w w':=by
 have hu29:=Try.underlying29
 have hu73:=Try.underlying73
 have HR0_1:=Aside0.mk hr0_1
 have HC0_1:=Aside0.mk hc0_1
 clear hr0_1 hc0_1
 have HR0_2:=Aside0.mk hr0_2
 have HC0_2:=Aside0.mk hc0_2
 clear hr0_2 hc0_2
 have HB:=Aside0.mk (Below.refl w.heap.size w)
 have H : ((spec_plGood.f k a0_0 l0_1 l0_2).bind fun t294=>(if t294 = true then ((spec_plFirst.f k a0_0 l0_1 l0_2).bind fun t295=>(spec_SharePlan.l0 k t295 l0_1 (l0_1.length : Int) 0 a0_0 l0_1 l0_2 a0_0 ([] : List (S73)))) else (some (0,([] : List (S73)),([] : List Int),false)))) = some (r1,r2,r3,r4):=h
 clear h
 replace H:=Option.bind_eq_some_iff.mp H
 obtain ⟨t294,A20,H⟩:=H
 replace H : (if t294 = true then ((spec_plFirst.f k a0_0 l0_1 l0_2).bind fun t295=>(spec_SharePlan.l0 k t295 l0_1 (l0_1.length : Int) 0 a0_0 l0_1 l0_2 a0_0 ([] : List (S73)))) else (some (0,([] : List (S73)),([] : List Int),false))) = some (r1,r2,r3,r4):=H
 have A2:=Aside0.mk A20
 clear A20
 by_cases c3 : t294 = true
 ·subst c3
  have H1 : ((spec_plFirst.f k a0_0 l0_1 l0_2).bind fun t295=>(spec_SharePlan.l0 k t295 l0_1 (l0_1.length : Int) 0 a0_0 l0_1 l0_2 a0_0 ([] : List (S73)))) = some (r1,r2,r3,r4):=by rw [if_pos rfl] at H;exact H
  clear H
  have H:=H1
  clear H1
  replace H:=Option.bind_eq_some_iff.mp H
  obtain ⟨t295,A40,H⟩:=H
  replace H : (spec_SharePlan.l0 k t295 l0_1 (l0_1.length : Int) 0 a0_0 l0_1 l0_2 a0_0 ([] : List (S73))) = some (r1,r2,r3,r4):=H
  have A4:=Aside0.mk A40
  clear A40
  have H':=Aside0.mk H
  clear H
  go_enter Try.func24,Try.ntmps24
  go_wp2_with (first|((with_reducible refine gate_dst (N:=1) rfl ?_);refine box_event ?hg (N:=1) ?hd (cs:=#[.int .i64 a0_0,.slice A0_1 l0_1.length c0_1,.slice A0_2 l0_2.length c0_2]) (t:=29) ?hr ?_;(case hd=>rfl);(case hg=>rfl);(case hr=>first|(go_simp;done)|(go_simp;rfl));intro gb292 hg w5 hbox hb;have n0_:=Aside0.mk (below_step bz hb);have n1_:=Aside0.mk (hbox);have n2_:=Aside0.mk ((by rw [hg];exact (below_size bz) : w.heap.size ≤ gb292));have n3_:=Aside0.mk ((by rw [hg];exact (below_size bz) : w.heap.size ≤ gb292));clear HB;have HB:=n0_;have BK292:=n1_;have GW292:=n2_;have GE292:=n3_;clear n0_ n1_ n2_ n3_;clear hb hbox hg)|((with_reducible refine gate_dst (N:=2) rfl ?_);refine box_event ?hg (N:=2) ?hd (cs:=#[.int .i64 0,.slice none 0 0,.slice none 0 0]) (t:=29) ?hr ?_;(case hd=>rfl);(case hg=>rfl);(case hr=>first|(go_simp;done)|(go_simp;rfl));intro gb293 hg w6 hbox hb;have n0_:=Aside0.mk (blk_below (g:=gb292) (o:=.cells #[.int .i64 a0_0,.slice A0_1 l0_1.length c0_1,.slice A0_2 l0_2.length c0_2] 29 (0,0)) (kz BK292.out) hb);have n1_:=Aside0.mk (below_step bs hb);have n2_:=Aside0.mk (hbox);have n3_:=Aside0.mk ((by rw [hg];exact (below_size bs) : w.heap.size ≤ gb293));have n4_:=Aside0.mk ((by rw [hg];exact (below_size bs) : w.heap.size ≤ gb293));have n5_:=Aside0.mk ((by rw [hg];exact Nat.ne_of_lt (blk_lt (g:=gb292) (o:=.cells #[.int .i64 a0_0,.slice A0_1 l0_1.length c0_1,.slice A0_2 l0_2.length c0_2] 29 (0,0)) (kz BK292.out)) : gb292 ≠ gb293));have n6_:=Aside0.mk ((by rw [hg];exact Nat.ne_of_gt (blk_lt (g:=gb292) (o:=.cells #[.int .i64 a0_0,.slice A0_1 l0_1.length c0_1,.slice A0_2 l0_2.length c0_2] 29 (0,0)) (kz BK292.out)) : gb293 ≠ gb292));clear BK292 HB;have BK292:=n0_;have HB:=n1_;have BK293:=n2_;have GW293:=n3_;have GE293:=n4_;have NB292_293:=n5_;have NB293_292:=n6_;clear n0_ n1_ n2_ n3_ n4_ n5_ n6_;clear hb hbox hg;have hnb7:=NB292_293.out;have hnc7:=NB293_292.out;have hcz8_0 : w6.cell? ⟨gb292,0,none⟩ = some (.int .i64 a0_0):=(blk_cell BK292.out 0).trans rfl;have hcz8_1 : w6.cell? ⟨gb292,1,none⟩ = some (.slice A0_1 l0_1.length c0_1):=(blk_cell BK292.out 1).trans rfl;have hcz8_2 : w6.cell? ⟨gb292,2,none⟩ = some (.slice A0_2 l0_2.length c0_2):=(blk_cell BK292.out 2).trans rfl;have hfz8_0:=blk_frozen BK292.out 0;have hfz8_1:=blk_frozen BK292.out 1;have hfz8_2:=blk_frozen BK292.out 2)|((with_reducible refine gate_callee (f:=38) rfl ?_);refine goesL_ (some 11) rfl rfl Try.func38 (by kernel_rfl) rfl #[.agg #[.int .i64 a0_0,.slice A0_1 l0_1.length c0_1,.slice A0_2 l0_2.length c0_2]] rfl mz ?_;(with_reducible refine (spec_plGood.calls k a0_0 _ _ l0_1 _ _ l0_2 true _ ?side1 ?side2 ?side3 ?side4 A2.out).mono ?_);(case side1=>exact cz (Kd.C_below HR0_1.out HB.out));(case side2=>exact HC0_1.out);(case side3=>exact cz (Kd.C_below HR0_2.out HB.out));(case side4=>exact HC0_2.out);rintro e w9 ⟨rfl,hb⟩;refine ⟨_,rfl,?_⟩;have n0_:=Aside0.mk (blk_below (g:=gb292) (o:=.cells #[.int .i64 a0_0,.slice A0_1 l0_1.length c0_1,.slice A0_2 l0_2.length c0_2] 29 (0,0)) (kz BK292.out) hb);have n1_:=Aside0.mk (blk_below (g:=gb293) (o:=.cells #[.int .i64 0,.slice none 0 0,.slice none 0 0] 29 (0,0)) (kz BK293.out) hb);have n2_:=Aside0.mk (below_step bs hb);clear BK292 BK293 HB;have BK292:=n0_;have BK293:=n1_;have HB:=n2_;clear n0_ n1_ n2_;(try clear hb);have hcz10_0 : w9.cell? ⟨gb292,0,none⟩ = some (.int .i64 a0_0):=(blk_cell BK292.out 0).trans rfl;have hcz10_1 : w9.cell? ⟨gb292,1,none⟩ = some (.slice A0_1 l0_1.length c0_1):=(blk_cell BK292.out 1).trans rfl;have hcz10_2 : w9.cell? ⟨gb292,2,none⟩ = some (.slice A0_2 l0_2.length c0_2):=(blk_cell BK292.out 2).trans rfl;have hfz10_0:=blk_frozen BK292.out 0;have hfz10_1:=blk_frozen BK292.out 1;have hfz10_2:=blk_frozen BK292.out 2)|((with_reducible refine gate_callee (f:=62) rfl ?_);refine goesL_ (some 15) rfl rfl Try.func62 (by kernel_rfl) rfl #[.agg #[.int .i64 a0_0,.slice A0_1 l0_1.length c0_1,.slice A0_2 l0_2.length c0_2]] rfl mz ?_;(with_reducible refine (spec_plFirst.calls k a0_0 _ _ l0_1 _ _ l0_2 t295 _ ?side1 ?side2 ?side3 ?side4 A4.out).mono ?_);(case side1=>exact cz (Kd.C_below HR0_1.out HB.out));(case side2=>exact HC0_1.out);(case side3=>exact cz (Kd.C_below HR0_2.out HB.out));(case side4=>exact HC0_2.out);rintro e w11 ⟨v296,rfl,ho0,hb⟩;refine ⟨_,rfl,?_⟩;have n0_:=Aside0.mk (Kd.R_lower ho0 (below_size bs));have n1_:=Aside0.mk (blk_below (g:=gb292) (o:=.cells #[.int .i64 a0_0,.slice A0_1 l0_1.length c0_1,.slice A0_2 l0_2.length c0_2] 29 (0,0)) (kz BK292.out) hb);have n2_:=Aside0.mk (blk_below (g:=gb293) (o:=.cells #[.int .i64 0,.slice none 0 0,.slice none 0 0] 29 (0,0)) (kz BK293.out) hb);have n3_:=Aside0.mk (below_step bs hb);clear BK292 BK293 HB;have HO297:=n0_;have BK292:=n1_;have BK293:=n2_;have HB:=n3_;clear n0_ n1_ n2_ n3_;(try clear hb);(try clear ho0);have hcz12_0 : w11.cell? ⟨gb292,0,none⟩ = some (.int .i64 a0_0):=(blk_cell BK292.out 0).trans rfl;have hcz12_1 : w11.cell? ⟨gb292,1,none⟩ = some (.slice A0_1 l0_1.length c0_1):=(blk_cell BK292.out 1).trans rfl;have hcz12_2 : w11.cell? ⟨gb292,2,none⟩ = some (.slice A0_2 l0_2.length c0_2):=(blk_cell BK292.out 2).trans rfl;have hfz12_0:=blk_frozen BK292.out 0;have hfz12_1:=blk_frozen BK292.out 1;have hfz12_2:=blk_frozen BK292.out 2)|((with_reducible refine gate_dst (N:=5) rfl ?_);refine box_event ?hg (N:=5) ?hd (cs:=#[.int .i64 0,.slice none 0 0,.slice none 0 0]) (t:=29) ?hr ?_;(case hd=>rfl);(case hg=>rfl);(case hr=>first|(go_simp;done)|(go_simp;rfl));intro gb298 hg w13 hbox hb;have n0_:=Aside0.mk (Kd.R_below (rz HO297.out) hb);have n1_:=Aside0.mk (blk_below (g:=gb292) (o:=.cells #[.int .i64 a0_0,.slice A0_1 l0_1.length c0_1,.slice A0_2 l0_2.length c0_2] 29 (0,0)) (kz BK292.out) hb);have n2_:=Aside0.mk (blk_below (g:=gb293) (o:=.cells #[.int .i64 0,.slice none 0 0,.slice none 0 0] 29 (0,0)) (kz BK293.out) hb);have n3_:=Aside0.mk (below_step bs hb);have n4_:=Aside0.mk (hbox);have n5_:=Aside0.mk ((by rw [hg];exact (below_size bs) : w.heap.size ≤ gb298));have n6_:=Aside0.mk ((by rw [hg];exact (below_size bs) : w.heap.size ≤ gb298));have n7_:=Aside0.mk ((by rw [hg];exact Nat.ne_of_lt (blk_lt (g:=gb292) (o:=.cells #[.int .i64 a0_0,.slice A0_1 l0_1.length c0_1,.slice A0_2 l0_2.length c0_2] 29 (0,0)) (kz BK292.out)) : gb292 ≠ gb298));have n8_:=Aside0.mk ((by rw [hg];exact Nat.ne_of_gt (blk_lt (g:=gb292) (o:=.cells #[.int .i64 a0_0,.slice A0_1 l0_1.length c0_1,.slice A0_2 l0_2.length c0_2] 29 (0,0)) (kz BK292.out)) : gb298 ≠ gb292));have n9_:=Aside0.mk ((by rw [hg];exact Nat.ne_of_lt (blk_lt (g:=gb293) (o:=.cells #[.int .i64 0,.slice none 0 0,.slice none 0 0] 29 (0,0)) (kz BK293.out)) : gb293 ≠ gb298));have n10_:=Aside0.mk ((by rw [hg];exact Nat.ne_of_gt (blk_lt (g:=gb293) (o:=.cells #[.int .i64 0,.slice none 0 0,.slice none 0 0] 29 (0,0)) (kz BK293.out)) : gb298 ≠ gb293));clear HO297 BK292 BK293 HB;have HO297:=n0_;have BK292:=n1_;have BK293:=n2_;have HB:=n3_;have BK298:=n4_;have GW298:=n5_;have GE298:=n6_;have NB292_298:=n7_;have NB298_292:=n8_;have NB293_298:=n9_;have NB298_293:=n10_;clear n0_ n1_ n2_ n3_ n4_ n5_ n6_ n7_ n8_ n9_ n10_;clear hb hbox hg;have hnb14:=NB298_292.out;have hnc14:=NB292_298.out;have hnb15:=NB298_293.out;have hnc15:=NB293_298.out;have hcz16_0 : w13.cell? ⟨gb298,0,none⟩ = some (.int .i64 0):=(blk_cell BK298.out 0).trans rfl;have hcz16_1 : w13.cell? ⟨gb298,1,none⟩ = some (.slice none 0 0):=(blk_cell BK298.out 1).trans rfl;have hcz16_2 : w13.cell? ⟨gb298,2,none⟩ = some (.slice none 0 0):=(blk_cell BK298.out 2).trans rfl;have hfz16_0:=blk_frozen BK298.out 0;have hfz16_1:=blk_frozen BK298.out 1;have hfz16_2:=blk_frozen BK298.out 2;have hcz17_0 : w13.cell? ⟨gb292,0,none⟩ = some (.int .i64 a0_0):=(blk_cell BK292.out 0).trans rfl;have hcz17_1 : w13.cell? ⟨gb292,1,none⟩ = some (.slice A0_1 l0_1.length c0_1):=(blk_cell BK292.out 1).trans rfl;have hcz17_2 : w13.cell? ⟨gb292,2,none⟩ = some (.slice A0_2 l0_2.length c0_2):=(blk_cell BK292.out 2).trans rfl;have hfz17_0:=blk_frozen BK292.out 0;have hfz17_1:=blk_frozen BK292.out 1;have hfz17_2:=blk_frozen BK292.out 2))
  go_loopg [22] k (fun kq v22 w'=>∃ (x22_1 : Int) (x299001_1 : List (S73)) (u299001 : Value),v22 = .int .i64 x22_1 ∧ Aside0 (spec_SharePlan.l0 kq t295 l0_1 (l0_1.length : Int) x22_1 a0_0 l0_1 l0_2 a0_0 x299001_1 = some (r1,r2,r3,r4)) ∧ Aside0 (kq ≤ k) ∧ Aside0 (Kd.R (Kd.int .i64) 3 w' w.heap.size (fun _=>True) v296 t295) ∧ Aside0 (Kd.R k73 73 w' w.heap.size (fun _=>True) u299001 x299001_1) ∧ Aside0 (w'.heap[gb292]? = some (.cells #[.int .i64 a0_0,(.slice A0_1 l0_1.length c0_1),(.slice A0_2 l0_2.length c0_2)] 29 (0,0))) ∧ Aside0 (w'.heap[gb293]? = some (.cells #[.int .i64 0,(.slice none 0 0),(.slice none 0 0)] 29 (0,0))) ∧ Aside0 (w'.heap[gb298]? = some (.cells #[.int .i64 a0_0,u299001,(.slice none 0 0)] 29 (0,0))) ∧ Aside0 (Below w.heap.size w w'))
  case atStart=>exact ⟨(0),(([] : List (S73))),(.slice none 0 0),fz,H',⟨Nat.le_refl _⟩,⟨by (with_reducible repeat (first|apply Kd.R_alloc|apply Kd.R_drewN|apply Kd.R_drew));exact Kd.R_mono (Kd.R_far (p:=⟨gb298,2,none⟩) (Kd.R_far (p:=⟨gb298,1,none⟩) (Kd.R_far (p:=⟨gb298,0,none⟩) (Kd.R_types HO297.out BK298.out (by decide)) (fun _ hk=>hk.2) (.int .i64 a0_0)) (fun _ hk=>hk.2) (.slice none 0 0)) (fun _ hk=>hk.2) (.slice none 0 0)) (fun _ hk=>trivial)⟩,⟨by first|exact Kd.R_nil _ _ _ _ _|exact Kd.N_nil _ _ _ _ _|exact Kd.V_nil _ _ _ _ _|exact Kd.Q_nil _ _ _ _ _|exact Kd.S_nil _ _ _ _ _⟩,⟨by (with_reducible repeat (first|refine blk_drewN ?_ _|refine blk_drew ?_|refine blk_alloc ?_ _));refine blk_far ?_ NB292_298.out _;(with_reducible repeat (first|refine blk_drewN ?_ _|refine blk_drew ?_|refine blk_alloc ?_ _));refine blk_far ?_ NB292_298.out _;(with_reducible repeat (first|refine blk_drewN ?_ _|refine blk_drew ?_|refine blk_alloc ?_ _));refine blk_far ?_ NB292_298.out _;(with_reducible repeat (first|refine blk_drewN ?_ _|refine blk_drew ?_|refine blk_alloc ?_ _));exact BK292.out⟩,⟨by (with_reducible repeat (first|refine blk_drewN ?_ _|refine blk_drew ?_|refine blk_alloc ?_ _));refine blk_far ?_ NB293_298.out _;(with_reducible repeat (first|refine blk_drewN ?_ _|refine blk_drew ?_|refine blk_alloc ?_ _));refine blk_far ?_ NB293_298.out _;(with_reducible repeat (first|refine blk_drewN ?_ _|refine blk_drew ?_|refine blk_alloc ?_ _));refine blk_far ?_ NB293_298.out _;(with_reducible repeat (first|refine blk_drewN ?_ _|refine blk_drew ?_|refine blk_alloc ?_ _));exact BK293.out⟩,⟨by (with_reducible repeat (first|refine blk_drewN ?_ _|refine blk_drew ?_|refine blk_alloc ?_ _));refine blk_put (cs:=#[.int .i64 a0_0,.slice none 0 0,.slice none 0 0]) ?_ 2 _ rfl;(with_reducible repeat (first|refine blk_drewN ?_ _|refine blk_drew ?_|refine blk_alloc ?_ _));refine blk_put (cs:=#[.int .i64 a0_0,.slice none 0 0,.slice none 0 0]) ?_ 1 _ rfl;(with_reducible repeat (first|refine blk_drewN ?_ _|refine blk_drew ?_|refine blk_alloc ?_ _));refine blk_put (cs:=#[.int .i64 0,.slice none 0 0,.slice none 0 0]) ?_ 0 _ rfl;(with_reducible repeat (first|refine blk_drewN ?_ _|refine blk_drew ?_|refine blk_alloc ?_ _));exact BK298.out⟩,⟨by repeat (first|(with_reducible first|exact HB.out|apply below_alloc|apply pw_below_drewN|apply below_drew1|refine below_set ?_ GE292.out|refine below_set ?_ GE293.out|refine below_set ?_ GE298.out)|exact HB.out)⟩⟩
  case round=>
   clear H'
   try clear c1
   try clear c2
   try clear p2
   try clear c3
   try clear c6
   try clear c7
   try clear c14
   try clear c15
   try clear hcz10_0
   try clear hcz10_1
   try clear hcz10_2
   try clear hcz12_0
   try clear hcz12_1
   try clear hcz12_2
   try clear hcz16_0
   try clear hcz16_1
   try clear hcz16_2
   try clear hcz17_0
   try clear hcz17_1
   try clear hcz17_2
   try clear hcz8_0
   try clear hcz8_1
   try clear hcz8_2
   try clear hfz10_0
   try clear hfz10_1
   try clear hfz10_2
   try clear hfz12_0
   try clear hfz12_1
   try clear hfz12_2
   try clear hfz16_0
   try clear hfz16_1
   try clear hfz16_2
   try clear hfz17_0
   try clear hfz17_1
   try clear hfz17_2
   try clear hfz8_0
   try clear hfz8_1
   try clear hfz8_2
   obtain ⟨x22_1,x299001_1,u299001,rfl,HA,HK1,HO_4,HO_299001,BK292,BK293,BK298,HB⟩:=hrel
   cases gk with
   | zero=>exact absurd HA.out (by simp [spec_SharePlan.l0])
   | succ k1=>
    have H:=HA.out
    clear HA
    simp only [spec_SharePlan.l0] at H
    by_cases c18 : x22_1 < (l0_1.length : Int)
    ·rw [if_pos c18] at H
     have c18b0 : decide (x22_1 < (l0_1.length : Int)) = true:=decide_eq_true c18
     clear c18
     by_cases c19 : 0 ≤ x22_1
     ·rw [if_pos c19] at H
      have c19b0 : decide (0 ≤ x22_1) = true:=decide_eq_true c19
      clear c19
      by_cases c20 : x22_1 < (l0_1.length : Int)
      ·rw [if_pos c20] at H
       have c20b0 : decide (x22_1 < (l0_1.length : Int)) = true:=decide_eq_true c20
       clear c20
       by_cases c21 : 0 ≤ ((rd_T73 l0_1 x22_1).f0)
       ·rw [if_pos c21] at H
        have c21b0 : decide (0 ≤ ((rd_T73 l0_1 x22_1).f0)) = true:=decide_eq_true c21
        clear c21
        by_cases c22 : ((rd_T73 l0_1 x22_1).f0) < (t295.length : Int)
        ·rw [if_pos c22] at H
         have c22b0 : decide (((rd_T73 l0_1 x22_1).f0) < (t295.length : Int)) = true:=decide_eq_true c22
         clear c22
         by_cases c23 : 0 ≤ ((rd_T73 l0_1 x22_1).f1)
         ·rw [if_pos c23] at H
          have c23b0 : decide (0 ≤ ((rd_T73 l0_1 x22_1).f1)) = true:=decide_eq_true c23
          clear c23
          by_cases c24 : ((rd_T73 l0_1 x22_1).f1) < (t295.length : Int)
          ·rw [if_pos c24] at H
           have c24b0 : decide (((rd_T73 l0_1 x22_1).f1) < (t295.length : Int)) = true:=decide_eq_true c24
           clear c24
           replace H:=Option.bind_eq_some_iff.mp H
           obtain ⟨⟨t303,t304⟩,A250,H⟩:=H
           replace H : (if x299001_1.length < 8796093022208 then (spec_SharePlan.l0 k1 t295 l0_1 (l0_1.length : Int) (wrap64 (x22_1 + 1)) a0_0 l0_1 l0_2 a0_0 (x299001_1 ++ [(⟨t303,t304⟩ : S73)])) else (none)) = some (r1,r2,r3,r4):=H
           have A25:=Aside0.mk A250
           clear A250
           by_cases c26 : x299001_1.length < 8796093022208
           ·rw [if_pos c26] at H
            have LMc26:=Aside0.mk c26
            clear c26
            obtain ⟨y305,hy305⟩ : ∃ y_ : List (S73),y_ = (x299001_1 ++ [(⟨t303,t304⟩ : S73)]):=⟨_,rfl⟩
            replace H : (spec_SharePlan.l0 k1 t295 l0_1 (l0_1.length : Int) (wrap64 (x22_1 + 1)) a0_0 l0_1 l0_2 a0_0 y305) = some (r1,r2,r3,r4):=by first|(rw [hy305];with_reducible exact H)|(have H2_:=(Option.bind_some _ _).symm.trans H;rw [hy305];with_reducible exact H2_)|(have H2_:=(Option.bind_some _ _).symm.trans H;with_reducible exact H2_)|with_reducible exact H|(rw [hy305];exact H)|exact H
            have Ny305:=Aside0.mk hy305
            clear hy305
            have H':=Aside0.mk H
            clear H
            have p299 : 0 ≤ (x22_1 : Int):=of_decide_eq_true az
            have q299 : x22_1 < (l0_1.length : Int):=of_decide_eq_true az
            obtain ⟨ad299,e299,hx299_0,hx299_1⟩:=at_T73 HR0_1.out x22_1 p299 q299
            cases e299
            replace hx299_0:=(HB.out.cell (World.block_lt_of_cell? w _ hx299_0)).trans hx299_0
            replace hx299_1:=(HB.out.cell (World.block_lt_of_cell? w _ hx299_1)).trans hx299_1
            replace p299:=eq_true p299
            replace q299:=eq_true q299
            try go_wp2_with (first|((with_reducible refine gate_dst (N:=7) rfl ?_);refine box_event ?hg (N:=7) ?hd (cs:=#[.int .i64 0,.int .i64 0]) (t:=73) ?hr ?_;(case hd=>rfl);(case hg=>rfl);(case hr=>first|(go_simp;done)|(go_simp;rfl));intro gb300 hg w27 hbox hb;have n0_:=Aside0.mk (Kd.R_below (rz HO_4.out) hb);have n1_:=Aside0.mk (Kd.R_below (Kd.R_elderB (rz HO_299001.out) gb300 (Nat.le_of_eq hg.symm)) hb);have n2_:=Aside0.mk (blk_below (g:=gb292) (o:=.cells #[.int .i64 a0_0,.slice (some ad299) l0_1.length c0_1,.slice A0_2 l0_2.length c0_2] 29 (0,0)) (kz BK292.out) hb);have n3_:=Aside0.mk (blk_below (g:=gb293) (o:=.cells #[.int .i64 0,.slice none 0 0,.slice none 0 0] 29 (0,0)) (kz BK293.out) hb);have n4_:=Aside0.mk (blk_below (g:=gb298) (o:=.cells #[.int .i64 a0_0,u299001,.slice none 0 0] 29 (0,0)) (kz BK298.out) hb);have n5_:=Aside0.mk (below_step bs hb);have n6_:=Aside0.mk (hbox);have n7_:=Aside0.mk ((by rw [hg];exact (below_size bs) : w.heap.size ≤ gb300));have n8_:=Aside0.mk ((by rw [hg];exact (below_size bs) : w.heap.size ≤ gb300));have n9_:=Aside0.mk ((by rw [hg];exact Nat.ne_of_lt (blk_lt (g:=gb292) (o:=.cells #[.int .i64 a0_0,.slice (some ad299) l0_1.length c0_1,.slice A0_2 l0_2.length c0_2] 29 (0,0)) (kz BK292.out)) : gb292 ≠ gb300));have n10_:=Aside0.mk ((by rw [hg];exact Nat.ne_of_gt (blk_lt (g:=gb292) (o:=.cells #[.int .i64 a0_0,.slice (some ad299) l0_1.length c0_1,.slice A0_2 l0_2.length c0_2] 29 (0,0)) (kz BK292.out)) : gb300 ≠ gb292));have n11_:=Aside0.mk ((by rw [hg];exact Nat.ne_of_lt (blk_lt (g:=gb293) (o:=.cells #[.int .i64 0,.slice none 0 0,.slice none 0 0] 29 (0,0)) (kz BK293.out)) : gb293 ≠ gb300));have n12_:=Aside0.mk ((by rw [hg];exact Nat.ne_of_gt (blk_lt (g:=gb293) (o:=.cells #[.int .i64 0,.slice none 0 0,.slice none 0 0] 29 (0,0)) (kz BK293.out)) : gb300 ≠ gb293));have n13_:=Aside0.mk ((by rw [hg];exact Nat.ne_of_lt (blk_lt (g:=gb298) (o:=.cells #[.int .i64 a0_0,u299001,.slice none 0 0] 29 (0,0)) (kz BK298.out)) : gb298 ≠ gb300));have n14_:=Aside0.mk ((by rw [hg];exact Nat.ne_of_gt (blk_lt (g:=gb298) (o:=.cells #[.int .i64 a0_0,u299001,.slice none 0 0] 29 (0,0)) (kz BK298.out)) : gb300 ≠ gb298));clear HO_4 HO_299001 BK292 BK293 BK298 HB;have HO_4:=n0_;have HO_299001:=n1_;have BK292:=n2_;have BK293:=n3_;have BK298:=n4_;have HB:=n5_;have BK300:=n6_;have GW300:=n7_;have GE300:=n8_;have NB292_300:=n9_;have NB300_292:=n10_;have NB293_300:=n11_;have NB300_293:=n12_;have NB298_300:=n13_;have NB300_298:=n14_;clear n0_ n1_ n2_ n3_ n4_ n5_ n6_ n7_ n8_ n9_ n10_ n11_ n12_ n13_ n14_;clear hb hbox hg;have hnb28:=NB300_292.out;have hnc28:=NB292_300.out;have hnb29:=NB300_293.out;have hnc29:=NB293_300.out;have hnb30:=NB300_298.out;have hnc30:=NB298_300.out;have hcz31_0 : w27.cell? ⟨gb300,0,none⟩ = some (.int .i64 0):=(blk_cell BK300.out 0).trans rfl;have hcz31_1 : w27.cell? ⟨gb300,1,none⟩ = some (.int .i64 0):=(blk_cell BK300.out 1).trans rfl;have hfz31_0:=blk_frozen BK300.out 0;have hfz31_1:=blk_frozen BK300.out 1))
            have n0_ : Aside0 (Kd.R (Kd.int .i64) 3 ((w27.setCell ⟨gb300,0,none⟩ (.int .i64 ((rd_T73 l0_1 x22_1).f0))).setCell ⟨gb300,1,none⟩ (.int .i64 ((rd_T73 l0_1 x22_1).f1))) w.heap.size (fun _=>True) v296 t295):=⟨by (with_reducible repeat (first|apply Kd.R_alloc|apply Kd.R_drewN|apply Kd.R_drew));exact Kd.R_mono (Kd.R_far (p:=⟨gb300,1,none⟩) (Kd.R_far (p:=⟨gb300,0,none⟩) (Kd.R_types HO_4.out BK300.out (by decide)) (fun _ hk=>hk.2) (.int .i64 ((rd_T73 l0_1 x22_1).f0))) (fun _ hk=>hk.2) (.int .i64 ((rd_T73 l0_1 x22_1).f1))) (fun _ hk=>trivial)⟩
            have n1_ : Aside0 (Kd.R k73 73 ((w27.setCell ⟨gb300,0,none⟩ (.int .i64 ((rd_T73 l0_1 x22_1).f0))).setCell ⟨gb300,1,none⟩ (.int .i64 ((rd_T73 l0_1 x22_1).f1))) w.heap.size (fun k_=>k_ ≠ gb300) u299001 x299001_1):=⟨by (with_reducible repeat (first|apply Kd.R_alloc|apply Kd.R_drewN|apply Kd.R_drew));exact Kd.R_mono (Kd.R_far (p:=⟨gb300,1,none⟩) (Kd.R_far (p:=⟨gb300,0,none⟩) (Kd.R_mono HO_299001.out (fun k_ hk=>(⟨hk,hk.2⟩ : _ ∧ k_ ≠ gb300))) (fun _ hk=>hk.2) (.int .i64 ((rd_T73 l0_1 x22_1).f0))) (fun _ hk=>hk.2) (.int .i64 ((rd_T73 l0_1 x22_1).f1))) (fun _ hk=>hk.1.2)⟩
            have n2_ : Aside0 (((w27.setCell ⟨gb300,0,none⟩ (.int .i64 ((rd_T73 l0_1 x22_1).f0))).setCell ⟨gb300,1,none⟩ (.int .i64 ((rd_T73 l0_1 x22_1).f1))).heap[gb292]? = some (.cells #[.int .i64 a0_0,.slice (some ad299) l0_1.length c0_1,.slice A0_2 l0_2.length c0_2] 29 (0,0))):=⟨by (with_reducible repeat (first|refine blk_drewN ?_ _|refine blk_drew ?_|refine blk_alloc ?_ _));refine blk_far ?_ NB292_300.out _;(with_reducible repeat (first|refine blk_drewN ?_ _|refine blk_drew ?_|refine blk_alloc ?_ _));refine blk_far ?_ NB292_300.out _;(with_reducible repeat (first|refine blk_drewN ?_ _|refine blk_drew ?_|refine blk_alloc ?_ _));exact BK292.out⟩
            have n3_ : Aside0 (((w27.setCell ⟨gb300,0,none⟩ (.int .i64 ((rd_T73 l0_1 x22_1).f0))).setCell ⟨gb300,1,none⟩ (.int .i64 ((rd_T73 l0_1 x22_1).f1))).heap[gb293]? = some (.cells #[.int .i64 0,.slice none 0 0,.slice none 0 0] 29 (0,0))):=⟨by (with_reducible repeat (first|refine blk_drewN ?_ _|refine blk_drew ?_|refine blk_alloc ?_ _));refine blk_far ?_ NB293_300.out _;(with_reducible repeat (first|refine blk_drewN ?_ _|refine blk_drew ?_|refine blk_alloc ?_ _));refine blk_far ?_ NB293_300.out _;(with_reducible repeat (first|refine blk_drewN ?_ _|refine blk_drew ?_|refine blk_alloc ?_ _));exact BK293.out⟩
            have n4_ : Aside0 (((w27.setCell ⟨gb300,0,none⟩ (.int .i64 ((rd_T73 l0_1 x22_1).f0))).setCell ⟨gb300,1,none⟩ (.int .i64 ((rd_T73 l0_1 x22_1).f1))).heap[gb298]? = some (.cells #[.int .i64 a0_0,u299001,.slice none 0 0] 29 (0,0))):=⟨by (with_reducible repeat (first|refine blk_drewN ?_ _|refine blk_drew ?_|refine blk_alloc ?_ _));refine blk_far ?_ NB298_300.out _;(with_reducible repeat (first|refine blk_drewN ?_ _|refine blk_drew ?_|refine blk_alloc ?_ _));refine blk_far ?_ NB298_300.out _;(with_reducible repeat (first|refine blk_drewN ?_ _|refine blk_drew ?_|refine blk_alloc ?_ _));exact BK298.out⟩
            have n5_ : Aside0 (((w27.setCell ⟨gb300,0,none⟩ (.int .i64 ((rd_T73 l0_1 x22_1).f0))).setCell ⟨gb300,1,none⟩ (.int .i64 ((rd_T73 l0_1 x22_1).f1))).heap[gb300]? = some (.cells #[.int .i64 ((rd_T73 l0_1 x22_1).f0),.int .i64 ((rd_T73 l0_1 x22_1).f1)] 73 (0,0))):=⟨by (with_reducible repeat (first|refine blk_drewN ?_ _|refine blk_drew ?_|refine blk_alloc ?_ _));refine blk_put (cs:=#[.int .i64 ((rd_T73 l0_1 x22_1).f0),.int .i64 0]) ?_ 1 _ rfl;(with_reducible repeat (first|refine blk_drewN ?_ _|refine blk_drew ?_|refine blk_alloc ?_ _));refine blk_put (cs:=#[.int .i64 0,.int .i64 0]) ?_ 0 _ rfl;(with_reducible repeat (first|refine blk_drewN ?_ _|refine blk_drew ?_|refine blk_alloc ?_ _));exact BK300.out⟩
            have n6_ : Aside0 (Below w.heap.size w ((w27.setCell ⟨gb300,0,none⟩ (.int .i64 ((rd_T73 l0_1 x22_1).f0))).setCell ⟨gb300,1,none⟩ (.int .i64 ((rd_T73 l0_1 x22_1).f1)))):=⟨by repeat (first|(with_reducible first|exact HB.out|apply below_alloc|apply pw_below_drewN|apply below_drew1|refine below_set ?_ GE292.out|refine below_set ?_ GE293.out|refine below_set ?_ GE298.out|refine below_set ?_ GE300.out)|exact HB.out)⟩
            (try clear HO_4)
            (try clear HO_299001)
            (try clear BK292)
            (try clear BK293)
            (try clear BK298)
            (try clear BK300)
            (try clear HB)
            generalize ((w27.setCell ⟨gb300,0,none⟩ (.int .i64 ((rd_T73 l0_1 x22_1).f0))).setCell ⟨gb300,1,none⟩ (.int .i64 ((rd_T73 l0_1 x22_1).f1))) = w32 at n0_ n1_ n2_ n3_ n4_ n5_ n6_ ⊢
            have HO_4:=n0_
            have HO_299001:=n1_
            have BK292:=n2_
            have BK293:=n3_
            have BK298:=n4_
            have BK300:=n5_
            have HB:=n6_
            clear n0_ n1_ n2_ n3_ n4_ n5_ n6_
            have n0_:=Aside0.mk (Kd.R_drew HO_4.out)
            have n1_:=Aside0.mk (Kd.R_drew HO_299001.out)
            have n2_:=Aside0.mk (blk_drew BK292.out)
            have n3_:=Aside0.mk (blk_drew BK293.out)
            have n4_:=Aside0.mk (blk_drew BK298.out)
            have n5_:=Aside0.mk (blk_drew BK300.out)
            have n6_:=Aside0.mk (below_drew1 HB.out)
            clear HO_4
            clear HO_299001
            clear BK292
            clear BK293
            clear BK298
            clear BK300
            clear HB
            have HO_4:=n0_
            have HO_299001:=n1_
            have BK292:=n2_
            have BK293:=n3_
            have BK298:=n4_
            have BK300:=n5_
            have HB:=n6_
            clear n0_ n1_ n2_ n3_ n4_ n5_ n6_
            obtain ⟨Ao34,co34,eo34⟩:=Kd.R_slice HO_4.out
            (first|subst eo34|(injection eo34 with f1_ f2_ f3_;have f4_:=f1_.symm;have f5_:=f3_.symm;clear f1_ f2_ f3_;subst f4_;subst f5_))
            have p301 : 0 ≤ (((rd_T73 l0_1 x22_1).f0) : Int):=of_decide_eq_true az
            have q301 : ((rd_T73 l0_1 x22_1).f0) < (t295.length : Int):=of_decide_eq_true az
            obtain ⟨ad301,e301,hx301_0⟩:=Kd.at_int (Kd.R_reads' HO_4.out).2.2 ((rd_T73 l0_1 x22_1).f0) p301 q301
            cases e301
            replace p301:=eq_true p301
            replace q301:=eq_true q301
            have p302 : 0 ≤ (((rd_T73 l0_1 x22_1).f1) : Int):=of_decide_eq_true az
            have q302 : ((rd_T73 l0_1 x22_1).f1) < (t295.length : Int):=of_decide_eq_true az
            obtain ⟨ad302,e302,hx302_0⟩:=Kd.at_int (Kd.R_reads' HO_4.out).2.2 ((rd_T73 l0_1 x22_1).f1) p302 q302
            obtain rfl : ad301 = ad302:=(by injection e302)
            replace p302:=eq_true p302
            replace q302:=eq_true q302
            refine start_ (n:=17) (S:=fun w'=>w'.cell? ⟨gb298,0,none⟩ = some (.int .i64 a0_0) ∧ w'.cell? ⟨gb298,1,none⟩ = some (u299001) ∧ w'.cell? ⟨gb298,2,none⟩ = some (.slice none 0 0) ∧ w'.cell? ⟨gb300,0,none⟩ = some (.int .i64 ((rd_T73 l0_1 x22_1).f0)) ∧ w'.cell? ⟨gb300,1,none⟩ = some (.int .i64 ((rd_T73 l0_1 x22_1).f1)) ∧ w'.cell? (ad301.add (((rd_T73 l0_1 x22_1).f0)).toNat) = some (.int .i64 (rd t295 ((rd_T73 l0_1 x22_1).f0))) ∧ w'.cell? (ad301.add (((rd_T73 l0_1 x22_1).f1)).toNat) = some (.int .i64 (rd t295 ((rd_T73 l0_1 x22_1).f1)))) (ds:=[14,16]) #[false,false,false,false,false,false,false,false,false,false,false,false,false,false,false,false,false] (by kernel_rfl) rfl rfl ⟨(blk_cell BK298.out 0).trans rfl,(blk_cell BK298.out 1).trans rfl,(blk_cell BK298.out 2).trans rfl,(blk_cell BK300.out 0).trans rfl,(blk_cell BK300.out 1).trans rfl,hx301_0,hx302_0⟩ (fun hHeld=>?_);refine with_tabW spec_SharePlan.tab8 spec_SharePlan.bits8 (fun HT_ HW_=>?_)
            generalize w32.drew = w33 at HO_4 HO_299001 BK292 BK293 BK298 BK300 HB hx301_0 hx302_0 hHeld ⊢
            refine pure_ (i:=0) (N:=some 26) (v:=?_) (a':=?_) #[true,false,false,false,false,false,false,false,false,false,false,false,false,false,false,false,false] rfl rfl (any_of HT_.out (by kernel_rfl)) (fun _ _ _ h=>h) (Or.inl ⟨by rfl,?_⟩) ?_ ?_
            rotate_left
            ·intro w'
             go_simp
             with_reducible rfl
            rotate_left
            ·simp only [Act.put,List.setIfInBounds_toArray,List.set_cons_zero,List.set_cons_succ,i64_w,i32_w]
             rfl
            refine pure_ (i:=2) (N:=some 28) (v:=?_) (a':=?_) #[true,false,true,false,false,false,false,false,false,false,false,false,false,false,false,false,false] rfl rfl (any_of HT_.out (by kernel_rfl)) (fun _ _ _ h=>h) (Or.inl ⟨by rfl,?_⟩) ?_ ?_
            rotate_left
            ·intro w'
             go_simp
             with_reducible rfl
            rotate_left
            ·simp only [Act.put,List.setIfInBounds_toArray,List.set_cons_zero,List.set_cons_succ,i64_w,i32_w]
             rfl
            refine pure_ (i:=3) (N:=some 29) (v:=?_) (a':=?_) #[true,false,true,true,false,false,false,false,false,false,false,false,false,false,false,false,false] rfl rfl (any_of HT_.out (by kernel_rfl)) (fun _ _ _ h=>h) (Or.inl ⟨by rfl,?_⟩) ?_ ?_
            rotate_left
            ·intro w'
             go_simp
             with_reducible rfl
            rotate_left
            ·simp only [Act.put,List.setIfInBounds_toArray,List.set_cons_zero,List.set_cons_succ,i64_w,i32_w]
             rfl
            refine pure_ (i:=7) (N:=some 33) (v:=?_) (a':=?_) #[true,false,true,true,false,false,false,true,false,false,false,false,false,false,false,false,false] rfl rfl (any_of HT_.out (by kernel_rfl)) (fun _ _ _ h=>h) (Or.inl ⟨by rfl,?_⟩) ?_ ?_
            rotate_left
            ·intro w'
             go_simp
             with_reducible rfl
            rotate_left
            ·simp only [Act.put,List.setIfInBounds_toArray,List.set_cons_zero,List.set_cons_succ,i64_w,i32_w]
             rfl
            refine pure_ (i:=8) (N:=some 34) (v:=?_) (a':=?_) #[true,false,true,true,false,false,false,true,true,false,false,false,false,false,false,false,false] rfl rfl (any_of HT_.out (by kernel_rfl)) (fun _ _ _ h=>h) (Or.inl ⟨by rfl,?_⟩) ?_ ?_
            rotate_left
            ·intro w'
             go_simp
             with_reducible rfl
            rotate_left
            ·simp only [Act.put,List.setIfInBounds_toArray,List.set_cons_zero,List.set_cons_succ,i64_w,i32_w]
             rfl
            refine take_ (i:=1) (N:=some 27) (v:=?_) (a':=?_) #[true,true,true,true,false,false,false,true,true,false,false,false,false,false,false,false,false] rfl rfl (take_ofW HT_.out HW_.out (by kernel_rfl)) (fun _ _ _ h=>h) (Or.inl ⟨by rfl,?_⟩) hHeld ?_ ?_
            rotate_left
            ·rintro w' ⟨s0,s1,s2,s3,s4,s5,s6⟩
             go_simp
             with_reducible rfl
            rotate_left
            ·simp only [Act.put,List.setIfInBounds_toArray,List.set_cons_zero,List.set_cons_succ,i64_w,i32_w]
             rfl
            refine take_ (i:=4) (N:=some 30) (v:=?_) (a':=?_) #[true,true,true,true,true,false,false,true,true,false,false,false,false,false,false,false,false] rfl rfl (take_ofW HT_.out HW_.out (by kernel_rfl)) (fun _ _ _ h=>h) (Or.inl ⟨by rfl,?_⟩) hHeld ?_ ?_
            rotate_left
            ·rintro w' ⟨s0,s1,s2,s3,s4,s5,s6⟩
             go_simp
             with_reducible rfl
            rotate_left
            ·simp only [Act.put,List.setIfInBounds_toArray,List.set_cons_zero,List.set_cons_succ,i64_w,i32_w]
             rfl
            refine pure_ (i:=5) (N:=some 31) (v:=?_) (a':=?_) #[true,true,true,true,true,true,false,true,true,false,false,false,false,false,false,false,false] rfl rfl (any_of HT_.out (by kernel_rfl)) (fun _ _ _ h=>h) (Or.inl ⟨by rfl,?_⟩) ?_ ?_
            rotate_left
            ·intro w'
             go_simp
             with_reducible rfl
            rotate_left
            ·simp only [Act.put,List.setIfInBounds_toArray,List.set_cons_zero,List.set_cons_succ,i64_w,i32_w]
             rfl
            refine take_ (i:=6) (N:=some 32) (v:=?_) (a':=?_) #[true,true,true,true,true,true,true,true,true,false,false,false,false,false,false,false,false] rfl rfl (take_ofW HT_.out HW_.out (by kernel_rfl)) (fun _ _ _ h=>h) (Or.inl ⟨by rfl,?_⟩) hHeld ?_ ?_
            rotate_left
            ·rintro w' ⟨s0,s1,s2,s3,s4,s5,s6⟩
             go_simp
             with_reducible rfl
            rotate_left
            ·simp only [Act.put,List.setIfInBounds_toArray,List.set_cons_zero,List.set_cons_succ,i64_w,i32_w]
             rfl
            refine take_ (i:=9) (N:=some 35) (v:=?_) (a':=?_) #[true,true,true,true,true,true,true,true,true,true,false,false,false,false,false,false,false] rfl rfl (take_ofW HT_.out HW_.out (by kernel_rfl)) (fun _ _ _ h=>h) (Or.inl ⟨by rfl,?_⟩) hHeld ?_ ?_
            rotate_left
            ·rintro w' ⟨s0,s1,s2,s3,s4,s5,s6⟩
             go_simp
             with_reducible rfl
            rotate_left
            ·simp only [Act.put,List.setIfInBounds_toArray,List.set_cons_zero,List.set_cons_succ,i64_w,i32_w]
             rfl
            refine pure_ (i:=10) (N:=some 36) (v:=?_) (a':=?_) #[true,true,true,true,true,true,true,true,true,true,true,false,false,false,false,false,false] rfl rfl (any_of HT_.out (by kernel_rfl)) (fun _ _ _ h=>h) (Or.inl ⟨by rfl,?_⟩) ?_ ?_
            rotate_left
            ·intro w'
             go_simp
             with_reducible rfl
            rotate_left
            ·simp only [Act.put,List.setIfInBounds_toArray,List.set_cons_zero,List.set_cons_succ,i64_w,i32_w]
             rfl
            refine take_ (i:=11) (N:=some 37) (v:=?_) (a':=?_) #[true,true,true,true,true,true,true,true,true,true,true,true,false,false,false,false,false] rfl rfl (take_ofW HT_.out HW_.out (by kernel_rfl)) (fun _ _ _ h=>h) (Or.inl ⟨by rfl,?_⟩) hHeld ?_ ?_
            rotate_left
            ·rintro w' ⟨s0,s1,s2,s3,s4,s5,s6⟩
             go_simp
             with_reducible rfl
            rotate_left
            ·simp only [Act.put,List.setIfInBounds_toArray,List.set_cons_zero,List.set_cons_succ,i64_w,i32_w]
             rfl
            refine one_ (i:=12) (N:=some 38) #[true,true,true,true,true,true,true,true,true,true,true,true,true,false,false,false,false] rfl rfl (one_of HT_.out (by kernel_rfl)) (by decide) (fun K hK=>?_)
            refine goes_ Try.func63 (by kernel_rfl) rfl #[.int .i64 (rd t295 ((rd_T73 l0_1 x22_1).f0)),.int .i64 (rd t295 ((rd_T73 l0_1 x22_1).f1))] (by rfl) rfl rfl mz ?_
            with_reducible refine (spec_plStep.calls (rd t295 ((rd_T73 l0_1 x22_1).f0)) (rd t295 ((rd_T73 l0_1 x22_1).f1)) t303 t304 _ A25.out).mono ?_
            rintro e w35 ⟨rfl,hb⟩
            have HS5_:=(hb.cell (World.block_lt_of_cell? _ _ (hHeld.2.2.2.2.2.1))).trans (hHeld.2.2.2.2.2.1)
            have HS6_:=(hb.cell (World.block_lt_of_cell? _ _ (hHeld.2.2.2.2.2.2))).trans (hHeld.2.2.2.2.2.2)
            refine ⟨_,rfl,?_⟩
            have n0_:=Aside0.mk (Kd.R_below (rz HO_4.out) hb)
            have n1_:=Aside0.mk (Kd.R_below (rz HO_299001.out) hb)
            have n2_:=Aside0.mk (blk_below (g:=gb292) (o:=.cells #[.int .i64 a0_0,.slice (some ad299) l0_1.length c0_1,.slice A0_2 l0_2.length c0_2] 29 (0,0)) (kz BK292.out) hb)
            have n3_:=Aside0.mk (blk_below (g:=gb293) (o:=.cells #[.int .i64 0,.slice none 0 0,.slice none 0 0] 29 (0,0)) (kz BK293.out) hb)
            have n4_:=Aside0.mk (blk_below (g:=gb298) (o:=.cells #[.int .i64 a0_0,u299001,.slice none 0 0] 29 (0,0)) (kz BK298.out) hb)
            have n5_:=Aside0.mk (blk_below (g:=gb300) (o:=.cells #[.int .i64 ((rd_T73 l0_1 x22_1).f0),.int .i64 ((rd_T73 l0_1 x22_1).f1)] 73 (0,0)) (kz BK300.out) hb)
            have n6_:=Aside0.mk (below_step bs hb)
            clear HO_4
            clear HO_299001
            clear BK292
            clear BK293
            clear BK298
            clear BK300
            clear HB
            have HO_4:=n0_
            have HO_299001:=n1_
            have BK292:=n2_
            have BK293:=n3_
            have BK298:=n4_
            have BK300:=n5_
            have HB:=n6_
            clear n0_ n1_ n2_ n3_ n4_ n5_ n6_
            (try clear hb)
            refine hK.out _ _ ⟨(blk_cell BK298.out 0).trans rfl,(blk_cell BK298.out 1).trans rfl,(blk_cell BK298.out 2).trans rfl,(blk_cell BK300.out 0).trans rfl,(blk_cell BK300.out 1).trans rfl,HS5_,HS6_⟩ (fun hHeld=>?_)
            clear hK K
            refine norm_ (a':=?_) ?_ ?_
            rotate_left
            ·show Act.put _ (some 38) _ = _
             simp only [Act.put,List.setIfInBounds_toArray,List.set_cons_zero,List.set_cons_succ,i64_w,i32_w]
             rfl
            refine one_ (i:=13) (N:=some 39) #[true,true,true,true,true,true,true,true,true,true,true,true,true,true,false,false,false] rfl rfl (one_of HT_.out (by kernel_rfl)) (by decide) (fun K hK=>?_)
            refine value_ (w1:=?_) (v:=?_) (by rfl) rfl ?_ ?_
            rotate_left 2
            ·go_simp
             constructor
             ·rfl
             ·rfl
            refine hK.out _ _ ⟨(blk_cell (blk_alloc BK298.out _) 0).trans rfl,(blk_cell (blk_alloc BK298.out _) 1).trans rfl,(blk_cell (blk_alloc BK298.out _) 2).trans rfl,(blk_cell (blk_alloc BK300.out _) 0).trans rfl,(blk_cell (blk_alloc BK300.out _) 1).trans rfl,(World.cell?_alloc_lt _ _ _ (World.block_lt_of_cell? _ _ (hHeld.2.2.2.2.2.1))).trans (hHeld.2.2.2.2.2.1),(World.cell?_alloc_lt _ _ _ (World.block_lt_of_cell? _ _ (hHeld.2.2.2.2.2.2))).trans (hHeld.2.2.2.2.2.2)⟩ (fun hHeld=>?_)
            clear hK K
            refine norm_ (a':=?_) ?_ ?_
            rotate_left
            ·show Act.put _ (some 39) _ = _
             simp only [Act.put,List.setIfInBounds_toArray,List.set_cons_zero,List.set_cons_succ,i64_w,i32_w]
             rfl
            refine last_ (i:=14) (N:=some 40) #[true,true,true,true,true,true,true,true,true,true,true,true,true,true,true,false,false] rfl rfl (one_of HT_.out (by kernel_rfl)) (by decide) (fun K hK=>?_)
            refine Kd.R_append_step k73 (w0:=w) w.heap.size (by rfl) (.tmp 27) (.tmp 39) 27 73 (.agg #[(.int .i64 0),(.int .i64 0)]) 16 rfl Try.underlying27 info73 rfl (by decide) (by omega) u299001 x299001_1 (⟨t303,t304⟩ : S73) [.int .i64 t303,.int .i64 t304] (fun k_=>k_ ≠ gb300) (fun _=>False) rfl rfl ?aP (fun _ hk=>hk.elim) ?aF ?aO ?aB ?aS ?aL ?_
            (case aP=>exact k73_mkM _ _ _ (⟨t303,t304⟩ : S73))
            (case aB=>exact bs)
            (case aF=>exact (fun k_ hk=>Kd.freshB (g:=gb300) (o:=.cells #[.int .i64 ((rd_T73 l0_1 x22_1).f0),.int .i64 ((rd_T73 l0_1 x22_1).f1)] 73 (0,0)) (kz BK300.out) k_ hk))
            (case aO=>exact (rz HO_299001.out))
            (case aS=>exact (below_size bs))
            (case aL=>have:=LMc26.out;omega)
            intro v306 w36 ho hb hg hat
            rw [← Ny305.out] at ho
            have n0_:=Aside0.mk (Kd.R_over' (rz HO_4.out) (Kd.R_typed (rz HO_299001.out)) (by decide) hg)
            have n1_:=Aside0.mk (blk_grown (g:=gb292) (o:=.cells #[.int .i64 a0_0,.slice (some ad299) l0_1.length c0_1,.slice A0_2 l0_2.length c0_2] 29 (0,0)) (kz BK292.out) hg (Kd.R_ne HO_299001.out BK292.out (by decide)))
            have n2_:=Aside0.mk (blk_grown (g:=gb293) (o:=.cells #[.int .i64 0,.slice none 0 0,.slice none 0 0] 29 (0,0)) (kz BK293.out) hg (Kd.R_ne HO_299001.out BK293.out (by decide)))
            have n3_:=Aside0.mk (blk_grown (g:=gb298) (o:=.cells #[.int .i64 a0_0,u299001,.slice none 0 0] 29 (0,0)) (kz BK298.out) hg (Kd.R_ne HO_299001.out BK298.out (by decide)))
            have n4_:=Aside0.mk (blk_grown (g:=gb300) (o:=.cells #[.int .i64 ((rd_T73 l0_1 x22_1).f0),.int .i64 ((rd_T73 l0_1 x22_1).f1)] 73 (0,0)) (kz BK300.out) hg (Kd.R_away HO_299001.out (fun _ hk=>hk)))
            have n5_:=Aside0.mk (hb)
            have n6_:=Aside0.mk (ho)
            clear HO_4
            clear BK292
            clear BK293
            clear BK298
            clear BK300
            clear HB
            clear HO_299001
            have HO_4:=n0_
            have BK292:=n1_
            have BK293:=n2_
            have BK298:=n3_
            have BK300:=n4_
            have HB:=n5_
            have HO307:=n6_
            clear n0_ n1_ n2_ n3_ n4_ n5_ n6_
            clear ho hb hg hat
            obtain ⟨Ao37,co37,eo37⟩:=Kd.R_slice HO307.out
            (first|subst eo37|(injection eo37 with f1_ f2_ f3_;have f4_:=f1_.symm;have f5_:=f3_.symm;clear f1_ f2_ f3_;subst f4_;subst f5_))
            refine hK.out _ _ ?_
            clear hK K
            refine norm_ (a':=?_) ?_ ?_
            rotate_left
            ·show Act.put _ (some 40) _ = _
             simp only [Act.put,List.setIfInBounds_toArray,List.set_cons_zero,List.set_cons_succ,i64_w,i32_w]
             rfl
            refine pure_ (i:=15) (N:=some 41) (v:=?_) (a':=?_) #[true,true,true,true,true,true,true,true,true,true,true,true,true,true,true,true,false] rfl rfl (any_of HT_.out (by kernel_rfl)) (fun _ _ _ h=>h) (Or.inl ⟨by rfl,?_⟩) ?_ ?_
            rotate_left
            ·intro w'
             go_simp
             with_reducible rfl
            rotate_left
            ·simp only [Act.put,List.setIfInBounds_toArray,List.set_cons_zero,List.set_cons_succ,i64_w,i32_w]
             rfl
            refine last_ (i:=16) (N:=none) #[true,true,true,true,true,true,true,true,true,true,true,true,true,true,true,true,true] rfl rfl (one_of HT_.out (by kernel_rfl)) (by decide) (fun K hK=>?_)
            have hs38 : w36.cell? ⟨gb298,1,none⟩ = some (u299001):=(blk_cell BK298.out 1).trans rfl
            have hfs38:=blk_frozen BK298.out 1
            have hns38_0:=NB292_298.out
            have hns38_1:=NB293_298.out
            have hns38_3:=NB300_298.out
            have hms38_0:=NB298_292.out
            have hms38_1:=NB298_293.out
            have hms38_3:=NB298_300.out
            refine skip_ (w1:=?_) (by rfl) rfl ?_ ?_
            rotate_left
            ·go_simp
             rfl
            refine hK.out _ _ ?_
            clear hK K
            refine done_ (done_of HT_.out (by kernel_rfl)) ?_
            try go_wp2
            go_roundg k1
            case measure=>have:=HK1.out;omega
            case rel=>exact ⟨(wrap64 (x22_1 + 1)),(y305),(.slice Ao37 y305.length co37),fz,H',⟨by have:=HK1.out;omega⟩,⟨by (with_reducible repeat (first|apply Kd.R_alloc|apply Kd.R_drewN|apply Kd.R_drew));exact Kd.R_mono (Kd.R_far (p:=⟨gb298,1,none⟩) (Kd.R_types HO_4.out BK298.out (by decide)) (fun _ hk=>hk.2) (.slice Ao37 y305.length co37)) (fun _ hk=>trivial)⟩,⟨by (with_reducible repeat (first|apply Kd.R_alloc|apply Kd.R_drewN|apply Kd.R_drew));exact Kd.R_mono (Kd.R_far (p:=⟨gb298,1,none⟩) (Kd.R_types HO307.out BK298.out (by decide)) (fun _ hk=>hk.2) (.slice Ao37 y305.length co37)) (fun _ hk=>trivial)⟩,⟨by (with_reducible repeat (first|refine blk_drewN ?_ _|refine blk_drew ?_|refine blk_alloc ?_ _));refine blk_far ?_ NB292_298.out _;(with_reducible repeat (first|refine blk_drewN ?_ _|refine blk_drew ?_|refine blk_alloc ?_ _));exact BK292.out⟩,⟨by (with_reducible repeat (first|refine blk_drewN ?_ _|refine blk_drew ?_|refine blk_alloc ?_ _));refine blk_far ?_ NB293_298.out _;(with_reducible repeat (first|refine blk_drewN ?_ _|refine blk_drew ?_|refine blk_alloc ?_ _));exact BK293.out⟩,⟨by (with_reducible repeat (first|refine blk_drewN ?_ _|refine blk_drew ?_|refine blk_alloc ?_ _));refine blk_put (cs:=#[.int .i64 a0_0,u299001,.slice none 0 0]) ?_ 1 _ rfl;(with_reducible repeat (first|refine blk_drewN ?_ _|refine blk_drew ?_|refine blk_alloc ?_ _));exact BK298.out⟩,⟨by repeat (first|(with_reducible first|exact HB.out|apply below_alloc|apply pw_below_drewN|apply below_drew1|refine below_set ?_ GE292.out|refine below_set ?_ GE293.out|refine below_set ?_ GE298.out|refine below_set ?_ GE300.out)|exact HB.out)⟩⟩
           ·rw [if_neg c26] at H
            exact absurd H (by simp)
          ·rw [if_neg c24] at H
           exact absurd H (by simp)
         ·rw [if_neg c23] at H
          exact absurd H (by simp)
        ·rw [if_neg c22] at H
         exact absurd H (by simp)
       ·rw [if_neg c21] at H
        exact absurd H (by simp)
      ·rw [if_neg c20] at H
       exact absurd H (by simp)
     ·rw [if_neg c19] at H
      exact absurd H (by simp)
    ·rw [if_neg c18] at H
     have c18b0 : decide (x22_1 < (l0_1.length : Int)) = false:=decide_eq_false c18
     clear c18
     have H':=Aside0.mk H
     clear H
     have hnb39:=NB292_293.out
     have hnc39:=NB293_292.out
     have hnb40:=NB292_298.out
     have hnc40:=NB298_292.out
     have hcz41_0 : wr.cell? ⟨gb292,0,none⟩ = some (.int .i64 a0_0):=(blk_cell BK292.out 0).trans rfl
     have hcz41_1 : wr.cell? ⟨gb292,1,none⟩ = some (.slice A0_1 l0_1.length c0_1):=(blk_cell BK292.out 1).trans rfl
     have hcz41_2 : wr.cell? ⟨gb292,2,none⟩ = some (.slice A0_2 l0_2.length c0_2):=(blk_cell BK292.out 2).trans rfl
     have hfz41_0:=blk_frozen BK292.out 0
     have hfz41_1:=blk_frozen BK292.out 1
     have hfz41_2:=blk_frozen BK292.out 2
     go_wp2
     go_loopg [46] k1 (fun kq v46 w'=>∃ (x46_2 : Int) (x299002_2 : List Int) (u299002 : Value),v46 = .int .i64 x46_2 ∧ Aside0 (spec_SharePlan.l1 kq t295 l0_2 (l0_2.length : Int) x46_2 a0_0 x299001_1 x299002_2 = some (r1,r2,r3,r4)) ∧ Aside0 (kq ≤ k1) ∧ Aside0 (Kd.R (Kd.int .i64) 3 w' w.heap.size (fun k_=>some k_ ≠ (u299002 : Value).ownBlock) v296 t295) ∧ Aside0 (Kd.R k73 73 w' w.heap.size (fun _=>True) u299001 x299001_1) ∧ Aside0 (Kd.R (Kd.int .i64) 3 w' w.heap.size (fun k_=>some k_ ≠ (v296 : Value).ownBlock) u299002 x299002_2) ∧ Aside0 (w'.heap[gb292]? = some (.cells #[.int .i64 a0_0,(.slice A0_1 l0_1.length c0_1),(.slice A0_2 l0_2.length c0_2)] 29 (0,0))) ∧ Aside0 (w'.heap[gb293]? = some (.cells #[.int .i64 0,(.slice none 0 0),(.slice none 0 0)] 29 (0,0))) ∧ Aside0 (w'.heap[gb298]? = some (.cells #[.int .i64 a0_0,u299001,u299002] 29 (0,0))) ∧ Aside0 (Below w.heap.size w w'))
     case atStart=>exact ⟨(0),(([] : List Int)),(.slice none 0 0),fz,H',⟨Nat.le_refl _⟩,⟨by (with_reducible repeat (first|apply Kd.R_alloc|apply Kd.R_drewN|apply Kd.R_drew));exact Kd.R_mono HO_4.out (fun _ hk=>(by simp [Value.ownBlock]))⟩,⟨by (with_reducible repeat (first|apply Kd.R_alloc|apply Kd.R_drewN|apply Kd.R_drew));exact HO_299001.out⟩,⟨by first|exact Kd.R_nil _ _ _ _ _|exact Kd.N_nil _ _ _ _ _|exact Kd.V_nil _ _ _ _ _|exact Kd.Q_nil _ _ _ _ _|exact Kd.S_nil _ _ _ _ _⟩,⟨by (with_reducible repeat (first|refine blk_drewN ?_ _|refine blk_drew ?_|refine blk_alloc ?_ _));exact BK292.out⟩,⟨by (with_reducible repeat (first|refine blk_drewN ?_ _|refine blk_drew ?_|refine blk_alloc ?_ _));exact BK293.out⟩,⟨by (with_reducible repeat (first|refine blk_drewN ?_ _|refine blk_drew ?_|refine blk_alloc ?_ _));exact BK298.out⟩,⟨by repeat (first|(with_reducible first|exact HB.out|apply below_alloc|apply pw_below_drewN|apply below_drew1|refine below_set ?_ GE292.out|refine below_set ?_ GE293.out|refine below_set ?_ GE298.out)|exact HB.out)⟩⟩
     case round=>
      clear H'
      try clear c1
      try clear c2
      try clear p2
      try clear q2
      try clear hx2
      try clear c3
      try clear p3
      try clear q3
      try clear hx3
      try clear c4
      try clear c6
      try clear p6
      try clear c7
      try clear c14
      try clear c15
      try clear c18
      try clear c18b0
      try clear c19
      try clear c19b0
      try clear c20
      try clear c20b0
      try clear c21
      try clear c21b0
      try clear c22
      try clear c22b0
      try clear c23
      try clear c23b0
      try clear c24
      try clear c24b0
      try clear c26
      try clear c28
      try clear c29
      try clear p29
      try clear q29
      try clear hx29
      try clear c30
      try clear p30
      try clear q30
      try clear hx30
      try clear c38
      try clear c39
      try clear c40
      try clear hcz10_0
      try clear hcz10_1
      try clear hcz10_2
      try clear hcz12_0
      try clear hcz12_1
      try clear hcz12_2
      try clear hcz16_0
      try clear hcz16_1
      try clear hcz16_2
      try clear hcz17_0
      try clear hcz17_1
      try clear hcz17_2
      try clear hcz31_0
      try clear hcz31_1
      try clear hcz41_0
      try clear hcz41_1
      try clear hcz41_2
      try clear hcz8_0
      try clear hcz8_1
      try clear hcz8_2
      try clear hfz10_0
      try clear hfz10_1
      try clear hfz10_2
      try clear hfz12_0
      try clear hfz12_1
      try clear hfz12_2
      try clear hfz16_0
      try clear hfz16_1
      try clear hfz16_2
      try clear hfz17_0
      try clear hfz17_1
      try clear hfz17_2
      try clear hfz31_0
      try clear hfz31_1
      try clear hfz41_0
      try clear hfz41_1
      try clear hfz41_2
      try clear hfz8_0
      try clear hfz8_1
      try clear hfz8_2
      try clear hx299_0
      try clear hx299_1
      try clear hx301_0
      try clear hx302_0
      try clear p2
      try clear p299
      try clear p301
      try clear p302
      try clear q299
      try clear q301
      try clear q302
      obtain ⟨x46_2,x299002_2,u299002,rfl,HA,HK2,HO_4,HO_299001,HO_299002,BK292,BK293,BK298,HB⟩:=hrel
      cases gk with
      | zero=>exact absurd HA.out (by simp [spec_SharePlan.l1])
      | succ k2=>
       have H:=HA.out
       clear HA
       simp only [spec_SharePlan.l1] at H
       by_cases c42 : x46_2 < (l0_2.length : Int)
       ·rw [if_pos c42] at H
        have c42b0 : decide (x46_2 < (l0_2.length : Int)) = true:=decide_eq_true c42
        clear c42
        by_cases c43 : 0 ≤ x46_2
        ·rw [if_pos c43] at H
         have c43b0 : decide (0 ≤ x46_2) = true:=decide_eq_true c43
         clear c43
         by_cases c44 : x46_2 < (l0_2.length : Int)
         ·rw [if_pos c44] at H
          have c44b0 : decide (x46_2 < (l0_2.length : Int)) = true:=decide_eq_true c44
          clear c44
          by_cases c45 : 0 ≤ (rd l0_2 x46_2)
          ·rw [if_pos c45] at H
           have c45b0 : decide (0 ≤ (rd l0_2 x46_2)) = true:=decide_eq_true c45
           clear c45
           by_cases c46 : (rd l0_2 x46_2) < (t295.length : Int)
           ·rw [if_pos c46] at H
            have c46b0 : decide ((rd l0_2 x46_2) < (t295.length : Int)) = true:=decide_eq_true c46
            clear c46
            by_cases c47 : x299002_2.length < 17592186044416
            ·rw [if_pos c47] at H
             have LMc47:=Aside0.mk c47
             clear c47
             obtain ⟨y310,hy310⟩ : ∃ y_ : List Int,y_ = (x299002_2 ++ [rd t295 (rd l0_2 x46_2)]):=⟨_,rfl⟩
             replace H : (spec_SharePlan.l1 k2 t295 l0_2 (l0_2.length : Int) (wrap64 (x46_2 + 1)) a0_0 x299001_1 y310) = some (r1,r2,r3,r4):=by first|(rw [hy310];with_reducible exact H)|(have H2_:=(Option.bind_some _ _).symm.trans H;rw [hy310];with_reducible exact H2_)|(have H2_:=(Option.bind_some _ _).symm.trans H;with_reducible exact H2_)|with_reducible exact H|(rw [hy310];exact H)|exact H
             have Ny310:=Aside0.mk hy310
             clear hy310
             have H':=Aside0.mk H
             clear H
             have p308 : 0 ≤ (x46_2 : Int):=of_decide_eq_true az
             have q308 : x46_2 < (l0_2.length : Int):=of_decide_eq_true az
             obtain ⟨ad308,e308,hx308_0⟩:=Kd.at_int HR0_2.out x46_2 p308 q308
             cases e308
             replace hx308_0:=(HB.out.cell (World.block_lt_of_cell? w _ hx308_0)).trans hx308_0
             replace p308:=eq_true p308
             replace q308:=eq_true q308
             try go_wp2
             have n0_:=Aside0.mk (Kd.R_drew HO_4.out)
             have n1_:=Aside0.mk (Kd.R_drew HO_299001.out)
             have n2_:=Aside0.mk (Kd.R_drew HO_299002.out)
             have n3_:=Aside0.mk (blk_drew BK292.out)
             have n4_:=Aside0.mk (blk_drew BK293.out)
             have n5_:=Aside0.mk (blk_drew BK298.out)
             have n6_:=Aside0.mk (below_drew1 HB.out)
             clear HO_4
             clear HO_299001
             clear HO_299002
             clear BK292
             clear BK293
             clear BK298
             clear HB
             have HO_4:=n0_
             have HO_299001:=n1_
             have HO_299002:=n2_
             have BK292:=n3_
             have BK293:=n4_
             have BK298:=n5_
             have HB:=n6_
             clear n0_ n1_ n2_ n3_ n4_ n5_ n6_
             obtain ⟨Ao49,co49,eo49⟩:=Kd.R_slice HO_4.out
             (first|subst eo49|(injection eo49 with f1_ f2_ f3_;have f4_:=f1_.symm;have f5_:=f3_.symm;clear f1_ f2_ f3_;subst f4_;subst f5_))
             have p309 : 0 ≤ ((rd l0_2 x46_2) : Int):=of_decide_eq_true az
             have q309 : (rd l0_2 x46_2) < (t295.length : Int):=of_decide_eq_true az
             obtain ⟨ad309,e309,hx309_0⟩:=Kd.at_int (Kd.R_reads' HO_4.out).2.2 (rd l0_2 x46_2) p309 q309
             cases e309
             replace p309:=eq_true p309
             replace q309:=eq_true q309
             refine start_ (n:=10) (S:=fun w'=>w'.cell? ⟨gb298,0,none⟩ = some (.int .i64 a0_0) ∧ w'.cell? ⟨gb298,1,none⟩ = some (u299001) ∧ w'.cell? ⟨gb298,2,none⟩ = some (u299002) ∧ w'.cell? (ad309.add ((rd l0_2 x46_2)).toNat) = some (.int .i64 (rd t295 (rd l0_2 x46_2)))) (ds:=[7,9]) #[false,false,false,false,false,false,false,false,false,false] (by kernel_rfl) rfl rfl ⟨(blk_cell BK298.out 0).trans rfl,(blk_cell BK298.out 1).trans rfl,(blk_cell BK298.out 2).trans rfl,hx309_0⟩ (fun hHeld=>?_);refine with_tabW spec_SharePlan.tab13 spec_SharePlan.bits13 (fun HT_ HW_=>?_)
             generalize wr.drew = w48 at HO_4 HO_299001 HO_299002 BK292 BK293 BK298 HB hx309_0 hHeld ⊢
             refine pure_ (i:=0) (N:=some 50) (v:=?_) (a':=?_) #[true,false,false,false,false,false,false,false,false,false] rfl rfl (any_of HT_.out (by kernel_rfl)) (fun _ _ _ h=>h) (Or.inl ⟨by rfl,?_⟩) ?_ ?_
             rotate_left
             ·intro w'
              go_simp
              with_reducible rfl
             rotate_left
             ·simp only [Act.put,List.setIfInBounds_toArray,List.set_cons_zero,List.set_cons_succ,i64_w,i32_w]
              rfl
             refine pure_ (i:=2) (N:=some 52) (v:=?_) (a':=?_) #[true,false,true,false,false,false,false,false,false,false] rfl rfl (any_of HT_.out (by kernel_rfl)) (fun _ _ _ h=>h) (Or.inl ⟨by rfl,?_⟩) ?_ ?_
             rotate_left
             ·intro w'
              go_simp
              with_reducible rfl
             rotate_left
             ·simp only [Act.put,List.setIfInBounds_toArray,List.set_cons_zero,List.set_cons_succ,i64_w,i32_w]
              rfl
             refine pure_ (i:=3) (N:=some 53) (v:=?_) (a':=?_) #[true,false,true,true,false,false,false,false,false,false] rfl rfl (any_of HT_.out (by kernel_rfl)) (fun _ _ _ h=>h) (Or.inl ⟨by rfl,?_⟩) ?_ ?_
             rotate_left
             ·intro w'
              go_simp
              with_reducible rfl
             rotate_left
             ·simp only [Act.put,List.setIfInBounds_toArray,List.set_cons_zero,List.set_cons_succ,i64_w,i32_w]
              rfl
             refine pure_ (i:=4) (N:=some 54) (v:=?_) (a':=?_) #[true,false,true,true,true,false,false,false,false,false] rfl rfl (any_of HT_.out (by kernel_rfl)) (fun _ _ _ h=>h) (Or.inl ⟨by rfl,?_⟩) ?_ ?_
             rotate_left
             ·intro w'
              go_simp
              with_reducible rfl
             rotate_left
             ·simp only [Act.put,List.setIfInBounds_toArray,List.set_cons_zero,List.set_cons_succ,i64_w,i32_w]
              rfl
             refine take_ (i:=1) (N:=some 51) (v:=?_) (a':=?_) #[true,true,true,true,true,false,false,false,false,false] rfl rfl (take_ofW HT_.out HW_.out (by kernel_rfl)) (fun _ _ _ h=>h) (Or.inl ⟨by rfl,?_⟩) hHeld ?_ ?_
             rotate_left
             ·rintro w' ⟨s0,s1,s2,s3⟩
              go_simp
              with_reducible rfl
             rotate_left
             ·simp only [Act.put,List.setIfInBounds_toArray,List.set_cons_zero,List.set_cons_succ,i64_w,i32_w]
              rfl
             refine take_ (i:=5) (N:=some 55) (v:=?_) (a':=?_) #[true,true,true,true,true,true,false,false,false,false] rfl rfl (take_ofW HT_.out HW_.out (by kernel_rfl)) (fun _ _ _ h=>h) (Or.inl ⟨by rfl,?_⟩) hHeld ?_ ?_
             rotate_left
             ·rintro w' ⟨s0,s1,s2,s3⟩
              go_simp
              with_reducible rfl
             rotate_left
             ·simp only [Act.put,List.setIfInBounds_toArray,List.set_cons_zero,List.set_cons_succ,i64_w,i32_w]
              rfl
             refine one_ (i:=6) (N:=some 56) #[true,true,true,true,true,true,true,false,false,false] rfl rfl (one_of HT_.out (by kernel_rfl)) (by decide) (fun K hK=>?_)
             refine value_ (w1:=?_) (v:=?_) (by rfl) rfl ?_ ?_
             rotate_left 2
             ·go_simp
              constructor
              ·rfl
              ·rfl
             refine hK.out _ _ ⟨(blk_cell (blk_alloc BK298.out _) 0).trans rfl,(blk_cell (blk_alloc BK298.out _) 1).trans rfl,(blk_cell (blk_alloc BK298.out _) 2).trans rfl,(World.cell?_alloc_lt _ _ _ (World.block_lt_of_cell? _ _ (hHeld.2.2.2))).trans (hHeld.2.2.2)⟩ (fun hHeld=>?_)
             clear hK K
             refine norm_ (a':=?_) ?_ ?_
             rotate_left
             ·show Act.put _ (some 56) _ = _
              simp only [Act.put,List.setIfInBounds_toArray,List.set_cons_zero,List.set_cons_succ,i64_w,i32_w]
              rfl
             refine last_ (i:=7) (N:=some 57) #[true,true,true,true,true,true,true,true,false,false] rfl rfl (one_of HT_.out (by kernel_rfl)) (by decide) (fun K hK=>?_)
             refine Kd.R_append_step (Kd.int .i64) (w0:=w) w.heap.size (by rfl) (.tmp 51) (.tmp 56) 23 3 (.int .i64 0) 8 rfl Try.underlying23 info3 rfl (by decide) (by omega) u299002 x299002_2 (rd t295 (rd l0_2 x46_2)) [.int .i64 (rd t295 (rd l0_2 x46_2))] (fun k_=>some k_ ≠ (.slice (some ad309) t295.length co49 : Value).ownBlock) (fun _=>False) rfl rfl ?aP (fun _ hk=>hk.elim) ?aF ?aO ?aB ?aS ?aL ?_
             (case aP=>exact rfl)
             (case aB=>exact bs)
             (case aF=>exact (fun k_ hk=>Kd.fresh' (Kd.R_lt (rz HO_4.out)) k_ hk))
             (case aO=>exact (rz HO_299002.out))
             (case aS=>exact (below_size bs))
             (case aL=>have:=LMc47.out;omega)
             intro v311 w50 ho hb hg hat
             rw [← Ny310.out] at ho
             have n0_:=Aside0.mk (Kd.R_after (ok:=(fun _=>True)) (by (with_reducible repeat (first|apply Kd.R_alloc|apply Kd.R_drewN|apply Kd.R_drew));exact Kd.R_mono HO_4.out (fun _ hk=>⟨trivial,hk⟩)) hg hat)
             have n1_:=Aside0.mk (Kd.R_over' (rz HO_299001.out) (Kd.R_typed (rz HO_299002.out)) (by decide) hg)
             have n2_:=Aside0.mk (blk_grown (g:=gb292) (o:=.cells #[.int .i64 a0_0,.slice A0_1 l0_1.length c0_1,.slice (some ad308) l0_2.length c0_2] 29 (0,0)) (kz BK292.out) hg (Kd.R_ne HO_299002.out BK292.out (by decide)))
             have n3_:=Aside0.mk (blk_grown (g:=gb293) (o:=.cells #[.int .i64 0,.slice none 0 0,.slice none 0 0] 29 (0,0)) (kz BK293.out) hg (Kd.R_ne HO_299002.out BK293.out (by decide)))
             have n4_:=Aside0.mk (blk_grown (g:=gb298) (o:=.cells #[.int .i64 a0_0,u299001,u299002] 29 (0,0)) (kz BK298.out) hg (Kd.R_ne HO_299002.out BK298.out (by decide)))
             have n5_:=Aside0.mk (hb)
             have n6_:=Aside0.mk (ho)
             clear HO_4
             clear HO_299001
             clear BK292
             clear BK293
             clear BK298
             clear HB
             clear HO_299002
             have HO_4:=n0_
             have HO_299001:=n1_
             have BK292:=n2_
             have BK293:=n3_
             have BK298:=n4_
             have HB:=n5_
             have HO312:=n6_
             clear n0_ n1_ n2_ n3_ n4_ n5_ n6_
             clear ho hb hg hat
             obtain ⟨Ao51,co51,eo51⟩:=Kd.R_slice HO312.out
             (first|subst eo51|(injection eo51 with f1_ f2_ f3_;have f4_:=f1_.symm;have f5_:=f3_.symm;clear f1_ f2_ f3_;subst f4_;subst f5_))
             refine hK.out _ _ ?_
             clear hK K
             refine norm_ (a':=?_) ?_ ?_
             rotate_left
             ·show Act.put _ (some 57) _ = _
              simp only [Act.put,List.setIfInBounds_toArray,List.set_cons_zero,List.set_cons_succ,i64_w,i32_w]
              rfl
             refine pure_ (i:=8) (N:=some 58) (v:=?_) (a':=?_) #[true,true,true,true,true,true,true,true,true,false] rfl rfl (any_of HT_.out (by kernel_rfl)) (fun _ _ _ h=>h) (Or.inl ⟨by rfl,?_⟩) ?_ ?_
             rotate_left
             ·intro w'
              go_simp
              with_reducible rfl
             rotate_left
             ·simp only [Act.put,List.setIfInBounds_toArray,List.set_cons_zero,List.set_cons_succ,i64_w,i32_w]
              rfl
             refine last_ (i:=9) (N:=none) #[true,true,true,true,true,true,true,true,true,true] rfl rfl (one_of HT_.out (by kernel_rfl)) (by decide) (fun K hK=>?_)
             have hs52 : w50.cell? ⟨gb298,2,none⟩ = some (u299002):=(blk_cell BK298.out 2).trans rfl
             have hfs52:=blk_frozen BK298.out 2
             have hns52_0:=NB292_298.out
             have hns52_1:=NB293_298.out
             have hms52_0:=NB298_292.out
             have hms52_1:=NB298_293.out
             refine skip_ (w1:=?_) (by rfl) rfl ?_ ?_
             rotate_left
             ·go_simp
              rfl
             refine hK.out _ _ ?_
             clear hK K
             refine done_ (done_of HT_.out (by kernel_rfl)) ?_
             try go_wp2
             go_roundg k2
             case measure=>have:=HK1.out;have:=HK2.out;omega
             case rel=>exact ⟨(wrap64 (x46_2 + 1)),(y310),(.slice Ao51 y310.length co51),fz,H',⟨by have:=HK1.out;have:=HK2.out;omega⟩,⟨by (with_reducible repeat (first|apply Kd.R_alloc|apply Kd.R_drewN|apply Kd.R_drew));exact Kd.R_mono (Kd.R_far (p:=⟨gb298,2,none⟩) (Kd.R_types HO_4.out BK298.out (by decide)) (fun _ hk=>hk.2) (.slice Ao51 y310.length co51)) (fun _ hk=>hk.1.2)⟩,⟨by (with_reducible repeat (first|apply Kd.R_alloc|apply Kd.R_drewN|apply Kd.R_drew));exact Kd.R_mono (Kd.R_far (p:=⟨gb298,2,none⟩) (Kd.R_types HO_299001.out BK298.out (by decide)) (fun _ hk=>hk.2) (.slice Ao51 y310.length co51)) (fun _ hk=>trivial)⟩,⟨by (with_reducible repeat (first|apply Kd.R_alloc|apply Kd.R_drewN|apply Kd.R_drew));exact Kd.R_mono (Kd.R_far (p:=⟨gb298,2,none⟩) (Kd.R_types HO312.out BK298.out (by decide)) (fun _ hk=>hk.2) (.slice Ao51 y310.length co51)) (fun _ hk=>hk.1)⟩,⟨by (with_reducible repeat (first|refine blk_drewN ?_ _|refine blk_drew ?_|refine blk_alloc ?_ _));refine blk_far ?_ NB292_298.out _;(with_reducible repeat (first|refine blk_drewN ?_ _|refine blk_drew ?_|refine blk_alloc ?_ _));exact BK292.out⟩,⟨by (with_reducible repeat (first|refine blk_drewN ?_ _|refine blk_drew ?_|refine blk_alloc ?_ _));refine blk_far ?_ NB293_298.out _;(with_reducible repeat (first|refine blk_drewN ?_ _|refine blk_drew ?_|refine blk_alloc ?_ _));exact BK293.out⟩,⟨by (with_reducible repeat (first|refine blk_drewN ?_ _|refine blk_drew ?_|refine blk_alloc ?_ _));refine blk_put (cs:=#[.int .i64 a0_0,u299001,u299002]) ?_ 2 _ rfl;(with_reducible repeat (first|refine blk_drewN ?_ _|refine blk_drew ?_|refine blk_alloc ?_ _));exact BK298.out⟩,⟨by repeat (first|(with_reducible first|exact HB.out|apply below_alloc|apply pw_below_drewN|apply below_drew1|refine below_set ?_ GE292.out|refine below_set ?_ GE293.out|refine below_set ?_ GE298.out)|exact HB.out)⟩⟩
            ·rw [if_neg c47] at H
             exact absurd H (by simp)
           ·rw [if_neg c46] at H
            exact absurd H (by simp)
          ·rw [if_neg c45] at H
           exact absurd H (by simp)
         ·rw [if_neg c44] at H
          exact absurd H (by simp)
        ·rw [if_neg c43] at H
         exact absurd H (by simp)
       ·rw [if_neg c42] at H
        have c42b0 : decide (x46_2 < (l0_2.length : Int)) = false:=decide_eq_false c42
        clear c42
        replace H:=Option.bind_eq_some_iff.mp H
        obtain ⟨t313,A530,H⟩:=H
        replace H : ((spec_plKeep.f k2 a0_0 x299001_1 x299002_2 t313).bind fun bt316=>(some (bt316.1,bt316.2.1,bt316.2.2,true))) = some (r1,r2,r3,r4):=H
        have A53:=Aside0.mk A530
        clear A530
        replace H:=Option.bind_eq_some_iff.mp H
        obtain ⟨⟨t316,t317,t320⟩,A540,H⟩:=H
        replace H : (some (t316,t317,t320,true)) = some (r1,r2,r3,r4):=H
        have A54:=Aside0.mk A540
        clear A540
        simp only [Option.some.injEq,Prod.mk.injEq] at H
        obtain ⟨rfl,rfl,rfl,rfl⟩:=H
        try go_wp2
        have n0_:=Aside0.mk (Kd.R_drew HO_4.out)
        have n1_:=Aside0.mk (Kd.R_drew HO_299001.out)
        have n2_:=Aside0.mk (Kd.R_drew HO_299002.out)
        have n3_:=Aside0.mk (blk_drew BK292.out)
        have n4_:=Aside0.mk (blk_drew BK293.out)
        have n5_:=Aside0.mk (blk_drew BK298.out)
        have n6_:=Aside0.mk (below_drew1 HB.out)
        clear HO_4
        clear HO_299001
        clear HO_299002
        clear BK292
        clear BK293
        clear BK298
        clear HB
        have HO_4:=n0_
        have HO_299001:=n1_
        have HO_299002:=n2_
        have BK292:=n3_
        have BK293:=n4_
        have BK298:=n5_
        have HB:=n6_
        clear n0_ n1_ n2_ n3_ n4_ n5_ n6_
        obtain ⟨Ao56,co56,eo56⟩:=Kd.R_slice HO_299001.out
        (first|subst eo56|(injection eo56 with f1_ f2_ f3_;have f4_:=f1_.symm;have f5_:=f3_.symm;clear f1_ f2_ f3_;subst f4_;subst f5_))
        obtain ⟨Ao57,co57,eo57⟩:=Kd.R_slice HO_299002.out
        (first|subst eo57|(injection eo57 with f1_ f2_ f3_;have f4_:=f1_.symm;have f5_:=f3_.symm;clear f1_ f2_ f3_;subst f4_;subst f5_))
        refine start_ (n:=6) (S:=fun w'=>w'.cell? ⟨gb298,0,none⟩ = some (.int .i64 a0_0) ∧ w'.cell? ⟨gb298,1,none⟩ = some (.slice Ao56 x299001_1.length co56) ∧ w'.cell? ⟨gb298,2,none⟩ = some (.slice Ao57 x299002_2.length co57)) (ds:=[]) #[false,false,false,false,false,false] (by kernel_rfl) rfl rfl ⟨(blk_cell BK298.out 0).trans rfl,(blk_cell BK298.out 1).trans rfl,(blk_cell BK298.out 2).trans rfl⟩ (fun hHeld=>?_)
        generalize wr.drew = w55 at HO_4 HO_299001 HO_299002 BK292 BK293 BK298 HB hHeld ⊢
        refine take_ (i:=0) (N:=some 60) (v:=?_) (a':=?_) #[true,false,false,false,false,false] rfl rfl (by kernel_rfl) (fun _ _ _ h=>h) (Or.inl ⟨by rfl,?_⟩) hHeld ?_ ?_
        rotate_left
        ·rintro w' ⟨s0,s1,s2⟩
         go_simp
         with_reducible rfl
        rotate_left
        ·simp only [Act.put,List.setIfInBounds_toArray,List.set_cons_zero,List.set_cons_succ,i64_w,i32_w]
         rfl
        refine take_ (i:=1) (N:=some 61) (v:=?_) (a':=?_) #[true,true,false,false,false,false] rfl rfl (by kernel_rfl) (fun _ _ _ h=>h) (Or.inl ⟨by rfl,?_⟩) hHeld ?_ ?_
        rotate_left
        ·rintro w' ⟨s0,s1,s2⟩
         go_simp
         with_reducible rfl
        rotate_left
        ·simp only [Act.put,List.setIfInBounds_toArray,List.set_cons_zero,List.set_cons_succ,i64_w,i32_w]
         rfl
        refine one_ (i:=2) (N:=some 62) #[true,true,true,false,false,false] rfl rfl (by kernel_rfl) (by decide) (fun K hK=>?_)
        refine goes_ Try.func57 (by kernel_rfl) rfl #[.agg #[.int .i64 a0_0,.slice Ao56 x299001_1.length co56,.slice Ao57 x299002_2.length co57]] (by rfl) rfl rfl mz ?_
        with_reducible refine (spec_plUsed.calls k2 a0_0 _ _ x299001_1 _ _ x299002_2 t313 _ ?side1 ?side2 ?side3 ?side4 A53.out).mono ?_
        (case side1=>exact cz (Kd.R_reads' HO_299001.out).2.2)
        (case side2=>exact (Kd.R_reads' HO_299001.out).2.1)
        (case side3=>exact cz (Kd.R_reads' HO_299002.out).2.2)
        (case side4=>exact (Kd.R_reads' HO_299002.out).2.1)
        rintro e w58 ⟨v314,rfl,ho0,hb⟩
        refine ⟨_,rfl,?_⟩
        have n0_:=Aside0.mk (Kd.R_elder' (rz HO_4.out) (Kd.R_base ho0) hb)
        have n1_:=Aside0.mk (Kd.R_below (rz HO_299001.out) hb)
        have n2_:=Aside0.mk (Kd.R_elder' (rz HO_299002.out) (Kd.R_base ho0) hb)
        have n3_:=Aside0.mk (Kd.R_lower (Kd.R_new' (Kd.R_new' ho0 (Kd.R_lt (rz HO_4.out))) (Kd.R_lt (rz HO_299002.out))) (below_size bs))
        have n4_:=Aside0.mk (blk_below (g:=gb292) (o:=.cells #[.int .i64 a0_0,.slice A0_1 l0_1.length c0_1,.slice A0_2 l0_2.length c0_2] 29 (0,0)) (kz BK292.out) hb)
        have n5_:=Aside0.mk (blk_below (g:=gb293) (o:=.cells #[.int .i64 0,.slice none 0 0,.slice none 0 0] 29 (0,0)) (kz BK293.out) hb)
        have n6_:=Aside0.mk (blk_below (g:=gb298) (o:=.cells #[.int .i64 a0_0,.slice Ao56 x299001_1.length co56,.slice Ao57 x299002_2.length co57] 29 (0,0)) (kz BK298.out) hb)
        have n7_:=Aside0.mk (below_step bs hb)
        clear HO_4
        clear HO_299001
        clear HO_299002
        clear BK292
        clear BK293
        clear BK298
        clear HB
        have HO_4:=n0_
        have HO_299001:=n1_
        have HO_299002:=n2_
        have HO315:=n3_
        have BK292:=n4_
        have BK293:=n5_
        have BK298:=n6_
        have HB:=n7_
        clear n0_ n1_ n2_ n3_ n4_ n5_ n6_ n7_
        (try clear hb)
        (try clear ho0)
        obtain ⟨Ao59,co59,eo59⟩:=Kd.R_slice HO315.out
        (first|subst eo59|(injection eo59 with f1_ f2_ f3_;have f4_:=f1_.symm;have f5_:=f3_.symm;clear f1_ f2_ f3_;subst f4_;subst f5_))
        refine hK.out _ _ ⟨(blk_cell BK298.out 0).trans rfl,(blk_cell BK298.out 1).trans rfl,(blk_cell BK298.out 2).trans rfl⟩ (fun hHeld=>?_)
        clear hK K
        refine norm_ (a':=?_) ?_ ?_
        rotate_left
        ·show Act.put _ (some 62) _ = _
         simp only [Act.put,List.setIfInBounds_toArray,List.set_cons_zero,List.set_cons_succ,i64_w,i32_w]
         rfl
        refine one_ (i:=3) (N:=some 63) #[true,true,true,true,false,false] rfl rfl (by kernel_rfl) (by decide) (fun K hK=>?_)
        refine goes_ Try.func56 (by kernel_rfl) rfl #[.agg #[.int .i64 a0_0,.slice Ao56 x299001_1.length co56,.slice Ao57 x299002_2.length co57],.slice Ao59 t313.length co59] (by rfl) rfl rfl mz ?_
        with_reducible refine (spec_plKeep.calls k2 a0_0 _ _ x299001_1 _ _ x299002_2 _ _ t313 t316 t317 t320 _ ?side1 ?side2 ?side3 ?side4 ?side5 ?side6 A54.out).mono ?_
        (case side1=>exact cz (Kd.R_reads' HO_299001.out).2.2)
        (case side2=>exact (Kd.R_reads' HO_299001.out).2.1)
        (case side3=>exact cz (Kd.R_reads' HO_299002.out).2.2)
        (case side4=>exact (Kd.R_reads' HO_299002.out).2.1)
        (case side5=>exact cz (Kd.R_reads' HO315.out).2.2)
        (case side6=>exact (Kd.R_reads' HO315.out).2.1)
        rintro e w60 ⟨v318,v321,rfl,ho0,ho1,hb⟩
        refine ⟨_,rfl,?_⟩
        have n0_:=Aside0.mk (Kd.R_elder' (rz HO_4.out) (Kd.R_base ho1) hb)
        have n1_:=Aside0.mk (Kd.R_elder' (rz HO_299001.out) (Kd.R_base ho0) hb)
        have n2_:=Aside0.mk (Kd.R_elder' (rz HO_299002.out) (Kd.R_base ho1) hb)
        have n3_:=Aside0.mk (Kd.R_elder' (rz HO315.out) (Kd.R_base ho1) hb)
        have n4_:=Aside0.mk (Kd.R_lower (Kd.R_new' ho0 (Kd.R_lt (rz HO_299001.out))) (below_size bs))
        have n5_:=Aside0.mk (Kd.R_lower (Kd.R_new' (Kd.R_new' (Kd.R_new' ho1 (Kd.R_lt (rz HO_4.out))) (Kd.R_lt (rz HO_299002.out))) (Kd.R_lt (rz HO315.out))) (below_size bs))
        have n6_:=Aside0.mk (blk_below (g:=gb292) (o:=.cells #[.int .i64 a0_0,.slice A0_1 l0_1.length c0_1,.slice A0_2 l0_2.length c0_2] 29 (0,0)) (kz BK292.out) hb)
        have n7_:=Aside0.mk (blk_below (g:=gb293) (o:=.cells #[.int .i64 0,.slice none 0 0,.slice none 0 0] 29 (0,0)) (kz BK293.out) hb)
        have n8_:=Aside0.mk (blk_below (g:=gb298) (o:=.cells #[.int .i64 a0_0,.slice Ao56 x299001_1.length co56,.slice Ao57 x299002_2.length co57] 29 (0,0)) (kz BK298.out) hb)
        have n9_:=Aside0.mk (below_step bs hb)
        clear HO_4
        clear HO_299001
        clear HO_299002
        clear HO315
        clear BK292
        clear BK293
        clear BK298
        clear HB
        have HO_4:=n0_
        have HO_299001:=n1_
        have HO_299002:=n2_
        have HO315:=n3_
        have HO319:=n4_
        have HO322:=n5_
        have BK292:=n6_
        have BK293:=n7_
        have BK298:=n8_
        have HB:=n9_
        clear n0_ n1_ n2_ n3_ n4_ n5_ n6_ n7_ n8_ n9_
        (try clear hb)
        (try clear ho0)
        (try clear ho1)
        obtain ⟨Ao62,co62,eo62⟩:=Kd.R_slice HO319.out
        (first|subst eo62|(injection eo62 with f1_ f2_ f3_;have f4_:=f1_.symm;have f5_:=f3_.symm;clear f1_ f2_ f3_;subst f4_;subst f5_))
        obtain ⟨Ao64,co64,eo64⟩:=Kd.R_slice HO322.out
        (first|subst eo64|(injection eo64 with f1_ f2_ f3_;have f4_:=f1_.symm;have f5_:=f3_.symm;clear f1_ f2_ f3_;subst f4_;subst f5_))
        refine hK.out _ _ ⟨(blk_cell BK298.out 0).trans rfl,(blk_cell BK298.out 1).trans rfl,(blk_cell BK298.out 2).trans rfl⟩ (fun hHeld=>?_)
        clear hK K
        refine norm_ (a':=?_) ?_ ?_
        rotate_left
        ·show Act.put _ (some 63) _ = _
         simp only [Act.put,List.setIfInBounds_toArray,List.set_cons_zero,List.set_cons_succ,i64_w,i32_w]
         rfl
        refine one_ (i:=4) (N:=none) #[true,true,true,true,true,false] rfl rfl (by kernel_rfl) (by decide) (fun K hK=>?_)
        have hs61 : w60.cell? ⟨gb293,0,none⟩ = some (.int .i64 0):=(blk_cell BK293.out 0).trans rfl
        have hfs61:=blk_frozen BK293.out 0
        have hns61_0:=NB292_293.out
        have hns61_2:=NB298_293.out
        have hms61_0:=NB293_292.out
        have hms61_2:=NB293_298.out
        have hs63 : w60.cell? ⟨gb293,1,none⟩ = some (.slice none 0 0):=(blk_cell BK293.out 1).trans rfl
        have hfs63:=blk_frozen BK293.out 1
        have hns63_0:=NB292_293.out
        have hns63_2:=NB298_293.out
        have hms63_0:=NB293_292.out
        have hms63_2:=NB293_298.out
        have hs65 : w60.cell? ⟨gb293,2,none⟩ = some (.slice none 0 0):=(blk_cell BK293.out 2).trans rfl
        have hfs65:=blk_frozen BK293.out 2
        have hns65_0:=NB292_293.out
        have hns65_2:=NB298_293.out
        have hms65_0:=NB293_292.out
        have hms65_2:=NB293_298.out
        refine skip_ (w1:=?_) (by rfl) rfl ?_ ?_
        rotate_left
        ·go_simp
         rfl
        refine hK.out _ _ ⟨((cell_far (p:=⟨gb293,_,none⟩) NB298_293.out _).trans (((cell_far (p:=⟨gb293,_,none⟩) NB298_293.out _).trans (((cell_far (p:=⟨gb293,_,none⟩) NB298_293.out _).trans (hHeld.1)))))),((cell_far (p:=⟨gb293,_,none⟩) NB298_293.out _).trans (((cell_far (p:=⟨gb293,_,none⟩) NB298_293.out _).trans (((cell_far (p:=⟨gb293,_,none⟩) NB298_293.out _).trans (hHeld.2.1)))))),((cell_far (p:=⟨gb293,_,none⟩) NB298_293.out _).trans (((cell_far (p:=⟨gb293,_,none⟩) NB298_293.out _).trans (((cell_far (p:=⟨gb293,_,none⟩) NB298_293.out _).trans (hHeld.2.2))))))⟩ (fun hHeld=>?_)
        clear hK K
        refine pure_ (i:=5) (N:=some 3) (v:=?_) (a':=?_) #[true,true,true,true,true,true] rfl rfl (by kernel_rfl) (fun _ _ _ h=>h) (Or.inl ⟨by rfl,?_⟩) ?_ ?_
        rotate_left
        ·intro w'
         go_simp
         with_reducible rfl
        rotate_left
        ·simp only [Act.put,List.setIfInBounds_toArray,List.set_cons_zero,List.set_cons_succ,i64_w,i32_w]
         rfl
        refine done_ (by kernel_rfl) ?_
        try go_wp2
        refine bodyPost_ret (results_ct rfl _ _ gb293 29 #[.int .i64 t316,.slice Ao62 t317.length co62,.slice Ao64 t320.length co64] (0,0) _ rfl (by (with_reducible repeat (first|refine blk_drewN ?_ _|refine blk_drew ?_|refine blk_alloc ?_ _));refine blk_put (cs:=#[.int .i64 t316,.slice Ao62 t317.length co62,.slice none 0 0]) ?_ 2 _ rfl;(with_reducible repeat (first|refine blk_drewN ?_ _|refine blk_drew ?_|refine blk_alloc ?_ _));refine blk_put (cs:=#[.int .i64 t316,.slice none 0 0,.slice none 0 0]) ?_ 1 _ rfl;(with_reducible repeat (first|refine blk_drewN ?_ _|refine blk_drew ?_|refine blk_alloc ?_ _));refine blk_put (cs:=#[.int .i64 0,.slice none 0 0,.slice none 0 0]) ?_ 0 _ rfl;(with_reducible repeat (first|refine blk_drewN ?_ _|refine blk_drew ?_|refine blk_alloc ?_ _));exact BK293.out) Try.underlying29 rfl (by kernel_rfl)) rfl ?_
        exact ⟨_,_,by first|rfl|(simp [errW_none,errW_some] <;> rfl)|(simp [*,errW_none,errW_some] <;> rfl),by (with_reducible repeat (first|apply Kd.R_alloc|apply Kd.R_drewN|apply Kd.R_drew));exact Kd.R_mono (Kd.R_far (p:=⟨gb293,2,none⟩) (Kd.R_far (p:=⟨gb293,1,none⟩) (Kd.R_far (p:=⟨gb293,0,none⟩) (Kd.R_types HO319.out BK293.out (by decide)) (fun _ hk=>hk.2) (.int .i64 t316)) (fun _ hk=>hk.2) (.slice Ao62 t317.length co62)) (fun _ hk=>hk.2) (.slice Ao64 t320.length co64)) (fun _ hk=>trivial),by (with_reducible repeat (first|apply Kd.R_alloc|apply Kd.R_drewN|apply Kd.R_drew));exact Kd.R_mono (Kd.R_far (p:=⟨gb293,2,none⟩) (Kd.R_far (p:=⟨gb293,1,none⟩) (Kd.R_far (p:=⟨gb293,0,none⟩) (Kd.R_types HO322.out BK293.out (by decide)) (fun _ hk=>hk.2) (.int .i64 t316)) (fun _ hk=>hk.2) (.slice Ao62 t317.length co62)) (fun _ hk=>hk.2) (.slice Ao64 t320.length co64)) (fun _ hk=>trivial),by repeat (first|(with_reducible first|exact HB.out|apply below_alloc|apply pw_below_drewN|apply below_drew1|refine below_set ?_ GE292.out|refine below_set ?_ GE293.out|refine below_set ?_ GE298.out)|exact HB.out)⟩
 ·replace c3:=Bool.eq_false_iff.mpr c3
  subst c3
  have H1 : (some (0,([] : List (S73)),([] : List Int),false)) = some (r1,r2,r3,r4):=by rw [if_neg (show ¬ (false = true) by decide)] at H;exact H
  clear H
  have H:=H1
  clear H1
  simp only [Option.some.injEq,Prod.mk.injEq] at H
  obtain ⟨rfl,rfl,rfl,rfl⟩:=H
  go_enter Try.func24,Try.ntmps24
  go_wp2_with (first|((with_reducible refine gate_dst (N:=1) rfl ?_);refine box_event ?hg (N:=1) ?hd (cs:=#[.int .i64 a0_0,.slice A0_1 l0_1.length c0_1,.slice A0_2 l0_2.length c0_2]) (t:=29) ?hr ?_;(case hd=>rfl);(case hg=>rfl);(case hr=>first|(go_simp;done)|(go_simp;rfl));intro gb292 hg w66 hbox hb;have n0_:=Aside0.mk (below_step bz hb);have n1_:=Aside0.mk (hbox);have n2_:=Aside0.mk ((by rw [hg];exact (below_size bz) : w.heap.size ≤ gb292));have n3_:=Aside0.mk ((by rw [hg];exact (below_size bz) : w.heap.size ≤ gb292));clear HB;have HB:=n0_;have BK292:=n1_;have GW292:=n2_;have GE292:=n3_;clear n0_ n1_ n2_ n3_;clear hb hbox hg)|((with_reducible refine gate_dst (N:=2) rfl ?_);refine box_event ?hg (N:=2) ?hd (cs:=#[.int .i64 0,.slice none 0 0,.slice none 0 0]) (t:=29) ?hr ?_;(case hd=>rfl);(case hg=>rfl);(case hr=>first|(go_simp;done)|(go_simp;rfl));intro gb293 hg w67 hbox hb;have n0_:=Aside0.mk (blk_below (g:=gb292) (o:=.cells #[.int .i64 a0_0,.slice A0_1 l0_1.length c0_1,.slice A0_2 l0_2.length c0_2] 29 (0,0)) (kz BK292.out) hb);have n1_:=Aside0.mk (below_step bs hb);have n2_:=Aside0.mk (hbox);have n3_:=Aside0.mk ((by rw [hg];exact (below_size bs) : w.heap.size ≤ gb293));have n4_:=Aside0.mk ((by rw [hg];exact (below_size bs) : w.heap.size ≤ gb293));have n5_:=Aside0.mk ((by rw [hg];exact Nat.ne_of_lt (blk_lt (g:=gb292) (o:=.cells #[.int .i64 a0_0,.slice A0_1 l0_1.length c0_1,.slice A0_2 l0_2.length c0_2] 29 (0,0)) (kz BK292.out)) : gb292 ≠ gb293));have n6_:=Aside0.mk ((by rw [hg];exact Nat.ne_of_gt (blk_lt (g:=gb292) (o:=.cells #[.int .i64 a0_0,.slice A0_1 l0_1.length c0_1,.slice A0_2 l0_2.length c0_2] 29 (0,0)) (kz BK292.out)) : gb293 ≠ gb292));clear BK292 HB;have BK292:=n0_;have HB:=n1_;have BK293:=n2_;have GW293:=n3_;have GE293:=n4_;have NB292_293:=n5_;have NB293_292:=n6_;clear n0_ n1_ n2_ n3_ n4_ n5_ n6_;clear hb hbox hg;have hnb68:=NB292_293.out;have hnc68:=NB293_292.out;have hcz69_0 : w67.cell? ⟨gb292,0,none⟩ = some (.int .i64 a0_0):=(blk_cell BK292.out 0).trans rfl;have hcz69_1 : w67.cell? ⟨gb292,1,none⟩ = some (.slice A0_1 l0_1.length c0_1):=(blk_cell BK292.out 1).trans rfl;have hcz69_2 : w67.cell? ⟨gb292,2,none⟩ = some (.slice A0_2 l0_2.length c0_2):=(blk_cell BK292.out 2).trans rfl;have hfz69_0:=blk_frozen BK292.out 0;have hfz69_1:=blk_frozen BK292.out 1;have hfz69_2:=blk_frozen BK292.out 2)|((with_reducible refine gate_callee (f:=38) rfl ?_);refine goesL_ (some 11) rfl rfl Try.func38 (by kernel_rfl) rfl #[.agg #[.int .i64 a0_0,.slice A0_1 l0_1.length c0_1,.slice A0_2 l0_2.length c0_2]] rfl mz ?_;(with_reducible refine (spec_plGood.calls k a0_0 _ _ l0_1 _ _ l0_2 false _ ?side1 ?side2 ?side3 ?side4 A2.out).mono ?_);(case side1=>exact cz (Kd.C_below HR0_1.out HB.out));(case side2=>exact HC0_1.out);(case side3=>exact cz (Kd.C_below HR0_2.out HB.out));(case side4=>exact HC0_2.out);rintro e w70 ⟨rfl,hb⟩;refine ⟨_,rfl,?_⟩;have n0_:=Aside0.mk (blk_below (g:=gb292) (o:=.cells #[.int .i64 a0_0,.slice A0_1 l0_1.length c0_1,.slice A0_2 l0_2.length c0_2] 29 (0,0)) (kz BK292.out) hb);have n1_:=Aside0.mk (blk_below (g:=gb293) (o:=.cells #[.int .i64 0,.slice none 0 0,.slice none 0 0] 29 (0,0)) (kz BK293.out) hb);have n2_:=Aside0.mk (below_step bs hb);clear BK292 BK293 HB;have BK292:=n0_;have BK293:=n1_;have HB:=n2_;clear n0_ n1_ n2_;(try clear hb);have hcz71_0 : w70.cell? ⟨gb293,0,none⟩ = some (.int .i64 0):=(blk_cell BK293.out 0).trans rfl;have hcz71_1 : w70.cell? ⟨gb293,1,none⟩ = some (.slice none 0 0):=(blk_cell BK293.out 1).trans rfl;have hcz71_2 : w70.cell? ⟨gb293,2,none⟩ = some (.slice none 0 0):=(blk_cell BK293.out 2).trans rfl;have hfz71_0:=blk_frozen BK293.out 0;have hfz71_1:=blk_frozen BK293.out 1;have hfz71_2:=blk_frozen BK293.out 2))
  refine bodyPost_ret (results_ct rfl _ _ gb293 29 #[.int .i64 0,.slice none 0 0,.slice none 0 0] (0,0) _ rfl (by (with_reducible repeat (first|refine blk_drewN ?_ _|refine blk_drew ?_|refine blk_alloc ?_ _));refine blk_put (cs:=#[.int .i64 0,.slice none 0 0,.slice none 0 0]) ?_ 2 _ rfl;(with_reducible repeat (first|refine blk_drewN ?_ _|refine blk_drew ?_|refine blk_alloc ?_ _));refine blk_put (cs:=#[.int .i64 0,.slice none 0 0,.slice none 0 0]) ?_ 1 _ rfl;(with_reducible repeat (first|refine blk_drewN ?_ _|refine blk_drew ?_|refine blk_alloc ?_ _));refine blk_put (cs:=#[.int .i64 0,.slice none 0 0,.slice none 0 0]) ?_ 0 _ rfl;(with_reducible repeat (first|refine blk_drewN ?_ _|refine blk_drew ?_|refine blk_alloc ?_ _));exact BK293.out) Try.underlying29 rfl (by kernel_rfl)) rfl ?_
  exact ⟨_,_,by first|rfl|(simp [errW_none,errW_some] <;> rfl)|(simp [*,errW_none,errW_some] <;> rfl),by first|exact Kd.R_nil _ _ _ _ _|exact Kd.N_nil _ _ _ _ _|exact Kd.V_nil _ _ _ _ _|exact Kd.Q_nil _ _ _ _ _|exact Kd.S_nil _ _ _ _ _,by first|exact Kd.R_nil _ _ _ _ _|exact Kd.N_nil _ _ _ _ _|exact Kd.V_nil _ _ _ _ _|exact Kd.Q_nil _ _ _ _ _|exact Kd.S_nil _ _ _ _ _,by repeat (first|(with_reducible first|exact HB.out|apply below_alloc|apply pw_below_drewN|apply below_drew1|refine below_set ?_ GE292.out|refine below_set ?_ GE293.out)|exact HB.out)⟩
end Go.Proofs.Ytdcdaoancmpbeaa.MFnExactSharePlan
--sq
