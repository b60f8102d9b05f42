import Derived.Test.YtopkiccdfmjjjaaMFnExactComposePlansx0
import Derived.Test.YtopkiccdfmjjjaaMFnExactComposePlansx8
import Derived.Test.YtopkiccdfmjjjaaMFnExactComposePlansx9
import Derived.Test.YtopkiccdfmjjjaaMFnExactComposePlansx1
import Derived.Test.YtopkiccdfmjjjaaMFnExactComposePlansx2
import Derived.Test.YtopkiccdfmjjjaaMFnExactComposePlansx3
import Derived.Test.YtopkiccdfmjjjaaMFnExactComposePlansx4
import Derived.Test.YtopkiccdfmjjjaaMFnExactComposePlansx5
import Derived.Test.YtopkiccdfmjjjaaMFnExactComposePlansx6
import Derived.Test.YtopkiccdfmjjjaaMFnExactComposePlansx7
namespace Go.Proofs.Ytopkiccdfmjjjaa.MFnExactComposePlans
open Go.RowKit Go.Proofs.YtopkiccdfmjjjaaW.PrintWords Go.Proofs.YtopkiccdfmjjjaaW.PrintLast Go.Proofs.YtopkiccdfmjjjaaW.PrintMore Go.Proofs.YtopkiccdfmjjjaaV Go.Proofs.YtopkiccdfmjjjaaZ
attribute [local go_sem] max2_int min2_int max_two min_two max_three min_three max_four min_four   -- for this text's walks alone
set_option linter.unusedVariables false
set_option linter.unusedSimpArgs false
/-! ### impl_ComposePlans: function 50 -/
theorem impl_ComposePlans.keep_ok {e base : Nat} {w w1 : World} {ok ok1 P : Nat → Prop} {v : Value} {xs ys : List Int} (h0 : Kd.R (Kd.int .i64) e w base ok v xs) (h1 : Kd.R (Kd.int .i64) e w1 base ok1 v ys) (hP : ∀ k,v.ownBlock = some k → P k) : Kd.R (Kd.int .i64) e w1 base (fun k=>ok k ∧ P k) v ys:=Kd.R_mono (Kd.R_tight rfl h1) (fun k e_=>⟨h0.1 k e_.symm,hP k e_.symm⟩)
def impl_ComposePlans.j0 : Nat → Bool → Int → List (S69) → List Int → Int → List (S69) → List Int → Option (Int × (List (S69)) × List Int × Bool)
 | 0,_,_,_,_,_,_,_=>none
 | k + 1,x22,x295000,x295001,x295002,x296000,x296001,x296002=>if x22 = true then (some (0,([] : List (S69)),([] : List Int),false)) else ((impl_clonePlan.f x295000 x295001 x295002).bind fun bt299=>((impl_Plan_behind.f k bt299.1 bt299.2.1 bt299.2.2 x296000 x296001 x296002 x295002).bind fun bt307=>((impl_renamed.f k x296002 bt307.1).bind fun t310=>((impl_told.f k bt299.1 bt307.2.2.1 t310).bind fun bt313=>(some (bt313.1,bt313.2.1,bt313.2.2.1,bt313.2.2.2))))))
def impl_ComposePlans.f (k : Nat) (a0_0 : Int) (l0_1 : List (S69)) (l0_2 : List Int) (a1_0 : Int) (l1_1 : List (S69)) (l1_2 : List Int) : Option (Int × (List (S69)) × List Int × Bool):=(impl_IsPlan.f k a0_0 l0_1 l0_2).bind fun t297=>(if t297 = true then ((impl_IsPlan.f k a1_0 l1_1 l1_2).bind fun t298=>(if t298 = true then (impl_ComposePlans.j0 k ((l0_2.length : Int) != a1_0) a0_0 l0_1 l0_2 a1_0 l1_1 l1_2) else (impl_ComposePlans.j0 k true a0_0 l0_1 l0_2 a1_0 l1_1 l1_2))) else (impl_ComposePlans.j0 k true a0_0 l0_1 l0_2 a1_0 l1_1 l1_2))
theorem impl_ComposePlans.mono_l : ∀ k,(∀ y0 y1 y2 y3 y4 y5 y6,LeO (impl_ComposePlans.j0 k y0 y1 y2 y3 y4 y5 y6) (impl_ComposePlans.j0 (k + 1) y0 y1 y2 y3 y4 y5 y6))
 | 0=>fun _ _ _ _ _ _ _ r h=>by simp [impl_ComposePlans.j0] at h
 | k + 1=>by
  have ih0:=impl_ComposePlans.mono_l k
  ·intro y0 y1 y2 y3 y4 y5 y6
   unfold impl_ComposePlans.j0
   repeat' first
   | (with_reducible exact ih0 _ _ _ _ _ _ _)
   | (with_reducible exact impl_IsPlan.mono _ _ _ _)
   | (with_reducible exact impl_Plan_behind.mono _ _ _ _ _ _ _ _)
   | (with_reducible exact impl_renamed.mono _ _ _)
   | (with_reducible exact impl_told.mono _ _ _ _)
   | (with_reducible exact LeO.refl _)
   | (with_reducible exact LeO.none _)
   | (with_reducible refine LeO.ite ?_ ?_)
   | (with_reducible refine LeO.bind ?_ (fun _=>?_))
   | exact ih0 _ _ _ _ _ _ _
   | exact impl_IsPlan.mono _ _ _ _
   | exact impl_Plan_behind.mono _ _ _ _ _ _ _ _
   | exact impl_renamed.mono _ _ _
   | exact impl_told.mono _ _ _ _
   | exact LeO.none _
   | refine LeO.ite ?_ ?_
   | refine LeO.bind ?_ (fun _=>?_)
theorem impl_ComposePlans.mono : ∀ a0 a1 a2 a3 a4 a5 k,LeO (impl_ComposePlans.f k a0 a1 a2 a3 a4 a5) (impl_ComposePlans.f (k + 1) a0 a1 a2 a3 a4 a5):=by
 intro a0 a1 a2 a3 a4 a5 k
 have ih0:=impl_ComposePlans.mono_l k
 unfold impl_ComposePlans.f
 repeat' first
   | (with_reducible exact ih0 _ _ _ _ _ _ _)
   | (with_reducible exact impl_IsPlan.mono _ _ _ _)
   | (with_reducible exact impl_Plan_behind.mono _ _ _ _ _ _ _ _)
   | (with_reducible exact impl_renamed.mono _ _ _)
   | (with_reducible exact impl_told.mono _ _ _ _)
   | (with_reducible exact LeO.refl _)
   | (with_reducible exact LeO.none _)
   | (with_reducible refine LeO.ite ?_ ?_)
   | (with_reducible refine LeO.bind ?_ (fun _=>?_))
   | exact ih0 _ _ _ _ _ _ _
   | exact impl_IsPlan.mono _ _ _ _
   | exact impl_Plan_behind.mono _ _ _ _ _ _ _ _
   | exact impl_renamed.mono _ _ _
   | exact impl_told.mono _ _ _ _
   | exact LeO.none _
   | refine LeO.ite ?_ ?_
   | refine LeO.bind ?_ (fun _=>?_)
def impl_ComposePlans.T4 : Bool × List (List Nat × List Nat):=(true,[([],[]),([0],[0]),([],[]),([2],[2]),([3],[3]),([1,4,4],[1,4]),([0,1,2,3,4,5],[]),([6,5,5,0,1,2,3,4,5],[5,6])])
def impl_ComposePlans.B4 : List Nat:=[0,1,0,4,12,31,63,127]
theorem impl_ComposePlans.tab4 : rtab .any (opsOf Try.f50 4) = impl_ComposePlans.T4:=by kernel_rfl
theorem impl_ComposePlans.bits4 : waitsOk impl_ComposePlans.T4.2 impl_ComposePlans.B4 = true:=by kernel_rfl
set_option maxHeartbeats 8000000 in
set_option maxRecDepth 100000 in
theorem impl_ComposePlans.calls (k : Nat) (a0_0 : Int) (A0_1 : Option Addr) (c0_1 : Nat) (l0_1 : List (S69)) (A0_2 : Option Addr) (c0_2 : Nat) (l0_2 : List Int) (a1_0 : Int) (A1_1 : Option Addr) (c1_1 : Nat) (l1_1 : List (S69)) (A1_2 : Option Addr) (c1_2 : Nat) (l1_2 : List Int) (r1 : Int) (r2 : List (S69)) (r3 : List Int) (r4 : Bool) (w : World) (hr0_1 : Kd.C k69 w A0_1 l0_1.length l0_1) (hc0_1 : l0_1.length ≤ c0_1) (hr0_2 : Kd.C (Kd.int .i64) w A0_2 l0_2.length l0_2) (hc0_2 : l0_2.length ≤ c0_2) (hr1_1 : Kd.C k69 w A1_1 l1_1.length l1_1) (hc1_1 : l1_1.length ≤ c1_1) (hr1_2 : Kd.C (Kd.int .i64) w A1_2 l1_2.length l1_2) (hc1_2 : l1_2.length ≤ c1_2) (h : impl_ComposePlans.f k a0_0 l0_1 l0_2 a1_0 l1_1 l1_2 = some (r1,r2,r3,r4)) :
  Calls Try.prog 50 #[.agg #[.int .i64 a0_0,.slice A0_1 l0_1.length c0_1,.slice A0_2 l0_2.length c0_2],.agg #[.int .i64 a1_0,.slice A1_1 l1_1.length c1_1,.slice A1_2 l1_2.length c1_2]] w fun e w'=>∃ v1_ v2_ : Value,e = .returned (.tuple #[.agg #[.int .i64 r1,v1_,v2_],.bool r4]) ∧ Kd.R k69 69 w' w.heap.size (fun _=>True) v1_ r2 ∧ Kd.R (Kd.int .i64) 3 w' w.heap.size (fun _=>True) v2_ r3 ∧ Below w.heap.size w w':=by
 have hu30:=Try.underlying30
 have HR0_1:=Aside0.mk hr0_1
 have HC0_1:=Aside0.mk hc0_1
 clear hr0_1 hc0_1
 have HR0_2:=Aside0.mk hr0_2
 have HC0_2:=Aside0.mk hc0_2
 clear hr0_2 hc0_2
 have HR1_1:=Aside0.mk hr1_1
 have HC1_1:=Aside0.mk hc1_1
 clear hr1_1 hc1_1
 have HR1_2:=Aside0.mk hr1_2
 have HC1_2:=Aside0.mk hc1_2
 clear hr1_2 hc1_2
 have HB:=Aside0.mk (Below.refl w.heap.size w)
 have H : ((impl_IsPlan.f k a0_0 l0_1 l0_2).bind fun t297=>(if t297 = true then ((impl_IsPlan.f k a1_0 l1_1 l1_2).bind fun t298=>(if t298 = true then (impl_ComposePlans.j0 k ((l0_2.length : Int) != a1_0) a0_0 l0_1 l0_2 a1_0 l1_1 l1_2) else (impl_ComposePlans.j0 k true a0_0 l0_1 l0_2 a1_0 l1_1 l1_2))) else (impl_ComposePlans.j0 k true a0_0 l0_1 l0_2 a1_0 l1_1 l1_2))) = some (r1,r2,r3,r4):=h
 clear h
 have HC3:=Aside0.mk H
 clear H
 go_enter Try.func50,Try.ntmps50
 go_upto_region 1 with (first|((with_reducible refine gate_dst (N:=2) rfl ?_);(try (refine gate_guard (by rfl) ?_;dsimp only));refine box_event ?hg (N:=2) ?hd (cs:=#[.int .i64 a0_0,.slice A0_1 l0_1.length c0_1,.slice A0_2 l0_2.length c0_2]) (t:=30) ?hr ?_;(case hd=>rfl);(case hg=>rfl);(case hr=>first|(go_simp;done)|(go_simp;rfl));intro gb294 hg w4 hbox hb;have n0_:=Aside0.mk (below_step bz hb);have n1_:=Aside0.mk (hbox);have n2_:=Aside0.mk ((by rw [hg];exact (below_size bz) : w.heap.size ≤ gb294));have n3_:=Aside0.mk ((by rw [hg];exact (below_size bz) : w.heap.size ≤ gb294));clear HB;have HB:=n0_;have BK294:=n1_;have GW294:=n2_;have GE294:=n3_;clear n0_ n1_ n2_ n3_;clear hb hbox hg)|((with_reducible refine gate_dst (N:=3) rfl ?_);(try (refine gate_guard (by rfl) ?_;dsimp only));refine box_event ?hg (N:=3) ?hd (cs:=#[.int .i64 a1_0,.slice A1_1 l1_1.length c1_1,.slice A1_2 l1_2.length c1_2]) (t:=30) ?hr ?_;(case hd=>rfl);(case hg=>rfl);(case hr=>first|(go_simp;done)|(go_simp;rfl));intro gb295 hg w5 hbox hb;have n0_:=Aside0.mk (kb BK294.out hb);have n1_:=Aside0.mk (below_step bs hb);have n2_:=Aside0.mk (hbox);have n3_:=Aside0.mk ((by rw [hg];exact (below_size bs) : w.heap.size ≤ gb295));have n4_:=Aside0.mk ((by rw [hg];exact (below_size bs) : w.heap.size ≤ gb295));have n5_:=Aside0.mk (kn hg BK294.out);have n6_:=Aside0.mk (km hg BK294.out);clear BK294 HB;have BK294:=n0_;have HB:=n1_;have BK295:=n2_;have GW295:=n3_;have GE295:=n4_;have NB294_295:=n5_;have NB295_294:=n6_;clear n0_ n1_ n2_ n3_ n4_ n5_ n6_;clear hb hbox hg)|((with_reducible refine gate_dst (N:=4) rfl ?_);(try (refine gate_guard (by rfl) ?_;dsimp only));refine box_event ?hg (N:=4) ?hd (cs:=#[.int .i64 0,.slice none 0 0,.slice none 0 0]) (t:=30) ?hr ?_;(case hd=>rfl);(case hg=>rfl);(case hr=>first|(go_simp;done)|(go_simp;rfl));intro gb296 hg w6 hbox hb;have n0_:=Aside0.mk (kb BK294.out hb);have n1_:=Aside0.mk (kb BK295.out hb);have n2_:=Aside0.mk (below_step bs hb);have n3_:=Aside0.mk (hbox);have n4_:=Aside0.mk ((by rw [hg];exact (below_size bs) : w.heap.size ≤ gb296));have n5_:=Aside0.mk ((by rw [hg];exact (below_size bs) : w.heap.size ≤ gb296));have n6_:=Aside0.mk (kn hg BK294.out);have n7_:=Aside0.mk (km hg BK294.out);have n8_:=Aside0.mk (kn hg BK295.out);have n9_:=Aside0.mk (km hg BK295.out);clear BK294 BK295 HB;have BK294:=n0_;have BK295:=n1_;have HB:=n2_;have BK296:=n3_;have GW296:=n4_;have GE296:=n5_;have NB294_296:=n6_;have NB296_294:=n7_;have NB295_296:=n8_;have NB296_295:=n9_;clear n0_ n1_ n2_ n3_ n4_ n5_ n6_ n7_ n8_ n9_;clear hb hbox hg))
 (try simp only [Act.put,xa,xb,xc])
 go_cut [22] (fun v22 wc=>∃ (kq : Nat) (x22_2 : Bool),v22 = .bool x22_2 ∧ Aside0 (impl_ComposePlans.j0 kq x22_2 a0_0 l0_1 l0_2 a1_0 l1_1 l1_2 = some (r1,r2,r3,r4)) ∧ Aside0 (kq ≤ k) ∧ Aside0 (wc.heap[gb294]? = some (.cells #[.int .i64 a0_0,(.slice A0_1 l0_1.length c0_1),(.slice A0_2 l0_2.length c0_2)] 30 (0,0))) ∧ Aside0 (wc.heap[gb295]? = some (.cells #[.int .i64 a1_0,(.slice A1_1 l1_1.length c1_1),(.slice A1_2 l1_2.length c1_2)] 30 (0,0))) ∧ Aside0 (wc.heap[gb296]? = some (.cells #[.int .i64 0,(.slice none 0 0),(.slice none 0 0)] 30 (0,0))) ∧ Aside0 (Below w.heap.size w wc))
 case first=>
  have H:=HC3.out
  clear HC3
  replace H:=Option.bind_eq_some_iff.mp H
  obtain ⟨t297,A70,H⟩:=H
  try dsimp only at H
  have A7:=Aside0.mk A70
  clear A70
  by_cases c8 : t297 = true
  ·subst c8
   rw [if_pos rfl] at H
   replace H:=Option.bind_eq_some_iff.mp H
   obtain ⟨t298,A90,H⟩:=H
   try dsimp only at H
   have A9:=Aside0.mk A90
   clear A90
   by_cases c10 : t298 = true
   ·subst c10
    rw [if_pos rfl] at H
    have H':=Aside0.mk H
    clear H
    have hnb11:=NB294_295.out
    have hnc11:=NB295_294.out
    have hnb12:=NB294_296.out
    have hnc12:=NB296_294.out
    have hcz13_0 : w6.cell? ⟨gb294,0,none⟩ = some (.int .i64 a0_0):=(blk_cell BK294.out 0).trans rfl
    have hcz13_1 : w6.cell? ⟨gb294,1,none⟩ = some (.slice A0_1 l0_1.length c0_1):=(blk_cell BK294.out 1).trans rfl
    have hcz13_2 : w6.cell? ⟨gb294,2,none⟩ = some (.slice A0_2 l0_2.length c0_2):=(blk_cell BK294.out 2).trans rfl
    have hfz13_0:=blk_frozen BK294.out 0
    have hfz13_1:=blk_frozen BK294.out 1
    have hfz13_2:=blk_frozen BK294.out 2
    go_wp2_with (first|((with_reducible refine gate_callee (f:=18) rfl ?_);refine goesL_ (some 8) rfl rfl Try.func18 (by kernel_rfl) rfl #[.agg #[.int .i64 a0_0,.slice A0_1 l0_1.length c0_1,.slice A0_2 l0_2.length c0_2]] rfl mz ?_;(with_reducible refine (impl_IsPlan.calls k a0_0 _ _ l0_1 _ _ l0_2 true _ ?side1 ?side2 ?side3 ?side4 A7.out).mono ?_);(case side1=>exact cz (Kd.C_below HR0_1.out HB.out));(case side2=>exact HC0_1.out);(case side3=>exact cz (Kd.C_below HR0_2.out HB.out));(case side4=>exact HC0_2.out);rintro e w14 ⟨rfl,hb⟩;refine ⟨_,rfl,?_⟩;have n0_:=Aside0.mk (kb BK294.out hb);have n1_:=Aside0.mk (kb BK295.out hb);have n2_:=Aside0.mk (kb BK296.out hb);have n3_:=Aside0.mk (below_step bs hb);clear BK294 BK295 BK296 HB;have BK294:=n0_;have BK295:=n1_;have BK296:=n2_;have HB:=n3_;clear n0_ n1_ n2_ n3_;(try clear hb);have hnb15:=NB295_296.out;have hnc15:=NB296_295.out;have hcz16_0 : w14.cell? ⟨gb295,0,none⟩ = some (.int .i64 a1_0):=(blk_cell BK295.out 0).trans rfl;have hcz16_1 : w14.cell? ⟨gb295,1,none⟩ = some (.slice A1_1 l1_1.length c1_1):=(blk_cell BK295.out 1).trans rfl;have hcz16_2 : w14.cell? ⟨gb295,2,none⟩ = some (.slice A1_2 l1_2.length c1_2):=(blk_cell BK295.out 2).trans rfl;have hfz16_0:=blk_frozen BK295.out 0;have hfz16_1:=blk_frozen BK295.out 1;have hfz16_2:=blk_frozen BK295.out 2)|(go_at_call 18;(with_reducible refine (impl_IsPlan.calls k a1_0 _ _ l1_1 _ _ l1_2 true _ ?side1 ?side2 ?side3 ?side4 A9.out).mono ?_);(case side1=>exact cz (Kd.C_below HR1_1.out HB.out));(case side2=>exact HC1_1.out);(case side3=>exact cz (Kd.C_below HR1_2.out HB.out));(case side4=>exact HC1_2.out);rintro e w17 ⟨rfl,hb⟩;have n0_:=Aside0.mk (kb BK294.out hb);have n1_:=Aside0.mk (kb BK295.out hb);have n2_:=Aside0.mk (kb BK296.out hb);have n3_:=Aside0.mk (below_step bs hb);clear BK294 BK295 BK296 HB;have BK294:=n0_;have BK295:=n1_;have BK296:=n2_;have HB:=n3_;clear n0_ n1_ n2_ n3_;(try clear hb);have hcz18_0 : w17.cell? ⟨gb294,0,none⟩ = some (.int .i64 a0_0):=(blk_cell BK294.out 0).trans rfl;have hcz18_1 : w17.cell? ⟨gb294,1,none⟩ = some (.slice A0_1 l0_1.length c0_1):=(blk_cell BK294.out 1).trans rfl;have hcz18_2 : w17.cell? ⟨gb294,2,none⟩ = some (.slice A0_2 l0_2.length c0_2):=(blk_cell BK294.out 2).trans rfl;have hfz18_0:=blk_frozen BK294.out 0;have hfz18_1:=blk_frozen BK294.out 1;have hfz18_2:=blk_frozen BK294.out 2;have hcz19_0 : w17.cell? ⟨gb295,0,none⟩ = some (.int .i64 a1_0):=(blk_cell BK295.out 0).trans rfl;have hcz19_1 : w17.cell? ⟨gb295,1,none⟩ = some (.slice A1_1 l1_1.length c1_1):=(blk_cell BK295.out 1).trans rfl;have hcz19_2 : w17.cell? ⟨gb295,2,none⟩ = some (.slice A1_2 l1_2.length c1_2):=(blk_cell BK295.out 2).trans rfl;have hfz19_0:=blk_frozen BK295.out 0;have hfz19_1:=blk_frozen BK295.out 1;have hfz19_2:=blk_frozen BK295.out 2))
    go_meet
    case rel=>exact ⟨_,(((l0_2.length : Int) != a1_0)),fz,H',⟨by first|omega|exact Nat.le_refl _⟩,⟨by (with_reducible repeat (first|refine blk_drewN ?_ _|refine blk_drew ?_|refine blk_alloc ?_ _));exact BK294.out⟩,⟨by (with_reducible repeat (first|refine blk_drewN ?_ _|refine blk_drew ?_|refine blk_alloc ?_ _));exact BK295.out⟩,⟨by (with_reducible repeat (first|refine blk_drewN ?_ _|refine blk_drew ?_|refine blk_alloc ?_ _));exact BK296.out⟩,⟨by repeat (first|(with_reducible first|exact HB.out|apply below_alloc|apply pw_below_drewN|apply below_drew1|refine below_set ?_ GE294.out|refine below_set ?_ GE295.out|refine below_set ?_ GE296.out)|exact HB.out)⟩⟩
   ·replace c10:=Bool.eq_false_iff.mpr c10
    subst c10
    rw [if_neg (show ¬ (false = true) by decide)] at H
    have H':=Aside0.mk H
    clear H
    have hnb20:=NB294_295.out
    have hnc20:=NB295_294.out
    have hnb21:=NB294_296.out
    have hnc21:=NB296_294.out
    have hcz22_0 : w6.cell? ⟨gb294,0,none⟩ = some (.int .i64 a0_0):=(blk_cell BK294.out 0).trans rfl
    have hcz22_1 : w6.cell? ⟨gb294,1,none⟩ = some (.slice A0_1 l0_1.length c0_1):=(blk_cell BK294.out 1).trans rfl
    have hcz22_2 : w6.cell? ⟨gb294,2,none⟩ = some (.slice A0_2 l0_2.length c0_2):=(blk_cell BK294.out 2).trans rfl
    have hfz22_0:=blk_frozen BK294.out 0
    have hfz22_1:=blk_frozen BK294.out 1
    have hfz22_2:=blk_frozen BK294.out 2
    go_wp2_with (first|((with_reducible refine gate_callee (f:=18) rfl ?_);refine goesL_ (some 8) rfl rfl Try.func18 (by kernel_rfl) rfl #[.agg #[.int .i64 a0_0,.slice A0_1 l0_1.length c0_1,.slice A0_2 l0_2.length c0_2]] rfl mz ?_;(with_reducible refine (impl_IsPlan.calls k a0_0 _ _ l0_1 _ _ l0_2 true _ ?side1 ?side2 ?side3 ?side4 A7.out).mono ?_);(case side1=>exact cz (Kd.C_below HR0_1.out HB.out));(case side2=>exact HC0_1.out);(case side3=>exact cz (Kd.C_below HR0_2.out HB.out));(case side4=>exact HC0_2.out);rintro e w23 ⟨rfl,hb⟩;refine ⟨_,rfl,?_⟩;have n0_:=Aside0.mk (kb BK294.out hb);have n1_:=Aside0.mk (kb BK295.out hb);have n2_:=Aside0.mk (kb BK296.out hb);have n3_:=Aside0.mk (below_step bs hb);clear BK294 BK295 BK296 HB;have BK294:=n0_;have BK295:=n1_;have BK296:=n2_;have HB:=n3_;clear n0_ n1_ n2_ n3_;(try clear hb);have hnb24:=NB295_296.out;have hnc24:=NB296_295.out;have hcz25_0 : w23.cell? ⟨gb295,0,none⟩ = some (.int .i64 a1_0):=(blk_cell BK295.out 0).trans rfl;have hcz25_1 : w23.cell? ⟨gb295,1,none⟩ = some (.slice A1_1 l1_1.length c1_1):=(blk_cell BK295.out 1).trans rfl;have hcz25_2 : w23.cell? ⟨gb295,2,none⟩ = some (.slice A1_2 l1_2.length c1_2):=(blk_cell BK295.out 2).trans rfl;have hfz25_0:=blk_frozen BK295.out 0;have hfz25_1:=blk_frozen BK295.out 1;have hfz25_2:=blk_frozen BK295.out 2)|(go_at_call 18;(with_reducible refine (impl_IsPlan.calls k a1_0 _ _ l1_1 _ _ l1_2 false _ ?side1 ?side2 ?side3 ?side4 A9.out).mono ?_);(case side1=>exact cz (Kd.C_below HR1_1.out HB.out));(case side2=>exact HC1_1.out);(case side3=>exact cz (Kd.C_below HR1_2.out HB.out));(case side4=>exact HC1_2.out);rintro e w26 ⟨rfl,hb⟩;have n0_:=Aside0.mk (kb BK294.out hb);have n1_:=Aside0.mk (kb BK295.out hb);have n2_:=Aside0.mk (kb BK296.out hb);have n3_:=Aside0.mk (below_step bs hb);clear BK294 BK295 BK296 HB;have BK294:=n0_;have BK295:=n1_;have BK296:=n2_;have HB:=n3_;clear n0_ n1_ n2_ n3_;(try clear hb)))
    go_meet
    case rel=>exact ⟨_,(true),fz,H',⟨by first|omega|exact Nat.le_refl _⟩,⟨by (with_reducible repeat (first|refine blk_drewN ?_ _|refine blk_drew ?_|refine blk_alloc ?_ _));exact BK294.out⟩,⟨by (with_reducible repeat (first|refine blk_drewN ?_ _|refine blk_drew ?_|refine blk_alloc ?_ _));exact BK295.out⟩,⟨by (with_reducible repeat (first|refine blk_drewN ?_ _|refine blk_drew ?_|refine blk_alloc ?_ _));exact BK296.out⟩,⟨by repeat (first|(with_reducible first|exact HB.out|apply below_alloc|apply pw_below_drewN|apply below_drew1|refine below_set ?_ GE294.out|refine below_set ?_ GE295.out|refine below_set ?_ GE296.out)|exact HB.out)⟩⟩
  ·replace c8:=Bool.eq_false_iff.mpr c8
   subst c8
   rw [if_neg (show ¬ (false = true) by decide)] at H
   have H':=Aside0.mk H
   clear H
   have hnb27:=NB294_295.out
   have hnc27:=NB295_294.out
   have hnb28:=NB294_296.out
   have hnc28:=NB296_294.out
   have hcz29_0 : w6.cell? ⟨gb294,0,none⟩ = some (.int .i64 a0_0):=(blk_cell BK294.out 0).trans rfl
   have hcz29_1 : w6.cell? ⟨gb294,1,none⟩ = some (.slice A0_1 l0_1.length c0_1):=(blk_cell BK294.out 1).trans rfl
   have hcz29_2 : w6.cell? ⟨gb294,2,none⟩ = some (.slice A0_2 l0_2.length c0_2):=(blk_cell BK294.out 2).trans rfl
   have hfz29_0:=blk_frozen BK294.out 0
   have hfz29_1:=blk_frozen BK294.out 1
   have hfz29_2:=blk_frozen BK294.out 2
   go_wp2_with (first|((with_reducible refine gate_callee (f:=18) rfl ?_);refine goesL_ (some 8) rfl rfl Try.func18 (by kernel_rfl) rfl #[.agg #[.int .i64 a0_0,.slice A0_1 l0_1.length c0_1,.slice A0_2 l0_2.length c0_2]] rfl mz ?_;(with_reducible refine (impl_IsPlan.calls k a0_0 _ _ l0_1 _ _ l0_2 false _ ?side1 ?side2 ?side3 ?side4 A7.out).mono ?_);(case side1=>exact cz (Kd.C_below HR0_1.out HB.out));(case side2=>exact HC0_1.out);(case side3=>exact cz (Kd.C_below HR0_2.out HB.out));(case side4=>exact HC0_2.out);rintro e w30 ⟨rfl,hb⟩;refine ⟨_,rfl,?_⟩;have n0_:=Aside0.mk (kb BK294.out hb);have n1_:=Aside0.mk (kb BK295.out hb);have n2_:=Aside0.mk (kb BK296.out hb);have n3_:=Aside0.mk (below_step bs hb);clear BK294 BK295 BK296 HB;have BK294:=n0_;have BK295:=n1_;have BK296:=n2_;have HB:=n3_;clear n0_ n1_ n2_ n3_;(try clear hb)))
   go_meet
   case rel=>exact ⟨_,(true),fz,H',⟨by first|omega|exact Nat.le_refl _⟩,⟨by (with_reducible repeat (first|refine blk_drewN ?_ _|refine blk_drew ?_|refine blk_alloc ?_ _));exact BK294.out⟩,⟨by (with_reducible repeat (first|refine blk_drewN ?_ _|refine blk_drew ?_|refine blk_alloc ?_ _));exact BK295.out⟩,⟨by (with_reducible repeat (first|refine blk_drewN ?_ _|refine blk_drew ?_|refine blk_alloc ?_ _));exact BK296.out⟩,⟨by repeat (first|(with_reducible first|exact HB.out|apply below_alloc|apply pw_below_drewN|apply below_drew1|refine below_set ?_ GE294.out|refine below_set ?_ GE295.out|refine below_set ?_ GE296.out)|exact HB.out)⟩⟩
 case rest=>
  clear HC3
  try clear c1
  try clear c2
  try clear p2
  try clear c5
  try clear c8
  try clear c10
  try clear c11
  try clear c12
  try clear c15
  try clear c18
  try clear c20
  try clear c21
  try clear c24
  try clear c27
  try clear c28
  try clear hcz13_0
  try clear hcz13_1
  try clear hcz13_2
  try clear hcz16_0
  try clear hcz16_1
  try clear hcz16_2
  try clear hcz18_0
  try clear hcz18_1
  try clear hcz18_2
  try clear hcz19_0
  try clear hcz19_1
  try clear hcz19_2
  try clear hcz22_0
  try clear hcz22_1
  try clear hcz22_2
  try clear hcz25_0
  try clear hcz25_1
  try clear hcz25_2
  try clear hcz29_0
  try clear hcz29_1
  try clear hcz29_2
  try clear hfz13_0
  try clear hfz13_1
  try clear hfz13_2
  try clear hfz16_0
  try clear hfz16_1
  try clear hfz16_2
  try clear hfz18_0
  try clear hfz18_1
  try clear hfz18_2
  try clear hfz19_0
  try clear hfz19_1
  try clear hfz19_2
  try clear hfz22_0
  try clear hfz22_1
  try clear hfz22_2
  try clear hfz25_0
  try clear hfz25_1
  try clear hfz25_2
  try clear hfz29_0
  try clear hfz29_1
  try clear hfz29_2
  obtain ⟨kq,x22_2,rfl,HA,HJ2,BK294,BK295,BK296,HB⟩:=hcut
  cases kq with
  | zero=>exact absurd HA.out (by simp [impl_ComposePlans.j0])
  | succ kj2=>
   have H:=HA.out
   clear HA
   simp only [impl_ComposePlans.j0] at H
   by_cases c31 : x22_2 = true
   ·subst c31
    rw [if_pos rfl] at H
    simp only [Option.some.injEq,Prod.mk.injEq] at H
    obtain ⟨rfl,rfl,rfl,rfl⟩:=H
    have hnb32:=NB296_294.out
    have hnc32:=NB294_296.out
    have hnb33:=NB296_295.out
    have hnc33:=NB295_296.out
    have hcz34_0 : wc.cell? ⟨gb296,0,none⟩ = some (.int .i64 0):=(blk_cell BK296.out 0).trans rfl
    have hcz34_1 : wc.cell? ⟨gb296,1,none⟩ = some (.slice none 0 0):=(blk_cell BK296.out 1).trans rfl
    have hcz34_2 : wc.cell? ⟨gb296,2,none⟩ = some (.slice none 0 0):=(blk_cell BK296.out 2).trans rfl
    have hfz34_0:=blk_frozen BK296.out 0
    have hfz34_1:=blk_frozen BK296.out 1
    have hfz34_2:=blk_frozen BK296.out 2
    go_wp2
    refine bodyPost_ret (results_ct rfl _ _ gb296 30 #[.int .i64 0,.slice none 0 0,.slice none 0 0] (0,0) _ rfl (by (with_reducible repeat (first|refine blk_drewN ?_ _|refine blk_drew ?_|refine blk_alloc ?_ _));refine blk_put (cs:=#[.int .i64 0,.slice none 0 0,.slice none 0 0]) ?_ 2 _ rfl;(with_reducible repeat (first|refine blk_drewN ?_ _|refine blk_drew ?_|refine blk_alloc ?_ _));refine blk_put (cs:=#[.int .i64 0,.slice none 0 0,.slice none 0 0]) ?_ 1 _ rfl;(with_reducible repeat (first|refine blk_drewN ?_ _|refine blk_drew ?_|refine blk_alloc ?_ _));refine blk_put (cs:=#[.int .i64 0,.slice none 0 0,.slice none 0 0]) ?_ 0 _ rfl;(with_reducible repeat (first|refine blk_drewN ?_ _|refine blk_drew ?_|refine blk_alloc ?_ _));exact BK296.out) Try.underlying30 rfl (by kernel_rfl)) rfl ?_
    exact ⟨_,_,by first|rfl|(simp [errW_none,errW_some] <;> rfl)|(simp [*,errW_none,errW_some] <;> rfl),by first|exact Kd.R_nil _ _ _ _ _|exact Kd.N_nil _ _ _ _ _|exact Kd.V_nil _ _ _ _ _|exact Kd.Q_nil _ _ _ _ _|exact Kd.S_nil _ _ _ _ _,by first|exact Kd.R_nil _ _ _ _ _|exact Kd.N_nil _ _ _ _ _|exact Kd.V_nil _ _ _ _ _|exact Kd.Q_nil _ _ _ _ _|exact Kd.S_nil _ _ _ _ _,by repeat (first|(with_reducible first|exact HB.out|apply below_alloc|apply pw_below_drewN|apply below_drew1|refine below_set ?_ GE294.out|refine below_set ?_ GE295.out|refine below_set ?_ GE296.out)|exact HB.out)⟩
   ·replace c31:=Bool.eq_false_iff.mpr c31
    subst c31
    rw [if_neg (show ¬ (false = true) by decide)] at H
    obtain ⟨⟨t299,t300,t303⟩,A35,H⟩:=bd H
    try dsimp only at H
    obtain ⟨⟨t307,tNb,tSb,tOb⟩,A36,H⟩:=bd H
    try dsimp only at H
    replace H:=Option.bind_eq_some_iff.mp H
    obtain ⟨t310,A370,H⟩:=H
    try dsimp only at H
    have A37:=Aside0.mk A370
    clear A370
    obtain ⟨⟨t313,t314,t317,t320⟩,A38,H⟩:=bd H
    try dsimp only at H
    simp only [Option.some.injEq,Prod.mk.injEq] at H
    obtain ⟨rfl,rfl,rfl,rfl⟩:=H
    have hnb39:=NB294_295.out
    have hnc39:=NB295_294.out
    have hnb40:=NB294_296.out
    have hnc40:=NB296_294.out
    have hcz41_0 : wc.cell? ⟨gb294,0,none⟩ = some (.int .i64 a0_0):=(blk_cell BK294.out 0).trans rfl
    have hcz41_1 : wc.cell? ⟨gb294,1,none⟩ = some (.slice A0_1 l0_1.length c0_1):=(blk_cell BK294.out 1).trans rfl
    have hcz41_2 : wc.cell? ⟨gb294,2,none⟩ = some (.slice A0_2 l0_2.length c0_2):=(blk_cell BK294.out 2).trans rfl
    have hfz41_0:=blk_frozen BK294.out 0
    have hfz41_1:=blk_frozen BK294.out 1
    have hfz41_2:=blk_frozen BK294.out 2
    try go_wp2_with (first|((with_reducible refine gate_callee (f:=86) rfl ?_);refine goesL_ (some 25) rfl rfl Try.func86 (by kernel_rfl) rfl #[.agg #[.int .i64 a0_0,.slice A0_1 l0_1.length c0_1,.slice A0_2 l0_2.length c0_2]] rfl mz ?_;(with_reducible refine (impl_clonePlan.calls a0_0 _ _ l0_1 _ _ l0_2 t299 t300 t303 _ ?side1 ?side2 ?side3 ?side4 A35.out).mono ?_);(case side1=>exact cz (Kd.C_below HR0_1.out HB.out));(case side2=>exact HC0_1.out);(case side3=>exact cz (Kd.C_below HR0_2.out HB.out));(case side4=>exact HC0_2.out);rintro e w42 ⟨v301,v304,rfl,ho0,ho1,hb⟩;refine ⟨_,rfl,?_⟩;have n0_:=Aside0.mk (Kd.R_lower ho0 (below_size bs));have n1_:=Aside0.mk (Kd.R_lower ho1 (below_size bs));have n2_:=Aside0.mk (kb BK294.out hb);have n3_:=Aside0.mk (kb BK295.out hb);have n4_:=Aside0.mk (kb BK296.out hb);have n5_:=Aside0.mk (below_step bs hb);clear BK294 BK295 BK296 HB;have HO302:=n0_;have HO305:=n1_;have BK294:=n2_;have BK295:=n3_;have BK296:=n4_;have HB:=n5_;clear n0_ n1_ n2_ n3_ n4_ n5_;(try clear hb);(try clear ho0);(try clear ho1))|((with_reducible refine gate_dst (N:=6) rfl ?_);(try (refine gate_guard (by rfl) ?_;dsimp only));refine box_event ?hg (N:=6) ?hd (cs:=#[.int .i64 0,.slice none 0 0,.slice none 0 0]) (t:=30) ?hr ?_;(case hd=>rfl);(case hg=>rfl);(case hr=>first|(go_simp;done)|(go_simp;rfl));intro gb306 hg w43 hbox hb;have n0_:=Aside0.mk (Kd.R_below (rz HO302.out) hb);have n1_:=Aside0.mk (Kd.R_below (rz HO305.out) hb);have n2_:=Aside0.mk (kb BK294.out hb);have n3_:=Aside0.mk (kb BK295.out hb);have n4_:=Aside0.mk (kb BK296.out hb);have n5_:=Aside0.mk (below_step bs hb);have n6_:=Aside0.mk (hbox);have n7_:=Aside0.mk ((by rw [hg];exact (below_size bs) : w.heap.size ≤ gb306));have n8_:=Aside0.mk ((by rw [hg];exact (below_size bs) : w.heap.size ≤ gb306));have n9_:=Aside0.mk (kn hg BK294.out);have n10_:=Aside0.mk (km hg BK294.out);have n11_:=Aside0.mk (kn hg BK295.out);have n12_:=Aside0.mk (km hg BK295.out);have n13_:=Aside0.mk (kn hg BK296.out);have n14_:=Aside0.mk (km hg BK296.out);clear HO302 HO305 BK294 BK295 BK296 HB;have HO302:=n0_;have HO305:=n1_;have BK294:=n2_;have BK295:=n3_;have BK296:=n4_;have HB:=n5_;have BK306:=n6_;have GW306:=n7_;have GE306:=n8_;have NB294_306:=n9_;have NB306_294:=n10_;have NB295_306:=n11_;have NB306_295:=n12_;have NB296_306:=n13_;have NB306_296:=n14_;clear n0_ n1_ n2_ n3_ n4_ n5_ n6_ n7_ n8_ n9_ n10_ n11_ n12_ n13_ n14_;clear hb hbox hg;have hnb44:=NB306_294.out;have hnc44:=NB294_306.out;have hnb45:=NB306_295.out;have hnc45:=NB295_306.out;have hnb46:=NB306_296.out;have hnc46:=NB296_306.out;have hcz47_0 : w43.cell? ⟨gb306,0,none⟩ = some (.int .i64 0):=(blk_cell BK306.out 0).trans rfl;have hcz47_1 : w43.cell? ⟨gb306,1,none⟩ = some (.slice none 0 0):=(blk_cell BK306.out 1).trans rfl;have hcz47_2 : w43.cell? ⟨gb306,2,none⟩ = some (.slice none 0 0):=(blk_cell BK306.out 2).trans rfl;have hfz47_0:=blk_frozen BK306.out 0;have hfz47_1:=blk_frozen BK306.out 1;have hfz47_2:=blk_frozen BK306.out 2;obtain ⟨Ao48,co48,eo48⟩:=Kd.R_slice HO302.out;subst eo48;obtain ⟨Ao49,co49,eo49⟩:=Kd.R_slice HO305.out;subst eo49))
    have n0_ : Aside0 (Kd.R k69 69 (((w43.setCell ⟨gb306,0,none⟩ (.int .i64 t299)).setCell ⟨gb306,1,none⟩ (.slice Ao48 t300.length co48)).setCell ⟨gb306,2,none⟩ (.slice Ao49 t303.length co49)) w.heap.size (fun _=>True) (.slice Ao48 t300.length co48) t300):=⟨by (with_reducible repeat (first|apply Kd.R_alloc|apply Kd.R_drewN|apply Kd.R_drew));exact Kd.R_mono (Kd.R_far (p:=⟨gb306,2,none⟩) (Kd.R_far (p:=⟨gb306,1,none⟩) (Kd.R_far (p:=⟨gb306,0,none⟩) (Kd.R_types HO302.out BK306.out (by decide)) (fun _ hk=>hk.2) (.int .i64 t299)) (fun _ hk=>hk.2) (.slice Ao48 t300.length co48)) (fun _ hk=>hk.2) (.slice Ao49 t303.length co49)) (fun _ hk=>trivial)⟩
    have n1_ : Aside0 (Kd.R (Kd.int .i64) 3 (((w43.setCell ⟨gb306,0,none⟩ (.int .i64 t299)).setCell ⟨gb306,1,none⟩ (.slice Ao48 t300.length co48)).setCell ⟨gb306,2,none⟩ (.slice Ao49 t303.length co49)) w.heap.size (fun _=>True) (.slice Ao49 t303.length co49) t303):=⟨by (with_reducible repeat (first|apply Kd.R_alloc|apply Kd.R_drewN|apply Kd.R_drew));exact Kd.R_mono (Kd.R_far (p:=⟨gb306,2,none⟩) (Kd.R_far (p:=⟨gb306,1,none⟩) (Kd.R_far (p:=⟨gb306,0,none⟩) (Kd.R_types HO305.out BK306.out (by decide)) (fun _ hk=>hk.2) (.int .i64 t299)) (fun _ hk=>hk.2) (.slice Ao48 t300.length co48)) (fun _ hk=>hk.2) (.slice Ao49 t303.length co49)) (fun _ hk=>trivial)⟩
    have n2_ : Aside0 ((((w43.setCell ⟨gb306,0,none⟩ (.int .i64 t299)).setCell ⟨gb306,1,none⟩ (.slice Ao48 t300.length co48)).setCell ⟨gb306,2,none⟩ (.slice Ao49 t303.length co49)).heap[gb294]? = some (.cells #[.int .i64 a0_0,.slice A0_1 l0_1.length c0_1,.slice A0_2 l0_2.length c0_2] 30 (0,0))):=⟨by (with_reducible repeat (first|refine blk_drewN ?_ _|refine blk_drew ?_|refine blk_alloc ?_ _));refine blk_far ?_ NB294_306.out _;(with_reducible repeat (first|refine blk_drewN ?_ _|refine blk_drew ?_|refine blk_alloc ?_ _));refine blk_far ?_ NB294_306.out _;(with_reducible repeat (first|refine blk_drewN ?_ _|refine blk_drew ?_|refine blk_alloc ?_ _));refine blk_far ?_ NB294_306.out _;(with_reducible repeat (first|refine blk_drewN ?_ _|refine blk_drew ?_|refine blk_alloc ?_ _));exact BK294.out⟩
    have n3_ : Aside0 ((((w43.setCell ⟨gb306,0,none⟩ (.int .i64 t299)).setCell ⟨gb306,1,none⟩ (.slice Ao48 t300.length co48)).setCell ⟨gb306,2,none⟩ (.slice Ao49 t303.length co49)).heap[gb295]? = some (.cells #[.int .i64 a1_0,.slice A1_1 l1_1.length c1_1,.slice A1_2 l1_2.length c1_2] 30 (0,0))):=⟨by (with_reducible repeat (first|refine blk_drewN ?_ _|refine blk_drew ?_|refine blk_alloc ?_ _));refine blk_far ?_ NB295_306.out _;(with_reducible repeat (first|refine blk_drewN ?_ _|refine blk_drew ?_|refine blk_alloc ?_ _));refine blk_far ?_ NB295_306.out _;(with_reducible repeat (first|refine blk_drewN ?_ _|refine blk_drew ?_|refine blk_alloc ?_ _));refine blk_far ?_ NB295_306.out _;(with_reducible repeat (first|refine blk_drewN ?_ _|refine blk_drew ?_|refine blk_alloc ?_ _));exact BK295.out⟩
    have n4_ : Aside0 ((((w43.setCell ⟨gb306,0,none⟩ (.int .i64 t299)).setCell ⟨gb306,1,none⟩ (.slice Ao48 t300.length co48)).setCell ⟨gb306,2,none⟩ (.slice Ao49 t303.length co49)).heap[gb296]? = some (.cells #[.int .i64 0,.slice none 0 0,.slice none 0 0] 30 (0,0))):=⟨by (with_reducible repeat (first|refine blk_drewN ?_ _|refine blk_drew ?_|refine blk_alloc ?_ _));refine blk_far ?_ NB296_306.out _;(with_reducible repeat (first|refine blk_drewN ?_ _|refine blk_drew ?_|refine blk_alloc ?_ _));refine blk_far ?_ NB296_306.out _;(with_reducible repeat (first|refine blk_drewN ?_ _|refine blk_drew ?_|refine blk_alloc ?_ _));refine blk_far ?_ NB296_306.out _;(with_reducible repeat (first|refine blk_drewN ?_ _|refine blk_drew ?_|refine blk_alloc ?_ _));exact BK296.out⟩
    have n5_ : Aside0 ((((w43.setCell ⟨gb306,0,none⟩ (.int .i64 t299)).setCell ⟨gb306,1,none⟩ (.slice Ao48 t300.length co48)).setCell ⟨gb306,2,none⟩ (.slice Ao49 t303.length co49)).heap[gb306]? = some (.cells #[.int .i64 t299,.slice Ao48 t300.length co48,.slice Ao49 t303.length co49] 30 (0,0))):=⟨by (with_reducible repeat (first|refine blk_drewN ?_ _|refine blk_drew ?_|refine blk_alloc ?_ _));refine blk_put (cs:=#[.int .i64 t299,.slice Ao48 t300.length co48,.slice none 0 0]) ?_ 2 _ rfl;(with_reducible repeat (first|refine blk_drewN ?_ _|refine blk_drew ?_|refine blk_alloc ?_ _));refine blk_put (cs:=#[.int .i64 t299,.slice none 0 0,.slice none 0 0]) ?_ 1 _ rfl;(with_reducible repeat (first|refine blk_drewN ?_ _|refine blk_drew ?_|refine blk_alloc ?_ _));refine blk_put (cs:=#[.int .i64 0,.slice none 0 0,.slice none 0 0]) ?_ 0 _ rfl;(with_reducible repeat (first|refine blk_drewN ?_ _|refine blk_drew ?_|refine blk_alloc ?_ _));exact BK306.out⟩
    have n6_ : Aside0 (Below w.heap.size w (((w43.setCell ⟨gb306,0,none⟩ (.int .i64 t299)).setCell ⟨gb306,1,none⟩ (.slice Ao48 t300.length co48)).setCell ⟨gb306,2,none⟩ (.slice Ao49 t303.length co49))):=⟨by repeat (first|(with_reducible first|exact HB.out|apply below_alloc|apply pw_below_drewN|apply below_drew1|refine below_set ?_ GE294.out|refine below_set ?_ GE295.out|refine below_set ?_ GE296.out|refine below_set ?_ GE306.out)|exact HB.out)⟩
    (try clear HO302)
    (try clear HO305)
    (try clear BK294)
    (try clear BK295)
    (try clear BK296)
    (try clear BK306)
    (try clear HB)
    generalize (((w43.setCell ⟨gb306,0,none⟩ (.int .i64 t299)).setCell ⟨gb306,1,none⟩ (.slice Ao48 t300.length co48)).setCell ⟨gb306,2,none⟩ (.slice Ao49 t303.length co49)) = w50 at n0_ n1_ n2_ n3_ n4_ n5_ n6_ ⊢
    have HO302:=n0_
    have HO305:=n1_
    have BK294:=n2_
    have BK295:=n3_
    have BK296:=n4_
    have BK306:=n5_
    have HB:=n6_
    clear n0_ n1_ n2_ n3_ n4_ n5_ n6_
    have n0_:=Aside0.mk (Kd.R_drew HO302.out)
    have n1_:=Aside0.mk (Kd.R_drew HO305.out)
    have n2_:=Aside0.mk (blk_drew BK294.out)
    have n3_:=Aside0.mk (blk_drew BK295.out)
    have n4_:=Aside0.mk (blk_drew BK296.out)
    have n5_:=Aside0.mk (blk_drew BK306.out)
    have n6_:=Aside0.mk (below_drew1 HB.out)
    clear HO302
    clear HO305
    clear BK294
    clear BK295
    clear BK296
    clear BK306
    clear HB
    have HO302:=n0_
    have HO305:=n1_
    have BK294:=n2_
    have BK295:=n3_
    have BK296:=n4_
    have BK306:=n5_
    have HB:=n6_
    clear n0_ n1_ n2_ n3_ n4_ n5_ n6_
    refine start_ (n:=8) (S:=fun w'=>w'.cell? ⟨gb295,0,none⟩ = some (.int .i64 a1_0) ∧ w'.cell? ⟨gb295,1,none⟩ = some (.slice A1_1 l1_1.length c1_1) ∧ w'.cell? ⟨gb295,2,none⟩ = some (.slice A1_2 l1_2.length c1_2) ∧ w'.cell? ⟨gb294,0,none⟩ = some (.int .i64 a0_0) ∧ w'.cell? ⟨gb294,1,none⟩ = some (.slice A0_1 l0_1.length c0_1) ∧ w'.cell? ⟨gb294,2,none⟩ = some (.slice A0_2 l0_2.length c0_2)) (ds:=[]) #[false,false,false,false,false,false,false,false] (by kernel_rfl) rfl rfl ⟨(blk_cell BK295.out 0).trans rfl,(blk_cell BK295.out 1).trans rfl,(blk_cell BK295.out 2).trans rfl,(blk_cell BK294.out 0).trans rfl,(blk_cell BK294.out 1).trans rfl,(blk_cell BK294.out 2).trans rfl⟩ (fun hHeld=>?_);refine with_tabW impl_ComposePlans.tab4 impl_ComposePlans.bits4 (fun HT_ HW_=>?_)
    generalize w50.drew = w51 at HO302 HO305 BK294 BK295 BK296 BK306 HB hHeld ⊢
    refine pure_ (i:=0) (N:=some 26) (v:=?_) (a':=?_) #[true,false,false,false,false,false,false,false] rfl rfl (any_of HT_.out (by kernel_rfl)) (fun _ _ _ h=>h) (Or.inl ⟨by rfl,?_⟩) ?_ ?_
    rotate_left
    ·intro w'
     go_simp
     with_reducible rfl
    rotate_left
    ·simp only [Act.put,xa,xb,xc,i64_w,i32_w]
     rfl
    refine pure_ (i:=2) (N:=some 28) (v:=?_) (a':=?_) #[true,false,true,false,false,false,false,false] rfl rfl (any_of HT_.out (by kernel_rfl)) (fun _ _ _ h=>h) (Or.inl ⟨by rfl,?_⟩) ?_ ?_
    rotate_left
    ·intro w'
     go_simp
     with_reducible rfl
    rotate_left
    ·simp only [Act.put,xa,xb,xc,i64_w,i32_w]
     rfl
    refine take_ (i:=1) (N:=some 27) (v:=?_) (a':=?_) #[true,true,true,false,false,false,false,false] rfl rfl (take_ofW HT_.out HW_.out (by kernel_rfl)) (fun _ _ _ h=>h) (Or.inl ⟨by rfl,?_⟩) hHeld ?_ ?_
    rotate_left
    ·rintro w' ⟨s0,s1,s2,s3,s4,s5⟩
     go_simp
     with_reducible rfl
    rotate_left
    ·simp only [Act.put,xa,xb,xc,i64_w,i32_w]
     rfl
    refine take_ (i:=3) (N:=some 29) (v:=?_) (a':=?_) #[true,true,true,true,false,false,false,false] rfl rfl (take_ofW HT_.out HW_.out (by kernel_rfl)) (fun _ _ _ h=>h) (Or.inl ⟨by rfl,?_⟩) hHeld ?_ ?_
    rotate_left
    ·rintro w' ⟨s0,s1,s2,s3,s4,s5⟩
     go_simp
     with_reducible rfl
    rotate_left
    ·simp only [Act.put,xa,xb,xc,i64_w,i32_w]
     rfl
    refine one_ (i:=4) (N:=some 30) #[true,true,true,true,true,false,false,false] rfl rfl (one_of HT_.out (by kernel_rfl)) (by decide) (fun K hK=>?_)
    refine goes_ Try.func89 (by kernel_rfl) rfl #[.pointer (some ⟨gb306,0,none⟩),.pointer (some ⟨gb295,0,none⟩),.slice A0_2 l0_2.length c0_2] (by rfl) rfl rfl mz ?_
    with_reducible refine (impl_Plan_behind.calls kj2 gb306 t299 (fun k_=>some k_ = (.slice Ao48 t300.length co48 : Value).ownBlock ∨ k_ = gb306) (.slice Ao48 t300.length co48) t300 (fun k_=>some k_ = (.slice Ao49 t303.length co49 : Value).ownBlock) (.slice Ao49 t303.length co49) t303 gb295 a1_0 A1_1 c1_1 l1_1 A1_2 c1_2 l1_2 A0_2 c0_2 l0_2 t307 tNb tSb tOb w _ HB.out BK306.out GE306.out (.inr rfl) NB295_306.out BK295.out (Kd.R_mono (Kd.R_tight rfl HO302.out) (fun _ e_=>.inl e_)) (Kd.R_tight rfl HO305.out) (Kd.C_kept_came (⟨fun _ h=>by rw [k69_open h];exact k69_mk _ _⟩ : Kd.Heap k69) HR1_1.out HB.out (fun k_ hs_=>by rcases hs_ with (e_|e_)|e_;(exact Kd.R_base HO302.out k_ e_.symm);(rw [e_];exact GE306.out);(exact Kd.R_base HO305.out k_ e_.symm))) HC1_1.out (Kd.C_kept_came (Kd.heap_int .i64) HR1_2.out HB.out (fun k_ hs_=>by rcases hs_ with (e_|e_)|e_;(exact Kd.R_base HO302.out k_ e_.symm);(rw [e_];exact GE306.out);(exact Kd.R_base HO305.out k_ e_.symm))) HC1_2.out (Kd.C_kept_came (Kd.heap_int .i64) HR0_2.out HB.out (fun k_ hs_=>by rcases hs_ with (e_|e_)|e_;(exact Kd.R_base HO302.out k_ e_.symm);(rw [e_];exact GE306.out);(exact Kd.R_base HO305.out k_ e_.symm))) HC0_2.out A36.out).mono ?_
    rintro e w52 ⟨v308,vSb,vOb,rfl,⟨⟨rfl,rfl,rfl⟩⟩,hbx,ho0,hoS_,hoO_,hb,hk⟩
    refine ⟨_,rfl,?_⟩
    have n0_:=Aside0.mk (Kd.R_mono hoS_ (ok':=fun _=>True) (fun _ _=>trivial))
    have n1_:=Aside0.mk (impl_ComposePlans.keep_ok HO305.out hoO_ (fun k_ e_=>(hoO_.1 k_ e_).2))
    have n2_:=Aside0.mk (Kd.R_mono ho0 (ok':=fun k_=>True ∧ some k_ ≠ (.slice Ao49 t303.length co49 : Value).ownBlock) (fun _ hk=>⟨trivial,hk.2⟩))
    have n3_:=Aside0.mk (blk_kept BK294.out hk (fun hs_=>by rcases hs_ with (e_|e_)|e_;(exact Kd.R_ne HO302.out BK294.out (by decide) e_);(exact NB294_306.out e_);(exact Kd.R_ne HO305.out BK294.out (by decide) e_)))
    have n4_:=Aside0.mk (blk_kept BK295.out hk (fun hs_=>by rcases hs_ with (e_|e_)|e_;(exact Kd.R_ne HO302.out BK295.out (by decide) e_);(exact NB295_306.out e_);(exact Kd.R_ne HO305.out BK295.out (by decide) e_)))
    have n5_:=Aside0.mk (blk_kept BK296.out hk (fun hs_=>by rcases hs_ with (e_|e_)|e_;(exact Kd.R_ne HO302.out BK296.out (by decide) e_);(exact NB296_306.out e_);(exact Kd.R_ne HO305.out BK296.out (by decide) e_)))
    have n6_:=Aside0.mk (hbx)
    have n7_:=Aside0.mk (hb)
    clear HO302
    clear HO305
    clear BK294
    clear BK295
    clear BK296
    clear BK306
    clear HB
    have HO302:=n0_
    have HO305:=n1_
    have HO309:=n2_
    have BK294:=n3_
    have BK295:=n4_
    have BK296:=n5_
    have BK306:=n6_
    have HB:=n7_
    clear n0_ n1_ n2_ n3_ n4_ n5_ n6_ n7_
    (try clear hb)
    (try clear ho0 hoS_ hoO_ hbx hk)
    obtain ⟨Ao48b,co48b,eoSb⟩:=Kd.R_slice HO302.out
    subst eoSb
    obtain ⟨Ao53,co53,eo53⟩:=Kd.R_slice HO309.out
    (first|subst eo53|(injection eo53 with f1_ f2_ f3_;have f4_:=f1_.symm;have f5_:=f3_.symm;clear f1_ f2_ f3_;subst f4_;subst f5_))
    refine hK.out _ _ ⟨(blk_cell BK295.out 0).trans rfl,(blk_cell BK295.out 1).trans rfl,(blk_cell BK295.out 2).trans rfl,(blk_cell BK294.out 0).trans rfl,(blk_cell BK294.out 1).trans rfl,(blk_cell BK294.out 2).trans rfl⟩ (fun hHeld=>?_)
    clear hK K
    refine norm_ (a':=?_) ?_ ?_
    rotate_left
    ·show Act.put _ (some 30) _ = _
     simp only [Act.put,xa,xb,xc,i64_w,i32_w]
     rfl
    refine one_ (i:=5) (N:=some 31) #[true,true,true,true,true,true,false,false] rfl rfl (one_of HT_.out (by kernel_rfl)) (by decide) (fun K hK=>?_)
    refine goes_ Try.func87 (by kernel_rfl) rfl #[.slice A1_2 l1_2.length c1_2,.slice Ao53 t307.length co53] (by rfl) rfl rfl mz ?_
    with_reducible refine (impl_renamed.calls kj2 _ _ l1_2 _ _ t307 t310 _ ?side1 ?side2 ?side3 ?side4 A37.out).mono ?_
    (case side1=>exact cz (Kd.C_below HR1_2.out HB.out))
    (case side2=>exact HC1_2.out)
    (case side3=>exact cz (Kd.R_reads' HO309.out).2.2)
    (case side4=>exact (Kd.R_reads' HO309.out).2.1)
    rintro e w54 ⟨v311,rfl,ho0,hb⟩
    refine ⟨_,rfl,?_⟩
    have n0_:=Aside0.mk (Kd.R_below (rz HO302.out) hb)
    have n1_:=Aside0.mk (Kd.R_elder' (rz HO305.out) (Kd.R_base ho0) hb)
    have n2_:=Aside0.mk (Kd.R_elder' (rz HO309.out) (Kd.R_base ho0) hb)
    have n3_:=Aside0.mk (Kd.R_lower (Kd.R_new' (Kd.R_new' ho0 (Kd.R_lt (rz HO305.out))) (Kd.R_lt (rz HO309.out))) (below_size bs))
    have n4_:=Aside0.mk (kb BK294.out hb)
    have n5_:=Aside0.mk (kb BK295.out hb)
    have n6_:=Aside0.mk (kb BK296.out hb)
    have n7_:=Aside0.mk (kb BK306.out hb)
    have n8_:=Aside0.mk (below_step bs hb)
    clear HO302
    clear HO305
    clear HO309
    clear BK294
    clear BK295
    clear BK296
    clear BK306
    clear HB
    have HO302:=n0_
    have HO305:=n1_
    have HO309:=n2_
    have HO312:=n3_
    have BK294:=n4_
    have BK295:=n5_
    have BK296:=n6_
    have BK306:=n7_
    have HB:=n8_
    clear n0_ n1_ n2_ n3_ n4_ n5_ n6_ n7_ n8_
    (try clear hb)
    (try clear ho0)
    obtain ⟨Ao55,co55,eo55⟩:=Kd.R_slice HO312.out
    (first|subst eo55|(injection eo55 with f1_ f2_ f3_;have f4_:=f1_.symm;have f5_:=f3_.symm;clear f1_ f2_ f3_;subst f4_;subst f5_))
    refine hK.out _ _ ⟨(blk_cell BK295.out 0).trans rfl,(blk_cell BK295.out 1).trans rfl,(blk_cell BK295.out 2).trans rfl,(blk_cell BK294.out 0).trans rfl,(blk_cell BK294.out 1).trans rfl,(blk_cell BK294.out 2).trans rfl⟩ (fun hHeld=>?_)
    clear hK K
    refine norm_ (a':=?_) ?_ ?_
    rotate_left
    ·show Act.put _ (some 31) _ = _
     simp only [Act.put,xa,xb,xc,i64_w,i32_w]
     rfl
    refine pure_ (i:=6) (N:=some 32) (v:=?_) (a':=?_) #[true,true,true,true,true,true,true,false] rfl rfl (any_of HT_.out (by kernel_rfl)) (fun _ _ _ h=>h) (Or.inl ⟨by rfl,?_⟩) ?_ ?_
    rotate_left
    ·intro w'
     go_simp
     with_reducible rfl
    rotate_left
    ·simp only [Act.put,xa,xb,xc,i64_w,i32_w]
     rfl
    refine one_ (i:=7) (N:=none) #[true,true,true,true,true,true,true,true] rfl rfl (one_of HT_.out (by kernel_rfl)) (by decide) (fun K hK=>?_)
    have hs56 : w54.cell? ⟨gb306,2,none⟩ = some (.slice Ao49 t303.length co49):=(blk_cell BK306.out 2).trans rfl
    have hfs56:=blk_frozen BK306.out 2
    have hns56_0:=NB294_306.out
    have hns56_1:=NB295_306.out
    have hns56_2:=NB296_306.out
    have hms56_0:=NB306_294.out
    have hms56_1:=NB306_295.out
    have hms56_2:=NB306_296.out
    refine skip_ (w1:=?_) (by rfl) rfl ?_ ?_
    rotate_left
    ·go_simp
     rfl
    refine hK.out _ _ ⟨((cell_far (p:=⟨gb306,_,none⟩) NB295_306.out _).trans (hHeld.1)),((cell_far (p:=⟨gb306,_,none⟩) NB295_306.out _).trans (hHeld.2.1)),((cell_far (p:=⟨gb306,_,none⟩) NB295_306.out _).trans (hHeld.2.2.1)),((cell_far (p:=⟨gb306,_,none⟩) NB294_306.out _).trans (hHeld.2.2.2.1)),((cell_far (p:=⟨gb306,_,none⟩) NB294_306.out _).trans (hHeld.2.2.2.2.1)),((cell_far (p:=⟨gb306,_,none⟩) NB294_306.out _).trans (hHeld.2.2.2.2.2))⟩ (fun hHeld=>?_)
    clear hK K
    refine done_ (done_of HT_.out (by kernel_rfl)) ?_
    have n0_ : Aside0 (Kd.R k69 69 (w54.setCell ⟨gb306,2,none⟩ (.slice Ao55 t310.length co55)) w.heap.size (fun _=>True) (.slice Ao48b tSb.length co48b) tSb):=⟨by (with_reducible repeat (first|apply Kd.R_alloc|apply Kd.R_drewN|apply Kd.R_drew));exact Kd.R_mono (Kd.R_far (p:=⟨gb306,2,none⟩) (Kd.R_types HO302.out BK306.out (by decide)) (fun _ hk=>hk.2) (.slice Ao55 t310.length co55)) (fun _ hk=>trivial)⟩
    have n1_ : Aside0 (Kd.R (Kd.int .i64) 3 (w54.setCell ⟨gb306,2,none⟩ (.slice Ao55 t310.length co55)) w.heap.size (fun k_=>some k_ ≠ (.slice Ao53 t307.length co53 : Value).ownBlock ∧ some k_ ≠ (.slice Ao55 t310.length co55 : Value).ownBlock) (.slice Ao49 t303.length co49) t303):=⟨by (with_reducible repeat (first|apply Kd.R_alloc|apply Kd.R_drewN|apply Kd.R_drew));exact Kd.R_mono (Kd.R_far (p:=⟨gb306,2,none⟩) (Kd.R_types HO305.out BK306.out (by decide)) (fun _ hk=>hk.2) (.slice Ao55 t310.length co55)) (fun _ hk=>⟨hk.1.1.2,hk.1.2⟩)⟩
    have n2_ : Aside0 (Kd.R (Kd.int .i64) 3 (w54.setCell ⟨gb306,2,none⟩ (.slice Ao55 t310.length co55)) w.heap.size (fun k_=>some k_ ≠ (.slice Ao49 t303.length co49 : Value).ownBlock ∧ some k_ ≠ (.slice Ao55 t310.length co55 : Value).ownBlock) (.slice Ao53 t307.length co53) t307):=⟨by (with_reducible repeat (first|apply Kd.R_alloc|apply Kd.R_drewN|apply Kd.R_drew));exact Kd.R_mono (Kd.R_far (p:=⟨gb306,2,none⟩) (Kd.R_types HO309.out BK306.out (by decide)) (fun _ hk=>hk.2) (.slice Ao55 t310.length co55)) (fun _ hk=>⟨hk.1.1.2,hk.1.2⟩)⟩
    have n3_ : Aside0 (Kd.R (Kd.int .i64) 3 (w54.setCell ⟨gb306,2,none⟩ (.slice Ao55 t310.length co55)) w.heap.size (fun k_=>some k_ ≠ (.slice Ao49 t303.length co49 : Value).ownBlock ∧ some k_ ≠ (.slice Ao53 t307.length co53 : Value).ownBlock) (.slice Ao55 t310.length co55) t310):=⟨by (with_reducible repeat (first|apply Kd.R_alloc|apply Kd.R_drewN|apply Kd.R_drew));exact Kd.R_mono (Kd.R_far (p:=⟨gb306,2,none⟩) (Kd.R_types HO312.out BK306.out (by decide)) (fun _ hk=>hk.2) (.slice Ao55 t310.length co55)) (fun _ hk=>⟨hk.1.1.2,hk.1.2⟩)⟩
    have n4_ : Aside0 ((w54.setCell ⟨gb306,2,none⟩ (.slice Ao55 t310.length co55)).heap[gb294]? = some (.cells #[.int .i64 a0_0,.slice A0_1 l0_1.length c0_1,.slice A0_2 l0_2.length c0_2] 30 (0,0))):=⟨by (with_reducible repeat (first|refine blk_drewN ?_ _|refine blk_drew ?_|refine blk_alloc ?_ _));refine blk_far ?_ NB294_306.out _;(with_reducible repeat (first|refine blk_drewN ?_ _|refine blk_drew ?_|refine blk_alloc ?_ _));exact BK294.out⟩
    have n5_ : Aside0 ((w54.setCell ⟨gb306,2,none⟩ (.slice Ao55 t310.length co55)).heap[gb295]? = some (.cells #[.int .i64 a1_0,.slice A1_1 l1_1.length c1_1,.slice A1_2 l1_2.length c1_2] 30 (0,0))):=⟨by (with_reducible repeat (first|refine blk_drewN ?_ _|refine blk_drew ?_|refine blk_alloc ?_ _));refine blk_far ?_ NB295_306.out _;(with_reducible repeat (first|refine blk_drewN ?_ _|refine blk_drew ?_|refine blk_alloc ?_ _));exact BK295.out⟩
    have n6_ : Aside0 ((w54.setCell ⟨gb306,2,none⟩ (.slice Ao55 t310.length co55)).heap[gb296]? = some (.cells #[.int .i64 0,.slice none 0 0,.slice none 0 0] 30 (0,0))):=⟨by (with_reducible repeat (first|refine blk_drewN ?_ _|refine blk_drew ?_|refine blk_alloc ?_ _));refine blk_far ?_ NB296_306.out _;(with_reducible repeat (first|refine blk_drewN ?_ _|refine blk_drew ?_|refine blk_alloc ?_ _));exact BK296.out⟩
    have n7_ : Aside0 ((w54.setCell ⟨gb306,2,none⟩ (.slice Ao55 t310.length co55)).heap[gb306]? = some (.cells #[.int .i64 t299,.slice Ao48b tSb.length co48b,.slice Ao55 t310.length co55] 30 (0,0))):=⟨by (with_reducible repeat (first|refine blk_drewN ?_ _|refine blk_drew ?_|refine blk_alloc ?_ _));refine blk_put (cs:=#[.int .i64 t299,.slice Ao48b tSb.length co48b,.slice Ao49 t303.length co49]) ?_ 2 _ rfl;(with_reducible repeat (first|refine blk_drewN ?_ _|refine blk_drew ?_|refine blk_alloc ?_ _));exact BK306.out⟩
    have n8_ : Aside0 (Below w.heap.size w (w54.setCell ⟨gb306,2,none⟩ (.slice Ao55 t310.length co55))):=⟨by repeat (first|(with_reducible first|exact HB.out|apply below_alloc|apply pw_below_drewN|apply below_drew1|refine below_set ?_ GE294.out|refine below_set ?_ GE295.out|refine below_set ?_ GE296.out|refine below_set ?_ GE306.out)|exact HB.out)⟩
    (try clear HO302)
    (try clear HO305)
    (try clear HO309)
    (try clear HO312)
    (try clear BK294)
    (try clear BK295)
    (try clear BK296)
    (try clear BK306)
    (try clear HB)
    generalize (w54.setCell ⟨gb306,2,none⟩ (.slice Ao55 t310.length co55)) = w57 at n0_ n1_ n2_ n3_ n4_ n5_ n6_ n7_ n8_ ⊢
    have HO302:=n0_
    have HO305:=n1_
    have HO309:=n2_
    have HO312:=n3_
    have BK294:=n4_
    have BK295:=n5_
    have BK296:=n6_
    have BK306:=n7_
    have HB:=n8_
    clear n0_ n1_ n2_ n3_ n4_ n5_ n6_ n7_ n8_
    have hcz58_0 : w57.cell? ⟨gb306,0,none⟩ = some (.int .i64 t299):=(blk_cell BK306.out 0).trans rfl
    have hcz58_1 : w57.cell? ⟨gb306,1,none⟩ = some (.slice Ao48b tSb.length co48b):=(blk_cell BK306.out 1).trans rfl
    have hcz58_2 : w57.cell? ⟨gb306,2,none⟩ = some (.slice Ao55 t310.length co55):=(blk_cell BK306.out 2).trans rfl
    have hfz58_0:=blk_frozen BK306.out 0
    have hfz58_1:=blk_frozen BK306.out 1
    have hfz58_2:=blk_frozen BK306.out 2
    try go_wp2_with (first|((with_reducible refine gate_callee (f:=70) rfl ?_);refine goesL_ (some 34) rfl rfl Try.func70 (by kernel_rfl) rfl #[.agg #[.int .i64 t299,.slice Ao48b tSb.length co48b,.slice Ao55 t310.length co55]] rfl mz ?_;(with_reducible refine (impl_told.calls kj2 t299 (fun k_=>some k_ = (.slice Ao48b tSb.length co48b : Value).ownBlock) (.slice Ao48b tSb.length co48b) tSb (fun k_=>some k_ = (.slice Ao55 t310.length co55 : Value).ownBlock) (.slice Ao55 t310.length co55) t310 t313 t314 t317 t320 w _ ?side1 ?side2 ?side3 A38.out).mono ?_);(case side1=>repeat (first|(with_reducible first|exact HB.out|apply below_alloc|apply pw_below_drewN|apply below_drew1|refine below_set ?_ GE294.out|refine below_set ?_ GE295.out|refine below_set ?_ GE296.out|refine below_set ?_ GE306.out)|exact HB.out));(case side2=>exact Kd.R_tight rfl HO302.out);(case side3=>exact Kd.R_tight rfl HO312.out);rintro e w59 ⟨v315,v318,rfl,ho0,ho1,hb,hkp⟩;refine ⟨_,rfl,?_⟩;have n0_:=Aside0.mk (blk_kept (kz BK294.out) hkp (fun hs_=>Or.elim hs_ (fun e_=>(fun e_=>(Kd.R_ne HO302.out BK294.out (by decide)) e_) e_) (fun e_=>(fun e_=>(Kd.R_ne HO312.out BK294.out (by decide)) e_) e_)));have n1_:=Aside0.mk (blk_kept (kz BK295.out) hkp (fun hs_=>Or.elim hs_ (fun e_=>(fun e_=>(Kd.R_ne HO302.out BK295.out (by decide)) e_) e_) (fun e_=>(fun e_=>(Kd.R_ne HO312.out BK295.out (by decide)) e_) e_)));have n2_:=Aside0.mk (blk_kept (kz BK296.out) hkp (fun hs_=>Or.elim hs_ (fun e_=>(fun e_=>(Kd.R_ne HO302.out BK296.out (by decide)) e_) e_) (fun e_=>(fun e_=>(Kd.R_ne HO312.out BK296.out (by decide)) e_) e_)));have n3_:=Aside0.mk (Kd.R_mono (ok':=fun k_=>some k_ ≠ (.slice Ao53 t307.length co53 : Value).ownBlock ∧ some k_ ≠ (v318 : Value).ownBlock) (Kd.R_keptB ((Kd.R_apart' HO305.out (Kd.R_typed HO302.out) (by decide))) hkp (fun k_ hk_ hs_=>Or.elim hs_ (fun e_=>(hk_.2) e_) (fun e_=>(hk_.1.2) e_))) (fun k_ hk_=>⟨hk_.1.1.1,fun e_=>Or.elim (ho1.1 k_ e_.symm) (fun hs_=>hk_.2.1 hs_) (fun hn_=>Nat.not_le.2 hk_.2.2 hn_)⟩));have n4_:=Aside0.mk (blk_kept (kz BK306.out) hkp (fun hs_=>Or.elim hs_ (fun e_=>(fun e_=>(Kd.R_ne HO302.out BK306.out (by decide)) e_) e_) (fun e_=>(fun e_=>(Kd.R_ne HO312.out BK306.out (by decide)) e_) e_)));have n5_:=Aside0.mk (Kd.R_mono (ok':=fun k_=>some k_ ≠ (.slice Ao49 t303.length co49 : Value).ownBlock ∧ some k_ ≠ (v318 : Value).ownBlock) (Kd.R_keptB ((Kd.R_apart' HO309.out (Kd.R_typed HO302.out) (by decide))) hkp (fun k_ hk_ hs_=>Or.elim hs_ (fun e_=>(hk_.2) e_) (fun e_=>(hk_.1.2) e_))) (fun k_ hk_=>⟨hk_.1.1.1,fun e_=>Or.elim (ho1.1 k_ e_.symm) (fun hs_=>hk_.2.1 hs_) (fun hn_=>Nat.not_le.2 hk_.2.2 hn_)⟩));have n6_:=Aside0.mk (Kd.R_mono (ok':=fun k_=>True) ho0 (fun k_ hk_=>trivial));have n7_:=Aside0.mk (Kd.R_mono (ok':=fun k_=>some k_ ≠ (.slice Ao49 t303.length co49 : Value).ownBlock ∧ some k_ ≠ (.slice Ao53 t307.length co53 : Value).ownBlock) ho1 (fun k_ hk_=>⟨Or.elim hk_ (fun hs_=>Or.elim hs_ (fun hs_=>fun e_=>((((Kd.R_apart' HO305.out (Kd.R_typed HO302.out) (by decide))).1 k_ e_.symm).2) hs_) (fun hs_=>fun e_=>((((Kd.R_apart' HO305.out (Kd.R_typed HO302.out) (by decide))).1 k_ e_.symm).1.2) hs_)) (fun hn_=>(Kd.fresh' (Kd.R_lt (rz HO305.out)) k_ hn_)),Or.elim hk_ (fun hs_=>Or.elim hs_ (fun hs_=>fun e_=>((((Kd.R_apart' HO309.out (Kd.R_typed HO302.out) (by decide))).1 k_ e_.symm).2) hs_) (fun hs_=>fun e_=>((((Kd.R_apart' HO309.out (Kd.R_typed HO302.out) (by decide))).1 k_ e_.symm).1.2) hs_)) (fun hn_=>(Kd.fresh' (Kd.R_lt (rz HO309.out)) k_ hn_))⟩));have n8_:=Aside0.mk (hb);clear BK294 BK295 BK296 HO305 BK306 HO309 HB HO302 HO312;have BK294:=n0_;have BK295:=n1_;have BK296:=n2_;have HO305:=n3_;have BK306:=n4_;have HO309:=n5_;have HO316:=n6_;have HO319:=n7_;have HB:=n8_;clear n0_ n1_ n2_ n3_ n4_ n5_ n6_ n7_ n8_;(try clear hb);(try clear hkp);(try clear ho0);(try clear ho1);have hnb60:=NB296_295.out;have hnc60:=NB295_296.out;have hcz61_0 : w59.cell? ⟨gb296,0,none⟩ = some (.int .i64 0):=(blk_cell BK296.out 0).trans rfl;have hcz61_1 : w59.cell? ⟨gb296,1,none⟩ = some (.slice none 0 0):=(blk_cell BK296.out 1).trans rfl;have hcz61_2 : w59.cell? ⟨gb296,2,none⟩ = some (.slice none 0 0):=(blk_cell BK296.out 2).trans rfl;have hfz61_0:=blk_frozen BK296.out 0;have hfz61_1:=blk_frozen BK296.out 1;have hfz61_2:=blk_frozen BK296.out 2;obtain ⟨Ao62,co62,eo62⟩:=Kd.R_slice HO316.out;subst eo62;obtain ⟨Ao63,co63,eo63⟩:=Kd.R_slice HO319.out;subst eo63))
    refine bodyPost_ret (results_ct rfl _ _ gb296 30 #[.int .i64 t313,.slice Ao62 t314.length co62,.slice Ao63 t317.length co63] (0,0) _ rfl (by (with_reducible repeat (first|refine blk_drewN ?_ _|refine blk_drew ?_|refine blk_alloc ?_ _));refine blk_put (cs:=#[.int .i64 t313,.slice Ao62 t314.length co62,.slice none 0 0]) ?_ 2 _ rfl;(with_reducible repeat (first|refine blk_drewN ?_ _|refine blk_drew ?_|refine blk_alloc ?_ _));refine blk_put (cs:=#[.int .i64 t313,.slice none 0 0,.slice none 0 0]) ?_ 1 _ rfl;(with_reducible repeat (first|refine blk_drewN ?_ _|refine blk_drew ?_|refine blk_alloc ?_ _));refine blk_put (cs:=#[.int .i64 0,.slice none 0 0,.slice none 0 0]) ?_ 0 _ rfl;(with_reducible repeat (first|refine blk_drewN ?_ _|refine blk_drew ?_|refine blk_alloc ?_ _));exact BK296.out) Try.underlying30 rfl (by kernel_rfl)) rfl ?_
    exact ⟨_,_,by first|rfl|(simp [errW_none,errW_some] <;> rfl)|(simp [*,errW_none,errW_some] <;> rfl),by (with_reducible repeat (first|apply Kd.R_alloc|apply Kd.R_drewN|apply Kd.R_drew));exact Kd.R_mono (Kd.R_far (p:=⟨gb296,2,none⟩) (Kd.R_far (p:=⟨gb296,1,none⟩) (Kd.R_far (p:=⟨gb296,0,none⟩) (Kd.R_types HO316.out BK296.out (by decide)) (fun _ hk=>hk.2) (.int .i64 t313)) (fun _ hk=>hk.2) (.slice Ao62 t314.length co62)) (fun _ hk=>hk.2) (.slice Ao63 t317.length co63)) (fun _ hk=>trivial),by (with_reducible repeat (first|apply Kd.R_alloc|apply Kd.R_drewN|apply Kd.R_drew));exact Kd.R_mono (Kd.R_far (p:=⟨gb296,2,none⟩) (Kd.R_far (p:=⟨gb296,1,none⟩) (Kd.R_far (p:=⟨gb296,0,none⟩) (Kd.R_types HO319.out BK296.out (by decide)) (fun _ hk=>hk.2) (.int .i64 t313)) (fun _ hk=>hk.2) (.slice Ao62 t314.length co62)) (fun _ hk=>hk.2) (.slice Ao63 t317.length co63)) (fun _ hk=>trivial),by repeat (first|(with_reducible first|exact HB.out|apply below_alloc|apply pw_below_drewN|apply below_drew1|refine below_set ?_ GE294.out|refine below_set ?_ GE295.out|refine below_set ?_ GE296.out|refine below_set ?_ GE306.out)|exact HB.out)⟩
end Go.Proofs.Ytopkiccdfmjjjaa.MFnExactComposePlans
--sq
