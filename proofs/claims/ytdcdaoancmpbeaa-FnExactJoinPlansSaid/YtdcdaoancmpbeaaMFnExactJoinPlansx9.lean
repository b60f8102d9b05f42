import Derived.Test.YtdcdaoancmpbeaaMFnExactJoinPlansx0
import Derived.Test.YtdcdaoancmpbeaaMFnExactJoinPlansx7
import Derived.Test.YtdcdaoancmpbeaaMFnExactJoinPlansx8
import Derived.Test.YtdcdaoancmpbeaaMFnExactJoinPlansx1
import Derived.Test.YtdcdaoancmpbeaaMFnExactJoinPlansx2
import Derived.Test.YtdcdaoancmpbeaaMFnExactJoinPlansx3
import Derived.Test.YtdcdaoancmpbeaaMFnExactJoinPlansx4
import Derived.Test.YtdcdaoancmpbeaaMFnExactJoinPlansx5
import Derived.Test.YtdcdaoancmpbeaaMFnExactJoinPlansx6
namespace Go.Proofs.Ytdcdaoancmpbeaa.MFnExactJoinPlans
open Go.RowKit Go.Proofs.YtdcdaoancmpbeaaW.PrintWords Go.Proofs.YtdcdaoancmpbeaaW.PrintLast Go.Proofs.YtdcdaoancmpbeaaW.PrintMore Go.Proofs.YtdcdaoancmpbeaaV Go.Proofs.YtdcdaoancmpbeaaZ
attribute [local go_sem] max2_int min2_int max_two min_two max_three min_three max_four min_four   -- for this text's walks alone
set_option linter.unusedVariables false
set_option linter.unusedSimpArgs false
/-! ### impl_JoinPlans: function 13 -/
theorem impl_JoinPlans.keep_other {e base : Nat} {w w1 : World} {ok S : Nat → Prop} {v u : Value} {xs : List Int} (h0 : Kd.R (Kd.int .i64) e w base ok v xs) (hk : Kept w w1 S) (hS : ∀ k,v.ownBlock = some k → ¬ S k) (h1 : ∀ k,u.ownBlock = some k → (S k ∨ w.heap.size ≤ k)) : Kd.R (Kd.int .i64) e w1 base (fun k=>ok k ∧ some k ≠ u.ownBlock) v xs:=Kd.R_mono (Kd.R_keptB (Kd.R_tight rfl h0) hk (fun k e_=>hS k e_.symm)) (fun k hk_=>⟨h0.1 k hk_.1.symm,fun e_=>(h1 k e_.symm).elim hk_.2.1 (fun h=>by have:=hk_.2.2;omega)⟩)
theorem impl_JoinPlans.keep_ok {e base : Nat} {w w1 : World} {ok ok1 P : Nat → Prop} {v : Value} {xs ys : List Int} (h0 : Kd.R (Kd.int .i64) e w base ok v xs) (h1 : Kd.R (Kd.int .i64) e w1 base ok1 v ys) (hP : ∀ k,v.ownBlock = some k → P k) : Kd.R (Kd.int .i64) e w1 base (fun k=>ok k ∧ P k) v ys:=Kd.R_mono (Kd.R_tight rfl h1) (fun k e_=>⟨h0.1 k e_.symm,hP k e_.symm⟩)
def impl_JoinPlans.j0 : Nat → Bool → Int → List (S73) → List Int → Int → List (S73) → List Int → Option (Int × (List (S73)) × List Int × Bool)
 | 0,_,_,_,_,_,_,_=>none
 | k + 1,x21,x288000,x288001,x288002,x289000,x289001,x289002=>if x21 = true then (some (0,([] : List (S73)),([] : List Int),false)) else ((impl_clonePlan.f x288000 x288001 x288002).bind fun bt292=>((impl_firsts.f k x288000).bind fun t300=>((impl_Plan_behind.f k bt292.1 bt292.2.1 bt292.2.2 x289000 x289001 x289002 t300).bind fun bt303=>((impl_renamed.f k x289002 bt303.1).bind fun t306=>(if bt292.2.2.length + t306.length < 17592186044416 then ((impl_told.f k bt292.1 bt303.2.2.1 (bt292.2.2 ++ t306)).bind fun bt312=>(some (bt312.1,bt312.2.1,bt312.2.2.1,bt312.2.2.2))) else (none))))))
def impl_JoinPlans.f (k : Nat) (a0_0 : Int) (l0_1 : List (S73)) (l0_2 : List Int) (a1_0 : Int) (l1_1 : List (S73)) (l1_2 : List Int) : Option (Int × (List (S73)) × List Int × Bool):=(impl_IsPlan.f k a0_0 l0_1 l0_2).bind fun t290=>(if t290 = true then ((impl_IsPlan.f k a1_0 l1_1 l1_2).bind fun t291=>(if t291 = true then (impl_JoinPlans.j0 k (a0_0 != a1_0) a0_0 l0_1 l0_2 a1_0 l1_1 l1_2) else (impl_JoinPlans.j0 k true a0_0 l0_1 l0_2 a1_0 l1_1 l1_2))) else (impl_JoinPlans.j0 k true a0_0 l0_1 l0_2 a1_0 l1_1 l1_2))
theorem impl_JoinPlans.mono_l : ∀ k,(∀ y0 y1 y2 y3 y4 y5 y6,LeO (impl_JoinPlans.j0 k y0 y1 y2 y3 y4 y5 y6) (impl_JoinPlans.j0 (k + 1) y0 y1 y2 y3 y4 y5 y6))
 | 0=>fun _ _ _ _ _ _ _ r h=>by simp [impl_JoinPlans.j0] at h
 | k + 1=>by
  have ih0:=impl_JoinPlans.mono_l k
  ·intro y0 y1 y2 y3 y4 y5 y6
   unfold impl_JoinPlans.j0
   repeat' first
   | (with_reducible exact ih0 _ _ _ _ _ _ _)
   | (with_reducible exact impl_IsPlan.mono _ _ _ _)
   | (with_reducible exact impl_Plan_behind.mono _ _ _ _ _ _ _ _)
   | (with_reducible exact impl_firsts.mono _ _)
   | (with_reducible exact impl_renamed.mono _ _ _)
   | (with_reducible exact impl_told.mono _ _ _ _)
   | (with_reducible exact LeO.refl _)
   | (with_reducible exact LeO.none _)
   | (with_reducible refine LeO.ite ?_ ?_)
   | (with_reducible refine LeO.bind ?_ (fun _=>?_))
   | exact ih0 _ _ _ _ _ _ _
   | exact impl_IsPlan.mono _ _ _ _
   | exact impl_Plan_behind.mono _ _ _ _ _ _ _ _
   | exact impl_firsts.mono _ _
   | exact impl_renamed.mono _ _ _
   | exact impl_told.mono _ _ _ _
   | exact LeO.none _
   | refine LeO.ite ?_ ?_
   | refine LeO.bind ?_ (fun _=>?_)
theorem impl_JoinPlans.mono : ∀ a0 a1 a2 a3 a4 a5 k,LeO (impl_JoinPlans.f k a0 a1 a2 a3 a4 a5) (impl_JoinPlans.f (k + 1) a0 a1 a2 a3 a4 a5):=by
 intro a0 a1 a2 a3 a4 a5 k
 have ih0:=impl_JoinPlans.mono_l k
 unfold impl_JoinPlans.f
 repeat' first
   | (with_reducible exact ih0 _ _ _ _ _ _ _)
   | (with_reducible exact impl_IsPlan.mono _ _ _ _)
   | (with_reducible exact impl_Plan_behind.mono _ _ _ _ _ _ _ _)
   | (with_reducible exact impl_firsts.mono _ _)
   | (with_reducible exact impl_renamed.mono _ _ _)
   | (with_reducible exact impl_told.mono _ _ _ _)
   | (with_reducible exact LeO.refl _)
   | (with_reducible exact LeO.none _)
   | (with_reducible refine LeO.ite ?_ ?_)
   | (with_reducible refine LeO.bind ?_ (fun _=>?_))
   | exact ih0 _ _ _ _ _ _ _
   | exact impl_IsPlan.mono _ _ _ _
   | exact impl_Plan_behind.mono _ _ _ _ _ _ _ _
   | exact impl_firsts.mono _ _
   | exact impl_renamed.mono _ _ _
   | exact impl_told.mono _ _ _ _
   | exact LeO.none _
   | refine LeO.ite ?_ ?_
   | refine LeO.bind ?_ (fun _=>?_)
def impl_JoinPlans.T4 : Bool × List (List Nat × List Nat):=(true,[([],[]),([0],[0]),([],[]),([2],[2]),([],[]),([4],[4]),([5],[5]),([6,6],[6]),([3,7,7],[3,7]),([1,8,8],[1,8]),([0,1,2,3,4,5,6,7,8,9],[]),([10,9,9,0,1,2,3,4,5,6,7,8,9],[9,10])])
def impl_JoinPlans.B4 : List Nat:=[0,1,0,4,0,16,48,112,252,511,1023,2047]
theorem impl_JoinPlans.tab4 : rtab .any (opsOf Try.f13 4) = impl_JoinPlans.T4:=by kernel_rfl
theorem impl_JoinPlans.bits4 : waitsOk impl_JoinPlans.T4.2 impl_JoinPlans.B4 = true:=by kernel_rfl
set_option maxHeartbeats 8000000 in
set_option maxRecDepth 100000 in
theorem impl_JoinPlans.calls (k : Nat) (a0_0 : Int) (A0_1 : Option Addr) (c0_1 : Nat) (l0_1 : List (S73)) (A0_2 : Option Addr) (c0_2 : Nat) (l0_2 : List Int) (a1_0 : Int) (A1_1 : Option Addr) (c1_1 : Nat) (l1_1 : List (S73)) (A1_2 : Option Addr) (c1_2 : Nat) (l1_2 : List Int) (r1 : Int) (r2 : List (S73)) (r3 : List Int) (r4 : Bool) (w : World) (hr0_1 : Kd.C k73 w A0_1 l0_1.length l0_1) (hc0_1 : l0_1.length ≤ c0_1) (hr0_2 : Kd.C (Kd.int .i64) w A0_2 l0_2.length l0_2) (hc0_2 : l0_2.length ≤ c0_2) (hr1_1 : Kd.C k73 w A1_1 l1_1.length l1_1) (hc1_1 : l1_1.length ≤ c1_1) (hr1_2 : Kd.C (Kd.int .i64) w A1_2 l1_2.length l1_2) (hc1_2 : l1_2.length ≤ c1_2) (h : impl_JoinPlans.f k a0_0 l0_1 l0_2 a1_0 l1_1 l1_2 = some (r1,r2,r3,r4)) :
  Calls Try.prog 13 #[.agg #[.int .i64 a0_0,.slice A0_1 l0_1.length c0_1,.slice A0_2 l0_2.length c0_2],.agg #[.int .i64 a1_0,.slice A1_1 l1_1.length c1_1,.slice A1_2 l1_2.length c1_2]] w fun e w'=>∃ v1_ v2_ : Value,e = .returned (.tuple #[.agg #[.int .i64 r1,v1_,v2_],.bool r4]) ∧ Kd.R k73 73 w' w.heap.size (fun _=>True) v1_ r2 ∧ Kd.R (Kd.int .i64) 3 w' w.heap.size (fun _=>True) v2_ r3 ∧ Below w.heap.size w w':=by
 have hu29:=Try.underlying29
 have HR0_1:=Aside0.mk hr0_1
 have HC0_1:=Aside0.mk hc0_1
 clear hr0_1 hc0_1
 have HR0_2:=Aside0.mk hr0_2
 have HC0_2:=Aside0.mk hc0_2
 clear hr0_2 hc0_2
 have HR1_1:=Aside0.mk hr1_1
 have HC1_1:=Aside0.mk hc1_1
 clear hr1_1 hc1_1
 have HR1_2:=Aside0.mk hr1_2
 have HC1_2:=Aside0.mk hc1_2
 clear hr1_2 hc1_2
 have HB:=Aside0.mk (Below.refl w.heap.size w)
 have H : ((impl_IsPlan.f k a0_0 l0_1 l0_2).bind fun t290=>(if t290 = true then ((impl_IsPlan.f k a1_0 l1_1 l1_2).bind fun t291=>(if t291 = true then (impl_JoinPlans.j0 k (a0_0 != a1_0) a0_0 l0_1 l0_2 a1_0 l1_1 l1_2) else (impl_JoinPlans.j0 k true a0_0 l0_1 l0_2 a1_0 l1_1 l1_2))) else (impl_JoinPlans.j0 k true a0_0 l0_1 l0_2 a1_0 l1_1 l1_2))) = some (r1,r2,r3,r4):=h
 clear h
 have HC3:=Aside0.mk H
 clear H
 go_enter Try.func13,Try.ntmps13
 go_upto_region 1 with (first|((with_reducible refine gate_dst (N:=2) rfl ?_);refine box_event ?hg (N:=2) ?hd (cs:=#[.int .i64 a0_0,.slice A0_1 l0_1.length c0_1,.slice A0_2 l0_2.length c0_2]) (t:=29) ?hr ?_;(case hd=>rfl);(case hg=>rfl);(case hr=>first|(go_simp;done)|(go_simp;rfl));intro gb287 hg w4 hbox hb;have n0_:=Aside0.mk (below_step bz hb);have n1_:=Aside0.mk (hbox);have n2_:=Aside0.mk ((by rw [hg];exact (below_size bz) : w.heap.size ≤ gb287));have n3_:=Aside0.mk ((by rw [hg];exact (below_size bz) : w.heap.size ≤ gb287));clear HB;have HB:=n0_;have BK287:=n1_;have GW287:=n2_;have GE287:=n3_;clear n0_ n1_ n2_ n3_;clear hb hbox hg)|((with_reducible refine gate_dst (N:=3) rfl ?_);refine box_event ?hg (N:=3) ?hd (cs:=#[.int .i64 a1_0,.slice A1_1 l1_1.length c1_1,.slice A1_2 l1_2.length c1_2]) (t:=29) ?hr ?_;(case hd=>rfl);(case hg=>rfl);(case hr=>first|(go_simp;done)|(go_simp;rfl));intro gb288 hg w5 hbox hb;have n0_:=Aside0.mk (kb BK287.out hb);have n1_:=Aside0.mk (below_step bs hb);have n2_:=Aside0.mk (hbox);have n3_:=Aside0.mk ((by rw [hg];exact (below_size bs) : w.heap.size ≤ gb288));have n4_:=Aside0.mk ((by rw [hg];exact (below_size bs) : w.heap.size ≤ gb288));have n5_:=Aside0.mk (kn hg BK287.out);have n6_:=Aside0.mk (km hg BK287.out);clear BK287 HB;have BK287:=n0_;have HB:=n1_;have BK288:=n2_;have GW288:=n3_;have GE288:=n4_;have NB287_288:=n5_;have NB288_287:=n6_;clear n0_ n1_ n2_ n3_ n4_ n5_ n6_;clear hb hbox hg)|((with_reducible refine gate_dst (N:=4) rfl ?_);refine box_event ?hg (N:=4) ?hd (cs:=#[.int .i64 0,.slice none 0 0,.slice none 0 0]) (t:=29) ?hr ?_;(case hd=>rfl);(case hg=>rfl);(case hr=>first|(go_simp;done)|(go_simp;rfl));intro gb289 hg w6 hbox hb;have n0_:=Aside0.mk (kb BK287.out hb);have n1_:=Aside0.mk (kb BK288.out hb);have n2_:=Aside0.mk (below_step bs hb);have n3_:=Aside0.mk (hbox);have n4_:=Aside0.mk ((by rw [hg];exact (below_size bs) : w.heap.size ≤ gb289));have n5_:=Aside0.mk ((by rw [hg];exact (below_size bs) : w.heap.size ≤ gb289));have n6_:=Aside0.mk (kn hg BK287.out);have n7_:=Aside0.mk (km hg BK287.out);have n8_:=Aside0.mk (kn hg BK288.out);have n9_:=Aside0.mk (km hg BK288.out);clear BK287 BK288 HB;have BK287:=n0_;have BK288:=n1_;have HB:=n2_;have BK289:=n3_;have GW289:=n4_;have GE289:=n5_;have NB287_289:=n6_;have NB289_287:=n7_;have NB288_289:=n8_;have NB289_288:=n9_;clear n0_ n1_ n2_ n3_ n4_ n5_ n6_ n7_ n8_ n9_;clear hb hbox hg))
 (try simp only [Act.put,xa,xb,xc])
 go_cut [21] (fun v21 wc=>∃ (kq : Nat) (x21_2 : Bool),v21 = .bool x21_2 ∧ Aside0 (impl_JoinPlans.j0 kq x21_2 a0_0 l0_1 l0_2 a1_0 l1_1 l1_2 = some (r1,r2,r3,r4)) ∧ Aside0 (kq ≤ k) ∧ Aside0 (wc.heap[gb287]? = some (.cells #[.int .i64 a0_0,(.slice A0_1 l0_1.length c0_1),(.slice A0_2 l0_2.length c0_2)] 29 (0,0))) ∧ Aside0 (wc.heap[gb288]? = some (.cells #[.int .i64 a1_0,(.slice A1_1 l1_1.length c1_1),(.slice A1_2 l1_2.length c1_2)] 29 (0,0))) ∧ Aside0 (wc.heap[gb289]? = some (.cells #[.int .i64 0,(.slice none 0 0),(.slice none 0 0)] 29 (0,0))) ∧ Aside0 (Below w.heap.size w wc))
 case first=>
  have H:=HC3.out
  clear HC3
  replace H:=Option.bind_eq_some_iff.mp H
  obtain ⟨t290,A70,H⟩:=H
  try dsimp only at H
  have A7:=Aside0.mk A70
  clear A70
  by_cases c8 : t290 = true
  ·subst c8
   rw [if_pos rfl] at H
   replace H:=Option.bind_eq_some_iff.mp H
   obtain ⟨t291,A90,H⟩:=H
   try dsimp only at H
   have A9:=Aside0.mk A90
   clear A90
   by_cases c10 : t291 = true
   ·subst c10
    rw [if_pos rfl] at H
    have H':=Aside0.mk H
    clear H
    have hnb11:=NB287_288.out
    have hnc11:=NB288_287.out
    have hnb12:=NB287_289.out
    have hnc12:=NB289_287.out
    have hcz13_0 : w6.cell? ⟨gb287,0,none⟩ = some (.int .i64 a0_0):=(blk_cell BK287.out 0).trans rfl
    have hcz13_1 : w6.cell? ⟨gb287,1,none⟩ = some (.slice A0_1 l0_1.length c0_1):=(blk_cell BK287.out 1).trans rfl
    have hcz13_2 : w6.cell? ⟨gb287,2,none⟩ = some (.slice A0_2 l0_2.length c0_2):=(blk_cell BK287.out 2).trans rfl
    have hfz13_0:=blk_frozen BK287.out 0
    have hfz13_1:=blk_frozen BK287.out 1
    have hfz13_2:=blk_frozen BK287.out 2
    go_wp2_with (first|((with_reducible refine gate_callee (f:=44) rfl ?_);refine goesL_ (some 8) rfl rfl Try.func44 (by kernel_rfl) rfl #[.agg #[.int .i64 a0_0,.slice A0_1 l0_1.length c0_1,.slice A0_2 l0_2.length c0_2]] rfl mz ?_;(with_reducible refine (impl_IsPlan.calls k a0_0 _ _ l0_1 _ _ l0_2 true _ ?side1 ?side2 ?side3 ?side4 A7.out).mono ?_);(case side1=>exact cz (Kd.C_below HR0_1.out HB.out));(case side2=>exact HC0_1.out);(case side3=>exact cz (Kd.C_below HR0_2.out HB.out));(case side4=>exact HC0_2.out);rintro e w14 ⟨rfl,hb⟩;refine ⟨_,rfl,?_⟩;have n0_:=Aside0.mk (kb BK287.out hb);have n1_:=Aside0.mk (kb BK288.out hb);have n2_:=Aside0.mk (kb BK289.out hb);have n3_:=Aside0.mk (below_step bs hb);clear BK287 BK288 BK289 HB;have BK287:=n0_;have BK288:=n1_;have BK289:=n2_;have HB:=n3_;clear n0_ n1_ n2_ n3_;(try clear hb);have hnb15:=NB288_289.out;have hnc15:=NB289_288.out;have hcz16_0 : w14.cell? ⟨gb288,0,none⟩ = some (.int .i64 a1_0):=(blk_cell BK288.out 0).trans rfl;have hcz16_1 : w14.cell? ⟨gb288,1,none⟩ = some (.slice A1_1 l1_1.length c1_1):=(blk_cell BK288.out 1).trans rfl;have hcz16_2 : w14.cell? ⟨gb288,2,none⟩ = some (.slice A1_2 l1_2.length c1_2):=(blk_cell BK288.out 2).trans rfl;have hfz16_0:=blk_frozen BK288.out 0;have hfz16_1:=blk_frozen BK288.out 1;have hfz16_2:=blk_frozen BK288.out 2)|(go_at_call 44;(with_reducible refine (impl_IsPlan.calls k a1_0 _ _ l1_1 _ _ l1_2 true _ ?side1 ?side2 ?side3 ?side4 A9.out).mono ?_);(case side1=>exact cz (Kd.C_below HR1_1.out HB.out));(case side2=>exact HC1_1.out);(case side3=>exact cz (Kd.C_below HR1_2.out HB.out));(case side4=>exact HC1_2.out);rintro e w17 ⟨rfl,hb⟩;have n0_:=Aside0.mk (kb BK287.out hb);have n1_:=Aside0.mk (kb BK288.out hb);have n2_:=Aside0.mk (kb BK289.out hb);have n3_:=Aside0.mk (below_step bs hb);clear BK287 BK288 BK289 HB;have BK287:=n0_;have BK288:=n1_;have BK289:=n2_;have HB:=n3_;clear n0_ n1_ n2_ n3_;(try clear hb);have hcz18_0 : w17.cell? ⟨gb287,0,none⟩ = some (.int .i64 a0_0):=(blk_cell BK287.out 0).trans rfl;have hcz18_1 : w17.cell? ⟨gb287,1,none⟩ = some (.slice A0_1 l0_1.length c0_1):=(blk_cell BK287.out 1).trans rfl;have hcz18_2 : w17.cell? ⟨gb287,2,none⟩ = some (.slice A0_2 l0_2.length c0_2):=(blk_cell BK287.out 2).trans rfl;have hfz18_0:=blk_frozen BK287.out 0;have hfz18_1:=blk_frozen BK287.out 1;have hfz18_2:=blk_frozen BK287.out 2;have hcz19_0 : w17.cell? ⟨gb288,0,none⟩ = some (.int .i64 a1_0):=(blk_cell BK288.out 0).trans rfl;have hcz19_1 : w17.cell? ⟨gb288,1,none⟩ = some (.slice A1_1 l1_1.length c1_1):=(blk_cell BK288.out 1).trans rfl;have hcz19_2 : w17.cell? ⟨gb288,2,none⟩ = some (.slice A1_2 l1_2.length c1_2):=(blk_cell BK288.out 2).trans rfl;have hfz19_0:=blk_frozen BK288.out 0;have hfz19_1:=blk_frozen BK288.out 1;have hfz19_2:=blk_frozen BK288.out 2))
    go_meet
    case rel=>exact ⟨_,((a0_0 != a1_0)),fz,H',⟨by first|omega|exact Nat.le_refl _⟩,⟨by (with_reducible repeat (first|refine blk_drewN ?_ _|refine blk_drew ?_|refine blk_alloc ?_ _));exact BK287.out⟩,⟨by (with_reducible repeat (first|refine blk_drewN ?_ _|refine blk_drew ?_|refine blk_alloc ?_ _));exact BK288.out⟩,⟨by (with_reducible repeat (first|refine blk_drewN ?_ _|refine blk_drew ?_|refine blk_alloc ?_ _));exact BK289.out⟩,⟨by repeat (first|(with_reducible first|exact HB.out|apply below_alloc|apply pw_below_drewN|apply below_drew1|refine below_set ?_ GE287.out|refine below_set ?_ GE288.out|refine below_set ?_ GE289.out)|exact HB.out)⟩⟩
   ·replace c10:=Bool.eq_false_iff.mpr c10
    subst c10
    rw [if_neg (show ¬ (false = true) by decide)] at H
    have H':=Aside0.mk H
    clear H
    have hnb20:=NB287_288.out
    have hnc20:=NB288_287.out
    have hnb21:=NB287_289.out
    have hnc21:=NB289_287.out
    have hcz22_0 : w6.cell? ⟨gb287,0,none⟩ = some (.int .i64 a0_0):=(blk_cell BK287.out 0).trans rfl
    have hcz22_1 : w6.cell? ⟨gb287,1,none⟩ = some (.slice A0_1 l0_1.length c0_1):=(blk_cell BK287.out 1).trans rfl
    have hcz22_2 : w6.cell? ⟨gb287,2,none⟩ = some (.slice A0_2 l0_2.length c0_2):=(blk_cell BK287.out 2).trans rfl
    have hfz22_0:=blk_frozen BK287.out 0
    have hfz22_1:=blk_frozen BK287.out 1
    have hfz22_2:=blk_frozen BK287.out 2
    go_wp2_with (first|((with_reducible refine gate_callee (f:=44) rfl ?_);refine goesL_ (some 8) rfl rfl Try.func44 (by kernel_rfl) rfl #[.agg #[.int .i64 a0_0,.slice A0_1 l0_1.length c0_1,.slice A0_2 l0_2.length c0_2]] rfl mz ?_;(with_reducible refine (impl_IsPlan.calls k a0_0 _ _ l0_1 _ _ l0_2 true _ ?side1 ?side2 ?side3 ?side4 A7.out).mono ?_);(case side1=>exact cz (Kd.C_below HR0_1.out HB.out));(case side2=>exact HC0_1.out);(case side3=>exact cz (Kd.C_below HR0_2.out HB.out));(case side4=>exact HC0_2.out);rintro e w23 ⟨rfl,hb⟩;refine ⟨_,rfl,?_⟩;have n0_:=Aside0.mk (kb BK287.out hb);have n1_:=Aside0.mk (kb BK288.out hb);have n2_:=Aside0.mk (kb BK289.out hb);have n3_:=Aside0.mk (below_step bs hb);clear BK287 BK288 BK289 HB;have BK287:=n0_;have BK288:=n1_;have BK289:=n2_;have HB:=n3_;clear n0_ n1_ n2_ n3_;(try clear hb);have hnb24:=NB288_289.out;have hnc24:=NB289_288.out;have hcz25_0 : w23.cell? ⟨gb288,0,none⟩ = some (.int .i64 a1_0):=(blk_cell BK288.out 0).trans rfl;have hcz25_1 : w23.cell? ⟨gb288,1,none⟩ = some (.slice A1_1 l1_1.length c1_1):=(blk_cell BK288.out 1).trans rfl;have hcz25_2 : w23.cell? ⟨gb288,2,none⟩ = some (.slice A1_2 l1_2.length c1_2):=(blk_cell BK288.out 2).trans rfl;have hfz25_0:=blk_frozen BK288.out 0;have hfz25_1:=blk_frozen BK288.out 1;have hfz25_2:=blk_frozen BK288.out 2)|(go_at_call 44;(with_reducible refine (impl_IsPlan.calls k a1_0 _ _ l1_1 _ _ l1_2 false _ ?side1 ?side2 ?side3 ?side4 A9.out).mono ?_);(case side1=>exact cz (Kd.C_below HR1_1.out HB.out));(case side2=>exact HC1_1.out);(case side3=>exact cz (Kd.C_below HR1_2.out HB.out));(case side4=>exact HC1_2.out);rintro e w26 ⟨rfl,hb⟩;have n0_:=Aside0.mk (kb BK287.out hb);have n1_:=Aside0.mk (kb BK288.out hb);have n2_:=Aside0.mk (kb BK289.out hb);have n3_:=Aside0.mk (below_step bs hb);clear BK287 BK288 BK289 HB;have BK287:=n0_;have BK288:=n1_;have BK289:=n2_;have HB:=n3_;clear n0_ n1_ n2_ n3_;(try clear hb)))
    go_meet
    case rel=>exact ⟨_,(true),fz,H',⟨by first|omega|exact Nat.le_refl _⟩,⟨by (with_reducible repeat (first|refine blk_drewN ?_ _|refine blk_drew ?_|refine blk_alloc ?_ _));exact BK287.out⟩,⟨by (with_reducible repeat (first|refine blk_drewN ?_ _|refine blk_drew ?_|refine blk_alloc ?_ _));exact BK288.out⟩,⟨by (with_reducible repeat (first|refine blk_drewN ?_ _|refine blk_drew ?_|refine blk_alloc ?_ _));exact BK289.out⟩,⟨by repeat (first|(with_reducible first|exact HB.out|apply below_alloc|apply pw_below_drewN|apply below_drew1|refine below_set ?_ GE287.out|refine below_set ?_ GE288.out|refine below_set ?_ GE289.out)|exact HB.out)⟩⟩
  ·replace c8:=Bool.eq_false_iff.mpr c8
   subst c8
   rw [if_neg (show ¬ (false = true) by decide)] at H
   have H':=Aside0.mk H
   clear H
   have hnb27:=NB287_288.out
   have hnc27:=NB288_287.out
   have hnb28:=NB287_289.out
   have hnc28:=NB289_287.out
   have hcz29_0 : w6.cell? ⟨gb287,0,none⟩ = some (.int .i64 a0_0):=(blk_cell BK287.out 0).trans rfl
   have hcz29_1 : w6.cell? ⟨gb287,1,none⟩ = some (.slice A0_1 l0_1.length c0_1):=(blk_cell BK287.out 1).trans rfl
   have hcz29_2 : w6.cell? ⟨gb287,2,none⟩ = some (.slice A0_2 l0_2.length c0_2):=(blk_cell BK287.out 2).trans rfl
   have hfz29_0:=blk_frozen BK287.out 0
   have hfz29_1:=blk_frozen BK287.out 1
   have hfz29_2:=blk_frozen BK287.out 2
   go_wp2_with (first|((with_reducible refine gate_callee (f:=44) rfl ?_);refine goesL_ (some 8) rfl rfl Try.func44 (by kernel_rfl) rfl #[.agg #[.int .i64 a0_0,.slice A0_1 l0_1.length c0_1,.slice A0_2 l0_2.length c0_2]] rfl mz ?_;(with_reducible refine (impl_IsPlan.calls k a0_0 _ _ l0_1 _ _ l0_2 false _ ?side1 ?side2 ?side3 ?side4 A7.out).mono ?_);(case side1=>exact cz (Kd.C_below HR0_1.out HB.out));(case side2=>exact HC0_1.out);(case side3=>exact cz (Kd.C_below HR0_2.out HB.out));(case side4=>exact HC0_2.out);rintro e w30 ⟨rfl,hb⟩;refine ⟨_,rfl,?_⟩;have n0_:=Aside0.mk (kb BK287.out hb);have n1_:=Aside0.mk (kb BK288.out hb);have n2_:=Aside0.mk (kb BK289.out hb);have n3_:=Aside0.mk (below_step bs hb);clear BK287 BK288 BK289 HB;have BK287:=n0_;have BK288:=n1_;have BK289:=n2_;have HB:=n3_;clear n0_ n1_ n2_ n3_;(try clear hb)))
   go_meet
   case rel=>exact ⟨_,(true),fz,H',⟨by first|omega|exact Nat.le_refl _⟩,⟨by (with_reducible repeat (first|refine blk_drewN ?_ _|refine blk_drew ?_|refine blk_alloc ?_ _));exact BK287.out⟩,⟨by (with_reducible repeat (first|refine blk_drewN ?_ _|refine blk_drew ?_|refine blk_alloc ?_ _));exact BK288.out⟩,⟨by (with_reducible repeat (first|refine blk_drewN ?_ _|refine blk_drew ?_|refine blk_alloc ?_ _));exact BK289.out⟩,⟨by repeat (first|(with_reducible first|exact HB.out|apply below_alloc|apply pw_below_drewN|apply below_drew1|refine below_set ?_ GE287.out|refine below_set ?_ GE288.out|refine below_set ?_ GE289.out)|exact HB.out)⟩⟩
 case rest=>
  clear HC3
  try clear c1
  try clear c2
  try clear p2
  try clear c4
  try clear c8
  try clear c10
  try clear c11
  try clear c12
  try clear c13
  try clear c15
  try clear c20
  try clear c21
  try clear c24
  try clear c27
  try clear c28
  try clear hcz13_0
  try clear hcz13_1
  try clear hcz13_2
  try clear hcz16_0
  try clear hcz16_1
  try clear hcz16_2
  try clear hcz18_0
  try clear hcz18_1
  try clear hcz18_2
  try clear hcz19_0
  try clear hcz19_1
  try clear hcz19_2
  try clear hcz22_0
  try clear hcz22_1
  try clear hcz22_2
  try clear hcz25_0
  try clear hcz25_1
  try clear hcz25_2
  try clear hcz29_0
  try clear hcz29_1
  try clear hcz29_2
  try clear hfz13_0
  try clear hfz13_1
  try clear hfz13_2
  try clear hfz16_0
  try clear hfz16_1
  try clear hfz16_2
  try clear hfz18_0
  try clear hfz18_1
  try clear hfz18_2
  try clear hfz19_0
  try clear hfz19_1
  try clear hfz19_2
  try clear hfz22_0
  try clear hfz22_1
  try clear hfz22_2
  try clear hfz25_0
  try clear hfz25_1
  try clear hfz25_2
  try clear hfz29_0
  try clear hfz29_1
  try clear hfz29_2
  obtain ⟨kq,x21_2,rfl,HA,HJ2,BK287,BK288,BK289,HB⟩:=hcut
  cases kq with
  | zero=>exact absurd HA.out (by simp [impl_JoinPlans.j0])
  | succ kj2=>
   have H:=HA.out
   clear HA
   simp only [impl_JoinPlans.j0] at H
   by_cases c31 : x21_2 = true
   ·subst c31
    rw [if_pos rfl] at H
    simp only [Option.some.injEq,Prod.mk.injEq] at H
    obtain ⟨rfl,rfl,rfl,rfl⟩:=H
    have hnb32:=NB289_287.out
    have hnc32:=NB287_289.out
    have hnb33:=NB289_288.out
    have hnc33:=NB288_289.out
    have hcz34_0 : wc.cell? ⟨gb289,0,none⟩ = some (.int .i64 0):=(blk_cell BK289.out 0).trans rfl
    have hcz34_1 : wc.cell? ⟨gb289,1,none⟩ = some (.slice none 0 0):=(blk_cell BK289.out 1).trans rfl
    have hcz34_2 : wc.cell? ⟨gb289,2,none⟩ = some (.slice none 0 0):=(blk_cell BK289.out 2).trans rfl
    have hfz34_0:=blk_frozen BK289.out 0
    have hfz34_1:=blk_frozen BK289.out 1
    have hfz34_2:=blk_frozen BK289.out 2
    go_wp2
    refine bodyPost_ret (results_ct rfl _ _ gb289 29 #[.int .i64 0,.slice none 0 0,.slice none 0 0] (0,0) _ rfl (by (with_reducible repeat (first|refine blk_drewN ?_ _|refine blk_drew ?_|refine blk_alloc ?_ _));refine blk_put (cs:=#[.int .i64 0,.slice none 0 0,.slice none 0 0]) ?_ 2 _ rfl;(with_reducible repeat (first|refine blk_drewN ?_ _|refine blk_drew ?_|refine blk_alloc ?_ _));refine blk_put (cs:=#[.int .i64 0,.slice none 0 0,.slice none 0 0]) ?_ 1 _ rfl;(with_reducible repeat (first|refine blk_drewN ?_ _|refine blk_drew ?_|refine blk_alloc ?_ _));refine blk_put (cs:=#[.int .i64 0,.slice none 0 0,.slice none 0 0]) ?_ 0 _ rfl;(with_reducible repeat (first|refine blk_drewN ?_ _|refine blk_drew ?_|refine blk_alloc ?_ _));exact BK289.out) Try.underlying29 rfl (by kernel_rfl)) rfl ?_
    exact ⟨_,_,by first|rfl|(simp [errW_none,errW_some] <;> rfl)|(simp [*,errW_none,errW_some] <;> rfl),by first|exact Kd.R_nil _ _ _ _ _|exact Kd.N_nil _ _ _ _ _|exact Kd.V_nil _ _ _ _ _|exact Kd.Q_nil _ _ _ _ _|exact Kd.S_nil _ _ _ _ _,by first|exact Kd.R_nil _ _ _ _ _|exact Kd.N_nil _ _ _ _ _|exact Kd.V_nil _ _ _ _ _|exact Kd.Q_nil _ _ _ _ _|exact Kd.S_nil _ _ _ _ _,by repeat (first|(with_reducible first|exact HB.out|apply below_alloc|apply pw_below_drewN|apply below_drew1|refine below_set ?_ GE287.out|refine below_set ?_ GE288.out|refine below_set ?_ GE289.out)|exact HB.out)⟩
   ·replace c31:=Bool.eq_false_iff.mpr c31
    subst c31
    rw [if_neg (show ¬ (false = true) by decide)] at H
    obtain ⟨⟨t292,t293,t296⟩,A35,H⟩:=bd H
    try dsimp only at H
    replace H:=Option.bind_eq_some_iff.mp H
    obtain ⟨t300,A360,H⟩:=H
    try dsimp only at H
    have A36:=Aside0.mk A360
    clear A360
    obtain ⟨⟨t303,tNb,tSb,tOb⟩,A37,H⟩:=bd H
    try dsimp only at H
    replace H:=Option.bind_eq_some_iff.mp H
    obtain ⟨t306,A380,H⟩:=H
    try dsimp only at H
    have A38:=Aside0.mk A380
    clear A380
    by_cases c39 : t296.length + t306.length < 17592186044416
    ·rw [if_pos c39] at H
     have LMc39:=Aside0.mk c39
     clear c39
     obtain ⟨y309,hy309⟩ : ∃ y_ : List Int,y_ = (t296 ++ t306):=⟨_,rfl⟩
     replace H : ((impl_told.f kj2 t292 tSb y309).bind fun bt312=>(some (bt312.1,bt312.2.1,bt312.2.2.1,bt312.2.2.2))) = some (r1,r2,r3,r4):=by first|(rw [hy309];with_reducible exact H)|(have H2_:=(Option.bind_some _ _).symm.trans H;rw [hy309];with_reducible exact H2_)|(have H2_:=(Option.bind_some _ _).symm.trans H;with_reducible exact H2_)|with_reducible exact H|(rw [hy309];exact H)|exact H
     have Ny309:=Aside0.mk hy309
     clear hy309
     obtain ⟨⟨t312,t313,t316,t319⟩,A40,H⟩:=bd H
     try dsimp only at H
     simp only [Option.some.injEq,Prod.mk.injEq] at H
     obtain ⟨rfl,rfl,rfl,rfl⟩:=H
     have hnb41:=NB287_288.out
     have hnc41:=NB288_287.out
     have hnb42:=NB287_289.out
     have hnc42:=NB289_287.out
     have hcz43_0 : wc.cell? ⟨gb287,0,none⟩ = some (.int .i64 a0_0):=(blk_cell BK287.out 0).trans rfl
     have hcz43_1 : wc.cell? ⟨gb287,1,none⟩ = some (.slice A0_1 l0_1.length c0_1):=(blk_cell BK287.out 1).trans rfl
     have hcz43_2 : wc.cell? ⟨gb287,2,none⟩ = some (.slice A0_2 l0_2.length c0_2):=(blk_cell BK287.out 2).trans rfl
     have hfz43_0:=blk_frozen BK287.out 0
     have hfz43_1:=blk_frozen BK287.out 1
     have hfz43_2:=blk_frozen BK287.out 2
     try go_wp2_with (first|((with_reducible refine gate_callee (f:=45) rfl ?_);refine goesL_ (some 24) rfl rfl Try.func45 (by kernel_rfl) rfl #[.agg #[.int .i64 a0_0,.slice A0_1 l0_1.length c0_1,.slice A0_2 l0_2.length c0_2]] rfl mz ?_;(with_reducible refine (impl_clonePlan.calls a0_0 _ _ l0_1 _ _ l0_2 t292 t293 t296 _ ?side1 ?side2 ?side3 ?side4 A35.out).mono ?_);(case side1=>exact cz (Kd.C_below HR0_1.out HB.out));(case side2=>exact HC0_1.out);(case side3=>exact cz (Kd.C_below HR0_2.out HB.out));(case side4=>exact HC0_2.out);rintro e w44 ⟨v294,v297,rfl,ho0,ho1,hb⟩;refine ⟨_,rfl,?_⟩;have n0_:=Aside0.mk (Kd.R_lower ho0 (below_size bs));have n1_:=Aside0.mk (Kd.R_lower ho1 (below_size bs));have n2_:=Aside0.mk (kb BK287.out hb);have n3_:=Aside0.mk (kb BK288.out hb);have n4_:=Aside0.mk (kb BK289.out hb);have n5_:=Aside0.mk (below_step bs hb);clear BK287 BK288 BK289 HB;have HO295:=n0_;have HO298:=n1_;have BK287:=n2_;have BK288:=n3_;have BK289:=n4_;have HB:=n5_;clear n0_ n1_ n2_ n3_ n4_ n5_;(try clear hb);(try clear ho0);(try clear ho1))|((with_reducible refine gate_dst (N:=6) rfl ?_);refine box_event ?hg (N:=6) ?hd (cs:=#[.int .i64 0,.slice none 0 0,.slice none 0 0]) (t:=29) ?hr ?_;(case hd=>rfl);(case hg=>rfl);(case hr=>first|(go_simp;done)|(go_simp;rfl));intro gb299 hg w45 hbox hb;have n0_:=Aside0.mk (Kd.R_below (rz HO295.out) hb);have n1_:=Aside0.mk (Kd.R_below (rz HO298.out) hb);have n2_:=Aside0.mk (kb BK287.out hb);have n3_:=Aside0.mk (kb BK288.out hb);have n4_:=Aside0.mk (kb BK289.out hb);have n5_:=Aside0.mk (below_step bs hb);have n6_:=Aside0.mk (hbox);have n7_:=Aside0.mk ((by rw [hg];exact (below_size bs) : w.heap.size ≤ gb299));have n8_:=Aside0.mk ((by rw [hg];exact (below_size bs) : w.heap.size ≤ gb299));have n9_:=Aside0.mk (kn hg BK287.out);have n10_:=Aside0.mk (km hg BK287.out);have n11_:=Aside0.mk (kn hg BK288.out);have n12_:=Aside0.mk (km hg BK288.out);have n13_:=Aside0.mk (kn hg BK289.out);have n14_:=Aside0.mk (km hg BK289.out);clear HO295 HO298 BK287 BK288 BK289 HB;have HO295:=n0_;have HO298:=n1_;have BK287:=n2_;have BK288:=n3_;have BK289:=n4_;have HB:=n5_;have BK299:=n6_;have GW299:=n7_;have GE299:=n8_;have NB287_299:=n9_;have NB299_287:=n10_;have NB288_299:=n11_;have NB299_288:=n12_;have NB289_299:=n13_;have NB299_289:=n14_;clear n0_ n1_ n2_ n3_ n4_ n5_ n6_ n7_ n8_ n9_ n10_ n11_ n12_ n13_ n14_;clear hb hbox hg;have hnb46:=NB299_287.out;have hnc46:=NB287_299.out;have hnb47:=NB299_288.out;have hnc47:=NB288_299.out;have hnb48:=NB299_289.out;have hnc48:=NB289_299.out;have hcz49_0 : w45.cell? ⟨gb299,0,none⟩ = some (.int .i64 0):=(blk_cell BK299.out 0).trans rfl;have hcz49_1 : w45.cell? ⟨gb299,1,none⟩ = some (.slice none 0 0):=(blk_cell BK299.out 1).trans rfl;have hcz49_2 : w45.cell? ⟨gb299,2,none⟩ = some (.slice none 0 0):=(blk_cell BK299.out 2).trans rfl;have hfz49_0:=blk_frozen BK299.out 0;have hfz49_1:=blk_frozen BK299.out 1;have hfz49_2:=blk_frozen BK299.out 2;obtain ⟨Ao50,co50,eo50⟩:=Kd.R_slice HO295.out;subst eo50;obtain ⟨Ao51,co51,eo51⟩:=Kd.R_slice HO298.out;subst eo51))
     have n0_ : Aside0 (Kd.R k73 73 (((w45.setCell ⟨gb299,0,none⟩ (.int .i64 t292)).setCell ⟨gb299,1,none⟩ (.slice Ao50 t293.length co50)).setCell ⟨gb299,2,none⟩ (.slice Ao51 t296.length co51)) w.heap.size (fun _=>True) (.slice Ao50 t293.length co50) t293):=⟨by (with_reducible repeat (first|apply Kd.R_alloc|apply Kd.R_drewN|apply Kd.R_drew));exact Kd.R_mono (Kd.R_far (p:=⟨gb299,2,none⟩) (Kd.R_far (p:=⟨gb299,1,none⟩) (Kd.R_far (p:=⟨gb299,0,none⟩) (Kd.R_types HO295.out BK299.out (by decide)) (fun _ hk=>hk.2) (.int .i64 t292)) (fun _ hk=>hk.2) (.slice Ao50 t293.length co50)) (fun _ hk=>hk.2) (.slice Ao51 t296.length co51)) (fun _ hk=>trivial)⟩
     have n1_ : Aside0 (Kd.R (Kd.int .i64) 3 (((w45.setCell ⟨gb299,0,none⟩ (.int .i64 t292)).setCell ⟨gb299,1,none⟩ (.slice Ao50 t293.length co50)).setCell ⟨gb299,2,none⟩ (.slice Ao51 t296.length co51)) w.heap.size (fun _=>True) (.slice Ao51 t296.length co51) t296):=⟨by (with_reducible repeat (first|apply Kd.R_alloc|apply Kd.R_drewN|apply Kd.R_drew));exact Kd.R_mono (Kd.R_far (p:=⟨gb299,2,none⟩) (Kd.R_far (p:=⟨gb299,1,none⟩) (Kd.R_far (p:=⟨gb299,0,none⟩) (Kd.R_types HO298.out BK299.out (by decide)) (fun _ hk=>hk.2) (.int .i64 t292)) (fun _ hk=>hk.2) (.slice Ao50 t293.length co50)) (fun _ hk=>hk.2) (.slice Ao51 t296.length co51)) (fun _ hk=>trivial)⟩
     have n2_ : Aside0 ((((w45.setCell ⟨gb299,0,none⟩ (.int .i64 t292)).setCell ⟨gb299,1,none⟩ (.slice Ao50 t293.length co50)).setCell ⟨gb299,2,none⟩ (.slice Ao51 t296.length co51)).heap[gb287]? = some (.cells #[.int .i64 a0_0,.slice A0_1 l0_1.length c0_1,.slice A0_2 l0_2.length c0_2] 29 (0,0))):=⟨by (with_reducible repeat (first|refine blk_drewN ?_ _|refine blk_drew ?_|refine blk_alloc ?_ _));refine blk_far ?_ NB287_299.out _;(with_reducible repeat (first|refine blk_drewN ?_ _|refine blk_drew ?_|refine blk_alloc ?_ _));refine blk_far ?_ NB287_299.out _;(with_reducible repeat (first|refine blk_drewN ?_ _|refine blk_drew ?_|refine blk_alloc ?_ _));refine blk_far ?_ NB287_299.out _;(with_reducible repeat (first|refine blk_drewN ?_ _|refine blk_drew ?_|refine blk_alloc ?_ _));exact BK287.out⟩
     have n3_ : Aside0 ((((w45.setCell ⟨gb299,0,none⟩ (.int .i64 t292)).setCell ⟨gb299,1,none⟩ (.slice Ao50 t293.length co50)).setCell ⟨gb299,2,none⟩ (.slice Ao51 t296.length co51)).heap[gb288]? = some (.cells #[.int .i64 a1_0,.slice A1_1 l1_1.length c1_1,.slice A1_2 l1_2.length c1_2] 29 (0,0))):=⟨by (with_reducible repeat (first|refine blk_drewN ?_ _|refine blk_drew ?_|refine blk_alloc ?_ _));refine blk_far ?_ NB288_299.out _;(with_reducible repeat (first|refine blk_drewN ?_ _|refine blk_drew ?_|refine blk_alloc ?_ _));refine blk_far ?_ NB288_299.out _;(with_reducible repeat (first|refine blk_drewN ?_ _|refine blk_drew ?_|refine blk_alloc ?_ _));refine blk_far ?_ NB288_299.out _;(with_reducible repeat (first|refine blk_drewN ?_ _|refine blk_drew ?_|refine blk_alloc ?_ _));exact BK288.out⟩
     have n4_ : Aside0 ((((w45.setCell ⟨gb299,0,none⟩ (.int .i64 t292)).setCell ⟨gb299,1,none⟩ (.slice Ao50 t293.length co50)).setCell ⟨gb299,2,none⟩ (.slice Ao51 t296.length co51)).heap[gb289]? = some (.cells #[.int .i64 0,.slice none 0 0,.slice none 0 0] 29 (0,0))):=⟨by (with_reducible repeat (first|refine blk_drewN ?_ _|refine blk_drew ?_|refine blk_alloc ?_ _));refine blk_far ?_ NB289_299.out _;(with_reducible repeat (first|refine blk_drewN ?_ _|refine blk_drew ?_|refine blk_alloc ?_ _));refine blk_far ?_ NB289_299.out _;(with_reducible repeat (first|refine blk_drewN ?_ _|refine blk_drew ?_|refine blk_alloc ?_ _));refine blk_far ?_ NB289_299.out _;(with_reducible repeat (first|refine blk_drewN ?_ _|refine blk_drew ?_|refine blk_alloc ?_ _));exact BK289.out⟩
     have n5_ : Aside0 ((((w45.setCell ⟨gb299,0,none⟩ (.int .i64 t292)).setCell ⟨gb299,1,none⟩ (.slice Ao50 t293.length co50)).setCell ⟨gb299,2,none⟩ (.slice Ao51 t296.length co51)).heap[gb299]? = some (.cells #[.int .i64 t292,.slice Ao50 t293.length co50,.slice Ao51 t296.length co51] 29 (0,0))):=⟨by (with_reducible repeat (first|refine blk_drewN ?_ _|refine blk_drew ?_|refine blk_alloc ?_ _));refine blk_put (cs:=#[.int .i64 t292,.slice Ao50 t293.length co50,.slice none 0 0]) ?_ 2 _ rfl;(with_reducible repeat (first|refine blk_drewN ?_ _|refine blk_drew ?_|refine blk_alloc ?_ _));refine blk_put (cs:=#[.int .i64 t292,.slice none 0 0,.slice none 0 0]) ?_ 1 _ rfl;(with_reducible repeat (first|refine blk_drewN ?_ _|refine blk_drew ?_|refine blk_alloc ?_ _));refine blk_put (cs:=#[.int .i64 0,.slice none 0 0,.slice none 0 0]) ?_ 0 _ rfl;(with_reducible repeat (first|refine blk_drewN ?_ _|refine blk_drew ?_|refine blk_alloc ?_ _));exact BK299.out⟩
     have n6_ : Aside0 (Below w.heap.size w (((w45.setCell ⟨gb299,0,none⟩ (.int .i64 t292)).setCell ⟨gb299,1,none⟩ (.slice Ao50 t293.length co50)).setCell ⟨gb299,2,none⟩ (.slice Ao51 t296.length co51))):=⟨by repeat (first|(with_reducible first|exact HB.out|apply below_alloc|apply pw_below_drewN|apply below_drew1|refine below_set ?_ GE287.out|refine below_set ?_ GE288.out|refine below_set ?_ GE289.out|refine below_set ?_ GE299.out)|exact HB.out)⟩
     (try clear HO295)
     (try clear HO298)
     (try clear BK287)
     (try clear BK288)
     (try clear BK289)
     (try clear BK299)
     (try clear HB)
     generalize (((w45.setCell ⟨gb299,0,none⟩ (.int .i64 t292)).setCell ⟨gb299,1,none⟩ (.slice Ao50 t293.length co50)).setCell ⟨gb299,2,none⟩ (.slice Ao51 t296.length co51)) = w52 at n0_ n1_ n2_ n3_ n4_ n5_ n6_ ⊢
     have HO295:=n0_
     have HO298:=n1_
     have BK287:=n2_
     have BK288:=n3_
     have BK289:=n4_
     have BK299:=n5_
     have HB:=n6_
     clear n0_ n1_ n2_ n3_ n4_ n5_ n6_
     have n0_:=Aside0.mk (Kd.R_drew HO295.out)
     have n1_:=Aside0.mk (Kd.R_drew HO298.out)
     have n2_:=Aside0.mk (blk_drew BK287.out)
     have n3_:=Aside0.mk (blk_drew BK288.out)
     have n4_:=Aside0.mk (blk_drew BK289.out)
     have n5_:=Aside0.mk (blk_drew BK299.out)
     have n6_:=Aside0.mk (below_drew1 HB.out)
     clear HO295
     clear HO298
     clear BK287
     clear BK288
     clear BK289
     clear BK299
     clear HB
     have HO295:=n0_
     have HO298:=n1_
     have BK287:=n2_
     have BK288:=n3_
     have BK289:=n4_
     have BK299:=n5_
     have HB:=n6_
     clear n0_ n1_ n2_ n3_ n4_ n5_ n6_
     refine start_ (n:=12) (S:=fun w'=>w'.cell? ⟨gb299,0,none⟩ = some (.int .i64 t292) ∧ True ∧ w'.cell? ⟨gb299,2,none⟩ = some (.slice Ao51 t296.length co51) ∧ w'.cell? ⟨gb288,0,none⟩ = some (.int .i64 a1_0) ∧ w'.cell? ⟨gb288,1,none⟩ = some (.slice A1_1 l1_1.length c1_1) ∧ w'.cell? ⟨gb288,2,none⟩ = some (.slice A1_2 l1_2.length c1_2) ∧ w'.cell? ⟨gb287,0,none⟩ = some (.int .i64 a0_0) ∧ w'.cell? ⟨gb287,1,none⟩ = some (.slice A0_1 l0_1.length c0_1) ∧ w'.cell? ⟨gb287,2,none⟩ = some (.slice A0_2 l0_2.length c0_2)) (ds:=[11]) #[false,false,false,false,false,false,false,false,false,false,false,false] (by kernel_rfl) rfl rfl ⟨(blk_cell BK299.out 0).trans rfl,trivial,(blk_cell BK299.out 2).trans rfl,(blk_cell BK288.out 0).trans rfl,(blk_cell BK288.out 1).trans rfl,(blk_cell BK288.out 2).trans rfl,(blk_cell BK287.out 0).trans rfl,(blk_cell BK287.out 1).trans rfl,(blk_cell BK287.out 2).trans rfl⟩ (fun hHeld=>?_);refine with_tabW impl_JoinPlans.tab4 impl_JoinPlans.bits4 (fun HT_ HW_=>?_)
     generalize w52.drew = w53 at HO295 HO298 BK287 BK288 BK289 BK299 HB hHeld ⊢
     refine pure_ (i:=0) (N:=some 25) (v:=?_) (a':=?_) #[true,false,false,false,false,false,false,false,false,false,false,false] rfl rfl (any_of HT_.out (by kernel_rfl)) (fun _ _ _ h=>h) (Or.inl ⟨by rfl,?_⟩) ?_ ?_
     rotate_left
     ·intro w'
      go_simp
      with_reducible rfl
     rotate_left
     ·simp only [Act.put,xa,xb,xc,i64_w,i32_w]
      rfl
     refine pure_ (i:=2) (N:=some 27) (v:=?_) (a':=?_) #[true,false,true,false,false,false,false,false,false,false,false,false] rfl rfl (any_of HT_.out (by kernel_rfl)) (fun _ _ _ h=>h) (Or.inl ⟨by rfl,?_⟩) ?_ ?_
     rotate_left
     ·intro w'
      go_simp
      with_reducible rfl
     rotate_left
     ·simp only [Act.put,xa,xb,xc,i64_w,i32_w]
      rfl
     refine pure_ (i:=4) (N:=some 29) (v:=?_) (a':=?_) #[true,false,true,false,true,false,false,false,false,false,false,false] rfl rfl (any_of HT_.out (by kernel_rfl)) (fun _ _ _ h=>h) (Or.inl ⟨by rfl,?_⟩) ?_ ?_
     rotate_left
     ·intro w'
      go_simp
      with_reducible rfl
     rotate_left
     ·simp only [Act.put,xa,xb,xc,i64_w,i32_w]
      rfl
     refine take_ (i:=1) (N:=some 26) (v:=?_) (a':=?_) #[true,true,true,false,true,false,false,false,false,false,false,false] rfl rfl (take_ofW HT_.out HW_.out (by kernel_rfl)) (fun _ _ _ h=>h) (Or.inl ⟨by rfl,?_⟩) hHeld ?_ ?_
     rotate_left
     ·rintro w' ⟨s0,s1,s2,s3,s4,s5,s6,s7,s8⟩
      go_simp
      with_reducible rfl
     rotate_left
     ·simp only [Act.put,xa,xb,xc,i64_w,i32_w]
      rfl
     refine take_ (i:=3) (N:=some 28) (v:=?_) (a':=?_) #[true,true,true,true,true,false,false,false,false,false,false,false] rfl rfl (take_ofW HT_.out HW_.out (by kernel_rfl)) (fun _ _ _ h=>h) (Or.inl ⟨by rfl,?_⟩) hHeld ?_ ?_
     rotate_left
     ·rintro w' ⟨s0,s1,s2,s3,s4,s5,s6,s7,s8⟩
      go_simp
      with_reducible rfl
     rotate_left
     ·simp only [Act.put,xa,xb,xc,i64_w,i32_w]
      rfl
     refine take_ (i:=5) (N:=some 30) (v:=?_) (a':=?_) #[true,true,true,true,true,true,false,false,false,false,false,false] rfl rfl (take_ofW HT_.out HW_.out (by kernel_rfl)) (fun _ _ _ h=>h) (Or.inl ⟨by rfl,?_⟩) hHeld ?_ ?_
     rotate_left
     ·rintro w' ⟨s0,s1,s2,s3,s4,s5,s6,s7,s8⟩
      go_simp
      with_reducible rfl
     rotate_left
     ·simp only [Act.put,xa,xb,xc,i64_w,i32_w]
      rfl
     refine one_ (i:=6) (N:=some 31) #[true,true,true,true,true,true,true,false,false,false,false,false] rfl rfl (one_of HT_.out (by kernel_rfl)) (by decide) (fun K hK=>?_)
     refine goes_ Try.func48 (by kernel_rfl) rfl #[.int .i64 a0_0] (by rfl) rfl rfl mz ?_
     with_reducible refine (impl_firsts.calls kj2 a0_0 t300 _ A36.out).mono ?_
     rintro e w54 ⟨v301,rfl,ho0,hb⟩
     refine ⟨_,rfl,?_⟩
     have n0_:=Aside0.mk (Kd.R_below (rz HO295.out) hb)
     have n1_:=Aside0.mk (Kd.R_elder' (rz HO298.out) (Kd.R_base ho0) hb)
     have n2_:=Aside0.mk (Kd.R_lower (Kd.R_new' ho0 (Kd.R_lt (rz HO298.out))) (below_size bs))
     have n3_:=Aside0.mk (kb BK287.out hb)
     have n4_:=Aside0.mk (kb BK288.out hb)
     have n5_:=Aside0.mk (kb BK289.out hb)
     have n6_:=Aside0.mk (kb BK299.out hb)
     have n7_:=Aside0.mk (below_step bs hb)
     clear HO295
     clear HO298
     clear BK287
     clear BK288
     clear BK289
     clear BK299
     clear HB
     have HO295:=n0_
     have HO298:=n1_
     have HO302:=n2_
     have BK287:=n3_
     have BK288:=n4_
     have BK289:=n5_
     have BK299:=n6_
     have HB:=n7_
     clear n0_ n1_ n2_ n3_ n4_ n5_ n6_ n7_
     (try clear hb)
     (try clear ho0)
     obtain ⟨Ao55,co55,eo55⟩:=Kd.R_slice HO302.out
     (first|subst eo55|(injection eo55 with f1_ f2_ f3_;have f4_:=f1_.symm;have f5_:=f3_.symm;clear f1_ f2_ f3_;subst f4_;subst f5_))
     refine hK.out _ _ ⟨(blk_cell BK299.out 0).trans rfl,trivial,(blk_cell BK299.out 2).trans rfl,(blk_cell BK288.out 0).trans rfl,(blk_cell BK288.out 1).trans rfl,(blk_cell BK288.out 2).trans rfl,(blk_cell BK287.out 0).trans rfl,(blk_cell BK287.out 1).trans rfl,(blk_cell BK287.out 2).trans rfl⟩ (fun hHeld=>?_)
     clear hK K
     refine norm_ (a':=?_) ?_ ?_
     rotate_left
     ·show Act.put _ (some 31) _ = _
      simp only [Act.put,xa,xb,xc,i64_w,i32_w]
      rfl
     refine one_ (i:=7) (N:=some 32) #[true,true,true,true,true,true,true,true,false,false,false,false] rfl rfl (one_of HT_.out (by kernel_rfl)) (by decide) (fun K hK=>?_)
     refine goes_ Try.func47 (by kernel_rfl) rfl #[.pointer (some ⟨gb299,0,none⟩),.pointer (some ⟨gb288,0,none⟩),.slice Ao55 t300.length co55] (by rfl) rfl rfl mz ?_
     have hT3 : ∀ k_,(.slice Ao55 t300.length co55 : Value).ownBlock = some k_ → ¬ ((some k_ = (.slice Ao50 t293.length co50 : Value).ownBlock ∨ k_ = gb299) ∨ some k_ = (.slice Ao51 t296.length co51 : Value).ownBlock):=fun k_ hk_ hs_=>by rcases hs_ with (e_|e_)|e_;(exact ((Kd.R_apart' HO302.out (Kd.R_typed HO295.out) (by decide)).1 k_ hk_).2 e_);(subst e_;exact Kd.R_ne HO302.out BK299.out (by decide) hk_.symm);(have h_:=HO302.out.1 k_ hk_;first|exact h_.2 e_|exact h_.1.2 e_|exact h_.1.1.2 e_)
     with_reducible refine (impl_Plan_behind.calls kj2 gb299 t292 (fun k_=>some k_ = (.slice Ao50 t293.length co50 : Value).ownBlock ∨ k_ = gb299) (.slice Ao50 t293.length co50) t293 (fun k_=>some k_ = (.slice Ao51 t296.length co51 : Value).ownBlock) (.slice Ao51 t296.length co51) t296 gb288 a1_0 A1_1 c1_1 l1_1 A1_2 c1_2 l1_2 Ao55 co55 t300 t303 tNb tSb tOb w _ HB.out BK299.out GE299.out (.inr rfl) NB288_299.out BK288.out (Kd.R_mono (Kd.R_tight rfl HO295.out) (fun _ e_=>.inl e_)) (Kd.R_tight rfl HO298.out) (Kd.C_kept_came (⟨fun _ h=>by rw [k73_open h];exact k73_mk _ _⟩ : Kd.Heap k73) HR1_1.out HB.out (fun k_ hs_=>by rcases hs_ with (e_|e_)|e_;(exact Kd.R_base HO295.out k_ e_.symm);(rw [e_];exact GE299.out);(exact Kd.R_base HO298.out k_ e_.symm))) HC1_1.out (Kd.C_kept_came (Kd.heap_int .i64) HR1_2.out HB.out (fun k_ hs_=>by rcases hs_ with (e_|e_)|e_;(exact Kd.R_base HO295.out k_ e_.symm);(rw [e_];exact GE299.out);(exact Kd.R_base HO298.out k_ e_.symm))) HC1_2.out (Kd.C_kept_own (Kd.R_tight rfl HO302.out) (fun k_ hk_=>hT3 k_ hk_.symm)) (Kd.R_reads' HO302.out).2.1 A37.out).mono ?_
     rintro e w56 ⟨v304,vSb,vOb,rfl,⟨⟨rfl,rfl,rfl⟩⟩,hbx,ho0,hoS_,hoO_,hb,hk⟩
     refine ⟨_,rfl,?_⟩
     have n0_:=Aside0.mk (Kd.R_mono hoS_ (ok':=fun _=>True) (fun _ _=>trivial))
     have n1_:=Aside0.mk (impl_JoinPlans.keep_ok HO298.out hoO_ (fun k_ e_=>(hoO_.1 k_ e_).2))
     have n2_:=Aside0.mk (impl_JoinPlans.keep_other HO302.out hk hT3 (fun k_ e_=>(ho0.1 k_ e_).1))
     have n3_:=Aside0.mk (Kd.R_mono ho0 (ok':=fun k_=>((True ∧ some k_ ≠ (.slice Ao51 t296.length co51 : Value).ownBlock) ∧ some k_ ≠ (.slice Ao55 t300.length co55 : Value).ownBlock)) (fun k_ hk_=>⟨⟨trivial,hk_.2⟩,fun e_=>by rcases hk_.1 with h_|h_;(exact hT3 k_ e_.symm h_);(have:=Kd.R_lt HO302.out k_ e_.symm;omega)⟩))
     have n4_:=Aside0.mk (blk_kept BK287.out hk (fun hs_=>by rcases hs_ with (e_|e_)|e_;(exact Kd.R_ne HO295.out BK287.out (by decide) e_);(exact NB287_299.out e_);(exact Kd.R_ne HO298.out BK287.out (by decide) e_)))
     have n5_:=Aside0.mk (blk_kept BK288.out hk (fun hs_=>by rcases hs_ with (e_|e_)|e_;(exact Kd.R_ne HO295.out BK288.out (by decide) e_);(exact NB288_299.out e_);(exact Kd.R_ne HO298.out BK288.out (by decide) e_)))
     have n6_:=Aside0.mk (blk_kept BK289.out hk (fun hs_=>by rcases hs_ with (e_|e_)|e_;(exact Kd.R_ne HO295.out BK289.out (by decide) e_);(exact NB289_299.out e_);(exact Kd.R_ne HO298.out BK289.out (by decide) e_)))
     have n7_:=Aside0.mk (hbx)
     have n8_:=Aside0.mk (hb)
     clear HO295
     clear HO298
     clear HO302
     clear BK287
     clear BK288
     clear BK289
     clear BK299
     clear HB
     have HO295:=n0_
     have HO298:=n1_
     have HO302:=n2_
     have HO305:=n3_
     have BK287:=n4_
     have BK288:=n5_
     have BK289:=n6_
     have BK299:=n7_
     have HB:=n8_
     clear n0_ n1_ n2_ n3_ n4_ n5_ n6_ n7_ n8_
     (try clear hb)
     (try clear ho0 hoS_ hoO_ hbx hk)
     obtain ⟨Ao50b,co50b,eoSb⟩:=Kd.R_slice HO295.out
     subst eoSb
     obtain ⟨Ao57,co57,eo57⟩:=Kd.R_slice HO305.out
     (first|subst eo57|(injection eo57 with f1_ f2_ f3_;have f4_:=f1_.symm;have f5_:=f3_.symm;clear f1_ f2_ f3_;subst f4_;subst f5_))
     refine hK.out _ _ ⟨(blk_cell BK299.out 0).trans rfl,trivial,(blk_cell BK299.out 2).trans rfl,(blk_cell BK288.out 0).trans rfl,(blk_cell BK288.out 1).trans rfl,(blk_cell BK288.out 2).trans rfl,(blk_cell BK287.out 0).trans rfl,(blk_cell BK287.out 1).trans rfl,(blk_cell BK287.out 2).trans rfl⟩ (fun hHeld=>?_)
     clear hK K
     refine norm_ (a':=?_) ?_ ?_
     rotate_left
     ·show Act.put _ (some 32) _ = _
      simp only [Act.put,xa,xb,xc,i64_w,i32_w]
      rfl
     refine one_ (i:=8) (N:=some 33) #[true,true,true,true,true,true,true,true,true,false,false,false] rfl rfl (one_of HT_.out (by kernel_rfl)) (by decide) (fun K hK=>?_)
     refine goes_ Try.func46 (by kernel_rfl) rfl #[.slice A1_2 l1_2.length c1_2,.slice Ao57 t303.length co57] (by rfl) rfl rfl mz ?_
     with_reducible refine (impl_renamed.calls kj2 _ _ l1_2 _ _ t303 t306 _ ?side1 ?side2 ?side3 ?side4 A38.out).mono ?_
     (case side1=>exact cz (Kd.C_below HR1_2.out HB.out))
     (case side2=>exact HC1_2.out)
     (case side3=>exact cz (Kd.R_reads' HO305.out).2.2)
     (case side4=>exact (Kd.R_reads' HO305.out).2.1)
     rintro e w58 ⟨v307,rfl,ho0,hb⟩
     refine ⟨_,rfl,?_⟩
     have n0_:=Aside0.mk (Kd.R_below (rz HO295.out) hb)
     have n1_:=Aside0.mk (Kd.R_elder' (rz HO298.out) (Kd.R_base ho0) hb)
     have n2_:=Aside0.mk (Kd.R_elder' (rz HO302.out) (Kd.R_base ho0) hb)
     have n3_:=Aside0.mk (Kd.R_elder' (rz HO305.out) (Kd.R_base ho0) hb)
     have n4_:=Aside0.mk (Kd.R_lower (Kd.R_new' (Kd.R_new' (Kd.R_new' ho0 (Kd.R_lt (rz HO298.out))) (Kd.R_lt (rz HO302.out))) (Kd.R_lt (rz HO305.out))) (below_size bs))
     have n5_:=Aside0.mk (kb BK287.out hb)
     have n6_:=Aside0.mk (kb BK288.out hb)
     have n7_:=Aside0.mk (kb BK289.out hb)
     have n8_:=Aside0.mk (kb BK299.out hb)
     have n9_:=Aside0.mk (below_step bs hb)
     clear HO295
     clear HO298
     clear HO302
     clear HO305
     clear BK287
     clear BK288
     clear BK289
     clear BK299
     clear HB
     have HO295:=n0_
     have HO298:=n1_
     have HO302:=n2_
     have HO305:=n3_
     have HO308:=n4_
     have BK287:=n5_
     have BK288:=n6_
     have BK289:=n7_
     have BK299:=n8_
     have HB:=n9_
     clear n0_ n1_ n2_ n3_ n4_ n5_ n6_ n7_ n8_ n9_
     (try clear hb)
     (try clear ho0)
     obtain ⟨Ao60,co60,eo60⟩:=Kd.R_slice HO308.out
     (first|subst eo60|(injection eo60 with f1_ f2_ f3_;have f4_:=f1_.symm;have f5_:=f3_.symm;clear f1_ f2_ f3_;subst f4_;subst f5_))
     refine hK.out _ _ ⟨(blk_cell BK299.out 0).trans rfl,trivial,(blk_cell BK299.out 2).trans rfl,(blk_cell BK288.out 0).trans rfl,(blk_cell BK288.out 1).trans rfl,(blk_cell BK288.out 2).trans rfl,(blk_cell BK287.out 0).trans rfl,(blk_cell BK287.out 1).trans rfl,(blk_cell BK287.out 2).trans rfl⟩ (fun hHeld=>?_)
     clear hK K
     refine norm_ (a':=?_) ?_ ?_
     rotate_left
     ·show Act.put _ (some 33) _ = _
      simp only [Act.put,xa,xb,xc,i64_w,i32_w]
      rfl
     refine one_ (i:=9) (N:=some 34) #[true,true,true,true,true,true,true,true,true,true,false,false] rfl rfl (one_of HT_.out (by kernel_rfl)) (by decide) (fun K hK=>?_)
     refine Kd.R_append_rows_step (Kd.int .i64) (w0:=w) w.heap.size (by rfl) (.tmp 26) (.tmp 33) 23 3 (.int .i64 0) 8 rfl Try.underlying23 info3 rfl (by decide) (by omega) (.slice Ao51 t296.length co51) t296 t306 _ _ _ (fun k_=>some k_ ≠ (.slice Ao55 t300.length co55 : Value).ownBlock ∧ some k_ ≠ (.slice Ao57 t303.length co57 : Value).ownBlock ∧ some k_ ≠ (.slice Ao60 t306.length co60 : Value).ownBlock) (fun _=>False) rfl rfl ?aO ?aR (fun _ _ h=>h) (fun _ h=>h.elim) ?aF ?aB ?aS ?aL ?_
     (case aR=>repeat (first|exact (Kd.R_reads' HO308.out).2.2|(with_reducible refine Kd.C_alloc ?_ _)|(with_reducible refine Kd.C_drewN ?_ _)|(with_reducible refine Kd.C_drew ?_)))
     (case aB=>exact bs)
     (case aF=>exact (fun k_ hk=>⟨Kd.fresh' (Kd.R_lt (rz HO302.out)) k_ hk,Kd.fresh' (Kd.R_lt (rz HO305.out)) k_ hk,Kd.fresh' (Kd.R_lt (rz HO308.out)) k_ hk⟩))
     (case aO=>exact (by (with_reducible repeat (first|apply Kd.R_alloc|apply Kd.R_drewN|apply Kd.R_drew));exact Kd.R_mono HO298.out (fun _ hk=>⟨hk.1.1.2,⟨hk.1.2,hk.2⟩⟩)))
     (case aS=>exact (below_size bs))
     (case aL=>have:=LMc39.out;omega)
     intro v310 w59 ho hb hg hat
     rw [← Ny309.out] at ho
     have n0_:=Aside0.mk (blk_grown (g:=gb287) (o:=.cells #[.int .i64 a0_0,.slice A0_1 l0_1.length c0_1,.slice A0_2 l0_2.length c0_2] 29 (0,0)) (kz BK287.out) hg (Kd.R_ne HO298.out BK287.out (by decide)))
     have n1_:=Aside0.mk (blk_grown (g:=gb288) (o:=.cells #[.int .i64 a1_0,.slice A1_1 l1_1.length c1_1,.slice A1_2 l1_2.length c1_2] 29 (0,0)) (kz BK288.out) hg (Kd.R_ne HO298.out BK288.out (by decide)))
     have n2_:=Aside0.mk (blk_grown (g:=gb289) (o:=.cells #[.int .i64 0,.slice none 0 0,.slice none 0 0] 29 (0,0)) (kz BK289.out) hg (Kd.R_ne HO298.out BK289.out (by decide)))
     have n3_:=Aside0.mk (Kd.R_over' (rz HO295.out) (Kd.R_typed (rz HO298.out)) (by decide) hg)
     have n4_:=Aside0.mk (blk_grown (g:=gb299) (o:=.cells #[.int .i64 t292,.slice Ao50b tSb.length co50b,.slice Ao51 t296.length co51] 29 (0,0)) (kz BK299.out) hg (Kd.R_ne HO298.out BK299.out (by decide)))
     have n5_:=Aside0.mk (Kd.R_after (ok:=(fun k_=>some k_ ≠ (.slice Ao57 t303.length co57 : Value).ownBlock ∧ some k_ ≠ (.slice Ao60 t306.length co60 : Value).ownBlock)) (by (with_reducible repeat (first|apply Kd.R_alloc|apply Kd.R_drewN|apply Kd.R_drew));exact Kd.R_mono HO302.out (fun _ hk=>⟨⟨hk.1.2,hk.2⟩,hk.1.1.2⟩)) hg hat)
     have n6_:=Aside0.mk (Kd.R_after (ok:=(fun k_=>some k_ ≠ (.slice Ao55 t300.length co55 : Value).ownBlock ∧ some k_ ≠ (.slice Ao60 t306.length co60 : Value).ownBlock)) (by (with_reducible repeat (first|apply Kd.R_alloc|apply Kd.R_drewN|apply Kd.R_drew));exact Kd.R_mono HO305.out (fun _ hk=>⟨⟨hk.1.2,hk.2⟩,hk.1.1.2⟩)) hg hat)
     have n7_:=Aside0.mk (Kd.R_after (ok:=(fun k_=>some k_ ≠ (.slice Ao55 t300.length co55 : Value).ownBlock ∧ some k_ ≠ (.slice Ao57 t303.length co57 : Value).ownBlock)) (by (with_reducible repeat (first|apply Kd.R_alloc|apply Kd.R_drewN|apply Kd.R_drew));exact Kd.R_mono HO308.out (fun _ hk=>⟨⟨hk.1.2,hk.2⟩,hk.1.1.2⟩)) hg hat)
     have n8_:=Aside0.mk (hb)
     have n9_:=Aside0.mk (ho)
     clear BK287
     clear BK288
     clear BK289
     clear HO295
     clear BK299
     clear HO302
     clear HO305
     clear HO308
     clear HB
     clear HO298
     have BK287:=n0_
     have BK288:=n1_
     have BK289:=n2_
     have HO295:=n3_
     have BK299:=n4_
     have HO302:=n5_
     have HO305:=n6_
     have HO308:=n7_
     have HB:=n8_
     have HO311:=n9_
     clear n0_ n1_ n2_ n3_ n4_ n5_ n6_ n7_ n8_ n9_
     clear ho hb hg hat
     obtain ⟨Ao61,co61,eo61⟩:=Kd.R_slice HO311.out
     (first|subst eo61|(injection eo61 with f1_ f2_ f3_;have f4_:=f1_.symm;have f5_:=f3_.symm;clear f1_ f2_ f3_;subst f4_;subst f5_))
     refine hK.out _ _ ⟨(blk_cell BK299.out 0).trans rfl,trivial,(blk_cell BK299.out 2).trans rfl,(blk_cell BK288.out 0).trans rfl,(blk_cell BK288.out 1).trans rfl,(blk_cell BK288.out 2).trans rfl,(blk_cell BK287.out 0).trans rfl,(blk_cell BK287.out 1).trans rfl,(blk_cell BK287.out 2).trans rfl⟩ (fun hHeld=>?_)
     clear hK K
     refine norm_ (a':=?_) ?_ ?_
     rotate_left
     ·show Act.put _ (some 34) _ = _
      simp only [Act.put,xa,xb,xc,i64_w,i32_w]
      rfl
     refine pure_ (i:=10) (N:=some 35) (v:=?_) (a':=?_) #[true,true,true,true,true,true,true,true,true,true,true,false] rfl rfl (any_of HT_.out (by kernel_rfl)) (fun _ _ _ h=>h) (Or.inl ⟨by rfl,?_⟩) ?_ ?_
     rotate_left
     ·intro w'
      go_simp
      with_reducible rfl
     rotate_left
     ·simp only [Act.put,xa,xb,xc,i64_w,i32_w]
      rfl
     refine last_ (i:=11) (N:=none) #[true,true,true,true,true,true,true,true,true,true,true,true] rfl rfl (one_of HT_.out (by kernel_rfl)) (by decide) (fun K hK=>?_)
     have hs62 : w59.cell? ⟨gb299,2,none⟩ = some (.slice Ao51 t296.length co51):=(blk_cell BK299.out 2).trans rfl
     have hfs62:=blk_frozen BK299.out 2
     have hns62_0:=NB287_299.out
     have hns62_1:=NB288_299.out
     have hns62_2:=NB289_299.out
     have hms62_0:=NB299_287.out
     have hms62_1:=NB299_288.out
     have hms62_2:=NB299_289.out
     refine skip_ (w1:=?_) (by rfl) rfl ?_ ?_
     rotate_left
     ·go_simp
      rfl
     refine hK.out _ _ ?_
     clear hK K
     refine done_ (done_of HT_.out (by kernel_rfl)) ?_
     have n0_ : Aside0 (Kd.R k73 73 (w59.setCell ⟨gb299,2,none⟩ (.slice Ao61 y309.length co61)) w.heap.size (fun _=>True) (.slice Ao50b tSb.length co50b) tSb):=⟨by (with_reducible repeat (first|apply Kd.R_alloc|apply Kd.R_drewN|apply Kd.R_drew));exact Kd.R_mono (Kd.R_far (p:=⟨gb299,2,none⟩) (Kd.R_types HO295.out BK299.out (by decide)) (fun _ hk=>hk.2) (.slice Ao61 y309.length co61)) (fun _ hk=>trivial)⟩
     have n1_ : Aside0 (Kd.R (Kd.int .i64) 3 (w59.setCell ⟨gb299,2,none⟩ (.slice Ao61 y309.length co61)) w.heap.size (fun k_=>some k_ ≠ (.slice Ao57 t303.length co57 : Value).ownBlock ∧ some k_ ≠ (.slice Ao60 t306.length co60 : Value).ownBlock ∧ some k_ ≠ (.slice Ao61 y309.length co61 : Value).ownBlock) (.slice Ao55 t300.length co55) t300):=⟨by (with_reducible repeat (first|apply Kd.R_alloc|apply Kd.R_drewN|apply Kd.R_drew));exact Kd.R_mono (Kd.R_far (p:=⟨gb299,2,none⟩) (Kd.R_types HO302.out BK299.out (by decide)) (fun _ hk=>hk.2) (.slice Ao61 y309.length co61)) (fun _ hk=>⟨hk.1.1.1,⟨hk.1.1.2,hk.1.2⟩⟩)⟩
     have n2_ : Aside0 (Kd.R (Kd.int .i64) 3 (w59.setCell ⟨gb299,2,none⟩ (.slice Ao61 y309.length co61)) w.heap.size (fun k_=>some k_ ≠ (.slice Ao55 t300.length co55 : Value).ownBlock ∧ some k_ ≠ (.slice Ao60 t306.length co60 : Value).ownBlock ∧ some k_ ≠ (.slice Ao61 y309.length co61 : Value).ownBlock) (.slice Ao57 t303.length co57) t303):=⟨by (with_reducible repeat (first|apply Kd.R_alloc|apply Kd.R_drewN|apply Kd.R_drew));exact Kd.R_mono (Kd.R_far (p:=⟨gb299,2,none⟩) (Kd.R_types HO305.out BK299.out (by decide)) (fun _ hk=>hk.2) (.slice Ao61 y309.length co61)) (fun _ hk=>⟨hk.1.1.1,⟨hk.1.1.2,hk.1.2⟩⟩)⟩
     have n3_ : Aside0 (Kd.R (Kd.int .i64) 3 (w59.setCell ⟨gb299,2,none⟩ (.slice Ao61 y309.length co61)) w.heap.size (fun k_=>some k_ ≠ (.slice Ao55 t300.length co55 : Value).ownBlock ∧ some k_ ≠ (.slice Ao57 t303.length co57 : Value).ownBlock ∧ some k_ ≠ (.slice Ao61 y309.length co61 : Value).ownBlock) (.slice Ao60 t306.length co60) t306):=⟨by (with_reducible repeat (first|apply Kd.R_alloc|apply Kd.R_drewN|apply Kd.R_drew));exact Kd.R_mono (Kd.R_far (p:=⟨gb299,2,none⟩) (Kd.R_types HO308.out BK299.out (by decide)) (fun _ hk=>hk.2) (.slice Ao61 y309.length co61)) (fun _ hk=>⟨hk.1.1.1,⟨hk.1.1.2,hk.1.2⟩⟩)⟩
     have n4_ : Aside0 (Kd.R (Kd.int .i64) 3 (w59.setCell ⟨gb299,2,none⟩ (.slice Ao61 y309.length co61)) w.heap.size (fun k_=>some k_ ≠ (.slice Ao55 t300.length co55 : Value).ownBlock ∧ some k_ ≠ (.slice Ao57 t303.length co57 : Value).ownBlock ∧ some k_ ≠ (.slice Ao60 t306.length co60 : Value).ownBlock) (.slice Ao61 y309.length co61) y309):=⟨by (with_reducible repeat (first|apply Kd.R_alloc|apply Kd.R_drewN|apply Kd.R_drew));exact Kd.R_mono (Kd.R_far (p:=⟨gb299,2,none⟩) (Kd.R_types HO311.out BK299.out (by decide)) (fun _ hk=>hk.2) (.slice Ao61 y309.length co61)) (fun _ hk=>⟨hk.1.1,⟨hk.1.2.1,hk.1.2.2⟩⟩)⟩
     have n5_ : Aside0 ((w59.setCell ⟨gb299,2,none⟩ (.slice Ao61 y309.length co61)).heap[gb287]? = some (.cells #[.int .i64 a0_0,.slice A0_1 l0_1.length c0_1,.slice A0_2 l0_2.length c0_2] 29 (0,0))):=⟨by (with_reducible repeat (first|refine blk_drewN ?_ _|refine blk_drew ?_|refine blk_alloc ?_ _));refine blk_far ?_ NB287_299.out _;(with_reducible repeat (first|refine blk_drewN ?_ _|refine blk_drew ?_|refine blk_alloc ?_ _));exact BK287.out⟩
     have n6_ : Aside0 ((w59.setCell ⟨gb299,2,none⟩ (.slice Ao61 y309.length co61)).heap[gb288]? = some (.cells #[.int .i64 a1_0,.slice A1_1 l1_1.length c1_1,.slice A1_2 l1_2.length c1_2] 29 (0,0))):=⟨by (with_reducible repeat (first|refine blk_drewN ?_ _|refine blk_drew ?_|refine blk_alloc ?_ _));refine blk_far ?_ NB288_299.out _;(with_reducible repeat (first|refine blk_drewN ?_ _|refine blk_drew ?_|refine blk_alloc ?_ _));exact BK288.out⟩
     have n7_ : Aside0 ((w59.setCell ⟨gb299,2,none⟩ (.slice Ao61 y309.length co61)).heap[gb289]? = some (.cells #[.int .i64 0,.slice none 0 0,.slice none 0 0] 29 (0,0))):=⟨by (with_reducible repeat (first|refine blk_drewN ?_ _|refine blk_drew ?_|refine blk_alloc ?_ _));refine blk_far ?_ NB289_299.out _;(with_reducible repeat (first|refine blk_drewN ?_ _|refine blk_drew ?_|refine blk_alloc ?_ _));exact BK289.out⟩
     have n8_ : Aside0 ((w59.setCell ⟨gb299,2,none⟩ (.slice Ao61 y309.length co61)).heap[gb299]? = some (.cells #[.int .i64 t292,.slice Ao50b tSb.length co50b,.slice Ao61 y309.length co61] 29 (0,0))):=⟨by (with_reducible repeat (first|refine blk_drewN ?_ _|refine blk_drew ?_|refine blk_alloc ?_ _));refine blk_put (cs:=#[.int .i64 t292,.slice Ao50b tSb.length co50b,.slice Ao51 t296.length co51]) ?_ 2 _ rfl;(with_reducible repeat (first|refine blk_drewN ?_ _|refine blk_drew ?_|refine blk_alloc ?_ _));exact BK299.out⟩
     have n9_ : Aside0 (Below w.heap.size w (w59.setCell ⟨gb299,2,none⟩ (.slice Ao61 y309.length co61))):=⟨by repeat (first|(with_reducible first|exact HB.out|apply below_alloc|apply pw_below_drewN|apply below_drew1|refine below_set ?_ GE287.out|refine below_set ?_ GE288.out|refine below_set ?_ GE289.out|refine below_set ?_ GE299.out)|exact HB.out)⟩
     (try clear HO295)
     (try clear HO302)
     (try clear HO305)
     (try clear HO308)
     (try clear HO311)
     (try clear BK287)
     (try clear BK288)
     (try clear BK289)
     (try clear BK299)
     (try clear HB)
     generalize (w59.setCell ⟨gb299,2,none⟩ (.slice Ao61 y309.length co61)) = w63 at n0_ n1_ n2_ n3_ n4_ n5_ n6_ n7_ n8_ n9_ ⊢
     have HO295:=n0_
     have HO302:=n1_
     have HO305:=n2_
     have HO308:=n3_
     have HO311:=n4_
     have BK287:=n5_
     have BK288:=n6_
     have BK289:=n7_
     have BK299:=n8_
     have HB:=n9_
     clear n0_ n1_ n2_ n3_ n4_ n5_ n6_ n7_ n8_ n9_
     have hcz64_0 : w63.cell? ⟨gb299,0,none⟩ = some (.int .i64 t292):=(blk_cell BK299.out 0).trans rfl
     have hcz64_1 : w63.cell? ⟨gb299,1,none⟩ = some (.slice Ao50b tSb.length co50b):=(blk_cell BK299.out 1).trans rfl
     have hcz64_2 : w63.cell? ⟨gb299,2,none⟩ = some (.slice Ao61 y309.length co61):=(blk_cell BK299.out 2).trans rfl
     have hfz64_0:=blk_frozen BK299.out 0
     have hfz64_1:=blk_frozen BK299.out 1
     have hfz64_2:=blk_frozen BK299.out 2
     try go_wp2_with (first|((with_reducible refine gate_callee (f:=49) rfl ?_);refine goesL_ (some 37) rfl rfl Try.func49 (by kernel_rfl) rfl #[.agg #[.int .i64 t292,.slice Ao50b tSb.length co50b,.slice Ao61 y309.length co61]] rfl mz ?_;(with_reducible refine (impl_told.calls kj2 t292 (fun k_=>some k_ = (.slice Ao50b tSb.length co50b : Value).ownBlock) (.slice Ao50b tSb.length co50b) tSb (fun k_=>some k_ = (.slice Ao61 y309.length co61 : Value).ownBlock) (.slice Ao61 y309.length co61) y309 t312 t313 t316 t319 w _ ?side1 ?side2 ?side3 A40.out).mono ?_);(case side1=>repeat (first|(with_reducible first|exact HB.out|apply below_alloc|apply pw_below_drewN|apply below_drew1|refine below_set ?_ GE287.out|refine below_set ?_ GE288.out|refine below_set ?_ GE289.out|refine below_set ?_ GE299.out)|exact HB.out));(case side2=>exact Kd.R_tight rfl HO295.out);(case side3=>exact Kd.R_tight rfl HO311.out);rintro e w65 ⟨v314,v317,rfl,ho0,ho1,hb,hkp⟩;refine ⟨_,rfl,?_⟩;have n0_:=Aside0.mk (blk_kept (kz BK287.out) hkp (fun hs_=>Or.elim hs_ (fun e_=>(fun e_=>(Kd.R_ne HO295.out BK287.out (by decide)) e_) e_) (fun e_=>(fun e_=>(Kd.R_ne HO311.out BK287.out (by decide)) e_) e_)));have n1_:=Aside0.mk (blk_kept (kz BK288.out) hkp (fun hs_=>Or.elim hs_ (fun e_=>(fun e_=>(Kd.R_ne HO295.out BK288.out (by decide)) e_) e_) (fun e_=>(fun e_=>(Kd.R_ne HO311.out BK288.out (by decide)) e_) e_)));have n2_:=Aside0.mk (blk_kept (kz BK289.out) hkp (fun hs_=>Or.elim hs_ (fun e_=>(fun e_=>(Kd.R_ne HO295.out BK289.out (by decide)) e_) e_) (fun e_=>(fun e_=>(Kd.R_ne HO311.out BK289.out (by decide)) e_) e_)));have n3_:=Aside0.mk (blk_kept (kz BK299.out) hkp (fun hs_=>Or.elim hs_ (fun e_=>(fun e_=>(Kd.R_ne HO295.out BK299.out (by decide)) e_) e_) (fun e_=>(fun e_=>(Kd.R_ne HO311.out BK299.out (by decide)) e_) e_)));have n4_:=Aside0.mk (Kd.R_mono (ok':=fun k_=>some k_ ≠ (.slice Ao57 t303.length co57 : Value).ownBlock ∧ some k_ ≠ (.slice Ao60 t306.length co60 : Value).ownBlock ∧ some k_ ≠ (v317 : Value).ownBlock) (Kd.R_keptB ((Kd.R_apart' HO302.out (Kd.R_typed HO295.out) (by decide))) hkp (fun k_ hk_ hs_=>Or.elim hs_ (fun e_=>(hk_.2) e_) (fun e_=>(hk_.1.2.2) e_))) (fun k_ hk_=>⟨hk_.1.1.1,hk_.1.1.2.1,fun e_=>Or.elim (ho1.1 k_ e_.symm) (fun hs_=>hk_.2.1 hs_) (fun hn_=>Nat.not_le.2 hk_.2.2 hn_)⟩));have n5_:=Aside0.mk (Kd.R_mono (ok':=fun k_=>some k_ ≠ (.slice Ao55 t300.length co55 : Value).ownBlock ∧ some k_ ≠ (.slice Ao60 t306.length co60 : Value).ownBlock ∧ some k_ ≠ (v317 : Value).ownBlock) (Kd.R_keptB ((Kd.R_apart' HO305.out (Kd.R_typed HO295.out) (by decide))) hkp (fun k_ hk_ hs_=>Or.elim hs_ (fun e_=>(hk_.2) e_) (fun e_=>(hk_.1.2.2) e_))) (fun k_ hk_=>⟨hk_.1.1.1,hk_.1.1.2.1,fun e_=>Or.elim (ho1.1 k_ e_.symm) (fun hs_=>hk_.2.1 hs_) (fun hn_=>Nat.not_le.2 hk_.2.2 hn_)⟩));have n6_:=Aside0.mk (Kd.R_mono (ok':=fun k_=>some k_ ≠ (.slice Ao55 t300.length co55 : Value).ownBlock ∧ some k_ ≠ (.slice Ao57 t303.length co57 : Value).ownBlock ∧ some k_ ≠ (v317 : Value).ownBlock) (Kd.R_keptB ((Kd.R_apart' HO308.out (Kd.R_typed HO295.out) (by decide))) hkp (fun k_ hk_ hs_=>Or.elim hs_ (fun e_=>(hk_.2) e_) (fun e_=>(hk_.1.2.2) e_))) (fun k_ hk_=>⟨hk_.1.1.1,hk_.1.1.2.1,fun e_=>Or.elim (ho1.1 k_ e_.symm) (fun hs_=>hk_.2.1 hs_) (fun hn_=>Nat.not_le.2 hk_.2.2 hn_)⟩));have n7_:=Aside0.mk (Kd.R_mono (ok':=fun k_=>True) ho0 (fun k_ hk_=>trivial));have n8_:=Aside0.mk (Kd.R_mono (ok':=fun k_=>some k_ ≠ (.slice Ao55 t300.length co55 : Value).ownBlock ∧ some k_ ≠ (.slice Ao57 t303.length co57 : Value).ownBlock ∧ some k_ ≠ (.slice Ao60 t306.length co60 : Value).ownBlock) ho1 (fun k_ hk_=>⟨Or.elim hk_ (fun hs_=>Or.elim hs_ (fun hs_=>fun e_=>((((Kd.R_apart' HO302.out (Kd.R_typed HO295.out) (by decide))).1 k_ e_.symm).2) hs_) (fun hs_=>fun e_=>((((Kd.R_apart' HO302.out (Kd.R_typed HO295.out) (by decide))).1 k_ e_.symm).1.2.2) hs_)) (fun hn_=>(Kd.fresh' (Kd.R_lt (rz HO302.out)) k_ hn_)),Or.elim hk_ (fun hs_=>Or.elim hs_ (fun hs_=>fun e_=>((((Kd.R_apart' HO305.out (Kd.R_typed HO295.out) (by decide))).1 k_ e_.symm).2) hs_) (fun hs_=>fun e_=>((((Kd.R_apart' HO305.out (Kd.R_typed HO295.out) (by decide))).1 k_ e_.symm).1.2.2) hs_)) (fun hn_=>(Kd.fresh' (Kd.R_lt (rz HO305.out)) k_ hn_)),Or.elim hk_ (fun hs_=>Or.elim hs_ (fun hs_=>fun e_=>((((Kd.R_apart' HO308.out (Kd.R_typed HO295.out) (by decide))).1 k_ e_.symm).2) hs_) (fun hs_=>fun e_=>((((Kd.R_apart' HO308.out (Kd.R_typed HO295.out) (by decide))).1 k_ e_.symm).1.2.2) hs_)) (fun hn_=>(Kd.fresh' (Kd.R_lt (rz HO308.out)) k_ hn_))⟩));have n9_:=Aside0.mk (hb);clear BK287 BK288 BK289 BK299 HO302 HO305 HO308 HB HO295 HO311;have BK287:=n0_;have BK288:=n1_;have BK289:=n2_;have BK299:=n3_;have HO302:=n4_;have HO305:=n5_;have HO308:=n6_;have HO315:=n7_;have HO318:=n8_;have HB:=n9_;clear n0_ n1_ n2_ n3_ n4_ n5_ n6_ n7_ n8_ n9_;(try clear hb);(try clear hkp);(try clear ho0);(try clear ho1);have hnb66:=NB289_288.out;have hnc66:=NB288_289.out;have hcz67_0 : w65.cell? ⟨gb289,0,none⟩ = some (.int .i64 0):=(blk_cell BK289.out 0).trans rfl;have hcz67_1 : w65.cell? ⟨gb289,1,none⟩ = some (.slice none 0 0):=(blk_cell BK289.out 1).trans rfl;have hcz67_2 : w65.cell? ⟨gb289,2,none⟩ = some (.slice none 0 0):=(blk_cell BK289.out 2).trans rfl;have hfz67_0:=blk_frozen BK289.out 0;have hfz67_1:=blk_frozen BK289.out 1;have hfz67_2:=blk_frozen BK289.out 2;obtain ⟨Ao68,co68,eo68⟩:=Kd.R_slice HO315.out;subst eo68;obtain ⟨Ao69,co69,eo69⟩:=Kd.R_slice HO318.out;subst eo69))
     refine bodyPost_ret (results_ct rfl _ _ gb289 29 #[.int .i64 t312,.slice Ao68 t313.length co68,.slice Ao69 t316.length co69] (0,0) _ rfl (by (with_reducible repeat (first|refine blk_drewN ?_ _|refine blk_drew ?_|refine blk_alloc ?_ _));refine blk_put (cs:=#[.int .i64 t312,.slice Ao68 t313.length co68,.slice none 0 0]) ?_ 2 _ rfl;(with_reducible repeat (first|refine blk_drewN ?_ _|refine blk_drew ?_|refine blk_alloc ?_ _));refine blk_put (cs:=#[.int .i64 t312,.slice none 0 0,.slice none 0 0]) ?_ 1 _ rfl;(with_reducible repeat (first|refine blk_drewN ?_ _|refine blk_drew ?_|refine blk_alloc ?_ _));refine blk_put (cs:=#[.int .i64 0,.slice none 0 0,.slice none 0 0]) ?_ 0 _ rfl;(with_reducible repeat (first|refine blk_drewN ?_ _|refine blk_drew ?_|refine blk_alloc ?_ _));exact BK289.out) Try.underlying29 rfl (by kernel_rfl)) rfl ?_
     exact ⟨_,_,by first|rfl|(simp [errW_none,errW_some] <;> rfl)|(simp [*,errW_none,errW_some] <;> rfl),by (with_reducible repeat (first|apply Kd.R_alloc|apply Kd.R_drewN|apply Kd.R_drew));exact Kd.R_mono (Kd.R_far (p:=⟨gb289,2,none⟩) (Kd.R_far (p:=⟨gb289,1,none⟩) (Kd.R_far (p:=⟨gb289,0,none⟩) (Kd.R_types HO315.out BK289.out (by decide)) (fun _ hk=>hk.2) (.int .i64 t312)) (fun _ hk=>hk.2) (.slice Ao68 t313.length co68)) (fun _ hk=>hk.2) (.slice Ao69 t316.length co69)) (fun _ hk=>trivial),by (with_reducible repeat (first|apply Kd.R_alloc|apply Kd.R_drewN|apply Kd.R_drew));exact Kd.R_mono (Kd.R_far (p:=⟨gb289,2,none⟩) (Kd.R_far (p:=⟨gb289,1,none⟩) (Kd.R_far (p:=⟨gb289,0,none⟩) (Kd.R_types HO318.out BK289.out (by decide)) (fun _ hk=>hk.2) (.int .i64 t312)) (fun _ hk=>hk.2) (.slice Ao68 t313.length co68)) (fun _ hk=>hk.2) (.slice Ao69 t316.length co69)) (fun _ hk=>trivial),by repeat (first|(with_reducible first|exact HB.out|apply below_alloc|apply pw_below_drewN|apply below_drew1|refine below_set ?_ GE287.out|refine below_set ?_ GE288.out|refine below_set ?_ GE289.out|refine below_set ?_ GE299.out)|exact HB.out)⟩
    ·rw [if_neg c39] at H
     exact absurd H (by simp)
/-! ### laws_eqIntS: function 20 -/
def laws_eqIntS.l0 : Nat → List Int → List Int → Int → Option (Bool)
 | 0,_,_,_=>none
 | k + 1,x0,x1,x5=>if x5 < (x0.length : Int) then (if 0 ≤ x5 then (if x5 < (x1.length : Int) then (if (rd x0 x5) = (rd x1 x5) then (laws_eqIntS.l0 k x0 x1 (wrap64 (x5 + 1))) else (some false)) else (none)) else (none)) else (some true)
def laws_eqIntS.f (k : Nat) (l0 : List Int) (l1 : List Int) : Option (Bool):=if (l0.length : Int) = (l1.length : Int) then (laws_eqIntS.l0 k l0 l1 0) else (some false)
theorem laws_eqIntS.mono_l : ∀ k,(∀ y0 y1 y2,LeO (laws_eqIntS.l0 k y0 y1 y2) (laws_eqIntS.l0 (k + 1) y0 y1 y2))
 | 0=>fun _ _ _ r h=>by simp [laws_eqIntS.l0] at h
 | k + 1=>by
  have ih0:=laws_eqIntS.mono_l k
  ·intro y0 y1 y2
   unfold laws_eqIntS.l0
   repeat' first
   | (with_reducible exact ih0 _ _ _)
   | (with_reducible exact LeO.refl _)
   | (with_reducible exact LeO.none _)
   | (with_reducible refine LeO.ite ?_ ?_)
   | (with_reducible refine LeO.bind ?_ (fun _=>?_))
   | exact ih0 _ _ _
   | exact LeO.none _
   | refine LeO.ite ?_ ?_
   | refine LeO.bind ?_ (fun _=>?_)
theorem laws_eqIntS.mono : ∀ a0 a1 k,LeO (laws_eqIntS.f k a0 a1) (laws_eqIntS.f (k + 1) a0 a1):=by
 intro a0 a1 k
 have ih0:=laws_eqIntS.mono_l k
 unfold laws_eqIntS.f
 repeat' first
   | (with_reducible exact ih0 _ _ _)
   | (with_reducible exact LeO.refl _)
   | (with_reducible exact LeO.none _)
   | (with_reducible refine LeO.ite ?_ ?_)
   | (with_reducible refine LeO.bind ?_ (fun _=>?_))
   | exact ih0 _ _ _
   | exact LeO.none _
   | refine LeO.ite ?_ ?_
   | refine LeO.bind ?_ (fun _=>?_)
set_option maxHeartbeats 8000000 in
set_option maxRecDepth 100000 in
theorem laws_eqIntS.calls (k : Nat) (A0 : Option Addr) (c0 : Nat) (l0 : List Int) (A1 : Option Addr) (c1 : Nat) (l1 : List Int) (r : Bool) (w : World) (hr0 : Kd.C (Kd.int .i64) w A0 l0.length l0) (hc0 : l0.length ≤ c0) (hr1 : Kd.C (Kd.int .i64) w A1 l1.length l1) (hc1 : l1.length ≤ c1) (h : laws_eqIntS.f k l0 l1 = some r) :
  Calls Try.prog 20 #[.slice A0 l0.length c0,.slice A1 l1.length c1] w fun e w'=>e = .returned (.bool r) ∧ Drawn0 w w':=by
 have HR0:=Aside0.mk hr0
 have HC0:=Aside0.mk hc0
 clear hr0 hc0
 have HR1:=Aside0.mk hr1
 have HC1:=Aside0.mk hc1
 clear hr1 hc1
 have H : (if (l0.length : Int) = (l1.length : Int) then (laws_eqIntS.l0 k l0 l1 0) else (some false)) = some r:=h
 clear h
 by_cases c3 : (l0.length : Int) = (l1.length : Int)
 ·rw [if_pos c3] at H
  have c3b0 : ((l0.length : Int) == (l1.length : Int)) = true:=beq_iff_eq.mpr c3
  have c3b1 : ((l0.length : Int) != (l1.length : Int)) = false:=bne_eq_false_iff_eq.mpr c3
  have c3b2 : (l0.length == l1.length) = true:=by first|simpa using c3|(simp at c3 ⊢;omega)
  clear c3
  have H':=Aside0.mk H
  clear H
  go_enter Try.func20,Try.ntmps20
  go_wp2
  repeat (go_quiet (fail);try go_wp2)
  go_loopg [5] k (fun kq v5 w'=>∃ (x5_1 : Int),v5 = .int .i64 x5_1 ∧ Aside0 (laws_eqIntS.l0 kq l0 l1 x5_1 = some r) ∧ Aside0 (kq ≤ k) ∧ Drawn0 w w')
  case atStart=>exact ⟨(0),fz,H',⟨Nat.le_refl _⟩,by repeat (first|exact Drawn0.refl _|apply Drawn0.step)⟩
  case round=>
   clear H'
   try clear c1
   try clear c2
   try clear p2
   try clear c3
   try clear c3b0
   try clear c3b1
   try clear c3b2
   obtain ⟨x5_1,rfl,HA,HK1,⟨m1,rfl⟩⟩:=hrel
   cases gk with
   | zero=>exact absurd HA.out (by simp [laws_eqIntS.l0])
   | succ k1=>
    have H:=HA.out
    clear HA
    simp only [laws_eqIntS.l0] at H
    by_cases c4 : x5_1 < (l0.length : Int)
    ·rw [if_pos c4] at H
     have c4b0 : decide (x5_1 < (l0.length : Int)) = true:=decide_eq_true c4
     clear c4
     by_cases c5 : 0 ≤ x5_1
     ·rw [if_pos c5] at H
      have c5b0 : decide (0 ≤ x5_1) = true:=decide_eq_true c5
      clear c5
      by_cases c6 : x5_1 < (l1.length : Int)
      ·rw [if_pos c6] at H
       have c6b0 : decide (x5_1 < (l1.length : Int)) = true:=decide_eq_true c6
       clear c6
       by_cases c7 : (rd l0 x5_1) = (rd l1 x5_1)
       ·rw [if_pos c7] at H
        have c7b0 : ((rd l0 x5_1) == (rd l1 x5_1)) = true:=beq_iff_eq.mpr c7
        have c7b1 : ((rd l0 x5_1) != (rd l1 x5_1)) = false:=bne_eq_false_iff_eq.mpr c7
        clear c7
        have H':=Aside0.mk H
        clear H
        have p288 : 0 ≤ (x5_1 : Int):=of_decide_eq_true az
        have q288 : x5_1 < (l0.length : Int):=of_decide_eq_true az
        obtain ⟨ad288,e288,hx288_0⟩:=Kd.at_int HR0.out x5_1 p288 q288
        cases e288
        replace p288:=eq_true p288
        replace q288:=eq_true q288
        have p289 : 0 ≤ (x5_1 : Int):=of_decide_eq_true az
        have q289 : x5_1 < (l1.length : Int):=of_decide_eq_true az
        obtain ⟨ad289,e289,hx289_0⟩:=Kd.at_int HR1.out x5_1 p289 q289
        cases e289
        replace p289:=eq_true p289
        replace q289:=eq_true q289
        go_wp2
        repeat (go_quiet (fail);try go_wp2)
        go_roundg k1
        case measure=>have:=HK1.out;omega
        case rel=>exact ⟨(wrap64 (x5_1 + 1)),fz,H',⟨by have:=HK1.out;omega⟩,by repeat (first|exact Drawn0.refl _|apply Drawn0.step)⟩
       ·rw [if_neg c7] at H
        have c7b0 : ((rd l0 x5_1) == (rd l1 x5_1)) = false:=beq_eq_false_iff_ne.mpr c7
        have c7b1 : ((rd l0 x5_1) != (rd l1 x5_1)) = true:=bne_iff_ne.mpr c7
        obtain rfl:=Option.some.inj H
        have p288 : 0 ≤ (x5_1 : Int):=of_decide_eq_true az
        have q288 : x5_1 < (l0.length : Int):=of_decide_eq_true az
        obtain ⟨ad288,e288,hx288_0⟩:=Kd.at_int HR0.out x5_1 p288 q288
        cases e288
        replace p288:=eq_true p288
        replace q288:=eq_true q288
        have p289 : 0 ≤ (x5_1 : Int):=of_decide_eq_true az
        have q289 : x5_1 < (l1.length : Int):=of_decide_eq_true az
        obtain ⟨ad289,e289,hx289_0⟩:=Kd.at_int HR1.out x5_1 p289 q289
        cases e289
        replace p289:=eq_true p289
        replace q289:=eq_true q289
        go_wp2
        repeat (go_quiet (fail);try go_wp2)
        go_ret
        exact ⟨by first|rfl|(simp;done)|(simp [*];done),by repeat (first|exact Drawn0.refl _|apply Drawn0.step)⟩
      ·rw [if_neg c6] at H
       exact absurd H (by simp)
     ·rw [if_neg c5] at H
      exact absurd H (by simp)
    ·rw [if_neg c4] at H
     have c4b0 : decide (x5_1 < (l0.length : Int)) = false:=decide_eq_false c4
     clear c4
     obtain rfl:=Option.some.inj H
     go_wp2
     repeat (go_quiet (fail);try go_wp2)
     go_ret
     exact ⟨by first|rfl|(simp;done)|(simp [*];done),by repeat (first|exact Drawn0.refl _|apply Drawn0.step)⟩
 ·rw [if_neg c3] at H
  have c3b0 : ((l0.length : Int) == (l1.length : Int)) = false:=beq_eq_false_iff_ne.mpr c3
  have c3b1 : ((l0.length : Int) != (l1.length : Int)) = true:=bne_iff_ne.mpr c3
  have c3b2 : (l0.length == l1.length) = false:=by first|simpa using c3|(simp at c3 ⊢;omega)
  obtain rfl:=Option.some.inj H
  go_enter Try.func20,Try.ntmps20
  go_wp2
  repeat (go_quiet (fail);try go_wp2)
  go_ret
  exact ⟨by first|rfl|(simp;done)|(simp [*];done),by repeat (first|exact Drawn0.refl _|apply Drawn0.step)⟩
/-! ### laws_eqStep: function 93 -/
def laws_eqStep.f (a0_0 : Int) (a0_1 : Int) (a1_0 : Int) (a1_1 : Int) : Option (Bool):=if a0_0 = a1_0 then (if a0_1 = a1_1 then (some true) else (some false)) else (some false)
set_option maxHeartbeats 8000000 in
set_option maxRecDepth 100000 in
theorem laws_eqStep.calls (a0_0 : Int) (a0_1 : Int) (a1_0 : Int) (a1_1 : Int) (r : Bool) (w : World) (h : laws_eqStep.f a0_0 a0_1 a1_0 a1_1 = some r) :
  Calls Try.prog 93 #[.agg #[.int .i64 a0_0,.int .i64 a0_1],.agg #[.int .i64 a1_0,.int .i64 a1_1]] w fun e w'=>e = .returned (.bool r) ∧ Below w.heap.size w w':=by
 have hu73:=Try.underlying73
 have HB:=Aside0.mk (Below.refl w.heap.size w)
 have H : (if a0_0 = a1_0 then (if a0_1 = a1_1 then (some true) else (some false)) else (some false)) = some r:=h
 clear h
 by_cases c3 : a0_0 = a1_0
 ·rw [if_pos c3] at H
  have c3b0 : (a0_0 == a1_0) = true:=beq_iff_eq.mpr c3
  have c3b1 : (a0_0 != a1_0) = false:=bne_eq_false_iff_eq.mpr c3
  clear c3
  by_cases c4 : a0_1 = a1_1
  ·rw [if_pos c4] at H
   have c4b0 : (a0_1 == a1_1) = true:=beq_iff_eq.mpr c4
   have c4b1 : (a0_1 != a1_1) = false:=bne_eq_false_iff_eq.mpr c4
   clear c4
   obtain rfl:=Option.some.inj H
   go_enter Try.func93,Try.ntmps93
   go_wp2_with (first|((with_reducible refine gate_dst (N:=2) rfl ?_);refine box_event ?hg (N:=2) ?hd (cs:=#[.int .i64 a0_0,.int .i64 a0_1]) (t:=73) ?hr ?_;(case hd=>rfl);(case hg=>rfl);(case hr=>first|(go_simp;done)|(go_simp;rfl));intro gb290 hg w5 hbox hb;have n0_:=Aside0.mk (below_step bz hb);have n1_:=Aside0.mk (hbox);have n2_:=Aside0.mk ((by rw [hg];exact (below_size bz) : w.heap.size ≤ gb290));have n3_:=Aside0.mk ((by rw [hg];exact (below_size bz) : w.heap.size ≤ gb290));clear HB;have HB:=n0_;have BK290:=n1_;have GW290:=n2_;have GE290:=n3_;clear n0_ n1_ n2_ n3_;clear hb hbox hg)|((with_reducible refine gate_dst (N:=3) rfl ?_);refine box_event ?hg (N:=3) ?hd (cs:=#[.int .i64 a1_0,.int .i64 a1_1]) (t:=73) ?hr ?_;(case hd=>rfl);(case hg=>rfl);(case hr=>first|(go_simp;done)|(go_simp;rfl));intro gb291 hg w6 hbox hb;have n0_:=Aside0.mk (kb BK290.out hb);have n1_:=Aside0.mk (below_step bs hb);have n2_:=Aside0.mk (hbox);have n3_:=Aside0.mk ((by rw [hg];exact (below_size bs) : w.heap.size ≤ gb291));have n4_:=Aside0.mk ((by rw [hg];exact (below_size bs) : w.heap.size ≤ gb291));have n5_:=Aside0.mk (kn hg BK290.out);have n6_:=Aside0.mk (km hg BK290.out);clear BK290 HB;have BK290:=n0_;have HB:=n1_;have BK291:=n2_;have GW291:=n3_;have GE291:=n4_;have NB290_291:=n5_;have NB291_290:=n6_;clear n0_ n1_ n2_ n3_ n4_ n5_ n6_;clear hb hbox hg;have hnb7:=NB290_291.out;have hnc7:=NB291_290.out;have hcz8_0 : w6.cell? ⟨gb290,0,none⟩ = some (.int .i64 a0_0):=(blk_cell BK290.out 0).trans rfl;have hcz8_1 : w6.cell? ⟨gb290,1,none⟩ = some (.int .i64 a0_1):=(blk_cell BK290.out 1).trans rfl;have hfz8_0:=blk_frozen BK290.out 0;have hfz8_1:=blk_frozen BK290.out 1;have hcz9_0 : w6.cell? ⟨gb291,0,none⟩ = some (.int .i64 a1_0):=(blk_cell BK291.out 0).trans rfl;have hcz9_1 : w6.cell? ⟨gb291,1,none⟩ = some (.int .i64 a1_1):=(blk_cell BK291.out 1).trans rfl;have hfz9_0:=blk_frozen BK291.out 0;have hfz9_1:=blk_frozen BK291.out 1))
   go_ret
   exact ⟨by first|rfl|(simp [errW_none,errW_some] <;> rfl)|(simp [*,errW_none,errW_some] <;> rfl),by repeat (first|(with_reducible first|exact HB.out|apply below_alloc|apply pw_below_drewN|apply below_drew1|refine below_set ?_ GE290.out|refine below_set ?_ GE291.out)|exact HB.out)⟩
  ·rw [if_neg c4] at H
   have c4b0 : (a0_1 == a1_1) = false:=beq_eq_false_iff_ne.mpr c4
   have c4b1 : (a0_1 != a1_1) = true:=bne_iff_ne.mpr c4
   obtain rfl:=Option.some.inj H
   go_enter Try.func93,Try.ntmps93
   go_wp2_with (first|((with_reducible refine gate_dst (N:=2) rfl ?_);refine box_event ?hg (N:=2) ?hd (cs:=#[.int .i64 a0_0,.int .i64 a0_1]) (t:=73) ?hr ?_;(case hd=>rfl);(case hg=>rfl);(case hr=>first|(go_simp;done)|(go_simp;rfl));intro gb290 hg w10 hbox hb;have n0_:=Aside0.mk (below_step bz hb);have n1_:=Aside0.mk (hbox);have n2_:=Aside0.mk ((by rw [hg];exact (below_size bz) : w.heap.size ≤ gb290));have n3_:=Aside0.mk ((by rw [hg];exact (below_size bz) : w.heap.size ≤ gb290));clear HB;have HB:=n0_;have BK290:=n1_;have GW290:=n2_;have GE290:=n3_;clear n0_ n1_ n2_ n3_;clear hb hbox hg)|((with_reducible refine gate_dst (N:=3) rfl ?_);refine box_event ?hg (N:=3) ?hd (cs:=#[.int .i64 a1_0,.int .i64 a1_1]) (t:=73) ?hr ?_;(case hd=>rfl);(case hg=>rfl);(case hr=>first|(go_simp;done)|(go_simp;rfl));intro gb291 hg w11 hbox hb;have n0_:=Aside0.mk (kb BK290.out hb);have n1_:=Aside0.mk (below_step bs hb);have n2_:=Aside0.mk (hbox);have n3_:=Aside0.mk ((by rw [hg];exact (below_size bs) : w.heap.size ≤ gb291));have n4_:=Aside0.mk ((by rw [hg];exact (below_size bs) : w.heap.size ≤ gb291));have n5_:=Aside0.mk (kn hg BK290.out);have n6_:=Aside0.mk (km hg BK290.out);clear BK290 HB;have BK290:=n0_;have HB:=n1_;have BK291:=n2_;have GW291:=n3_;have GE291:=n4_;have NB290_291:=n5_;have NB291_290:=n6_;clear n0_ n1_ n2_ n3_ n4_ n5_ n6_;clear hb hbox hg;have hnb12:=NB290_291.out;have hnc12:=NB291_290.out;have hcz13_0 : w11.cell? ⟨gb290,0,none⟩ = some (.int .i64 a0_0):=(blk_cell BK290.out 0).trans rfl;have hcz13_1 : w11.cell? ⟨gb290,1,none⟩ = some (.int .i64 a0_1):=(blk_cell BK290.out 1).trans rfl;have hfz13_0:=blk_frozen BK290.out 0;have hfz13_1:=blk_frozen BK290.out 1;have hcz14_0 : w11.cell? ⟨gb291,0,none⟩ = some (.int .i64 a1_0):=(blk_cell BK291.out 0).trans rfl;have hcz14_1 : w11.cell? ⟨gb291,1,none⟩ = some (.int .i64 a1_1):=(blk_cell BK291.out 1).trans rfl;have hfz14_0:=blk_frozen BK291.out 0;have hfz14_1:=blk_frozen BK291.out 1))
   go_ret
   exact ⟨by first|rfl|(simp [errW_none,errW_some] <;> rfl)|(simp [*,errW_none,errW_some] <;> rfl),by repeat (first|(with_reducible first|exact HB.out|apply below_alloc|apply pw_below_drewN|apply below_drew1|refine below_set ?_ GE290.out|refine below_set ?_ GE291.out)|exact HB.out)⟩
 ·rw [if_neg c3] at H
  have c3b0 : (a0_0 == a1_0) = false:=beq_eq_false_iff_ne.mpr c3
  have c3b1 : (a0_0 != a1_0) = true:=bne_iff_ne.mpr c3
  obtain rfl:=Option.some.inj H
  go_enter Try.func93,Try.ntmps93
  go_wp2_with (first|((with_reducible refine gate_dst (N:=2) rfl ?_);refine box_event ?hg (N:=2) ?hd (cs:=#[.int .i64 a0_0,.int .i64 a0_1]) (t:=73) ?hr ?_;(case hd=>rfl);(case hg=>rfl);(case hr=>first|(go_simp;done)|(go_simp;rfl));intro gb290 hg w15 hbox hb;have n0_:=Aside0.mk (below_step bz hb);have n1_:=Aside0.mk (hbox);have n2_:=Aside0.mk ((by rw [hg];exact (below_size bz) : w.heap.size ≤ gb290));have n3_:=Aside0.mk ((by rw [hg];exact (below_size bz) : w.heap.size ≤ gb290));clear HB;have HB:=n0_;have BK290:=n1_;have GW290:=n2_;have GE290:=n3_;clear n0_ n1_ n2_ n3_;clear hb hbox hg)|((with_reducible refine gate_dst (N:=3) rfl ?_);refine box_event ?hg (N:=3) ?hd (cs:=#[.int .i64 a1_0,.int .i64 a1_1]) (t:=73) ?hr ?_;(case hd=>rfl);(case hg=>rfl);(case hr=>first|(go_simp;done)|(go_simp;rfl));intro gb291 hg w16 hbox hb;have n0_:=Aside0.mk (kb BK290.out hb);have n1_:=Aside0.mk (below_step bs hb);have n2_:=Aside0.mk (hbox);have n3_:=Aside0.mk ((by rw [hg];exact (below_size bs) : w.heap.size ≤ gb291));have n4_:=Aside0.mk ((by rw [hg];exact (below_size bs) : w.heap.size ≤ gb291));have n5_:=Aside0.mk (kn hg BK290.out);have n6_:=Aside0.mk (km hg BK290.out);clear BK290 HB;have BK290:=n0_;have HB:=n1_;have BK291:=n2_;have GW291:=n3_;have GE291:=n4_;have NB290_291:=n5_;have NB291_290:=n6_;clear n0_ n1_ n2_ n3_ n4_ n5_ n6_;clear hb hbox hg;have hnb17:=NB290_291.out;have hnc17:=NB291_290.out;have hcz18_0 : w16.cell? ⟨gb290,0,none⟩ = some (.int .i64 a0_0):=(blk_cell BK290.out 0).trans rfl;have hcz18_1 : w16.cell? ⟨gb290,1,none⟩ = some (.int .i64 a0_1):=(blk_cell BK290.out 1).trans rfl;have hfz18_0:=blk_frozen BK290.out 0;have hfz18_1:=blk_frozen BK290.out 1;have hcz19_0 : w16.cell? ⟨gb291,0,none⟩ = some (.int .i64 a1_0):=(blk_cell BK291.out 0).trans rfl;have hcz19_1 : w16.cell? ⟨gb291,1,none⟩ = some (.int .i64 a1_1):=(blk_cell BK291.out 1).trans rfl;have hfz19_0:=blk_frozen BK291.out 0;have hfz19_1:=blk_frozen BK291.out 1))
  go_ret
  exact ⟨by first|rfl|(simp [errW_none,errW_some] <;> rfl)|(simp [*,errW_none,errW_some] <;> rfl),by repeat (first|(with_reducible first|exact HB.out|apply below_alloc|apply pw_below_drewN|apply below_drew1|refine below_set ?_ GE290.out|refine below_set ?_ GE291.out)|exact HB.out)⟩
end Go.Proofs.Ytdcdaoancmpbeaa.MFnExactJoinPlans
--sq
