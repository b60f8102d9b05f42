import Derived.Test.YtdcdaoancmpbeaaMFnExactReorderStepsx0
import Derived.Test.YtdcdaoancmpbeaaMFnExactReorderStepsx5
import Derived.Test.YtdcdaoancmpbeaaMFnExactReorderStepsx6
import Derived.Test.YtdcdaoancmpbeaaMFnExactReorderStepsx8
namespace Go.Proofs.Ytdcdaoancmpbeaa.MFnExactReorderSteps
open Go.RowKit Go.Proofs.YtdcdaoancmpbeaaW.PrintWords Go.Proofs.YtdcdaoancmpbeaaW.PrintLast Go.Proofs.YtdcdaoancmpbeaaW.PrintMore Go.Proofs.YtdcdaoancmpbeaaV Go.Proofs.YtdcdaoancmpbeaaZ
attribute [local go_sem] max2_int min2_int max_two min_two max_three min_three max_four min_four   -- for this text's walks alone
set_option linter.unusedVariables false
set_option linter.unusedSimpArgs false
/-! ### spec_ReorderSteps: function 26 -/
def spec_ReorderSteps.f (k : Nat) (a0_0 : Int) (l0_1 : List (S73)) (l0_2 : List Int) (l1 : List Int) : Option (Int × (List (S73)) × List Int × Bool):=(spec_plGood.f k a0_0 l0_1 l0_2).bind fun t230=>(if t230 = true then ((spec_plOrder.f k a0_0 l0_1 l0_2 l1).bind fun t231=>(if t231 = true then ((spec_plKeep.f k a0_0 l0_1 l0_2 l1).bind fun bt232=>(some (bt232.1,bt232.2.1,bt232.2.2,true))) else (some (0,([] : List (S73)),([] : List Int),false)))) else (some (0,([] : List (S73)),([] : List Int),false)))
theorem spec_ReorderSteps.mono : ∀ a0 a1 a2 a3 k,LeO (spec_ReorderSteps.f k a0 a1 a2 a3) (spec_ReorderSteps.f (k + 1) a0 a1 a2 a3):=by
 intro a0 a1 a2 a3 k
 unfold spec_ReorderSteps.f
 repeat' first
   | (with_reducible exact spec_plGood.mono _ _ _ _)
   | (with_reducible exact spec_plKeep.mono _ _ _ _ _)
   | (with_reducible exact spec_plOrder.mono _ _ _ _ _)
   | (with_reducible exact LeO.refl _)
   | (with_reducible exact LeO.none _)
   | (with_reducible refine LeO.ite ?_ ?_)
   | (with_reducible refine LeO.bind ?_ (fun _=>?_))
   | exact spec_plGood.mono _ _ _ _
   | exact spec_plKeep.mono _ _ _ _ _
   | exact spec_plOrder.mono _ _ _ _ _
   | exact LeO.none _
   | refine LeO.ite ?_ ?_
   | refine LeO.bind ?_ (fun _=>?_)
set_option maxHeartbeats 8000000 in
set_option maxRecDepth 100000 in
theorem spec_ReorderSteps.calls (k : Nat) (a0_0 : Int) (A0_1 : Option Addr) (c0_1 : Nat) (l0_1 : List (S73)) (A0_2 : Option Addr) (c0_2 : Nat) (l0_2 : List Int) (A1 : Option Addr) (c1 : Nat) (l1 : List Int) (r1 : Int) (r2 : List (S73)) (r3 : List Int) (r4 : Bool) (w : World) (hr0_1 : Kd.C k73 w A0_1 l0_1.length l0_1) (hc0_1 : l0_1.length ≤ c0_1) (hr0_2 : Kd.C (Kd.int .i64) w A0_2 l0_2.length l0_2) (hc0_2 : l0_2.length ≤ c0_2) (hr1 : Kd.C (Kd.int .i64) w A1 l1.length l1) (hc1 : l1.length ≤ c1) (h : spec_ReorderSteps.f k a0_0 l0_1 l0_2 l1 = some (r1,r2,r3,r4)) :
  Calls Try.prog 26 #[.agg #[.int .i64 a0_0,.slice A0_1 l0_1.length c0_1,.slice A0_2 l0_2.length c0_2],.slice A1 l1.length c1] w fun e w'=>∃ v1_ v2_ : Value,e = .returned (.tuple #[.agg #[.int .i64 r1,v1_,v2_],.bool r4]) ∧ Kd.R k73 73 w' w.heap.size (fun _=>True) v1_ r2 ∧ Kd.R (Kd.int .i64) 3 w' w.heap.size (fun _=>True) v2_ r3 ∧ Below w.heap.size w w':=by
 have hu29:=Try.underlying29
 have HR0_1:=Aside0.mk hr0_1
 have HC0_1:=Aside0.mk hc0_1
 clear hr0_1 hc0_1
 have HR0_2:=Aside0.mk hr0_2
 have HC0_2:=Aside0.mk hc0_2
 clear hr0_2 hc0_2
 have HR1:=Aside0.mk hr1
 have HC1:=Aside0.mk hc1
 clear hr1 hc1
 have HB:=Aside0.mk (Below.refl w.heap.size w)
 have H : ((spec_plGood.f k a0_0 l0_1 l0_2).bind fun t230=>(if t230 = true then ((spec_plOrder.f k a0_0 l0_1 l0_2 l1).bind fun t231=>(if t231 = true then ((spec_plKeep.f k a0_0 l0_1 l0_2 l1).bind fun bt232=>(some (bt232.1,bt232.2.1,bt232.2.2,true))) else (some (0,([] : List (S73)),([] : List Int),false)))) else (some (0,([] : List (S73)),([] : List Int),false)))) = some (r1,r2,r3,r4):=h
 clear h
 obtain ⟨t230,A3,H⟩:=bd H
 by_cases c4 : t230 = true
 ·subst c4
  rw [if_pos rfl] at H
  obtain ⟨t231,A5,H⟩:=bd H
  by_cases c6 : t231 = true
  ·subst c6
   rw [if_pos rfl] at H
   obtain ⟨⟨t232,t233,t236⟩,A7,H⟩:=bd H
   try dsimp only at H
   simp only [Option.some.injEq,Prod.mk.injEq] at H
   obtain ⟨rfl,rfl,rfl,rfl⟩:=H
   go_enter Try.func26,Try.ntmps26
   go_wp2_with (first|((with_reducible refine gate_dst (N:=2) rfl ?_);refine box_event ?hg (N:=2) ?hd (cs:=#[.int .i64 a0_0,.slice A0_1 l0_1.length c0_1,.slice A0_2 l0_2.length c0_2]) (t:=29) ?hr ?_;(case hd=>rfl);(case hg=>rfl);(case hr=>first|(go_simp;done)|(go_simp;rfl));intro gb228 hg w8 hbox hb;have n0_:=Aside0.mk (below_step bz hb);have n1_:=Aside0.mk (hbox);have n2_:=Aside0.mk ((by rw [hg];exact (below_size bz) : w.heap.size ≤ gb228));have n3_:=Aside0.mk ((by rw [hg];exact (below_size bz) : w.heap.size ≤ gb228));clear HB;have HB:=n0_;have BK228:=n1_;have GW228:=n2_;have GE228:=n3_;clear n0_ n1_ n2_ n3_;clear hb hbox hg)|((with_reducible refine gate_dst (N:=4) rfl ?_);refine box_event ?hg (N:=4) ?hd (cs:=#[.int .i64 0,.slice none 0 0,.slice none 0 0]) (t:=29) ?hr ?_;(case hd=>rfl);(case hg=>rfl);(case hr=>first|(go_simp;done)|(go_simp;rfl));intro gb229 hg w9 hbox hb;have n0_:=Aside0.mk (kb BK228.out hb);have n1_:=Aside0.mk (below_step bs hb);have n2_:=Aside0.mk (hbox);have n3_:=Aside0.mk ((by rw [hg];exact (below_size bs) : w.heap.size ≤ gb229));have n4_:=Aside0.mk ((by rw [hg];exact (below_size bs) : w.heap.size ≤ gb229));have n5_:=Aside0.mk (kn hg BK228.out);have n6_:=Aside0.mk (km hg BK228.out);clear BK228 HB;have BK228:=n0_;have HB:=n1_;have BK229:=n2_;have GW229:=n3_;have GE229:=n4_;have NB228_229:=n5_;have NB229_228:=n6_;clear n0_ n1_ n2_ n3_ n4_ n5_ n6_;clear hb hbox hg;have hnb10:=NB228_229.out;have hnc10:=NB229_228.out;have hcz11_0 : w9.cell? ⟨gb228,0,none⟩ = some (.int .i64 a0_0):=(blk_cell BK228.out 0).trans rfl;have hcz11_1 : w9.cell? ⟨gb228,1,none⟩ = some (.slice A0_1 l0_1.length c0_1):=(blk_cell BK228.out 1).trans rfl;have hcz11_2 : w9.cell? ⟨gb228,2,none⟩ = some (.slice A0_2 l0_2.length c0_2):=(blk_cell BK228.out 2).trans rfl;have hfz11_0:=blk_frozen BK228.out 0;have hfz11_1:=blk_frozen BK228.out 1;have hfz11_2:=blk_frozen BK228.out 2)|((with_reducible refine gate_callee (f:=38) rfl ?_);refine goesL_ (some 7) rfl rfl Try.func38 (by kernel_rfl) rfl #[.agg #[.int .i64 a0_0,.slice A0_1 l0_1.length c0_1,.slice A0_2 l0_2.length c0_2]] rfl mz ?_;(with_reducible refine (spec_plGood.calls k a0_0 _ _ l0_1 _ _ l0_2 true _ ?side1 ?side2 ?side3 ?side4 A3.out).mono ?_);(case side1=>exact cz (Kd.C_below HR0_1.out HB.out));(case side2=>exact HC0_1.out);(case side3=>exact cz (Kd.C_below HR0_2.out HB.out));(case side4=>exact HC0_2.out);rintro e w12 ⟨rfl,hb⟩;refine ⟨_,rfl,?_⟩;have n0_:=Aside0.mk (kb BK228.out hb);have n1_:=Aside0.mk (kb BK229.out hb);have n2_:=Aside0.mk (below_step bs hb);clear BK228 BK229 HB;have BK228:=n0_;have BK229:=n1_;have HB:=n2_;clear n0_ n1_ n2_;(try clear hb);have hcz13_0 : w12.cell? ⟨gb228,0,none⟩ = some (.int .i64 a0_0):=(blk_cell BK228.out 0).trans rfl;have hcz13_1 : w12.cell? ⟨gb228,1,none⟩ = some (.slice A0_1 l0_1.length c0_1):=(blk_cell BK228.out 1).trans rfl;have hcz13_2 : w12.cell? ⟨gb228,2,none⟩ = some (.slice A0_2 l0_2.length c0_2):=(blk_cell BK228.out 2).trans rfl;have hfz13_0:=blk_frozen BK228.out 0;have hfz13_1:=blk_frozen BK228.out 1;have hfz13_2:=blk_frozen BK228.out 2)|(go_at_call 66;(with_reducible refine (spec_plOrder.calls k a0_0 _ _ l0_1 _ _ l0_2 _ _ l1 true _ ?side1 ?side2 ?side3 ?side4 ?side5 ?side6 A5.out).mono ?_);(case side1=>exact cz (Kd.C_below HR0_1.out HB.out));(case side2=>exact HC0_1.out);(case side3=>exact cz (Kd.C_below HR0_2.out HB.out));(case side4=>exact HC0_2.out);(case side5=>exact cz (Kd.C_below HR1.out HB.out));(case side6=>exact HC1.out);rintro e w14 ⟨rfl,hb⟩;have n0_:=Aside0.mk (kb BK228.out hb);have n1_:=Aside0.mk (kb BK229.out hb);have n2_:=Aside0.mk (below_step bs hb);clear BK228 BK229 HB;have BK228:=n0_;have BK229:=n1_;have HB:=n2_;clear n0_ n1_ n2_;(try clear hb);have hcz15_0 : w14.cell? ⟨gb228,0,none⟩ = some (.int .i64 a0_0):=(blk_cell BK228.out 0).trans rfl;have hcz15_1 : w14.cell? ⟨gb228,1,none⟩ = some (.slice A0_1 l0_1.length c0_1):=(blk_cell BK228.out 1).trans rfl;have hcz15_2 : w14.cell? ⟨gb228,2,none⟩ = some (.slice A0_2 l0_2.length c0_2):=(blk_cell BK228.out 2).trans rfl;have hfz15_0:=blk_frozen BK228.out 0;have hfz15_1:=blk_frozen BK228.out 1;have hfz15_2:=blk_frozen BK228.out 2)|((with_reducible refine gate_callee (f:=56) rfl ?_);refine goesL_ (some 18) rfl rfl Try.func56 (by kernel_rfl) rfl #[.agg #[.int .i64 a0_0,.slice A0_1 l0_1.length c0_1,.slice A0_2 l0_2.length c0_2],.slice A1 l1.length c1] rfl mz ?_;(with_reducible refine (spec_plKeep.calls k a0_0 _ _ l0_1 _ _ l0_2 _ _ l1 t232 t233 t236 _ ?side1 ?side2 ?side3 ?side4 ?side5 ?side6 A7.out).mono ?_);(case side1=>exact cz (Kd.C_below HR0_1.out HB.out));(case side2=>exact HC0_1.out);(case side3=>exact cz (Kd.C_below HR0_2.out HB.out));(case side4=>exact HC0_2.out);(case side5=>exact cz (Kd.C_below HR1.out HB.out));(case side6=>exact HC1.out);rintro e w16 ⟨v234,v237,rfl,ho0,ho1,hb⟩;refine ⟨_,rfl,?_⟩;have n0_:=Aside0.mk (Kd.R_lower ho0 (below_size bs));have n1_:=Aside0.mk (Kd.R_lower ho1 (below_size bs));have n2_:=Aside0.mk (kb BK228.out hb);have n3_:=Aside0.mk (kb BK229.out hb);have n4_:=Aside0.mk (below_step bs hb);clear BK228 BK229 HB;have HO235:=n0_;have HO238:=n1_;have BK228:=n2_;have BK229:=n3_;have HB:=n4_;clear n0_ n1_ n2_ n3_ n4_;(try clear hb);(try clear ho0);(try clear ho1);have hcz17_0 : w16.cell? ⟨gb229,0,none⟩ = some (.int .i64 0):=(blk_cell BK229.out 0).trans rfl;have hcz17_1 : w16.cell? ⟨gb229,1,none⟩ = some (.slice none 0 0):=(blk_cell BK229.out 1).trans rfl;have hcz17_2 : w16.cell? ⟨gb229,2,none⟩ = some (.slice none 0 0):=(blk_cell BK229.out 2).trans rfl;have hfz17_0:=blk_frozen BK229.out 0;have hfz17_1:=blk_frozen BK229.out 1;have hfz17_2:=blk_frozen BK229.out 2;obtain ⟨Ao18,co18,eo18⟩:=Kd.R_slice HO235.out;subst eo18;obtain ⟨Ao19,co19,eo19⟩:=Kd.R_slice HO238.out;subst eo19))
   refine bodyPost_ret (results_ct rfl _ _ gb229 29 #[.int .i64 t232,.slice Ao18 t233.length co18,.slice Ao19 t236.length co19] (0,0) _ rfl (by (with_reducible repeat (first|refine blk_drewN ?_ _|refine blk_drew ?_|refine blk_alloc ?_ _));refine blk_put (cs:=#[.int .i64 t232,.slice Ao18 t233.length co18,.slice none 0 0]) ?_ 2 _ rfl;(with_reducible repeat (first|refine blk_drewN ?_ _|refine blk_drew ?_|refine blk_alloc ?_ _));refine blk_put (cs:=#[.int .i64 t232,.slice none 0 0,.slice none 0 0]) ?_ 1 _ rfl;(with_reducible repeat (first|refine blk_drewN ?_ _|refine blk_drew ?_|refine blk_alloc ?_ _));refine blk_put (cs:=#[.int .i64 0,.slice none 0 0,.slice none 0 0]) ?_ 0 _ rfl;(with_reducible repeat (first|refine blk_drewN ?_ _|refine blk_drew ?_|refine blk_alloc ?_ _));exact BK229.out) Try.underlying29 rfl (by kernel_rfl)) rfl ?_
   exact ⟨_,_,by first|rfl|(simp [errW_none,errW_some] <;> rfl)|(simp [*,errW_none,errW_some] <;> rfl),by (with_reducible repeat (first|apply Kd.R_alloc|apply Kd.R_drewN|apply Kd.R_drew));exact Kd.R_mono (Kd.R_far (p:=⟨gb229,2,none⟩) (Kd.R_far (p:=⟨gb229,1,none⟩) (Kd.R_far (p:=⟨gb229,0,none⟩) (Kd.R_types HO235.out BK229.out (by decide)) (fun _ hk=>hk.2) (.int .i64 t232)) (fun _ hk=>hk.2) (.slice Ao18 t233.length co18)) (fun _ hk=>hk.2) (.slice Ao19 t236.length co19)) (fun _ hk=>trivial),by (with_reducible repeat (first|apply Kd.R_alloc|apply Kd.R_drewN|apply Kd.R_drew));exact Kd.R_mono (Kd.R_far (p:=⟨gb229,2,none⟩) (Kd.R_far (p:=⟨gb229,1,none⟩) (Kd.R_far (p:=⟨gb229,0,none⟩) (Kd.R_types HO238.out BK229.out (by decide)) (fun _ hk=>hk.2) (.int .i64 t232)) (fun _ hk=>hk.2) (.slice Ao18 t233.length co18)) (fun _ hk=>hk.2) (.slice Ao19 t236.length co19)) (fun _ hk=>trivial),by repeat (first|(with_reducible first|exact HB.out|apply below_alloc|apply pw_below_drewN|apply below_drew1|refine below_set ?_ GE228.out|refine below_set ?_ GE229.out)|exact HB.out)⟩
  ·replace c6:=Bool.eq_false_iff.mpr c6
   subst c6
   rw [if_neg (show ¬ (false = true) by decide)] at H
   simp only [Option.some.injEq,Prod.mk.injEq] at H
   obtain ⟨rfl,rfl,rfl,rfl⟩:=H
   go_enter Try.func26,Try.ntmps26
   go_wp2_with (first|((with_reducible refine gate_dst (N:=2) rfl ?_);refine box_event ?hg (N:=2) ?hd (cs:=#[.int .i64 a0_0,.slice A0_1 l0_1.length c0_1,.slice A0_2 l0_2.length c0_2]) (t:=29) ?hr ?_;(case hd=>rfl);(case hg=>rfl);(case hr=>first|(go_simp;done)|(go_simp;rfl));intro gb228 hg w20 hbox hb;have n0_:=Aside0.mk (below_step bz hb);have n1_:=Aside0.mk (hbox);have n2_:=Aside0.mk ((by rw [hg];exact (below_size bz) : w.heap.size ≤ gb228));have n3_:=Aside0.mk ((by rw [hg];exact (below_size bz) : w.heap.size ≤ gb228));clear HB;have HB:=n0_;have BK228:=n1_;have GW228:=n2_;have GE228:=n3_;clear n0_ n1_ n2_ n3_;clear hb hbox hg)|((with_reducible refine gate_dst (N:=4) rfl ?_);refine box_event ?hg (N:=4) ?hd (cs:=#[.int .i64 0,.slice none 0 0,.slice none 0 0]) (t:=29) ?hr ?_;(case hd=>rfl);(case hg=>rfl);(case hr=>first|(go_simp;done)|(go_simp;rfl));intro gb229 hg w21 hbox hb;have n0_:=Aside0.mk (kb BK228.out hb);have n1_:=Aside0.mk (below_step bs hb);have n2_:=Aside0.mk (hbox);have n3_:=Aside0.mk ((by rw [hg];exact (below_size bs) : w.heap.size ≤ gb229));have n4_:=Aside0.mk ((by rw [hg];exact (below_size bs) : w.heap.size ≤ gb229));have n5_:=Aside0.mk (kn hg BK228.out);have n6_:=Aside0.mk (km hg BK228.out);clear BK228 HB;have BK228:=n0_;have HB:=n1_;have BK229:=n2_;have GW229:=n3_;have GE229:=n4_;have NB228_229:=n5_;have NB229_228:=n6_;clear n0_ n1_ n2_ n3_ n4_ n5_ n6_;clear hb hbox hg;have hnb22:=NB228_229.out;have hnc22:=NB229_228.out;have hcz23_0 : w21.cell? ⟨gb228,0,none⟩ = some (.int .i64 a0_0):=(blk_cell BK228.out 0).trans rfl;have hcz23_1 : w21.cell? ⟨gb228,1,none⟩ = some (.slice A0_1 l0_1.length c0_1):=(blk_cell BK228.out 1).trans rfl;have hcz23_2 : w21.cell? ⟨gb228,2,none⟩ = some (.slice A0_2 l0_2.length c0_2):=(blk_cell BK228.out 2).trans rfl;have hfz23_0:=blk_frozen BK228.out 0;have hfz23_1:=blk_frozen BK228.out 1;have hfz23_2:=blk_frozen BK228.out 2)|((with_reducible refine gate_callee (f:=38) rfl ?_);refine goesL_ (some 7) rfl rfl Try.func38 (by kernel_rfl) rfl #[.agg #[.int .i64 a0_0,.slice A0_1 l0_1.length c0_1,.slice A0_2 l0_2.length c0_2]] rfl mz ?_;(with_reducible refine (spec_plGood.calls k a0_0 _ _ l0_1 _ _ l0_2 true _ ?side1 ?side2 ?side3 ?side4 A3.out).mono ?_);(case side1=>exact cz (Kd.C_below HR0_1.out HB.out));(case side2=>exact HC0_1.out);(case side3=>exact cz (Kd.C_below HR0_2.out HB.out));(case side4=>exact HC0_2.out);rintro e w24 ⟨rfl,hb⟩;refine ⟨_,rfl,?_⟩;have n0_:=Aside0.mk (kb BK228.out hb);have n1_:=Aside0.mk (kb BK229.out hb);have n2_:=Aside0.mk (below_step bs hb);clear BK228 BK229 HB;have BK228:=n0_;have BK229:=n1_;have HB:=n2_;clear n0_ n1_ n2_;(try clear hb);have hcz25_0 : w24.cell? ⟨gb228,0,none⟩ = some (.int .i64 a0_0):=(blk_cell BK228.out 0).trans rfl;have hcz25_1 : w24.cell? ⟨gb228,1,none⟩ = some (.slice A0_1 l0_1.length c0_1):=(blk_cell BK228.out 1).trans rfl;have hcz25_2 : w24.cell? ⟨gb228,2,none⟩ = some (.slice A0_2 l0_2.length c0_2):=(blk_cell BK228.out 2).trans rfl;have hfz25_0:=blk_frozen BK228.out 0;have hfz25_1:=blk_frozen BK228.out 1;have hfz25_2:=blk_frozen BK228.out 2)|(go_at_call 66;(with_reducible refine (spec_plOrder.calls k a0_0 _ _ l0_1 _ _ l0_2 _ _ l1 false _ ?side1 ?side2 ?side3 ?side4 ?side5 ?side6 A5.out).mono ?_);(case side1=>exact cz (Kd.C_below HR0_1.out HB.out));(case side2=>exact HC0_1.out);(case side3=>exact cz (Kd.C_below HR0_2.out HB.out));(case side4=>exact HC0_2.out);(case side5=>exact cz (Kd.C_below HR1.out HB.out));(case side6=>exact HC1.out);rintro e w26 ⟨rfl,hb⟩;have n0_:=Aside0.mk (kb BK228.out hb);have n1_:=Aside0.mk (kb BK229.out hb);have n2_:=Aside0.mk (below_step bs hb);clear BK228 BK229 HB;have BK228:=n0_;have BK229:=n1_;have HB:=n2_;clear n0_ n1_ n2_;(try clear hb);have hcz27_0 : w26.cell? ⟨gb229,0,none⟩ = some (.int .i64 0):=(blk_cell BK229.out 0).trans rfl;have hcz27_1 : w26.cell? ⟨gb229,1,none⟩ = some (.slice none 0 0):=(blk_cell BK229.out 1).trans rfl;have hcz27_2 : w26.cell? ⟨gb229,2,none⟩ = some (.slice none 0 0):=(blk_cell BK229.out 2).trans rfl;have hfz27_0:=blk_frozen BK229.out 0;have hfz27_1:=blk_frozen BK229.out 1;have hfz27_2:=blk_frozen BK229.out 2))
   refine bodyPost_ret (results_ct rfl _ _ gb229 29 #[.int .i64 0,.slice none 0 0,.slice none 0 0] (0,0) _ rfl (by (with_reducible repeat (first|refine blk_drewN ?_ _|refine blk_drew ?_|refine blk_alloc ?_ _));refine blk_put (cs:=#[.int .i64 0,.slice none 0 0,.slice none 0 0]) ?_ 2 _ rfl;(with_reducible repeat (first|refine blk_drewN ?_ _|refine blk_drew ?_|refine blk_alloc ?_ _));refine blk_put (cs:=#[.int .i64 0,.slice none 0 0,.slice none 0 0]) ?_ 1 _ rfl;(with_reducible repeat (first|refine blk_drewN ?_ _|refine blk_drew ?_|refine blk_alloc ?_ _));refine blk_put (cs:=#[.int .i64 0,.slice none 0 0,.slice none 0 0]) ?_ 0 _ rfl;(with_reducible repeat (first|refine blk_drewN ?_ _|refine blk_drew ?_|refine blk_alloc ?_ _));exact BK229.out) Try.underlying29 rfl (by kernel_rfl)) rfl ?_
   exact ⟨_,_,by first|rfl|(simp [errW_none,errW_some] <;> rfl)|(simp [*,errW_none,errW_some] <;> rfl),by first|exact Kd.R_nil _ _ _ _ _|exact Kd.N_nil _ _ _ _ _|exact Kd.V_nil _ _ _ _ _|exact Kd.Q_nil _ _ _ _ _|exact Kd.S_nil _ _ _ _ _,by first|exact Kd.R_nil _ _ _ _ _|exact Kd.N_nil _ _ _ _ _|exact Kd.V_nil _ _ _ _ _|exact Kd.Q_nil _ _ _ _ _|exact Kd.S_nil _ _ _ _ _,by repeat (first|(with_reducible first|exact HB.out|apply below_alloc|apply pw_below_drewN|apply below_drew1|refine below_set ?_ GE228.out|refine below_set ?_ GE229.out)|exact HB.out)⟩
 ·replace c4:=Bool.eq_false_iff.mpr c4
  subst c4
  rw [if_neg (show ¬ (false = true) by decide)] at H
  simp only [Option.some.injEq,Prod.mk.injEq] at H
  obtain ⟨rfl,rfl,rfl,rfl⟩:=H
  go_enter Try.func26,Try.ntmps26
  go_wp2_with (first|((with_reducible refine gate_dst (N:=2) rfl ?_);refine box_event ?hg (N:=2) ?hd (cs:=#[.int .i64 a0_0,.slice A0_1 l0_1.length c0_1,.slice A0_2 l0_2.length c0_2]) (t:=29) ?hr ?_;(case hd=>rfl);(case hg=>rfl);(case hr=>first|(go_simp;done)|(go_simp;rfl));intro gb228 hg w28 hbox hb;have n0_:=Aside0.mk (below_step bz hb);have n1_:=Aside0.mk (hbox);have n2_:=Aside0.mk ((by rw [hg];exact (below_size bz) : w.heap.size ≤ gb228));have n3_:=Aside0.mk ((by rw [hg];exact (below_size bz) : w.heap.size ≤ gb228));clear HB;have HB:=n0_;have BK228:=n1_;have GW228:=n2_;have GE228:=n3_;clear n0_ n1_ n2_ n3_;clear hb hbox hg)|((with_reducible refine gate_dst (N:=4) rfl ?_);refine box_event ?hg (N:=4) ?hd (cs:=#[.int .i64 0,.slice none 0 0,.slice none 0 0]) (t:=29) ?hr ?_;(case hd=>rfl);(case hg=>rfl);(case hr=>first|(go_simp;done)|(go_simp;rfl));intro gb229 hg w29 hbox hb;have n0_:=Aside0.mk (kb BK228.out hb);have n1_:=Aside0.mk (below_step bs hb);have n2_:=Aside0.mk (hbox);have n3_:=Aside0.mk ((by rw [hg];exact (below_size bs) : w.heap.size ≤ gb229));have n4_:=Aside0.mk ((by rw [hg];exact (below_size bs) : w.heap.size ≤ gb229));have n5_:=Aside0.mk (kn hg BK228.out);have n6_:=Aside0.mk (km hg BK228.out);clear BK228 HB;have BK228:=n0_;have HB:=n1_;have BK229:=n2_;have GW229:=n3_;have GE229:=n4_;have NB228_229:=n5_;have NB229_228:=n6_;clear n0_ n1_ n2_ n3_ n4_ n5_ n6_;clear hb hbox hg;have hnb30:=NB228_229.out;have hnc30:=NB229_228.out;have hcz31_0 : w29.cell? ⟨gb228,0,none⟩ = some (.int .i64 a0_0):=(blk_cell BK228.out 0).trans rfl;have hcz31_1 : w29.cell? ⟨gb228,1,none⟩ = some (.slice A0_1 l0_1.length c0_1):=(blk_cell BK228.out 1).trans rfl;have hcz31_2 : w29.cell? ⟨gb228,2,none⟩ = some (.slice A0_2 l0_2.length c0_2):=(blk_cell BK228.out 2).trans rfl;have hfz31_0:=blk_frozen BK228.out 0;have hfz31_1:=blk_frozen BK228.out 1;have hfz31_2:=blk_frozen BK228.out 2)|((with_reducible refine gate_callee (f:=38) rfl ?_);refine goesL_ (some 7) rfl rfl Try.func38 (by kernel_rfl) rfl #[.agg #[.int .i64 a0_0,.slice A0_1 l0_1.length c0_1,.slice A0_2 l0_2.length c0_2]] rfl mz ?_;(with_reducible refine (spec_plGood.calls k a0_0 _ _ l0_1 _ _ l0_2 false _ ?side1 ?side2 ?side3 ?side4 A3.out).mono ?_);(case side1=>exact cz (Kd.C_below HR0_1.out HB.out));(case side2=>exact HC0_1.out);(case side3=>exact cz (Kd.C_below HR0_2.out HB.out));(case side4=>exact HC0_2.out);rintro e w32 ⟨rfl,hb⟩;refine ⟨_,rfl,?_⟩;have n0_:=Aside0.mk (kb BK228.out hb);have n1_:=Aside0.mk (kb BK229.out hb);have n2_:=Aside0.mk (below_step bs hb);clear BK228 BK229 HB;have BK228:=n0_;have BK229:=n1_;have HB:=n2_;clear n0_ n1_ n2_;(try clear hb);have hcz33_0 : w32.cell? ⟨gb229,0,none⟩ = some (.int .i64 0):=(blk_cell BK229.out 0).trans rfl;have hcz33_1 : w32.cell? ⟨gb229,1,none⟩ = some (.slice none 0 0):=(blk_cell BK229.out 1).trans rfl;have hcz33_2 : w32.cell? ⟨gb229,2,none⟩ = some (.slice none 0 0):=(blk_cell BK229.out 2).trans rfl;have hfz33_0:=blk_frozen BK229.out 0;have hfz33_1:=blk_frozen BK229.out 1;have hfz33_2:=blk_frozen BK229.out 2))
  refine bodyPost_ret (results_ct rfl _ _ gb229 29 #[.int .i64 0,.slice none 0 0,.slice none 0 0] (0,0) _ rfl (by (with_reducible repeat (first|refine blk_drewN ?_ _|refine blk_drew ?_|refine blk_alloc ?_ _));refine blk_put (cs:=#[.int .i64 0,.slice none 0 0,.slice none 0 0]) ?_ 2 _ rfl;(with_reducible repeat (first|refine blk_drewN ?_ _|refine blk_drew ?_|refine blk_alloc ?_ _));refine blk_put (cs:=#[.int .i64 0,.slice none 0 0,.slice none 0 0]) ?_ 1 _ rfl;(with_reducible repeat (first|refine blk_drewN ?_ _|refine blk_drew ?_|refine blk_alloc ?_ _));refine blk_put (cs:=#[.int .i64 0,.slice none 0 0,.slice none 0 0]) ?_ 0 _ rfl;(with_reducible repeat (first|refine blk_drewN ?_ _|refine blk_drew ?_|refine blk_alloc ?_ _));exact BK229.out) Try.underlying29 rfl (by kernel_rfl)) rfl ?_
  exact ⟨_,_,by first|rfl|(simp [errW_none,errW_some] <;> rfl)|(simp [*,errW_none,errW_some] <;> rfl),by first|exact Kd.R_nil _ _ _ _ _|exact Kd.N_nil _ _ _ _ _|exact Kd.V_nil _ _ _ _ _|exact Kd.Q_nil _ _ _ _ _|exact Kd.S_nil _ _ _ _ _,by first|exact Kd.R_nil _ _ _ _ _|exact Kd.N_nil _ _ _ _ _|exact Kd.V_nil _ _ _ _ _|exact Kd.Q_nil _ _ _ _ _|exact Kd.S_nil _ _ _ _ _,by repeat (first|(with_reducible first|exact HB.out|apply below_alloc|apply pw_below_drewN|apply below_drew1|refine below_set ?_ GE228.out|refine below_set ?_ GE229.out)|exact HB.out)⟩
/-! ### impl_Plan_exponents: function 72 -/
mutual
def impl_Plan_exponents.l0 : Nat → List (List Int) → Int → Int → Int → List (S73) → List Int → Option ((List (List Int)))
 | 0,_,_,_,_,_,_=>none
 | k + 1,x3,x15,x16,x1000,x1001,x1002=>if x16 < x15 then (if 0 ≤ x1000 then (if (x1000 : Int).toNat ≤ 35184372088832 then ((some (List.replicate (x1000 : Int).toNat 0 : List Int)).bind fun y242=>(if 0 ≤ x16 then (if x16 < (y242.length : Int) then (if x3.length < 5864062014805 then (impl_Plan_exponents.l0 k (x3 ++ [(y242.set (x16 : Int).toNat 1)]) x15 (wrap64 (x16 + 1)) x1000 x1001 x1002) else (none)) else (none)) else (none))) else (none)) else (none)) else (impl_Plan_exponents.l1 k x3 x1001 (x1001.length : Int) 0)
def impl_Plan_exponents.l1 : Nat → List (List Int) → List (S73) → Int → Int → Option ((List (List Int)))
 | 0,_,_,_,_=>none
 | k + 1,x3,x35,x36,x37=>if x37 < x36 then (if 0 ≤ x37 then (if x37 < (x35.length : Int) then (if 0 ≤ ((rd_T73 x35 x37).f0) then (if ((rd_T73 x35 x37).f0) < (x3.length : Int) then (impl_Plan_exponents.l2 k x3 (([] : List Int)) x35 x36 x37 (rd_L3 x3 ((rd_T73 x35 x37).f0)) ((rd_L3 x3 ((rd_T73 x35 x37).f0)).length : Int) 0 ((rd_T73 x35 x37).f0) ((rd_T73 x35 x37).f1)) else (none)) else (none)) else (none)) else (none)) else (some x3)
def impl_Plan_exponents.l2 : Nat → List (List Int) → List Int → List (S73) → Int → Int → List Int → Int → Int → Int → Int → Option ((List (List Int)))
 | 0,_,_,_,_,_,_,_,_,_,_=>none
 | k + 1,x3,x8,x35,x36,x37,x46,x47,x48,x251000,x251001=>if x48 < x47 then (if 0 ≤ x48 then (if x48 < (x46.length : Int) then (if 0 ≤ x251001 then (if x251001 < (x3.length : Int) then (if x48 < ((rd_L3 x3 x251001).length : Int) then (if x8.length < 17592186044416 then (impl_Plan_exponents.l2 k x3 (x8 ++ [mn (wrap64 ((rd x46 x48) + (rd (rd_L3 x3 x251001) x48))) 1000001]) x35 x36 x37 x46 x47 (wrap64 (x48 + 1)) x251000 x251001) else (none)) else (none)) else (none)) else (none)) else (none)) else (none)) else (if x3.length < 5864062014805 then (impl_Plan_exponents.l1 k (x3 ++ [x8]) x35 x36 (wrap64 (x37 + 1))) else (none))
end
def impl_Plan_exponents.f (k : Nat) (a0_0 : Int) (l0_1 : List (S73)) (l0_2 : List Int) : Option ((List (List Int))):=impl_Plan_exponents.l0 k (([] : List (List Int))) a0_0 0 a0_0 l0_1 l0_2
theorem impl_Plan_exponents.mono_l : ∀ k,(∀ y0 y1 y2 y3 y4 y5,LeO (impl_Plan_exponents.l0 k y0 y1 y2 y3 y4 y5) (impl_Plan_exponents.l0 (k + 1) y0 y1 y2 y3 y4 y5)) ∧ (∀ y0 y1 y2 y3,LeO (impl_Plan_exponents.l1 k y0 y1 y2 y3) (impl_Plan_exponents.l1 (k + 1) y0 y1 y2 y3)) ∧ (∀ y0 y1 y2 y3 y4 y5 y6 y7 y8 y9,LeO (impl_Plan_exponents.l2 k y0 y1 y2 y3 y4 y5 y6 y7 y8 y9) (impl_Plan_exponents.l2 (k + 1) y0 y1 y2 y3 y4 y5 y6 y7 y8 y9))
 | 0=>⟨fun _ _ _ _ _ _ r h=>by simp [impl_Plan_exponents.l0] at h,fun _ _ _ _ r h=>by simp [impl_Plan_exponents.l1] at h,fun _ _ _ _ _ _ _ _ _ _ r h=>by simp [impl_Plan_exponents.l2] at h⟩
 | k + 1=>by
  obtain ⟨ih0,ih1,ih2⟩:=impl_Plan_exponents.mono_l k
  refine ⟨?_,?_,?_⟩
  ·intro y0 y1 y2 y3 y4 y5
   unfold impl_Plan_exponents.l0
   repeat' first
   | (with_reducible exact ih0 _ _ _ _ _ _)
   | (with_reducible exact ih1 _ _ _ _)
   | (with_reducible exact ih2 _ _ _ _ _ _ _ _ _ _)
   | (with_reducible exact LeO.refl _)
   | (with_reducible exact LeO.none _)
   | (with_reducible refine LeO.ite ?_ ?_)
   | (with_reducible refine LeO.bind ?_ (fun _=>?_))
   | exact ih0 _ _ _ _ _ _
   | exact ih1 _ _ _ _
   | exact ih2 _ _ _ _ _ _ _ _ _ _
   | exact LeO.none _
   | refine LeO.ite ?_ ?_
   | refine LeO.bind ?_ (fun _=>?_)
  ·intro y0 y1 y2 y3
   unfold impl_Plan_exponents.l1
   repeat' first
   | (with_reducible exact ih0 _ _ _ _ _ _)
   | (with_reducible exact ih1 _ _ _ _)
   | (with_reducible exact ih2 _ _ _ _ _ _ _ _ _ _)
   | (with_reducible exact LeO.refl _)
   | (with_reducible exact LeO.none _)
   | (with_reducible refine LeO.ite ?_ ?_)
   | (with_reducible refine LeO.bind ?_ (fun _=>?_))
   | exact ih0 _ _ _ _ _ _
   | exact ih1 _ _ _ _
   | exact ih2 _ _ _ _ _ _ _ _ _ _
   | exact LeO.none _
   | refine LeO.ite ?_ ?_
   | refine LeO.bind ?_ (fun _=>?_)
  ·intro y0 y1 y2 y3 y4 y5 y6 y7 y8 y9
   unfold impl_Plan_exponents.l2
   repeat' first
   | (with_reducible exact ih0 _ _ _ _ _ _)
   | (with_reducible exact ih1 _ _ _ _)
   | (with_reducible exact ih2 _ _ _ _ _ _ _ _ _ _)
   | (with_reducible exact LeO.refl _)
   | (with_reducible exact LeO.none _)
   | (with_reducible refine LeO.ite ?_ ?_)
   | (with_reducible refine LeO.bind ?_ (fun _=>?_))
   | exact ih0 _ _ _ _ _ _
   | exact ih1 _ _ _ _
   | exact ih2 _ _ _ _ _ _ _ _ _ _
   | exact LeO.none _
   | refine LeO.ite ?_ ?_
   | refine LeO.bind ?_ (fun _=>?_)
theorem impl_Plan_exponents.mono : ∀ a0 a1 a2 k,LeO (impl_Plan_exponents.f k a0 a1 a2) (impl_Plan_exponents.f (k + 1) a0 a1 a2):=by
 intro a0 a1 a2 k
 obtain ⟨ih0,ih1,ih2⟩:=impl_Plan_exponents.mono_l k
 unfold impl_Plan_exponents.f
 repeat' first
   | (with_reducible exact ih0 _ _ _ _ _ _)
   | (with_reducible exact ih1 _ _ _ _)
   | (with_reducible exact ih2 _ _ _ _ _ _ _ _ _ _)
   | (with_reducible exact LeO.refl _)
   | (with_reducible exact LeO.none _)
   | (with_reducible refine LeO.ite ?_ ?_)
   | (with_reducible refine LeO.bind ?_ (fun _=>?_))
   | exact ih0 _ _ _ _ _ _
   | exact ih1 _ _ _ _
   | exact ih2 _ _ _ _ _ _ _ _ _ _
   | exact LeO.none _
   | refine LeO.ite ?_ ?_
   | refine LeO.bind ?_ (fun _=>?_)
set_option maxHeartbeats 8000000 in
set_option maxRecDepth 100000 in
theorem impl_Plan_exponents.calls (k : Nat) (g0_ : Nat) (a0_0 : Int) (A0_1 : Option Addr) (c0_1 : Nat) (l0_1 : List (S73)) (A0_2 : Option Addr) (c0_2 : Nat) (l0_2 : List Int) (r : List (List Int)) (w : World) (hx0_ : w.heap[g0_]? = some (.cells #[.int .i64 a0_0,.slice A0_1 l0_1.length c0_1,.slice A0_2 l0_2.length c0_2] 29 (0,0))) (hr0_1 : Kd.C k73 w A0_1 l0_1.length l0_1) (hc0_1 : l0_1.length ≤ c0_1) (hr0_2 : Kd.C (Kd.int .i64) w A0_2 l0_2.length l0_2) (hc0_2 : l0_2.length ≤ c0_2) (h : impl_Plan_exponents.f k a0_0 l0_1 l0_2 = some r) :
  Calls Try.prog 72 #[.pointer (some ⟨g0_,0,none⟩)] w fun e w'=>∃ v0_ : Value,e = .returned (v0_) ∧ Kd.S (Kd.slice 3 (Kd.int .i64)) 23 w' w.heap.size (fun _=>True) v0_ r ∧ Below w.heap.size w w':=by
 have hu73:=Try.underlying73
 have HR0_1:=Aside0.mk hr0_1
 have HC0_1:=Aside0.mk hc0_1
 clear hr0_1 hc0_1
 have HR0_2:=Aside0.mk hr0_2
 have HC0_2:=Aside0.mk hc0_2
 clear hr0_2 hc0_2
 have BK0:=Aside0.mk hx0_
 clear hx0_
 have HB:=Aside0.mk (Below.refl w.heap.size w)
 have H : (impl_Plan_exponents.l0 k (([] : List (List Int))) a0_0 0 a0_0 l0_1 l0_2) = some r:=h
 clear h
 obtain ⟨y239,hy239⟩ : ∃ y_ : List (List Int),y_ = (([] : List (List Int))):=⟨_,rfl⟩
 replace H : (impl_Plan_exponents.l0 k y239 a0_0 0 a0_0 l0_1 l0_2) = some r:=by first|(rw [hy239];with_reducible exact H)|(have H2_:=(Option.bind_some _ _).symm.trans H;rw [hy239];with_reducible exact H2_)|(have H2_:=(Option.bind_some _ _).symm.trans H;with_reducible exact H2_)|with_reducible exact H|(rw [hy239];exact H)|exact H
 have Ny239:=Aside0.mk hy239
 clear hy239
 have H':=Aside0.mk H
 clear H
 go_enter Try.func72,Try.ntmps72
 go_wp2_with (first|((with_reducible refine gate_dst (N:=11) rfl ?_);refine Kd.S_lit (Kd.slice 3 (Kd.int .i64)) _ 23 ?hg (N:=11) ?hd (xs:=([] : List (List Int))) (inner:=[]) (ok:=fun _=>True) (okp:=fun _=>True) ?hr ?hp (fun _ hk=>hk) trivial (Below.refl _ _) (Nat.le_refl _) (by simp) ?_;(case hd=>rfl);(case hg=>rfl);(case hr=>first|(go_simp;done)|(go_simp;rfl));(case hp=>exact (Reps.none _ _));intro v240 w2 ho3 hb hg_ hnew_;clear hg_ hnew_;(first|rw [← Ny239.out] at ho3|(simp only [Int.reduceToNat] at ho3;rw [← Ny239.out] at ho3));have n0_:=Aside0.mk (Kd.S_lower ho3 (below_size bs));have n1_:=Aside0.mk (kb BK0.out hb);have n2_:=Aside0.mk (below_step bs hb);clear BK0 HB;have HO241:=n0_;have BK0:=n1_;have HB:=n2_;clear n0_ n1_ n2_;clear hb ho3;have hcz4_0 : w2.cell? ⟨g0_,0,none⟩ = some (.int .i64 a0_0):=(blk_cell BK0.out 0).trans rfl;have hcz4_1 : w2.cell? ⟨g0_,1,none⟩ = some (.slice A0_1 l0_1.length c0_1):=(blk_cell BK0.out 1).trans rfl;have hcz4_2 : w2.cell? ⟨g0_,2,none⟩ = some (.slice A0_2 l0_2.length c0_2):=(blk_cell BK0.out 2).trans rfl;have hfz4_0:=blk_frozen BK0.out 0;have hfz4_1:=blk_frozen BK0.out 1;have hfz4_2:=blk_frozen BK0.out 2))
 go_loopg [3,16] k (fun kq v3 v16 w'=>∃ (x3_1 : List (List Int)) (x16_1 : Int),v16 = .int .i64 x16_1 ∧ Aside0 (impl_Plan_exponents.l0 kq x3_1 a0_0 x16_1 a0_0 l0_1 l0_2 = some r) ∧ Aside0 (kq ≤ k) ∧ Aside0 (Kd.S (Kd.slice 3 (Kd.int .i64)) 23 w' w.heap.size (fun _=>True) v3 x3_1) ∧ Aside0 (w'.heap[g0_]? = some (.cells #[.int .i64 a0_0,(.slice A0_1 l0_1.length c0_1),(.slice A0_2 l0_2.length c0_2)] 29 (0,0))) ∧ Aside0 (Below w.heap.size w w'))
 case atStart=>exact ⟨(y239),(0),fz,H',⟨Nat.le_refl _⟩,⟨by (with_reducible repeat (first|apply Kd.S_alloc|apply Kd.S_drewN|apply Kd.S_drew));exact HO241.out⟩,⟨by (with_reducible repeat (first|refine blk_drewN ?_ _|refine blk_drew ?_|refine blk_alloc ?_ _));exact BK0.out⟩,⟨by repeat (first|(with_reducible first|exact HB.out|apply below_alloc|apply pw_below_drewN|apply below_drew1|refine below_set ?_ GE0.out)|exact HB.out)⟩⟩
 case round=>
  clear H'
  try clear p2
  try clear hcz4_0
  try clear hcz4_1
  try clear hcz4_2
  try clear hfz4_0
  try clear hfz4_1
  try clear hfz4_2
  obtain ⟨x3_1,x16_1,rfl,HA,HK1,HO_3,BK0,HB⟩:=hrel
  cases gk with
  | zero=>exact absurd HA.out (by simp [impl_Plan_exponents.l0])
  | succ k1=>
   have H:=HA.out
   clear HA
   simp only [impl_Plan_exponents.l0] at H
   by_cases c5 : x16_1 < a0_0
   ·rw [if_pos c5] at H
    have c5b0 : decide (x16_1 < a0_0) = true:=decide_eq_true c5
    clear c5
    by_cases c6 : 0 ≤ a0_0
    ·rw [if_pos c6] at H
     have c6b0:=eq_true c6
     have c6b1 : decide (0 ≤ a0_0) = true:=decide_eq_true c6
     clear c6
     by_cases c7 : (a0_0 : Int).toNat ≤ 35184372088832
     ·rw [if_pos c7] at H
      have c7b0:=eq_true c7
      have c7b1 : decide ((a0_0 : Int).toNat ≤ 35184372088832) = true:=decide_eq_true c7
      clear c7
      obtain ⟨y242,hy242⟩ : ∃ y_ : List Int,y_ = (List.replicate (a0_0 : Int).toNat 0):=⟨_,rfl⟩
      replace H : (if 0 ≤ x16_1 then (if x16_1 < (y242.length : Int) then (if x3_1.length < 5864062014805 then (impl_Plan_exponents.l0 k1 (x3_1 ++ [(y242.set (x16_1 : Int).toNat 1)]) a0_0 (wrap64 (x16_1 + 1)) a0_0 l0_1 l0_2) else (none)) else (none)) else (none)) = some r:=by first|(rw [hy242];with_reducible exact H)|(have H2_:=(Option.bind_some _ _).symm.trans H;rw [hy242];with_reducible exact H2_)|(have H2_:=(Option.bind_some _ _).symm.trans H;with_reducible exact H2_)|with_reducible exact H|(rw [hy242];exact H)|exact H
      have Ny242:=Aside0.mk hy242
      clear hy242
      by_cases c8 : 0 ≤ x16_1
      ·rw [if_pos c8] at H
       have c8b0 : decide (0 ≤ x16_1) = true:=decide_eq_true c8
       clear c8
       by_cases c9 : x16_1 < (y242.length : Int)
       ·rw [if_pos c9] at H
        have c9b0 : decide (x16_1 < (y242.length : Int)) = true:=decide_eq_true c9
        clear c9
        obtain ⟨y245,hy245⟩ : ∃ y_ : List Int,y_ = (y242.set (x16_1 : Int).toNat 1):=⟨_,rfl⟩
        replace H : (if x3_1.length < 5864062014805 then (impl_Plan_exponents.l0 k1 (x3_1 ++ [y245]) a0_0 (wrap64 (x16_1 + 1)) a0_0 l0_1 l0_2) else (none)) = some r:=by first|(rw [hy245];with_reducible exact H)|(have H2_:=(Option.bind_some _ _).symm.trans H;rw [hy245];with_reducible exact H2_)|(have H2_:=(Option.bind_some _ _).symm.trans H;with_reducible exact H2_)|with_reducible exact H|(rw [hy245];exact H)|exact H
        have Ny245:=Aside0.mk hy245
        clear hy245
        by_cases c11 : x3_1.length < 5864062014805
        ·rw [if_pos c11] at H
         have LMc11:=Aside0.mk c11
         clear c11
         obtain ⟨y246,hy246⟩ : ∃ y_ : List (List Int),y_ = (x3_1 ++ [y245]):=⟨_,rfl⟩
         replace H : (impl_Plan_exponents.l0 k1 y246 a0_0 (wrap64 (x16_1 + 1)) a0_0 l0_1 l0_2) = some r:=by first|(rw [hy246];with_reducible exact H)|(have H2_:=(Option.bind_some _ _).symm.trans H;rw [hy246];with_reducible exact H2_)|(have H2_:=(Option.bind_some _ _).symm.trans H;with_reducible exact H2_)|with_reducible exact H|(rw [hy246];exact H)|exact H
         have Ny246:=Aside0.mk hy246
         clear hy246
         have H':=Aside0.mk H
         clear H
         have hcz12_0 : wr.cell? ⟨g0_,0,none⟩ = some (.int .i64 a0_0):=(blk_cell BK0.out 0).trans rfl
         have hcz12_1 : wr.cell? ⟨g0_,1,none⟩ = some (.slice A0_1 l0_1.length c0_1):=(blk_cell BK0.out 1).trans rfl
         have hcz12_2 : wr.cell? ⟨g0_,2,none⟩ = some (.slice A0_2 l0_2.length c0_2):=(blk_cell BK0.out 2).trans rfl
         have hfz12_0:=blk_frozen BK0.out 0
         have hfz12_1:=blk_frozen BK0.out 1
         have hfz12_2:=blk_frozen BK0.out 2
         go_wp2_with (first|((with_reducible refine gate_dst (N:=23) rfl ?_);refine Kd.R_make (Kd.int .i64) _ 3 rfl (N:=23) rfl 23 _ _ rfl a0_0 rfl rfl Try.underlying23 (.int .i64 0) 8 info3 rfl (by decide) (by omega) 0 (ok:=fun _=>True) (okp:=fun _=>True) rfl (fun _ hk=>hk) trivial (of_decide_eq_true az) (Nat.le_trans (Nat.mul_le_mul_right _ (of_decide_eq_true az : a0_0.toNat ≤ 35184372088832)) (by omega)) (Below.refl _ _) (Nat.le_refl _) ?_;intro v243 w13 ho14 hb hg_ hnew_;clear hg_ hnew_;(first|rw [← Ny242.out] at ho14|(simp only [Int.reduceToNat] at ho14;rw [← Ny242.out] at ho14));have n0_:=Aside0.mk (Kd.S_elder' (by (with_reducible repeat (first|apply Kd.S_alloc|apply Kd.S_drewN|apply Kd.S_drew));exact HO_3.out) (Kd.R_base ho14) hb);have n1_:=Aside0.mk (Kd.R_lower ho14 (below_size bs));have n2_:=Aside0.mk (kb BK0.out hb);have n3_:=Aside0.mk (below_step bs hb);clear HO_3 BK0 HB;have HO_3:=n0_;have HO244:=n1_;have BK0:=n2_;have HB:=n3_;clear n0_ n1_ n2_ n3_;clear hb ho14;have p10 : 0 ≤ (x16_1 : Int):=of_decide_eq_true az;have q10 : (x16_1 : Int) < ((y242.length : Int) : Int):=of_decide_eq_true az;obtain ⟨go10,co10,eo10,gb10,gl10,cl10,HG10⟩:=Kd.R_form HO244.out (by omega);(first|cases eo10|(injection eo10 with ea_ en_ ec_;(first|subst ea_|(injection ea_ with ea_;subst ea_));subst ec_;clear en_));have GB10:=Aside0.mk gb10;have GG10:=Aside0.mk HG10;clear gb10 gl10 HG10;obtain ⟨hx10_0,hf10_0⟩:=Kd.R_celln 0 HO244.out (x16_1 : Int) p10 q10;replace p10:=eq_true p10;replace q10:=eq_true q10;obtain ⟨hy15_,hz15_⟩:=Kd.R_celln 0 HO244.out (x16_1 : Int) (of_decide_eq_true az) (of_decide_eq_true az);have HP15:=Kd.R_putg HO244.out (x16_1 : Int) 1)|((with_reducible refine gate_store (t:=3) (p:=26) rfl ?_);refine store_event (t:=3) (p:=26) (v:=?vo_w16) (w1:=(w13.setCell ⟨go10,(x16_1 : Int).toNat,none⟩ (.int .i64 1))) ?hg ?ho ?hn ?hr ?_;(case ho=>rfl);(case hg=>rfl);(case hn=>rfl);(case hr=>first|(go_simp;done)|(go_simp;rfl));intro w16 hw;have hg : w13.grownBy w16 (some go10):=(by rw [hw];exact HP15.2);have hp_ : Kd.R (Kd.int .i64) 3 w16 w.heap.size (fun _=>True) (.slice (some ⟨go10,0,none⟩) y242.length co10) y245:=(by rw [hw,Ny245.out];exact HP15.1);clear HP15;have n0_:=Aside0.mk (Kd.S_after (v:=(.slice (some ⟨go10,0,none⟩) y242.length co10)) (v1:=(.slice (some ⟨go10,0,none⟩) y242.length co10)) (ok:=(fun _=>True)) (by (with_reducible repeat (first|apply Kd.S_alloc|apply Kd.S_drewN|apply Kd.S_drew));exact HO_3.out) hg (.inl rfl));have n1_:=Aside0.mk (blk_grown (g:=g0_) (o:=.cells #[.int .i64 a0_0,.slice A0_1 l0_1.length c0_1,.slice A0_2 l0_2.length c0_2] 29 (0,0)) (kz BK0.out) hg (Kd.R_ne HO244.out BK0.out (by decide)));have n2_:=Aside0.mk (hp_);have n3_:=Aside0.mk ((by rw [hw];exact below_set (HB.out) GB10.out : Below w.heap.size w w16));clear HO_3 BK0 HO244 HB;have HO_3:=n0_;have BK0:=n1_;have HO244:=n2_;have HB:=n3_;clear n0_ n1_ n2_ n3_;clear hg hw hp_)|((with_reducible refine gate_builtin (b:=.append) (xs:=#[.tmp 27,.tmp 29]) rfl ?_);at_builtin;refine Kd.S_append (Kd.slice 3 (Kd.int .i64)) (w0:=w) w.heap.size rfl (.tmp 27) (.tmp 29) 50 23 (.slice none 0 0) 24 rfl Try.underlying50 info23 rfl (by decide) (by omega) u3 x3_1 y245 [.slice (some ⟨go10,0,none⟩) y242.length co10] (fun _=>True) (fun k_=>some k_ = (.slice (some ⟨go10,0,none⟩) y242.length co10 : Value).ownBlock) rfl rfl ?aP (fun k_ hk_=>((Kd.R_mono (ok':=fun k_=>((fun _=>True)) k_ ∧ some k_ ≠ (u3 : Value).ownBlock) (Kd.R_apart' (HO244.out) (Kd.S_typed HO_3.out) (by decide)) (fun k_ hk=>⟨trivial,hk.2⟩))).1 k_ hk_.symm) ?aF ?aO ?aB ?aS ?aL ?_;(case aP=>exact Kd.M_row (Kd.R_mono (Kd.R_tight rfl (Kd.R_mono (ok':=fun k_=>((fun _=>True)) k_ ∧ some k_ ≠ (u3 : Value).ownBlock) (Kd.R_apart' (HO244.out) (Kd.S_typed HO_3.out) (by decide)) (fun k_ hk=>⟨trivial,hk.2⟩))) (fun _ h_=>h_)));(case aB=>exact bs);(case aF=>exact (fun _ _=>trivial));(case aO=>exact (by (with_reducible repeat (first|apply Kd.S_alloc|apply Kd.S_drewN|apply Kd.S_drew));exact Kd.S_mono HO_3.out (fun k_ hk=>⟨trivial,fun e_=>hk.2 e_⟩)));(case aS=>exact (below_size bs));(case aL=>have:=LMc11.out;omega);intro v247 w17 ho hb hg hat;rw [← Ny246.out] at ho;have n0_:=Aside0.mk (blk_grown (g:=g0_) (o:=.cells #[.int .i64 a0_0,.slice A0_1 l0_1.length c0_1,.slice A0_2 l0_2.length c0_2] 29 (0,0)) (kz BK0.out) hg (Kd.S_ne HO_3.out BK0.out (by decide)));have n1_:=Aside0.mk (hb);have n2_:=Aside0.mk (ho);clear BK0 HB HO_3 HO244;have BK0:=n0_;have HB:=n1_;have HO248:=n2_;clear n0_ n1_ n2_;clear ho hb hg hat))
         go_roundg k1
         case measure=>have:=HK1.out;omega
         case rel=>exact ⟨(y246),(wrap64 (x16_1 + 1)),fz,H',⟨by have:=HK1.out;omega⟩,⟨by (with_reducible repeat (first|apply Kd.S_alloc|apply Kd.S_drewN|apply Kd.S_drew));exact HO248.out⟩,⟨by (with_reducible repeat (first|refine blk_drewN ?_ _|refine blk_drew ?_|refine blk_alloc ?_ _));exact BK0.out⟩,⟨by repeat (first|(with_reducible first|exact HB.out|apply below_alloc|apply pw_below_drewN|apply below_drew1|refine below_set ?_ GE0.out)|exact HB.out)⟩⟩
        ·rw [if_neg c11] at H
         exact absurd H (by simp)
       ·rw [if_neg c9] at H
        exact absurd H (by simp)
      ·rw [if_neg c8] at H
       exact absurd H (by simp)
     ·rw [if_neg c7] at H
      exact absurd H (by simp)
    ·rw [if_neg c6] at H
     exact absurd H (by simp)
   ·rw [if_neg c5] at H
    have c5b0 : decide (x16_1 < a0_0) = false:=decide_eq_false c5
    clear c5
    have H':=Aside0.mk H
    clear H
    have hcz18_0 : wr.cell? ⟨g0_,0,none⟩ = some (.int .i64 a0_0):=(blk_cell BK0.out 0).trans rfl
    have hcz18_1 : wr.cell? ⟨g0_,1,none⟩ = some (.slice A0_1 l0_1.length c0_1):=(blk_cell BK0.out 1).trans rfl
    have hcz18_2 : wr.cell? ⟨g0_,2,none⟩ = some (.slice A0_2 l0_2.length c0_2):=(blk_cell BK0.out 2).trans rfl
    have hfz18_0:=blk_frozen BK0.out 0
    have hfz18_1:=blk_frozen BK0.out 1
    have hfz18_2:=blk_frozen BK0.out 2
    go_wp2
    go_loopg [3,37] k1 (fun kq v3 v37 w'=>∃ (x3_2 : List (List Int)) (x37_2 : Int),v37 = .int .i64 x37_2 ∧ Aside0 (impl_Plan_exponents.l1 kq x3_2 l0_1 (l0_1.length : Int) x37_2 = some r) ∧ Aside0 (kq ≤ k1) ∧ Aside0 (Kd.S (Kd.slice 3 (Kd.int .i64)) 23 w' w.heap.size (fun _=>True) v3 x3_2) ∧ Aside0 (w'.heap[g0_]? = some (.cells #[.int .i64 a0_0,(.slice A0_1 l0_1.length c0_1),(.slice A0_2 l0_2.length c0_2)] 29 (0,0))) ∧ Aside0 (Below w.heap.size w w'))
    case atStart=>exact ⟨(x3_1),(0),fz,H',⟨Nat.le_refl _⟩,⟨by (with_reducible repeat (first|apply Kd.S_alloc|apply Kd.S_drewN|apply Kd.S_drew));exact HO_3.out⟩,⟨by (with_reducible repeat (first|refine blk_drewN ?_ _|refine blk_drew ?_|refine blk_alloc ?_ _));exact BK0.out⟩,⟨by repeat (first|(with_reducible first|exact HB.out|apply below_alloc|apply pw_below_drewN|apply below_drew1|refine below_set ?_ GE0.out)|exact HB.out)⟩⟩
    case round=>
     clear H'
     try clear c1
     try clear p1
     try clear q1
     try clear hx1
     try clear hf1
     try clear p2
     try clear c5
     try clear c5b0
     try clear c6
     try clear c6b0
     try clear c6b1
     try clear p6
     try clear c7
     try clear c7b0
     try clear c7b1
     try clear c8
     try clear c8b0
     try clear c9
     try clear c9b0
     try clear p10
     try clear q10
     try clear hx10
     try clear hf10
     try clear c11
     try clear hcz12_0
     try clear hcz12_1
     try clear hcz12_2
     try clear hcz18_0
     try clear hcz18_1
     try clear hcz18_2
     try clear hcz4_0
     try clear hcz4_1
     try clear hcz4_2
     try clear hfz12_0
     try clear hfz12_1
     try clear hfz12_2
     try clear hfz18_0
     try clear hfz18_1
     try clear hfz18_2
     try clear hfz4_0
     try clear hfz4_1
     try clear hfz4_2
     try clear hx10_0
     try clear p10
     try clear p2
     try clear q10
     obtain ⟨x3_2,x37_2,rfl,HA,HK2,HO_3,BK0,HB⟩:=hrel
     cases gk with
     | zero=>exact absurd HA.out (by simp [impl_Plan_exponents.l1])
     | succ k2=>
      have H:=HA.out
      clear HA
      simp only [impl_Plan_exponents.l1] at H
      by_cases c19 : x37_2 < (l0_1.length : Int)
      ·rw [if_pos c19] at H
       have c19b0 : decide (x37_2 < (l0_1.length : Int)) = true:=decide_eq_true c19
       clear c19
       by_cases c20 : 0 ≤ x37_2
       ·rw [if_pos c20] at H
        have c20b0 : decide (0 ≤ x37_2) = true:=decide_eq_true c20
        clear c20
        by_cases c21 : x37_2 < (l0_1.length : Int)
        ·rw [if_pos c21] at H
         have c21b0 : decide (x37_2 < (l0_1.length : Int)) = true:=decide_eq_true c21
         clear c21
         obtain ⟨y251,hy251⟩ : ∃ y_ : List Int,y_ = (([] : List Int)):=⟨_,rfl⟩
         replace H : (if 0 ≤ ((rd_T73 l0_1 x37_2).f0) then (if ((rd_T73 l0_1 x37_2).f0) < (x3_2.length : Int) then (impl_Plan_exponents.l2 k2 x3_2 y251 l0_1 (l0_1.length : Int) x37_2 (rd_L3 x3_2 ((rd_T73 l0_1 x37_2).f0)) ((rd_L3 x3_2 ((rd_T73 l0_1 x37_2).f0)).length : Int) 0 ((rd_T73 l0_1 x37_2).f0) ((rd_T73 l0_1 x37_2).f1)) else (none)) else (none)) = some r:=by first|(rw [hy251];with_reducible exact H)|(have H2_:=(Option.bind_some _ _).symm.trans H;rw [hy251];with_reducible exact H2_)|(have H2_:=(Option.bind_some _ _).symm.trans H;with_reducible exact H2_)|with_reducible exact H|(rw [hy251];exact H)|exact H
         have Ny251:=Aside0.mk hy251
         clear hy251
         by_cases c22 : 0 ≤ ((rd_T73 l0_1 x37_2).f0)
         ·rw [if_pos c22] at H
          have c22b0 : decide (0 ≤ ((rd_T73 l0_1 x37_2).f0)) = true:=decide_eq_true c22
          clear c22
          by_cases c23 : ((rd_T73 l0_1 x37_2).f0) < (x3_2.length : Int)
          ·rw [if_pos c23] at H
           have c23b0 : decide (((rd_T73 l0_1 x37_2).f0) < (x3_2.length : Int)) = true:=decide_eq_true c23
           clear c23
           have H':=Aside0.mk H
           clear H
           have p249 : 0 ≤ (x37_2 : Int):=of_decide_eq_true az
           have q249 : x37_2 < (l0_1.length : Int):=of_decide_eq_true az
           obtain ⟨ad249,e249,hx249_0,hx249_1⟩:=at_T73 HR0_1.out x37_2 p249 q249
           cases e249
           replace hx249_0:=(HB.out.cell (World.block_lt_of_cell? w _ hx249_0)).trans hx249_0
           replace hx249_1:=(HB.out.cell (World.block_lt_of_cell? w _ hx249_1)).trans hx249_1
           replace p249:=eq_true p249
           replace q249:=eq_true q249
           go_wp2_with (first|((with_reducible refine gate_dst (N:=7) rfl ?_);refine box_event ?hg (N:=7) ?hd (cs:=#[.int .i64 0,.int .i64 0]) (t:=73) ?hr ?_;(case hd=>rfl);(case hg=>rfl);(case hr=>first|(go_simp;done)|(go_simp;rfl));intro gb250 hg w24 hbox hb;have n0_:=Aside0.mk (Kd.S_below (by (with_reducible repeat (first|apply Kd.S_alloc|apply Kd.S_drewN|apply Kd.S_drew));exact HO_3.out) hb);have n1_:=Aside0.mk (kb BK0.out hb);have n2_:=Aside0.mk (below_step bs hb);have n3_:=Aside0.mk (hbox);have n4_:=Aside0.mk ((by rw [hg];exact (below_size bs) : w.heap.size ≤ gb250));have n5_:=Aside0.mk ((by rw [hg];exact (below_size bs) : w.heap.size ≤ gb250));have n6_:=Aside0.mk (kn hg BK0.out);have n7_:=Aside0.mk (km hg BK0.out);clear HO_3 BK0 HB;have HO_3:=n0_;have BK0:=n1_;have HB:=n2_;have BK250:=n3_;have GW250:=n4_;have GE250:=n5_;have NB0_250:=n6_;have NB250_0:=n7_;clear n0_ n1_ n2_ n3_ n4_ n5_ n6_ n7_;clear hb hbox hg;have hnb25:=NB250_0.out;have hnc25:=NB0_250.out;have hcz26_0 : w24.cell? ⟨gb250,0,none⟩ = some (.int .i64 0):=(blk_cell BK250.out 0).trans rfl;have hcz26_1 : w24.cell? ⟨gb250,1,none⟩ = some (.int .i64 0):=(blk_cell BK250.out 1).trans rfl;have hfz26_0:=blk_frozen BK250.out 0;have hfz26_1:=blk_frozen BK250.out 1)|((with_reducible refine gate_dst (N:=41) rfl ?_);refine Kd.R_lit (Kd.int .i64) _ 3 ?hg (N:=41) ?hd (xs:=([] : List Int)) (inner:=[]) (ok:=fun _=>True) (okp:=fun _=>True) ?hr ?hp (fun _ hk=>hk) trivial (Below.refl _ _) (Nat.le_refl _) (by simp) ?_;(case hd=>rfl);(case hg=>rfl);(case hr=>first|(go_simp;done)|(go_simp;rfl));(case hp=>exact (Reps.none _ _));intro v252 w27 ho28 hb hg_ hnew_;clear hg_ hnew_;(first|rw [← Ny251.out] at ho28|(simp only [Int.reduceToNat] at ho28;rw [← Ny251.out] at ho28));have n0_:=Aside0.mk (Kd.S_elder' (by (with_reducible repeat (first|apply Kd.S_alloc|apply Kd.S_drewN|apply Kd.S_drew));exact (Kd.S_mono (Kd.S_far (p:=⟨gb250,1,none⟩) (Kd.S_far (p:=⟨gb250,0,none⟩) (Kd.S_types HO_3.out BK250.out (by decide)) (fun _ hk=>hk.2) (.int .i64 ((rd_T73 l0_1 x37_2).f0))) (fun _ hk=>hk.2) (.int .i64 ((rd_T73 l0_1 x37_2).f1))) (fun _ h_=>h_.1))) (Kd.R_base ho28) hb);have n1_:=Aside0.mk (Kd.R_lower ho28 (below_size bs));have n2_:=Aside0.mk (blk_below (g:=g0_) (o:=.cells #[.int .i64 a0_0,.slice (some ad249) l0_1.length c0_1,.slice A0_2 l0_2.length c0_2] 29 (0,0)) (by (with_reducible repeat (first|refine blk_drewN ?_ _|refine blk_drew ?_|refine blk_alloc ?_ _));refine blk_far ?_ NB0_250.out _;(with_reducible repeat (first|refine blk_drewN ?_ _|refine blk_drew ?_|refine blk_alloc ?_ _));refine blk_far ?_ NB0_250.out _;(with_reducible repeat (first|refine blk_drewN ?_ _|refine blk_drew ?_|refine blk_alloc ?_ _));exact BK0.out) hb);have n3_:=Aside0.mk (blk_below (g:=gb250) (o:=.cells #[.int .i64 ((rd_T73 l0_1 x37_2).f0),.int .i64 ((rd_T73 l0_1 x37_2).f1)] 73 (0,0)) (by (with_reducible repeat (first|refine blk_drewN ?_ _|refine blk_drew ?_|refine blk_alloc ?_ _));refine blk_put (cs:=#[.int .i64 ((rd_T73 l0_1 x37_2).f0),.int .i64 0]) ?_ 1 _ rfl;(with_reducible repeat (first|refine blk_drewN ?_ _|refine blk_drew ?_|refine blk_alloc ?_ _));refine blk_put (cs:=#[.int .i64 0,.int .i64 0]) ?_ 0 _ rfl;(with_reducible repeat (first|refine blk_drewN ?_ _|refine blk_drew ?_|refine blk_alloc ?_ _));exact BK250.out) hb);have n4_:=Aside0.mk (below_step bs hb);clear HO_3 BK0 BK250 HB;have HO_3:=n0_;have HO253:=n1_;have BK0:=n2_;have BK250:=n3_;have HB:=n4_;clear n0_ n1_ n2_ n3_ n4_;clear hb ho28;have hcz29_0 : w27.cell? ⟨gb250,0,none⟩ = some (.int .i64 ((rd_T73 l0_1 x37_2).f0)):=(blk_cell BK250.out 0).trans rfl;have hcz29_1 : w27.cell? ⟨gb250,1,none⟩ = some (.int .i64 ((rd_T73 l0_1 x37_2).f1)):=(blk_cell BK250.out 1).trans rfl;have hfz29_0:=blk_frozen BK250.out 0;have hfz29_1:=blk_frozen BK250.out 1;obtain ⟨Ao30,co30,eo30⟩:=Kd.S_slice HO_3.out;subst eo30;have p254 : 0 ≤ (((rd_T73 l0_1 x37_2).f0) : Int):=of_decide_eq_true az;have q254 : ((rd_T73 l0_1 x37_2).f0) < (x3_2.length : Int):=of_decide_eq_true az;obtain ⟨ad254,A254_0,c254_0,e254,hx254_0,hl254_0,hi254_0⟩:=at_L3 (Kd.S_reads' HO_3.out).2.2 ((rd_T73 l0_1 x37_2).f0) p254 q254;cases e254;obtain ⟨ce254,hce254,hMe254,hcc254⟩:=Kd.S_get HO_3.out [] ((rd_T73 l0_1 x37_2).f0) p254 (by first|exact q254|exact of_decide_eq_true az|(have e_:=(Kd.S_reads' HO_3.out).1;omega));obtain ⟨ve254_0,rfl,ge254_0⟩:=hMe254;have hv254_0:=hcc254 0 _ rfl;rw [Nat.add_zero,show ((Kd.slice 3 (Kd.int .i64))).sz = 1 from rfl,Nat.mul_one] at hv254_0;replace hv254_0:=Option.some.inj (hv254_0.symm.trans hx254_0);rw [hv254_0] at ge254_0;have HL254_0:=Aside0.mk (show Kd.R (Kd.int .i64) 3 _ _ _ _ (rd_L3 x3_2 ((rd_T73 l0_1 x37_2).f0)) from ge254_0);clear hv254_0 ge254_0;clear hcc254 hce254;have HR254_0:=Aside0.mk hi254_0;have HC254_0:=Aside0.mk hl254_0;clear hi254_0 hl254_0;replace p254:=eq_true p254;replace q254:=eq_true q254))
           go_loopg [8,48] k2 (fun kq v8 v48 w'=>∃ (x8_3 : List Int) (x48_3 : Int),v48 = .int .i64 x48_3 ∧ Aside0 (impl_Plan_exponents.l2 kq x3_2 x8_3 l0_1 (l0_1.length : Int) x37_2 (rd_L3 x3_2 ((rd_T73 l0_1 x37_2).f0)) ((rd_L3 x3_2 ((rd_T73 l0_1 x37_2).f0)).length : Int) x48_3 ((rd_T73 l0_1 x37_2).f0) ((rd_T73 l0_1 x37_2).f1) = some r) ∧ Aside0 (kq ≤ k2) ∧ Aside0 (Kd.S (Kd.slice 3 (Kd.int .i64)) 23 w' w.heap.size (fun k_=>some k_ ≠ (v8 : Value).ownBlock) (.slice (some ad254) x3_2.length co30) x3_2) ∧ Aside0 (Kd.R (Kd.int .i64) 3 w' w.heap.size (fun _=>True) v8 x8_3) ∧ Aside0 (Kd.R (Kd.int .i64) 3 w' w.heap.size (fun k_=>some k_ ≠ (v8 : Value).ownBlock) (.slice A254_0 (rd_L3 x3_2 ((rd_T73 l0_1 x37_2).f0)).length c254_0) (rd_L3 x3_2 ((rd_T73 l0_1 x37_2).f0))) ∧ Aside0 (w'.heap[g0_]? = some (.cells #[.int .i64 a0_0,(.slice (some ad249) l0_1.length c0_1),(.slice A0_2 l0_2.length c0_2)] 29 (0,0))) ∧ Aside0 (w'.heap[gb250]? = some (.cells #[.int .i64 ((rd_T73 l0_1 x37_2).f0),.int .i64 ((rd_T73 l0_1 x37_2).f1)] 73 (0,0))) ∧ Aside0 (Below w.heap.size w w'))
           case atStart=>exact ⟨(y251),(0),fz,H',⟨Nat.le_refl _⟩,⟨by (with_reducible repeat (first|apply Kd.S_alloc|apply Kd.S_drewN|apply Kd.S_drew));exact Kd.S_mono HO_3.out (fun _ hk=>hk.2)⟩,⟨by (with_reducible repeat (first|apply Kd.R_alloc|apply Kd.R_drewN|apply Kd.R_drew));exact HO253.out⟩,⟨by (with_reducible repeat (first|apply Kd.R_alloc|apply Kd.R_drewN|apply Kd.R_drew));exact Kd.R_mono HL254_0.out (fun _ hk=>hk.1.2)⟩,⟨by (with_reducible repeat (first|refine blk_drewN ?_ _|refine blk_drew ?_|refine blk_alloc ?_ _));exact BK0.out⟩,⟨by (with_reducible repeat (first|refine blk_drewN ?_ _|refine blk_drew ?_|refine blk_alloc ?_ _));exact BK250.out⟩,⟨by repeat (first|(with_reducible first|exact HB.out|apply below_alloc|apply pw_below_drewN|apply below_drew1|refine below_set ?_ GE0.out|refine below_set ?_ GE250.out)|exact HB.out)⟩⟩
           case round=>
            clear H'
            try clear c1
            try clear p1
            try clear q1
            try clear hx1
            try clear hf1
            try clear c2
            try clear p2
            try clear q2
            try clear hx2
            try clear c5
            try clear c5b0
            try clear c6
            try clear c6b0
            try clear c6b1
            try clear p6
            try clear c7
            try clear c7b0
            try clear c7b1
            try clear c8
            try clear c8b0
            try clear c9
            try clear c9b0
            try clear p10
            try clear q10
            try clear hx10
            try clear hf10
            try clear c11
            try clear c19
            try clear c19b0
            try clear c20
            try clear c20b0
            try clear c21
            try clear c21b0
            try clear c22
            try clear c22b0
            try clear c23
            try clear c23b0
            try clear p24
            try clear q24
            try clear hx24
            try clear c25
            try clear p25
            try clear q25
            try clear hx25
            try clear hcz12_0
            try clear hcz12_1
            try clear hcz12_2
            try clear hcz18_0
            try clear hcz18_1
            try clear hcz18_2
            try clear hcz26_0
            try clear hcz26_1
            try clear hcz29_0
            try clear hcz29_1
            try clear hcz4_0
            try clear hcz4_1
            try clear hcz4_2
            try clear hfz12_0
            try clear hfz12_1
            try clear hfz12_2
            try clear hfz18_0
            try clear hfz18_1
            try clear hfz18_2
            try clear hfz26_0
            try clear hfz26_1
            try clear hfz29_0
            try clear hfz29_1
            try clear hfz4_0
            try clear hfz4_1
            try clear hfz4_2
            try clear hx10_0
            try clear hx249_0
            try clear hx249_1
            try clear hx254_0
            try clear p1
            try clear p10
            try clear p2
            try clear p249
            try clear p254
            try clear p6
            try clear q1
            try clear q10
            try clear q249
            try clear q254
            obtain ⟨x8_3,x48_3,rfl,HA,HK3,HO_3,HO_8,HO_46,BK0,BK250,HB⟩:=hrel
            cases gk with
            | zero=>exact absurd HA.out (by simp [impl_Plan_exponents.l2])
            | succ k3=>
             have H:=HA.out
             clear HA
             simp only [impl_Plan_exponents.l2] at H
             by_cases c31 : x48_3 < ((rd_L3 x3_2 ((rd_T73 l0_1 x37_2).f0)).length : Int)
             ·rw [if_pos c31] at H
              have c31b0 : decide (x48_3 < ((rd_L3 x3_2 ((rd_T73 l0_1 x37_2).f0)).length : Int)) = true:=decide_eq_true c31
              clear c31
              by_cases c32 : 0 ≤ x48_3
              ·rw [if_pos c32] at H
               have c32b0 : decide (0 ≤ x48_3) = true:=decide_eq_true c32
               clear c32
               by_cases c33 : x48_3 < ((rd_L3 x3_2 ((rd_T73 l0_1 x37_2).f0)).length : Int)
               ·rw [if_pos c33] at H
                have c33b0 : decide (x48_3 < ((rd_L3 x3_2 ((rd_T73 l0_1 x37_2).f0)).length : Int)) = true:=decide_eq_true c33
                clear c33
                by_cases c34 : 0 ≤ ((rd_T73 l0_1 x37_2).f1)
                ·rw [if_pos c34] at H
                 have c34b0 : decide (0 ≤ ((rd_T73 l0_1 x37_2).f1)) = true:=decide_eq_true c34
                 clear c34
                 by_cases c35 : ((rd_T73 l0_1 x37_2).f1) < (x3_2.length : Int)
                 ·rw [if_pos c35] at H
                  have c35b0 : decide (((rd_T73 l0_1 x37_2).f1) < (x3_2.length : Int)) = true:=decide_eq_true c35
                  clear c35
                  by_cases c36 : x48_3 < ((rd_L3 x3_2 ((rd_T73 l0_1 x37_2).f1)).length : Int)
                  ·rw [if_pos c36] at H
                   have c36b0 : decide (x48_3 < ((rd_L3 x3_2 ((rd_T73 l0_1 x37_2).f1)).length : Int)) = true:=decide_eq_true c36
                   clear c36
                   obtain ⟨ji37,hji37⟩ : ∃ j_ : Int,(mn (wrap64 ((rd (rd_L3 x3_2 ((rd_T73 l0_1 x37_2).f0)) x48_3) + (rd (rd_L3 x3_2 ((rd_T73 l0_1 x37_2).f1)) x48_3))) 1000001) = j_:=⟨_,rfl⟩
                   replace H : (if x8_3.length < 17592186044416 then (impl_Plan_exponents.l2 k3 x3_2 (x8_3 ++ [ji37]) l0_1 (l0_1.length : Int) x37_2 (rd_L3 x3_2 ((rd_T73 l0_1 x37_2).f0)) ((rd_L3 x3_2 ((rd_T73 l0_1 x37_2).f0)).length : Int) (wrap64 (x48_3 + 1)) ((rd_T73 l0_1 x37_2).f0) ((rd_T73 l0_1 x37_2).f1)) else (none)) = some r:=by first|(rw [hji37] at H;exact H)|(simp only [hji37] at H ⊢;exact H)
                   have hji37_ : (if 1000001 < (wrap64 ((rd (rd_L3 x3_2 ((rd_T73 l0_1 x37_2).f0)) x48_3) + (rd (rd_L3 x3_2 ((rd_T73 l0_1 x37_2).f1)) x48_3))) then 1000001 else (wrap64 ((rd (rd_L3 x3_2 ((rd_T73 l0_1 x37_2).f0)) x48_3) + (rd (rd_L3 x3_2 ((rd_T73 l0_1 x37_2).f1)) x48_3)))) = ji37:=hji37
                   by_cases c38 : x8_3.length < 17592186044416
                   ·rw [if_pos c38] at H
                    have LMc38:=Aside0.mk c38
                    clear c38
                    obtain ⟨y258,hy258⟩ : ∃ y_ : List Int,y_ = (x8_3 ++ [ji37]):=⟨_,rfl⟩
                    replace H : (impl_Plan_exponents.l2 k3 x3_2 y258 l0_1 (l0_1.length : Int) x37_2 (rd_L3 x3_2 ((rd_T73 l0_1 x37_2).f0)) ((rd_L3 x3_2 ((rd_T73 l0_1 x37_2).f0)).length : Int) (wrap64 (x48_3 + 1)) ((rd_T73 l0_1 x37_2).f0) ((rd_T73 l0_1 x37_2).f1)) = some r:=by first|(rw [hy258];with_reducible exact H)|(have H2_:=(Option.bind_some _ _).symm.trans H;rw [hy258];with_reducible exact H2_)|(have H2_:=(Option.bind_some _ _).symm.trans H;with_reducible exact H2_)|with_reducible exact H|(rw [hy258];exact H)|exact H
                    have Ny258:=Aside0.mk hy258
                    clear hy258
                    have H':=Aside0.mk H
                    clear H
                    have p255 : 0 ≤ (x48_3 : Int):=of_decide_eq_true az
                    have q255 : x48_3 < ((rd_L3 x3_2 ((rd_T73 l0_1 x37_2).f0)).length : Int):=of_decide_eq_true az
                    obtain ⟨ad255,e255,hx255_0⟩:=Kd.at_int (Kd.R_reads' HO_46.out).2.2 x48_3 p255 q255
                    cases e255
                    replace p255:=eq_true p255
                    replace q255:=eq_true q255
                    have hnb39:=NB250_0.out
                    have hnc39:=NB0_250.out
                    have hcz40_0 : wr.cell? ⟨gb250,0,none⟩ = some (.int .i64 ((rd_T73 l0_1 x37_2).f0)):=(blk_cell BK250.out 0).trans rfl
                    have hcz40_1 : wr.cell? ⟨gb250,1,none⟩ = some (.int .i64 ((rd_T73 l0_1 x37_2).f1)):=(blk_cell BK250.out 1).trans rfl
                    have hfz40_0:=blk_frozen BK250.out 0
                    have hfz40_1:=blk_frozen BK250.out 1
                    have p256 : 0 ≤ (((rd_T73 l0_1 x37_2).f1) : Int):=of_decide_eq_true az
                    have q256 : ((rd_T73 l0_1 x37_2).f1) < (x3_2.length : Int):=of_decide_eq_true az
                    obtain ⟨ad256,A256_0,c256_0,e256,hx256_0,hl256_0,hi256_0⟩:=at_L3 (Kd.S_reads' HO_3.out).2.2 ((rd_T73 l0_1 x37_2).f1) p256 q256
                    obtain rfl : ad254 = ad256:=(by injection e256)
                    obtain ⟨ce256,hce256,hMe256,hcc256⟩:=Kd.S_get HO_3.out [] ((rd_T73 l0_1 x37_2).f1) p256 (by first|exact q256|exact of_decide_eq_true az|(have e_:=(Kd.S_reads' HO_3.out).1;omega))
                    obtain ⟨ve256_0,rfl,ge256_0⟩:=hMe256
                    have hv256_0:=hcc256 0 _ rfl
                    rw [Nat.add_zero,show ((Kd.slice 3 (Kd.int .i64))).sz = 1 from rfl,Nat.mul_one] at hv256_0
                    replace hv256_0:=Option.some.inj (hv256_0.symm.trans hx256_0)
                    rw [hv256_0] at ge256_0
                    have HL256_0:=Aside0.mk (show Kd.R (Kd.int .i64) 3 _ _ _ _ (rd_L3 x3_2 ((rd_T73 l0_1 x37_2).f1)) from ge256_0)
                    clear hv256_0 ge256_0
                    clear hcc256 hce256
                    have HR256_0:=Aside0.mk hi256_0
                    have HC256_0:=Aside0.mk hl256_0
                    clear hi256_0 hl256_0
                    replace p256:=eq_true p256
                    replace q256:=eq_true q256
                    have p257 : 0 ≤ (x48_3 : Int):=of_decide_eq_true az
                    have q257 : x48_3 < ((rd_L3 x3_2 ((rd_T73 l0_1 x37_2).f1)).length : Int):=of_decide_eq_true az
                    obtain ⟨ad257,e257,hx257_0⟩:=Kd.at_int (by repeat (first|(with_reducible exact HR256_0.out)|(with_reducible refine Kd.C_alloc ?_ _)|(with_reducible refine Kd.C_drewN ?_ _)|(with_reducible refine Kd.C_drew ?_)|exact HR256_0.out)) x48_3 p257 q257
                    cases e257
                    replace p257:=eq_true p257
                    replace q257:=eq_true q257
                    go_wp2_with (first|((with_reducible refine gate_builtin (b:=.append) (xs:=#[.tmp 53,.tmp 65]) rfl ?_);at_builtin;refine Kd.R_append (Kd.int .i64) (w0:=w) w.heap.size rfl (.tmp 53) (.tmp 65) 23 3 (.int .i64 0) 8 rfl Try.underlying23 info3 rfl (by decide) (by omega) u8 x8_3 ji37 [.int .i64 ji37] (fun _=>True) (fun _=>False) rfl rfl ?aP (fun _ hk=>hk.elim) ?aF ?aO ?aB ?aS ?aL ?_;(case aP=>exact rfl);(case aB=>exact bs);(case aF=>exact (fun _ _=>trivial));(case aO=>exact (rz HO_8.out));(case aS=>exact (below_size bs));(case aL=>have:=LMc38.out;omega);intro v259 w41 ho hb hg hat;rw [← Ny258.out] at ho;have n0_:=Aside0.mk (Kd.S_after (ok:=(fun _=>True)) (by (with_reducible repeat (first|apply Kd.S_alloc|apply Kd.S_drewN|apply Kd.S_drew));exact Kd.S_mono HO_3.out (fun _ hk=>⟨trivial,hk⟩)) hg hat);have n1_:=Aside0.mk (Kd.R_after (ok:=(fun _=>True)) (by (with_reducible repeat (first|apply Kd.R_alloc|apply Kd.R_drewN|apply Kd.R_drew));exact Kd.R_mono HO_46.out (fun _ hk=>⟨trivial,hk⟩)) hg hat);have n2_:=Aside0.mk (blk_grown (g:=g0_) (o:=.cells #[.int .i64 a0_0,.slice (some ad249) l0_1.length c0_1,.slice A0_2 l0_2.length c0_2] 29 (0,0)) (kz BK0.out) hg (Kd.R_ne HO_8.out BK0.out (by decide)));have n3_:=Aside0.mk (blk_grown (g:=gb250) (o:=.cells #[.int .i64 ((rd_T73 l0_1 x37_2).f0),.int .i64 ((rd_T73 l0_1 x37_2).f1)] 73 (0,0)) (kz BK250.out) hg (Kd.R_ne HO_8.out BK250.out (by decide)));have n4_:=Aside0.mk (Kd.R_after (ok:=(fun k_=>some k_ ≠ (.slice (some ad254) x3_2.length co30 : Value).ownBlock)) (by (with_reducible repeat (first|apply Kd.R_alloc|apply Kd.R_drewN|apply Kd.R_drew));exact Kd.R_mono HL256_0.out (fun _ hk=>⟨hk.2,hk.1⟩)) hg hat);have n5_:=Aside0.mk (hb);have n6_:=Aside0.mk (ho);clear HO_3 HO_46 BK0 BK250 HL256_0 HB HO_8;have HO_3:=n0_;have HO_46:=n1_;have BK0:=n2_;have BK250:=n3_;have HL256_0:=n4_;have HB:=n5_;have HO260:=n6_;clear n0_ n1_ n2_ n3_ n4_ n5_ n6_;clear ho hb hg hat))
                    go_roundg k3
                    case measure=>have:=HK1.out;have:=HK2.out;have:=HK3.out;omega
                    case rel=>exact ⟨(y258),(wrap64 (x48_3 + 1)),fz,H',⟨by have:=HK1.out;have:=HK2.out;have:=HK3.out;omega⟩,⟨by (with_reducible repeat (first|apply Kd.S_alloc|apply Kd.S_drewN|apply Kd.S_drew));exact Kd.S_mono HO_3.out (fun _ hk=>hk.2)⟩,⟨by (with_reducible repeat (first|apply Kd.R_alloc|apply Kd.R_drewN|apply Kd.R_drew));exact HO260.out⟩,⟨by (with_reducible repeat (first|apply Kd.R_alloc|apply Kd.R_drewN|apply Kd.R_drew));exact Kd.R_mono HO_46.out (fun _ hk=>hk.2)⟩,⟨by (with_reducible repeat (first|refine blk_drewN ?_ _|refine blk_drew ?_|refine blk_alloc ?_ _));exact BK0.out⟩,⟨by (with_reducible repeat (first|refine blk_drewN ?_ _|refine blk_drew ?_|refine blk_alloc ?_ _));exact BK250.out⟩,⟨by repeat (first|(with_reducible first|exact HB.out|apply below_alloc|apply pw_below_drewN|apply below_drew1|refine below_set ?_ GE0.out|refine below_set ?_ GE250.out)|exact HB.out)⟩⟩
                   ·rw [if_neg c38] at H
                    exact absurd H (by simp)
                  ·rw [if_neg c36] at H
                   exact absurd H (by simp)
                 ·rw [if_neg c35] at H
                  exact absurd H (by simp)
                ·rw [if_neg c34] at H
                 exact absurd H (by simp)
               ·rw [if_neg c33] at H
                exact absurd H (by simp)
              ·rw [if_neg c32] at H
               exact absurd H (by simp)
             ·rw [if_neg c31] at H
              have c31b0 : decide (x48_3 < ((rd_L3 x3_2 ((rd_T73 l0_1 x37_2).f0)).length : Int)) = false:=decide_eq_false c31
              clear c31
              by_cases c42 : x3_2.length < 5864062014805
              ·rw [if_pos c42] at H
               have LMc42:=Aside0.mk c42
               clear c42
               obtain ⟨y261,hy261⟩ : ∃ y_ : List (List Int),y_ = (x3_2 ++ [x8_3]):=⟨_,rfl⟩
               replace H : (impl_Plan_exponents.l1 k3 y261 l0_1 (l0_1.length : Int) (wrap64 (x37_2 + 1))) = some r:=by first|(rw [hy261];with_reducible exact H)|(have H2_:=(Option.bind_some _ _).symm.trans H;rw [hy261];with_reducible exact H2_)|(have H2_:=(Option.bind_some _ _).symm.trans H;with_reducible exact H2_)|with_reducible exact H|(rw [hy261];exact H)|exact H
               have Ny261:=Aside0.mk hy261
               clear hy261
               have H':=Aside0.mk H
               clear H
               obtain ⟨Ao44,co44,eo44⟩:=Kd.R_slice HO_8.out
               subst eo44
               go_wp2_with (first|((with_reducible refine gate_builtin (b:=.append) (xs:=#[.tmp 68,.tmp 70]) rfl ?_);at_builtin;refine Kd.S_append (Kd.slice 3 (Kd.int .i64)) (w0:=w) w.heap.size rfl (.tmp 68) (.tmp 70) 50 23 (.slice none 0 0) 24 rfl Try.underlying50 info23 rfl (by decide) (by omega) (.slice (some ad254) x3_2.length co30) x3_2 x8_3 [.slice Ao44 x8_3.length co44] (fun _=>True) (fun k_=>some k_ = (.slice Ao44 x8_3.length co44 : Value).ownBlock) rfl rfl ?aP (fun k_ hk_=>((Kd.R_mono (ok':=fun k_=>((fun _=>True)) k_ ∧ some k_ ≠ (.slice (some ad254) x3_2.length co30 : Value).ownBlock) (Kd.R_apart' (HO_8.out) (Kd.S_typed HO_3.out) (by decide)) (fun k_ hk=>⟨trivial,hk.2⟩))).1 k_ hk_.symm) ?aF ?aO ?aB ?aS ?aL ?_;(case aP=>exact Kd.M_row (Kd.R_mono (Kd.R_tight rfl (Kd.R_mono (ok':=fun k_=>((fun _=>True)) k_ ∧ some k_ ≠ (.slice (some ad254) x3_2.length co30 : Value).ownBlock) (Kd.R_apart' (HO_8.out) (Kd.S_typed HO_3.out) (by decide)) (fun k_ hk=>⟨trivial,hk.2⟩))) (fun _ h_=>h_)));(case aB=>exact bs);(case aF=>exact (fun _ _=>trivial));(case aO=>exact (by (with_reducible repeat (first|apply Kd.S_alloc|apply Kd.S_drewN|apply Kd.S_drew));exact Kd.S_mono HO_3.out (fun k_ hk=>⟨trivial,fun e_=>hk e_⟩)));(case aS=>exact (below_size bs));(case aL=>have:=LMc42.out;omega);intro v262 w43 ho hb hg hat;rw [← Ny261.out] at ho;have n0_:=Aside0.mk (Kd.R_over' (rz HO_46.out) (Kd.S_typed (by (with_reducible repeat (first|apply Kd.S_alloc|apply Kd.S_drewN|apply Kd.S_drew));exact HO_3.out)) (by decide) hg);have n1_:=Aside0.mk (blk_grown (g:=g0_) (o:=.cells #[.int .i64 a0_0,.slice (some ad249) l0_1.length c0_1,.slice A0_2 l0_2.length c0_2] 29 (0,0)) (kz BK0.out) hg (Kd.S_ne HO_3.out BK0.out (by decide)));have n2_:=Aside0.mk (blk_grown (g:=gb250) (o:=.cells #[.int .i64 ((rd_T73 l0_1 x37_2).f0),.int .i64 ((rd_T73 l0_1 x37_2).f1)] 73 (0,0)) (kz BK250.out) hg (Kd.S_ne HO_3.out BK250.out (by decide)));have n3_:=Aside0.mk (hb);have n4_:=Aside0.mk (ho);clear HO_46 BK0 BK250 HB HO_3 HO_8;have HO_46:=n0_;have BK0:=n1_;have BK250:=n2_;have HB:=n3_;have HO263:=n4_;clear n0_ n1_ n2_ n3_ n4_;clear ho hb hg hat))
               go_roundg k3
               case measure=>have:=HK1.out;have:=HK2.out;have:=HK3.out;omega
               case rel=>exact ⟨(y261),(wrap64 (x37_2 + 1)),fz,H',⟨by have:=HK1.out;have:=HK2.out;have:=HK3.out;omega⟩,⟨by (with_reducible repeat (first|apply Kd.S_alloc|apply Kd.S_drewN|apply Kd.S_drew));exact HO263.out⟩,⟨by (with_reducible repeat (first|refine blk_drewN ?_ _|refine blk_drew ?_|refine blk_alloc ?_ _));exact BK0.out⟩,⟨by repeat (first|(with_reducible first|exact HB.out|apply below_alloc|apply pw_below_drewN|apply below_drew1|refine below_set ?_ GE0.out|refine below_set ?_ GE250.out)|exact HB.out)⟩⟩
              ·rw [if_neg c42] at H
               exact absurd H (by simp)
          ·rw [if_neg c23] at H
           exact absurd H (by simp)
         ·rw [if_neg c22] at H
          exact absurd H (by simp)
        ·rw [if_neg c21] at H
         exact absurd H (by simp)
       ·rw [if_neg c20] at H
        exact absurd H (by simp)
      ·rw [if_neg c19] at H
       have c19b0 : decide (x37_2 < (l0_1.length : Int)) = false:=decide_eq_false c19
       clear c19
       obtain rfl:=Option.some.inj H
       go_wp2
       go_ret
       exact ⟨_,by first|rfl|(simp [errW_none,errW_some] <;> rfl)|(simp [*,errW_none,errW_some] <;> rfl),by (with_reducible repeat (first|apply Kd.S_alloc|apply Kd.S_drewN|apply Kd.S_drew));exact HO_3.out,by repeat (first|(with_reducible first|exact HB.out|apply below_alloc|apply pw_below_drewN|apply below_drew1|refine below_set ?_ GE0.out)|exact HB.out)⟩
/-! ### slices_Max_int_int: function 89 -/
def slices_Max_int_int.l0 : Nat → List Int → Int → Int → Option (Int)
 | 0,_,_,_=>none
 | k + 1,x0,x3,x4=>if x4 < (x0.length : Int) then (if 0 ≤ x4 then (slices_Max_int_int.l0 k x0 (mx x3 (rd x0 x4)) (wrap64 (x4 + 1))) else (none)) else (some x3)
def slices_Max_int_int.f (k : Nat) (l0 : List Int) : Option (Int):=if (l0.length : Int) < 1 then (none) else (if 0 < (l0.length : Int) then (slices_Max_int_int.l0 k l0 (rd l0 0) 1) else (none))
theorem slices_Max_int_int.mono_l : ∀ k,(∀ y0 y1 y2,LeO (slices_Max_int_int.l0 k y0 y1 y2) (slices_Max_int_int.l0 (k + 1) y0 y1 y2))
 | 0=>fun _ _ _ r h=>by simp [slices_Max_int_int.l0] at h
 | k + 1=>by
  have ih0:=slices_Max_int_int.mono_l k
  ·intro y0 y1 y2
   unfold slices_Max_int_int.l0
   repeat' first
   | (with_reducible exact ih0 _ _ _)
   | (with_reducible exact LeO.refl _)
   | (with_reducible exact LeO.none _)
   | (with_reducible refine LeO.ite ?_ ?_)
   | (with_reducible refine LeO.bind ?_ (fun _=>?_))
   | exact ih0 _ _ _
   | exact LeO.none _
   | refine LeO.ite ?_ ?_
   | refine LeO.bind ?_ (fun _=>?_)
theorem slices_Max_int_int.mono : ∀ a0 k,LeO (slices_Max_int_int.f k a0) (slices_Max_int_int.f (k + 1) a0):=by
 intro a0 k
 have ih0:=slices_Max_int_int.mono_l k
 unfold slices_Max_int_int.f
 repeat' first
   | (with_reducible exact ih0 _ _ _)
   | (with_reducible exact LeO.refl _)
   | (with_reducible exact LeO.none _)
   | (with_reducible refine LeO.ite ?_ ?_)
   | (with_reducible refine LeO.bind ?_ (fun _=>?_))
   | exact ih0 _ _ _
   | exact LeO.none _
   | refine LeO.ite ?_ ?_
   | refine LeO.bind ?_ (fun _=>?_)
set_option maxHeartbeats 8000000 in
set_option maxRecDepth 100000 in
theorem slices_Max_int_int.calls (k : Nat) (A0 : Option Addr) (c0 : Nat) (l0 : List Int) (r : Int) (w : World) (hr0 : Kd.C (Kd.int .i64) w A0 l0.length l0) (hc0 : l0.length ≤ c0) (h : slices_Max_int_int.f k l0 = some r) :
  Calls Try.prog 89 #[.slice A0 l0.length c0] w fun e w'=>e = .returned (.int .i64 r) ∧ Below w.heap.size w w':=by
 have HR0:=Aside0.mk hr0
 have HC0:=Aside0.mk hc0
 clear hr0 hc0
 have HB:=Aside0.mk (Below.refl w.heap.size w)
 have H : (if (l0.length : Int) < 1 then (none) else (if 0 < (l0.length : Int) then (slices_Max_int_int.l0 k l0 (rd l0 0) 1) else (none))) = some r:=h
 clear h
 by_cases c2 : (l0.length : Int) < 1
 ·rw [if_pos c2] at H
  exact absurd H (by simp)
 ·rw [if_neg c2] at H
  have c2b0 : decide ((l0.length : Int) < 1) = false:=decide_eq_false c2
  have c2b1 : decide (l0.length < 1) = false:=decide_eq_false (by omega)
  clear c2
  by_cases c3 : 0 < (l0.length : Int)
  ·rw [if_pos c3] at H
   have c3b0 : decide (0 < (l0.length : Int)) = true:=decide_eq_true c3
   have c3b1 : decide (0 < l0.length) = true:=decide_eq_true (by omega)
   clear c3
   have H':=Aside0.mk H
   clear H
   have p264 : 0 ≤ (0 : Int):=(by omega)
   have q264 : 0 < (l0.length : Int):=of_decide_eq_true az
   obtain ⟨ad264,e264,hx264_0⟩:=Kd.at_int HR0.out 0 p264 q264
   cases e264
   have qi264 : (0 < l0.length) = True:=eq_true (by omega)
   (try rw [show ((0 : Int)).toNat = 0 from rfl] at hx264_0)
   (try rw [Addr.add_zero'] at hx264_0)
   replace p264:=eq_true p264
   replace q264:=eq_true q264
   go_enter Try.func89,Try.ntmps89
   go_wp2
   go_loopg [3,4] k (fun kq v3 v4 w'=>∃ (x3_1 : Int) (x4_1 : Int),v3 = .int .i64 x3_1 ∧ v4 = .int .i64 x4_1 ∧ Aside0 (slices_Max_int_int.l0 kq l0 x3_1 x4_1 = some r) ∧ Aside0 (kq ≤ k) ∧ Aside0 (Below w.heap.size w w'))
   case atStart=>exact ⟨(rd l0 0),(1),fz,fz,H',⟨Nat.le_refl _⟩,⟨by repeat (first|(with_reducible first|exact HB.out|apply below_alloc|apply pw_below_drewN|apply below_drew1)|exact HB.out)⟩⟩
   case round=>
    clear H'
    try clear c2
    try clear c2b0
    try clear c2b1
    try clear p2
    try clear q2
    try clear hx2
    try clear qi2
    try clear c3
    try clear c3b0
    try clear c3b1
    try clear hx264_0
    try clear p264
    try clear q264
    obtain ⟨x3_1,x4_1,rfl,rfl,HA,HK1,HB⟩:=hrel
    cases gk with
    | zero=>exact absurd HA.out (by simp [slices_Max_int_int.l0])
    | succ k1=>
     have H:=HA.out
     clear HA
     simp only [slices_Max_int_int.l0] at H
     by_cases c4 : x4_1 < (l0.length : Int)
     ·rw [if_pos c4] at H
      have c4b0 : decide (x4_1 < (l0.length : Int)) = true:=decide_eq_true c4
      clear c4
      by_cases c5 : 0 ≤ x4_1
      ·rw [if_pos c5] at H
       have c5b0 : decide (0 ≤ x4_1) = true:=decide_eq_true c5
       clear c5
       obtain ⟨ji6,hji6⟩ : ∃ j_ : Int,(mx x3_1 (rd l0 x4_1)) = j_:=⟨_,rfl⟩
       replace H : (slices_Max_int_int.l0 k1 l0 ji6 (wrap64 (x4_1 + 1))) = some r:=by first|(rw [hji6] at H;exact H)|(simp only [hji6] at H ⊢;exact H)
       have hji6_ : (if x3_1 < (rd l0 x4_1) then (rd l0 x4_1) else x3_1) = ji6:=hji6
       have H':=Aside0.mk H
       clear H
       have p265 : 0 ≤ (x4_1 : Int):=of_decide_eq_true az
       have q265 : x4_1 < (l0.length : Int):=of_decide_eq_true az
       obtain ⟨ad265,e265,hx265_0⟩:=Kd.at_int HR0.out x4_1 p265 q265
       obtain rfl : ad264 = ad265:=(by injection e265)
       replace hx265_0:=(HB.out.cell (World.block_lt_of_cell? w _ hx265_0)).trans hx265_0
       replace p265:=eq_true p265
       replace q265:=eq_true q265
       go_wp2
       go_roundg k1
       case measure=>have:=HK1.out;omega
       case rel=>exact ⟨(ji6),(wrap64 (x4_1 + 1)),(by first|rfl|(simp;done)|(simp only [← hji6] <;> (first|rfl|simp))|(simp [*];done)),fz,H',⟨by have:=HK1.out;omega⟩,⟨by repeat (first|(with_reducible first|exact HB.out|apply below_alloc|apply pw_below_drewN|apply below_drew1)|exact HB.out)⟩⟩
      ·rw [if_neg c5] at H
       exact absurd H (by simp)
     ·rw [if_neg c4] at H
      have c4b0 : decide (x4_1 < (l0.length : Int)) = false:=decide_eq_false c4
      clear c4
      obtain rfl:=Option.some.inj H
      go_wp2
      go_ret
      exact ⟨by first|rfl|(simp [errW_none,errW_some] <;> rfl)|(simp [*,errW_none,errW_some] <;> rfl),by repeat (first|(with_reducible first|exact HB.out|apply below_alloc|apply pw_below_drewN|apply below_drew1)|exact HB.out)⟩
  ·rw [if_neg c3] at H
   exact absurd H (by simp)
/-! ### impl_Plan_many: function 92 -/
def impl_Plan_many.f (a0_0 : Int) (l0_1 : List (S73)) (l0_2 : List Int) : Option (Int):=some (wrap64 (a0_0 + (l0_1.length : Int)))
set_option maxHeartbeats 8000000 in
set_option maxRecDepth 100000 in
theorem impl_Plan_many.calls (g0_ : Nat) (a0_0 : Int) (A0_1 : Option Addr) (c0_1 : Nat) (l0_1 : List (S73)) (A0_2 : Option Addr) (c0_2 : Nat) (l0_2 : List Int) (r : Int) (w : World) (hx0_ : w.heap[g0_]? = some (.cells #[.int .i64 a0_0,.slice A0_1 l0_1.length c0_1,.slice A0_2 l0_2.length c0_2] 29 (0,0))) (hr0_1 : Kd.C k73 w A0_1 l0_1.length l0_1) (hc0_1 : l0_1.length ≤ c0_1) (hr0_2 : Kd.C (Kd.int .i64) w A0_2 l0_2.length l0_2) (hc0_2 : l0_2.length ≤ c0_2) (h : impl_Plan_many.f a0_0 l0_1 l0_2 = some r) :
  Calls Try.prog 92 #[.pointer (some ⟨g0_,0,none⟩)] w fun e w'=>e = .returned (.int .i64 r) ∧ Below w.heap.size w w':=by
 have HR0_1:=Aside0.mk hr0_1
 have HC0_1:=Aside0.mk hc0_1
 clear hr0_1 hc0_1
 have HR0_2:=Aside0.mk hr0_2
 have HC0_2:=Aside0.mk hc0_2
 clear hr0_2 hc0_2
 have BK0:=Aside0.mk hx0_
 clear hx0_
 have HB:=Aside0.mk (Below.refl w.heap.size w)
 have H : (some (wrap64 (a0_0 + (l0_1.length : Int)))) = some r:=h
 clear h
 obtain rfl:=Option.some.inj H
 have hcz2_0 : w.cell? ⟨g0_,0,none⟩ = some (.int .i64 a0_0):=(blk_cell BK0.out 0).trans rfl
 have hcz2_1 : w.cell? ⟨g0_,1,none⟩ = some (.slice A0_1 l0_1.length c0_1):=(blk_cell BK0.out 1).trans rfl
 have hcz2_2 : w.cell? ⟨g0_,2,none⟩ = some (.slice A0_2 l0_2.length c0_2):=(blk_cell BK0.out 2).trans rfl
 have hfz2_0:=blk_frozen BK0.out 0
 have hfz2_1:=blk_frozen BK0.out 1
 have hfz2_2:=blk_frozen BK0.out 2
 go_enter Try.func92,Try.ntmps92
 go_wp2
 repeat (go_quiet (fail);try go_wp2)
 go_ret
 exact ⟨by first|rfl|(simp [errW_none,errW_some] <;> rfl)|(simp [*,errW_none,errW_some] <;> rfl),by repeat (first|(with_reducible first|exact HB.out|apply below_alloc|apply pw_below_drewN|apply below_drew1|refine below_set ?_ GE0.out)|exact HB.out)⟩
/-! ### impl_in: function 100 -/
def impl_in.f (a0 : Int) (a1 : Int) (a2 : Int) : Option (Bool):=if a0 ≥ a1 then (some (decide (a0 ≤ a2))) else (some false)
set_option maxHeartbeats 8000000 in
set_option maxRecDepth 100000 in
theorem impl_in.calls (a0 : Int) (a1 : Int) (a2 : Int) (r : Bool) (w : World) (h : impl_in.f a0 a1 a2 = some r) :
  Calls Try.prog 100 #[.int .i64 a0,.int .i64 a1,.int .i64 a2] w fun e w'=>e = .returned (.bool r) ∧ Drawn0 w w':=by
 have H : (if a0 ≥ a1 then (some (decide (a0 ≤ a2))) else (some false)) = some r:=h
 clear h
 by_cases c4 : a0 ≥ a1
 ·rw [if_pos c4] at H
  have c4b0 : decide (a1 ≤ a0) = true:=decide_eq_true c4
  clear c4
  obtain rfl:=Option.some.inj H
  go_enter Try.func100,Try.ntmps100
  go_wp2
  go_ret
  exact ⟨by first|rfl|(simp;done)|(simp [*];done),by repeat (first|exact Drawn0.refl _|apply Drawn0.step)⟩
 ·rw [if_neg c4] at H
  have c4b0 : decide (a1 ≤ a0) = false:=decide_eq_false c4
  clear c4
  obtain rfl:=Option.some.inj H
  go_enter Try.func100,Try.ntmps100
  go_wp2
  go_ret
  exact ⟨by first|rfl|(simp;done)|(simp [*];done),by repeat (first|exact Drawn0.refl _|apply Drawn0.step)⟩
end Go.Proofs.Ytdcdaoancmpbeaa.MFnExactReorderSteps
--sq
