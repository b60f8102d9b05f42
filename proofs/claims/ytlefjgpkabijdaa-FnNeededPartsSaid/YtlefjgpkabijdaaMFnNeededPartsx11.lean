import Derived.Test.YtlefjgpkabijdaaMFnNeededPartsx0
import Derived.Test.YtlefjgpkabijdaaMFnNeededPartsx1
import Derived.Test.YtlefjgpkabijdaaMFnNeededPartsx2
import Derived.Test.YtlefjgpkabijdaaMFnNeededPartsx7
import Derived.Test.YtlefjgpkabijdaaMFnNeededPartsx8
import Derived.Test.YtlefjgpkabijdaaMFnNeededPartsx10
import Derived.Test.YtlefjgpkabijdaaMFnNeededPartsx3
import Derived.Test.YtlefjgpkabijdaaMFnNeededPartsx4
import Derived.Test.YtlefjgpkabijdaaMFnNeededPartsx5
import Derived.Test.YtlefjgpkabijdaaMFnNeededPartsx6
import Derived.Test.YtlefjgpkabijdaaMFnNeededPartsx9
namespace Go.Proofs.Ytlefjgpkabijdaa.MFnNeededParts
open Go.RowKit Go.Proofs.YtlefjgpkabijdaaW.PrintWords Go.Proofs.YtlefjgpkabijdaaW.PrintLast Go.Proofs.YtlefjgpkabijdaaW.PrintMore Go.Proofs.YtlefjgpkabijdaaV Go.Proofs.YtlefjgpkabijdaaZ
attribute [local go_sem] max2_int min2_int max_two min_two max_three min_three max_four min_four   -- for this text's walks alone
set_option linter.unusedVariables false
set_option linter.unusedSimpArgs false
/-! ### impl_TrimPlan: function 13 -/
def impl_TrimPlan.f (k : Nat) (a0_0 : Int) (l0_1 : List (S56)) (l0_2 : List Int) : Option (Int × (List (S56)) × List Int × Bool):=(impl_IsPlan.f k a0_0 l0_1 l0_2).bind fun t390=>(if t390 = true then ((impl_Plan_trimmed.f k a0_0 l0_1 l0_2).bind fun bt391=>(some (bt391.1,bt391.2.1,bt391.2.2,true))) else (some (0,([] : List (S56)),([] : List Int),false)))
theorem impl_TrimPlan.mono : ∀ a0 a1 a2 k,LeO (impl_TrimPlan.f k a0 a1 a2) (impl_TrimPlan.f (k + 1) a0 a1 a2):=by
 intro a0 a1 a2 k
 unfold impl_TrimPlan.f
 repeat' first
   | (with_reducible exact impl_IsPlan.mono _ _ _ _)
   | (with_reducible exact impl_Plan_trimmed.mono _ _ _ _)
   | (with_reducible exact LeO.refl _)
   | (with_reducible exact LeO.none _)
   | (with_reducible refine LeO.ite ?_ ?_)
   | (with_reducible refine LeO.bind ?_ (fun _=>?_))
   | exact impl_IsPlan.mono _ _ _ _
   | exact impl_Plan_trimmed.mono _ _ _ _
   | exact LeO.none _
   | refine LeO.ite ?_ ?_
   | refine LeO.bind ?_ (fun _=>?_)
set_option maxHeartbeats 8000000 in
set_option maxRecDepth 100000 in
theorem impl_TrimPlan.calls (k : Nat) (a0_0 : Int) (A0_1 : Option Addr) (c0_1 : Nat) (l0_1 : List (S56)) (A0_2 : Option Addr) (c0_2 : Nat) (l0_2 : List Int) (r1 : Int) (r2 : List (S56)) (r3 : List Int) (r4 : Bool) (w : World) (hr0_1 : Kd.C k56 w A0_1 l0_1.length l0_1) (hc0_1 : l0_1.length ≤ c0_1) (hr0_2 : Kd.C (Kd.int .i64) w A0_2 l0_2.length l0_2) (hc0_2 : l0_2.length ≤ c0_2) (h : impl_TrimPlan.f k a0_0 l0_1 l0_2 = some (r1,r2,r3,r4)) :
  Calls Try.prog 13 #[.agg #[.int .i64 a0_0,.slice A0_1 l0_1.length c0_1,.slice A0_2 l0_2.length c0_2]] w fun e w'=>∃ v1_ v2_ : Value,e = .returned (.tuple #[.agg #[.int .i64 r1,v1_,v2_],.bool r4]) ∧ Kd.R k56 56 w' w.heap.size (fun _=>True) v1_ r2 ∧ Kd.R (Kd.int .i64) 3 w' w.heap.size (fun _=>True) v2_ r3 ∧ Below w.heap.size w w':=by
 have hu32:=Try.underlying32
 have HR0_1:=Aside0.mk hr0_1
 have HC0_1:=Aside0.mk hc0_1
 clear hr0_1 hc0_1
 have HR0_2:=Aside0.mk hr0_2
 have HC0_2:=Aside0.mk hc0_2
 clear hr0_2 hc0_2
 have HB:=Aside0.mk (Below.refl w.heap.size w)
 have H : ((impl_IsPlan.f k a0_0 l0_1 l0_2).bind fun t390=>(if t390 = true then ((impl_Plan_trimmed.f k a0_0 l0_1 l0_2).bind fun bt391=>(some (bt391.1,bt391.2.1,bt391.2.2,true))) else (some (0,([] : List (S56)),([] : List Int),false)))) = some (r1,r2,r3,r4):=h
 clear h
 obtain ⟨t390,A2,H⟩:=bd H
 by_cases c3 : t390 = true
 ·subst c3
  rw [if_pos rfl] at H
  replace H:=Option.bind_eq_some_iff.mp H
  obtain ⟨⟨t391,t392,t395⟩,A40,H⟩:=H
  replace H : (some (t391,t392,t395,true)) = some (r1,r2,r3,r4):=H
  have A4:=Aside0.mk A40
  clear A40
  simp only [Option.some.injEq,Prod.mk.injEq] at H
  obtain ⟨rfl,rfl,rfl,rfl⟩:=H
  go_enter Try.func13,Try.ntmps13
  go_wp2_with (first|((with_reducible refine gate_dst (N:=1) rfl ?_);refine box_event ?hg (N:=1) ?hd (cs:=#[.int .i64 a0_0,.slice A0_1 l0_1.length c0_1,.slice A0_2 l0_2.length c0_2]) (t:=32) ?hr ?_;(case hd=>rfl);(case hg=>rfl);(case hr=>first|(go_simp;done)|(go_simp;rfl));intro gb388 hg w5 hbox hb;have n0_:=Aside0.mk (below_step bz hb);have n1_:=Aside0.mk (hbox);have n2_:=Aside0.mk ((by rw [hg];exact (below_size bz) : w.heap.size ≤ gb388));have n3_:=Aside0.mk ((by rw [hg];exact (below_size bz) : w.heap.size ≤ gb388));clear HB;have HB:=n0_;have BK388:=n1_;have GW388:=n2_;have GE388:=n3_;clear n0_ n1_ n2_ n3_;clear hb hbox hg)|((with_reducible refine gate_dst (N:=2) rfl ?_);refine box_event ?hg (N:=2) ?hd (cs:=#[.int .i64 0,.slice none 0 0,.slice none 0 0]) (t:=32) ?hr ?_;(case hd=>rfl);(case hg=>rfl);(case hr=>first|(go_simp;done)|(go_simp;rfl));intro gb389 hg w6 hbox hb;have n0_:=Aside0.mk (blk_below (g:=gb388) (o:=.cells #[.int .i64 a0_0,.slice A0_1 l0_1.length c0_1,.slice A0_2 l0_2.length c0_2] 32 (0,0)) (kz BK388.out) hb);have n1_:=Aside0.mk (below_step bs hb);have n2_:=Aside0.mk (hbox);have n3_:=Aside0.mk ((by rw [hg];exact (below_size bs) : w.heap.size ≤ gb389));have n4_:=Aside0.mk ((by rw [hg];exact (below_size bs) : w.heap.size ≤ gb389));have n5_:=Aside0.mk ((by rw [hg];exact Nat.ne_of_lt (blk_lt (g:=gb388) (o:=.cells #[.int .i64 a0_0,.slice A0_1 l0_1.length c0_1,.slice A0_2 l0_2.length c0_2] 32 (0,0)) (kz BK388.out)) : gb388 ≠ gb389));have n6_:=Aside0.mk ((by rw [hg];exact Nat.ne_of_gt (blk_lt (g:=gb388) (o:=.cells #[.int .i64 a0_0,.slice A0_1 l0_1.length c0_1,.slice A0_2 l0_2.length c0_2] 32 (0,0)) (kz BK388.out)) : gb389 ≠ gb388));clear BK388 HB;have BK388:=n0_;have HB:=n1_;have BK389:=n2_;have GW389:=n3_;have GE389:=n4_;have NB388_389:=n5_;have NB389_388:=n6_;clear n0_ n1_ n2_ n3_ n4_ n5_ n6_;clear hb hbox hg;have hnb7:=NB388_389.out;have hnc7:=NB389_388.out;have hcz8_0 : w6.cell? ⟨gb388,0,none⟩ = some (.int .i64 a0_0):=(blk_cell BK388.out 0).trans rfl;have hcz8_1 : w6.cell? ⟨gb388,1,none⟩ = some (.slice A0_1 l0_1.length c0_1):=(blk_cell BK388.out 1).trans rfl;have hcz8_2 : w6.cell? ⟨gb388,2,none⟩ = some (.slice A0_2 l0_2.length c0_2):=(blk_cell BK388.out 2).trans rfl;have hfz8_0:=blk_frozen BK388.out 0;have hfz8_1:=blk_frozen BK388.out 1;have hfz8_2:=blk_frozen BK388.out 2)|((with_reducible refine gate_callee (f:=39) rfl ?_);refine goesL_ (some 5) rfl rfl Try.func39 (by kernel_rfl) rfl #[.agg #[.int .i64 a0_0,.slice A0_1 l0_1.length c0_1,.slice A0_2 l0_2.length c0_2]] rfl mz ?_;(with_reducible refine (impl_IsPlan.calls k a0_0 _ _ l0_1 _ _ l0_2 true _ ?side1 ?side2 ?side3 ?side4 A2.out).mono ?_);(case side1=>exact cz (Kd.C_below HR0_1.out HB.out));(case side2=>exact HC0_1.out);(case side3=>exact cz (Kd.C_below HR0_2.out HB.out));(case side4=>exact HC0_2.out);rintro e w9 ⟨rfl,hb⟩;refine ⟨_,rfl,?_⟩;have n0_:=Aside0.mk (blk_below (g:=gb388) (o:=.cells #[.int .i64 a0_0,.slice A0_1 l0_1.length c0_1,.slice A0_2 l0_2.length c0_2] 32 (0,0)) (kz BK388.out) hb);have n1_:=Aside0.mk (blk_below (g:=gb389) (o:=.cells #[.int .i64 0,.slice none 0 0,.slice none 0 0] 32 (0,0)) (kz BK389.out) hb);have n2_:=Aside0.mk (below_step bs hb);clear BK388 BK389 HB;have BK388:=n0_;have BK389:=n1_;have HB:=n2_;clear n0_ n1_ n2_;(try clear hb))|((with_reducible refine gate_callee (f:=40) rfl ?_);refine goesL_ (some 8) rfl rfl Try.func40 (by kernel_rfl) rfl #[.pointer (some ⟨gb388,0,none⟩)] rfl mz ?_;(with_reducible refine (impl_Plan_trimmed.calls k gb388 a0_0 A0_1 c0_1 l0_1 A0_2 c0_2 l0_2 t391 t392 t395 _ ?side1 ?side2 ?side3 ?side4 ?side5 A4.out).mono ?_);(case side1=>exact by (with_reducible repeat (first|refine blk_drewN ?_ _|refine blk_drew ?_|refine blk_alloc ?_ _));exact BK388.out);(case side2=>exact cz (Kd.C_below HR0_1.out HB.out));(case side3=>exact HC0_1.out);(case side4=>exact cz (Kd.C_below HR0_2.out HB.out));(case side5=>exact HC0_2.out);rintro e w10 ⟨v393,v396,rfl,ho0,ho1,hb⟩;refine ⟨_,rfl,?_⟩;have n0_:=Aside0.mk (Kd.R_lower ho0 (below_size bs));have n1_:=Aside0.mk (Kd.R_lower ho1 (below_size bs));have n2_:=Aside0.mk (blk_below (g:=gb388) (o:=.cells #[.int .i64 a0_0,.slice A0_1 l0_1.length c0_1,.slice A0_2 l0_2.length c0_2] 32 (0,0)) (kz BK388.out) hb);have n3_:=Aside0.mk (blk_below (g:=gb389) (o:=.cells #[.int .i64 0,.slice none 0 0,.slice none 0 0] 32 (0,0)) (kz BK389.out) hb);have n4_:=Aside0.mk (below_step bs hb);clear BK388 BK389 HB;have HO394:=n0_;have HO397:=n1_;have BK388:=n2_;have BK389:=n3_;have HB:=n4_;clear n0_ n1_ n2_ n3_ n4_;(try clear hb);(try clear ho0);(try clear ho1);have hcz11_0 : w10.cell? ⟨gb389,0,none⟩ = some (.int .i64 0):=(blk_cell BK389.out 0).trans rfl;have hcz11_1 : w10.cell? ⟨gb389,1,none⟩ = some (.slice none 0 0):=(blk_cell BK389.out 1).trans rfl;have hcz11_2 : w10.cell? ⟨gb389,2,none⟩ = some (.slice none 0 0):=(blk_cell BK389.out 2).trans rfl;have hfz11_0:=blk_frozen BK389.out 0;have hfz11_1:=blk_frozen BK389.out 1;have hfz11_2:=blk_frozen BK389.out 2;obtain ⟨Ao12,co12,eo12⟩:=Kd.R_slice HO394.out;subst eo12;obtain ⟨Ao13,co13,eo13⟩:=Kd.R_slice HO397.out;subst eo13))
  refine bodyPost_ret (results_ct rfl _ _ gb389 32 #[.int .i64 t391,.slice Ao12 t392.length co12,.slice Ao13 t395.length co13] (0,0) _ rfl (by (with_reducible repeat (first|refine blk_drewN ?_ _|refine blk_drew ?_|refine blk_alloc ?_ _));refine blk_put (cs:=#[.int .i64 t391,.slice Ao12 t392.length co12,.slice none 0 0]) ?_ 2 _ rfl;(with_reducible repeat (first|refine blk_drewN ?_ _|refine blk_drew ?_|refine blk_alloc ?_ _));refine blk_put (cs:=#[.int .i64 t391,.slice none 0 0,.slice none 0 0]) ?_ 1 _ rfl;(with_reducible repeat (first|refine blk_drewN ?_ _|refine blk_drew ?_|refine blk_alloc ?_ _));refine blk_put (cs:=#[.int .i64 0,.slice none 0 0,.slice none 0 0]) ?_ 0 _ rfl;(with_reducible repeat (first|refine blk_drewN ?_ _|refine blk_drew ?_|refine blk_alloc ?_ _));exact BK389.out) Try.underlying32 rfl (by kernel_rfl)) rfl ?_
  exact ⟨_,_,by first|rfl|(simp [errW_none,errW_some] <;> rfl)|(simp [*,errW_none,errW_some] <;> rfl),by (with_reducible repeat (first|apply Kd.R_alloc|apply Kd.R_drewN|apply Kd.R_drew));exact Kd.R_mono (Kd.R_far (p:=⟨gb389,2,none⟩) (Kd.R_far (p:=⟨gb389,1,none⟩) (Kd.R_far (p:=⟨gb389,0,none⟩) (Kd.R_types HO394.out BK389.out (by decide)) (fun _ hk=>hk.2) (.int .i64 t391)) (fun _ hk=>hk.2) (.slice Ao12 t392.length co12)) (fun _ hk=>hk.2) (.slice Ao13 t395.length co13)) (fun _ hk=>trivial),by (with_reducible repeat (first|apply Kd.R_alloc|apply Kd.R_drewN|apply Kd.R_drew));exact Kd.R_mono (Kd.R_far (p:=⟨gb389,2,none⟩) (Kd.R_far (p:=⟨gb389,1,none⟩) (Kd.R_far (p:=⟨gb389,0,none⟩) (Kd.R_types HO397.out BK389.out (by decide)) (fun _ hk=>hk.2) (.int .i64 t391)) (fun _ hk=>hk.2) (.slice Ao12 t392.length co12)) (fun _ hk=>hk.2) (.slice Ao13 t395.length co13)) (fun _ hk=>trivial),by repeat (first|(with_reducible first|exact HB.out|apply below_alloc|apply pw_below_drewN|apply below_drew1|refine below_set ?_ GE388.out|refine below_set ?_ GE389.out)|exact HB.out)⟩
 ·replace c3:=Bool.eq_false_iff.mpr c3
  subst c3
  rw [if_neg (show ¬ (false = true) by decide)] at H
  simp only [Option.some.injEq,Prod.mk.injEq] at H
  obtain ⟨rfl,rfl,rfl,rfl⟩:=H
  go_enter Try.func13,Try.ntmps13
  go_wp2_with (first|((with_reducible refine gate_dst (N:=1) rfl ?_);refine box_event ?hg (N:=1) ?hd (cs:=#[.int .i64 a0_0,.slice A0_1 l0_1.length c0_1,.slice A0_2 l0_2.length c0_2]) (t:=32) ?hr ?_;(case hd=>rfl);(case hg=>rfl);(case hr=>first|(go_simp;done)|(go_simp;rfl));intro gb388 hg w14 hbox hb;have n0_:=Aside0.mk (below_step bz hb);have n1_:=Aside0.mk (hbox);have n2_:=Aside0.mk ((by rw [hg];exact (below_size bz) : w.heap.size ≤ gb388));have n3_:=Aside0.mk ((by rw [hg];exact (below_size bz) : w.heap.size ≤ gb388));clear HB;have HB:=n0_;have BK388:=n1_;have GW388:=n2_;have GE388:=n3_;clear n0_ n1_ n2_ n3_;clear hb hbox hg)|((with_reducible refine gate_dst (N:=2) rfl ?_);refine box_event ?hg (N:=2) ?hd (cs:=#[.int .i64 0,.slice none 0 0,.slice none 0 0]) (t:=32) ?hr ?_;(case hd=>rfl);(case hg=>rfl);(case hr=>first|(go_simp;done)|(go_simp;rfl));intro gb389 hg w15 hbox hb;have n0_:=Aside0.mk (blk_below (g:=gb388) (o:=.cells #[.int .i64 a0_0,.slice A0_1 l0_1.length c0_1,.slice A0_2 l0_2.length c0_2] 32 (0,0)) (kz BK388.out) hb);have n1_:=Aside0.mk (below_step bs hb);have n2_:=Aside0.mk (hbox);have n3_:=Aside0.mk ((by rw [hg];exact (below_size bs) : w.heap.size ≤ gb389));have n4_:=Aside0.mk ((by rw [hg];exact (below_size bs) : w.heap.size ≤ gb389));have n5_:=Aside0.mk ((by rw [hg];exact Nat.ne_of_lt (blk_lt (g:=gb388) (o:=.cells #[.int .i64 a0_0,.slice A0_1 l0_1.length c0_1,.slice A0_2 l0_2.length c0_2] 32 (0,0)) (kz BK388.out)) : gb388 ≠ gb389));have n6_:=Aside0.mk ((by rw [hg];exact Nat.ne_of_gt (blk_lt (g:=gb388) (o:=.cells #[.int .i64 a0_0,.slice A0_1 l0_1.length c0_1,.slice A0_2 l0_2.length c0_2] 32 (0,0)) (kz BK388.out)) : gb389 ≠ gb388));clear BK388 HB;have BK388:=n0_;have HB:=n1_;have BK389:=n2_;have GW389:=n3_;have GE389:=n4_;have NB388_389:=n5_;have NB389_388:=n6_;clear n0_ n1_ n2_ n3_ n4_ n5_ n6_;clear hb hbox hg;have hnb16:=NB388_389.out;have hnc16:=NB389_388.out;have hcz17_0 : w15.cell? ⟨gb388,0,none⟩ = some (.int .i64 a0_0):=(blk_cell BK388.out 0).trans rfl;have hcz17_1 : w15.cell? ⟨gb388,1,none⟩ = some (.slice A0_1 l0_1.length c0_1):=(blk_cell BK388.out 1).trans rfl;have hcz17_2 : w15.cell? ⟨gb388,2,none⟩ = some (.slice A0_2 l0_2.length c0_2):=(blk_cell BK388.out 2).trans rfl;have hfz17_0:=blk_frozen BK388.out 0;have hfz17_1:=blk_frozen BK388.out 1;have hfz17_2:=blk_frozen BK388.out 2)|((with_reducible refine gate_callee (f:=39) rfl ?_);refine goesL_ (some 5) rfl rfl Try.func39 (by kernel_rfl) rfl #[.agg #[.int .i64 a0_0,.slice A0_1 l0_1.length c0_1,.slice A0_2 l0_2.length c0_2]] rfl mz ?_;(with_reducible refine (impl_IsPlan.calls k a0_0 _ _ l0_1 _ _ l0_2 false _ ?side1 ?side2 ?side3 ?side4 A2.out).mono ?_);(case side1=>exact cz (Kd.C_below HR0_1.out HB.out));(case side2=>exact HC0_1.out);(case side3=>exact cz (Kd.C_below HR0_2.out HB.out));(case side4=>exact HC0_2.out);rintro e w18 ⟨rfl,hb⟩;refine ⟨_,rfl,?_⟩;have n0_:=Aside0.mk (blk_below (g:=gb388) (o:=.cells #[.int .i64 a0_0,.slice A0_1 l0_1.length c0_1,.slice A0_2 l0_2.length c0_2] 32 (0,0)) (kz BK388.out) hb);have n1_:=Aside0.mk (blk_below (g:=gb389) (o:=.cells #[.int .i64 0,.slice none 0 0,.slice none 0 0] 32 (0,0)) (kz BK389.out) hb);have n2_:=Aside0.mk (below_step bs hb);clear BK388 BK389 HB;have BK388:=n0_;have BK389:=n1_;have HB:=n2_;clear n0_ n1_ n2_;(try clear hb);have hcz19_0 : w18.cell? ⟨gb389,0,none⟩ = some (.int .i64 0):=(blk_cell BK389.out 0).trans rfl;have hcz19_1 : w18.cell? ⟨gb389,1,none⟩ = some (.slice none 0 0):=(blk_cell BK389.out 1).trans rfl;have hcz19_2 : w18.cell? ⟨gb389,2,none⟩ = some (.slice none 0 0):=(blk_cell BK389.out 2).trans rfl;have hfz19_0:=blk_frozen BK389.out 0;have hfz19_1:=blk_frozen BK389.out 1;have hfz19_2:=blk_frozen BK389.out 2))
  refine bodyPost_ret (results_ct rfl _ _ gb389 32 #[.int .i64 0,.slice none 0 0,.slice none 0 0] (0,0) _ rfl (by (with_reducible repeat (first|refine blk_drewN ?_ _|refine blk_drew ?_|refine blk_alloc ?_ _));refine blk_put (cs:=#[.int .i64 0,.slice none 0 0,.slice none 0 0]) ?_ 2 _ rfl;(with_reducible repeat (first|refine blk_drewN ?_ _|refine blk_drew ?_|refine blk_alloc ?_ _));refine blk_put (cs:=#[.int .i64 0,.slice none 0 0,.slice none 0 0]) ?_ 1 _ rfl;(with_reducible repeat (first|refine blk_drewN ?_ _|refine blk_drew ?_|refine blk_alloc ?_ _));refine blk_put (cs:=#[.int .i64 0,.slice none 0 0,.slice none 0 0]) ?_ 0 _ rfl;(with_reducible repeat (first|refine blk_drewN ?_ _|refine blk_drew ?_|refine blk_alloc ?_ _));exact BK389.out) Try.underlying32 rfl (by kernel_rfl)) rfl ?_
  exact ⟨_,_,by first|rfl|(simp [errW_none,errW_some] <;> rfl)|(simp [*,errW_none,errW_some] <;> rfl),by first|exact Kd.R_nil _ _ _ _ _|exact Kd.N_nil _ _ _ _ _|exact Kd.V_nil _ _ _ _ _|exact Kd.Q_nil _ _ _ _ _|exact Kd.S_nil _ _ _ _ _,by first|exact Kd.R_nil _ _ _ _ _|exact Kd.N_nil _ _ _ _ _|exact Kd.V_nil _ _ _ _ _|exact Kd.Q_nil _ _ _ _ _|exact Kd.S_nil _ _ _ _ _,by repeat (first|(with_reducible first|exact HB.out|apply below_alloc|apply pw_below_drewN|apply below_drew1|refine below_set ?_ GE388.out|refine below_set ?_ GE389.out)|exact HB.out)⟩
/-! ### impl_increasing: function 41 -/
section
def impl_increasing.f (l0 : List Int) : Option (List Int):=if 0 < l0.length ∧ l0.length ≤ 1000000000 then some (Go.Lib.compact (l0.mergeSort fun x y=>decide (x ≤ y))) else none
set_option maxHeartbeats 2000000 in
set_option maxRecDepth 100000 in
theorem impl_increasing.calls (P0_ : Nat → Prop) (u9000_ : Value) (l0 : List Int) (r : List Int) (w0 w : World) (hB : Below w0.heap.size w0 w) (ho0 : Kd.R (Kd.int .i64) 3 w w0.heap.size P0_ u9000_ l0) (h : impl_increasing.f l0 = some r) :
  Calls Try.prog 41 #[u9000_] w fun e w'=>∃ v0_ : Value,e = .returned v0_ ∧ Kd.R (Kd.int .i64) 3 w' w0.heap.size (fun k_=>(P0_ k_ ∨ w.heap.size ≤ k_)) v0_ r ∧ Below w0.heap.size w0 w' ∧ Kept w w' (fun k_=>P0_ k_):=by
 unfold impl_increasing.f at h
 by_cases c : 0 < l0.length ∧ l0.length ≤ 1000000000
 ·rw [if_pos c] at h
  have HI:=Aside0.mk (Option.some.inj h)
  obtain ⟨hp,hs⟩:=c
  have hl : (l0.mergeSort fun x y=>decide (x ≤ y)).length = l0.length:=List.length_mergeSort l0
  have HP:=Aside0.mk (show 0 < (l0.mergeSort fun x y=>decide (x ≤ y)).length by rw [hl];exact hp)
  have HSRT:=Aside0.mk (Go.Proofs.YtlefjgpkabijdaaS.sortk_f77 hB ho0 hp (Nat.lt_of_le_of_lt hs (by decide)))
  clear hB ho0 hp hs hl h
  obtain ⟨m,hm⟩ : ∃ m,(l0.mergeSort fun x y=>decide (x ≤ y)) = m:=⟨_,rfl⟩
  rw [hm] at HP HSRT HI
  clear hm
  go_enter Try.func41,Try.ntmps41
  go_wp2_with (first|(go_at_call 77;refine HSRT.out.mono ?_;rintro e w1 ⟨rfl,ho,hb,hk⟩;have HO1:=Aside0.mk ho;have HB1:=Aside0.mk hb;have HK1:=Aside0.mk hk;clear ho hb hk)|(go_at_call 78;refine (Go.Proofs.YtlefjgpkabijdaaS.compk_f78 HB1.out HO1.out HP.out (Go.Lib.compact_length_le _)).mono ?_;rintro e w2 ⟨v2,rfl,ho,hb,hk⟩;have HO2:=Aside0.mk ho;have HB2:=Aside0.mk hb;have HK2:=Aside0.mk hk;clear ho hb hk))
  go_ret
  exact ⟨_,rfl,by rw [← HI.out];exact Kd.R_mono HO2.out (fun _ hk=>.inl hk),HB2.out,HK1.out.then_ HK2.out (fun _ hk=>.inl hk)⟩
 ·rw [if_neg c] at h;cases h
end
/-! ### slices_Concat_int_int: function 42 -/
section
def slices_Concat_int_int.f (l0 : List (List Int)) : Option (List Int):=if l0.length ≤ 1000000 ∧ l0.flatten.length ≤ 1000000000 then some l0.flatten else none
theorem slices_Concat_int_int.step (l0 : List (List Int)) (k : Nat) (h : k < l0.length) : (l0.take (k + 1)).flatten = (l0.take k).flatten ++ Go.Proofs.YtlefjgpkabijdaaH.rdRow l0 (k : Int):=by
 have e : Go.Proofs.YtlefjgpkabijdaaH.rdRow l0 (k : Int) = l0[k]:=by unfold Go.Proofs.YtlefjgpkabijdaaH.rdRow;rw [Int.toNat_natCast];simp [List.getD,h]
 rw [List.take_succ_eq_append_getElem h,List.flatten_append,e]
 simp
theorem slices_Concat_int_int.part (l0 : List (List Int)) (k : Nat) : (l0.take k).flatten.length ≤ l0.flatten.length:=by
 have:=congrArg (fun l=>l.flatten.length) (List.take_append_drop k l0)
 simp only [List.flatten_append,List.length_append] at this
 omega
theorem slices_Concat_int_int.num (n m : Nat) (h : n + m ≤ 1000000000) : wrap64 ((n : Int) + (m : Int)) = ((n + m : Nat) : Int) ∧ ¬ ((n + m : Nat) : Int) < 0 ∧ ¬ (n : Int) + (m : Int) < 0 ∧ wrap64 ((n : Int) + (m : Int)) = (n : Int) + (m : Int):=by
 refine ⟨?_,?_,?_,?_⟩ <;> first|omega|(unfold wrap64;omega)
theorem slices_Concat_int_int.nums (l0 : List (List Int)) (k : Nat) (h : k < l0.length) (hs : l0.flatten.length ≤ 1000000000) : ∃ n m : Nat,(l0.take k).flatten.length = n ∧ (Go.Proofs.YtlefjgpkabijdaaH.rdRow l0 (k : Int)).length = m ∧ (l0.take (k + 1)).flatten.length = n + m ∧ wrap64 ((n : Int) + (m : Int)) = ((n + m : Nat) : Int) ∧ ¬ ((n + m : Nat) : Int) < 0 ∧ ¬ (n : Int) + (m : Int) < 0 ∧ wrap64 ((n : Int) + (m : Int)) = (n : Int) + (m : Int):=by
 have e : (l0.take (k + 1)).flatten.length = (l0.take k).flatten.length + (Go.Proofs.YtlefjgpkabijdaaH.rdRow l0 (k : Int)).length:=by rw [slices_Concat_int_int.step l0 k h,List.length_append]
 have b:=Nat.le_trans (e ▸ slices_Concat_int_int.part l0 (k + 1)) hs
 exact ⟨_,_,rfl,rfl,e,slices_Concat_int_int.num _ _ b⟩
theorem slices_Concat_int_int.eight (a b : Nat) (h : a + b ≤ 1000000000) : (a + b) * 8 ≤ 140737488355328:=by omega
set_option maxHeartbeats 2000000 in
set_option maxRecDepth 100000 in
theorem slices_Concat_int_int.calls (A0 : Option Addr) (c0 : Nat) (l0 : List (List Int)) (r : List Int) (w : World) (hr0 : Kd.C (Kd.slice 3 (Kd.int .i64)) w A0 l0.length l0) (hc0 : l0.length ≤ c0) (h : slices_Concat_int_int.f l0 = some r) :
  Calls Try.prog 42 #[.slice A0 l0.length c0] w fun e w'=>∃ v0_ : Value,e = .returned v0_ ∧ Kd.R (Kd.int .i64) 3 w' w.heap.size (fun _=>True) v0_ r ∧ Below w.heap.size w w':=by
 unfold slices_Concat_int_int.f at h
 by_cases hs : l0.length ≤ 1000000 ∧ l0.flatten.length ≤ 1000000000
 ·rw [if_pos hs] at h
  obtain rfl:=Option.some.inj h
  have HR0:=Aside0.mk hr0
  have HS:=Aside0.mk hs
  clear hr0 hs h
  go_enter Try.func42,Try.ntmps42
  go_wp2
  go_loopg [3,11] l0.length (fun gg s3 s11 wr=>∃ kk : Nat,Aside0 (kk ≤ l0.length ∧ l0.length - kk ≤ gg ∧ Below w.heap.size w wr) ∧ s3 = .int .i64 (((l0.take kk).flatten.length : Nat) : Int) ∧ s11 = .int .i64 kk)
  case atStart=>exact ⟨0,⟨⟨Nat.zero_le _,by omega,Below.refl _ _⟩⟩,rfl,rfl⟩
  case round=>
   obtain ⟨kk,HK,rfl,rfl⟩:=hrel
   obtain ⟨h1,h2,h4⟩:=HK.out
   clear HK
   by_cases hlt : kk < l0.length
   ·have hltz : (kk : Int) < (l0.length : Int):=by omega
    obtain ⟨a0,B0,b0,ea,hx0,g0,hC0⟩:=Go.Proofs.YtlefjgpkabijdaaH.at_row HR0.out (kk : Int) (by omega) hltz
    subst ea
    rw [Int.toNat_natCast] at hx0
    replace hx0:=pw_cell_below h4 hx0
    obtain ⟨n,m,hn,hm,hnm,w1,w2,w3,w4⟩:=slices_Concat_int_int.nums l0 kk hlt HS.out.2
    rw [hn]
    rw [hm] at hx0
    have H2:=Aside0.mk h2
    have H4:=Aside0.mk h4
    have HNM:=Aside0.mk hnm
    clear h2 h4 hnm hn hm hC0 g0
    go_wp2
    go_roundg (l0.length - (kk + 1))
    case measure=>have:=H2.out;omega
    case rel=>exact ⟨kk + 1,⟨⟨by omega,by omega,H4.out⟩⟩,by rw [HNM.out];first|rfl|(rw [w1];done)|simp,by rw [show wrap64 ((kk : Int) + 1) = ((kk + 1 : Nat) : Int) by have:=HS.out.1;unfold wrap64;omega]⟩
   ·have hltz : ¬ (kk : Int) < (l0.length : Int):=by omega
    obtain rfl : kk = l0.length:=by omega
    rw [List.take_length]
    obtain ⟨n,hn⟩ : ∃ n,l0.flatten.length = n:=⟨_,rfl⟩
    have HN:=Aside0.mk (show n ≤ 1000000000 by rw [← hn];exact HS.out.2)
    rw [hn]
    have H4:=Aside0.mk h4
    clear h2 h4 hn
    go_wp2_with (go_at_call 79;refine (Go.Proofs.YtlefjgpkabijdaaS.grow_f79 n wr HN.out).mono ?_;rintro e w5 ⟨v5,rfl,ho,hb⟩;have HO5:=Aside0.mk ho;have HB5:=Aside0.mk hb;clear ho hb)
    go_loopg [6,27] l0.length (fun gg s6 s27 wq=>∃ (kk : Nat) (v : Value),Aside0 (kk ≤ l0.length ∧ l0.length - kk ≤ gg ∧ Below w.heap.size w wq ∧ Kd.R (Kd.int .i64) 3 wq w.heap.size (fun _=>True) v (l0.take kk).flatten) ∧ s6 = v ∧ s27 = .int .i64 kk)
    case atStart=>exact ⟨0,v5,⟨⟨Nat.zero_le _,by omega,H4.out.trans (HB5.out.mono H4.out.size),by rw [List.take_zero];exact Kd.R_lower HO5.out H4.out.size⟩⟩,rfl,rfl⟩
    case round=>
     obtain ⟨kk,v,HK,rfl,rfl⟩:=hrel
     obtain ⟨h1,h2,h4,h5⟩:=HK.out
     clear HK
     by_cases hlt : kk < l0.length
     ·have hltz : (kk : Int) < (l0.length : Int):=by omega
      obtain ⟨a0,B0,b0,ea,hx0,g0,hC0⟩:=Go.Proofs.YtlefjgpkabijdaaH.at_row HR0.out (kk : Int) (by omega) hltz
      subst ea
      rw [Int.toNat_natCast] at hx0
      replace hx0:=pw_cell_below h4 hx0
      have hst:=slices_Concat_int_int.step l0 kk hlt
      have hb:=Nat.le_trans (slices_Concat_int_int.part l0 (kk + 1)) HS.out.2
      rw [hst,List.length_append] at hb
      have HL:=Aside0.mk (slices_Concat_int_int.eight _ _ hb)
      clear hb
      generalize Go.Proofs.YtlefjgpkabijdaaH.rdRow l0 (kk : Int) = ys at *
      generalize (l0.take kk).flatten = xs at *
      have H2:=Aside0.mk h2
      have H4:=Aside0.mk h4
      have H5:=Aside0.mk h5
      have HST:=Aside0.mk hst
      have HC:=Aside0.mk (Kd.C_below hC0 h4)
      clear h2 h4 h5 hst hC0 g0
      go_wp2_with ((with_reducible refine gate_builtin (b:=.append) (xs:=#[.tmp 31,.tmp 32]) rfl ?_);at_builtin;refine Kd.R_append_rows (Kd.int .i64) (w0:=w) w.heap.size rfl (.tmp 31) (.tmp 32) 24 3 (.int .i64 0) 8 rfl Try.underlying24 info3 rfl (by decide) (by omega) _ xs ys _ _ _ (fun _=>True) (fun _=>False) rfl rfl H5.out HC.out (fun _ _ h=>h) (fun _ h=>h.elim) (fun _ _=>trivial) H4.out H4.out.size HL.out ?_;intro v6 w6 ho hb hg hat;have HO6:=Aside0.mk ho;have HB6:=Aside0.mk hb;clear ho hb hg hat)
      go_roundg (l0.length - (kk + 1))
      case measure=>have:=H2.out;omega
      case rel=>exact ⟨kk + 1,v6,⟨⟨by omega,by omega,HB6.out,by rw [HST.out];exact HO6.out⟩⟩,rfl,by rw [show wrap64 ((kk : Int) + 1) = ((kk + 1 : Nat) : Int) by unfold wrap64;have:=HS.out.1;omega]⟩
     ·have hltz : ¬ (kk : Int) < (l0.length : Int):=by omega
      obtain rfl : kk = l0.length:=by omega
      rw [List.take_length] at h5
      have H4:=Aside0.mk h4
      have H5:=Aside0.mk h5
      clear h2 h4 h5
      go_wp2
      go_ret
      exact ⟨_,rfl,H5.out,H4.out⟩
 ·rw [if_neg hs] at h;cases h
end
/-! ### impl_ChainOfPlan: function 14 -/
def impl_ChainOfPlan.j0 : Nat → Bool → Int → List (S56) → List Int → Option (List Int × Bool)
 | 0,_,_,_,_=>none
 | k + 1,x11,x399000,x399001,x399002=>if x11 = true then (some (([] : List Int),false)) else ((impl_Plan_exponents.f k x399000 x399001 x399002).bind fun t400=>((slices_Concat_int_int.f t400).bind fun t403=>((impl_increasing.f t403).bind fun t406=>(some (t406,true)))))
def impl_ChainOfPlan.f (k : Nat) (a0_0 : Int) (l0_1 : List (S56)) (l0_2 : List Int) : Option (List Int × Bool):=(impl_IsPlan.f k a0_0 l0_1 l0_2).bind fun t399=>(if t399 = true then (impl_ChainOfPlan.j0 k (a0_0 != 1) a0_0 l0_1 l0_2) else (impl_ChainOfPlan.j0 k true a0_0 l0_1 l0_2))
theorem impl_ChainOfPlan.mono_l : ∀ k,(∀ y0 y1 y2 y3,LeO (impl_ChainOfPlan.j0 k y0 y1 y2 y3) (impl_ChainOfPlan.j0 (k + 1) y0 y1 y2 y3))
 | 0=>fun _ _ _ _ r h=>by simp [impl_ChainOfPlan.j0] at h
 | k + 1=>by
  have ih0:=impl_ChainOfPlan.mono_l k
  ·intro y0 y1 y2 y3
   unfold impl_ChainOfPlan.j0
   repeat' first
   | (with_reducible exact ih0 _ _ _ _)
   | (with_reducible exact impl_IsPlan.mono _ _ _ _)
   | (with_reducible exact impl_Plan_exponents.mono _ _ _ _)
   | (with_reducible exact LeO.refl _)
   | (with_reducible exact LeO.none _)
   | (with_reducible refine LeO.ite ?_ ?_)
   | (with_reducible refine LeO.bind ?_ (fun _=>?_))
   | exact ih0 _ _ _ _
   | exact impl_IsPlan.mono _ _ _ _
   | exact impl_Plan_exponents.mono _ _ _ _
   | exact LeO.none _
   | refine LeO.ite ?_ ?_
   | refine LeO.bind ?_ (fun _=>?_)
theorem impl_ChainOfPlan.mono : ∀ a0 a1 a2 k,LeO (impl_ChainOfPlan.f k a0 a1 a2) (impl_ChainOfPlan.f (k + 1) a0 a1 a2):=by
 intro a0 a1 a2 k
 have ih0:=impl_ChainOfPlan.mono_l k
 unfold impl_ChainOfPlan.f
 repeat' first
   | (with_reducible exact ih0 _ _ _ _)
   | (with_reducible exact impl_IsPlan.mono _ _ _ _)
   | (with_reducible exact impl_Plan_exponents.mono _ _ _ _)
   | (with_reducible exact LeO.refl _)
   | (with_reducible exact LeO.none _)
   | (with_reducible refine LeO.ite ?_ ?_)
   | (with_reducible refine LeO.bind ?_ (fun _=>?_))
   | exact ih0 _ _ _ _
   | exact impl_IsPlan.mono _ _ _ _
   | exact impl_Plan_exponents.mono _ _ _ _
   | exact LeO.none _
   | refine LeO.ite ?_ ?_
   | refine LeO.bind ?_ (fun _=>?_)
set_option maxHeartbeats 8000000 in
set_option maxRecDepth 100000 in
theorem impl_ChainOfPlan.calls (k : Nat) (a0_0 : Int) (A0_1 : Option Addr) (c0_1 : Nat) (l0_1 : List (S56)) (A0_2 : Option Addr) (c0_2 : Nat) (l0_2 : List Int) (r1 : List Int) (r2 : Bool) (w : World) (hr0_1 : Kd.C k56 w A0_1 l0_1.length l0_1) (hc0_1 : l0_1.length ≤ c0_1) (hr0_2 : Kd.C (Kd.int .i64) w A0_2 l0_2.length l0_2) (hc0_2 : l0_2.length ≤ c0_2) (h : impl_ChainOfPlan.f k a0_0 l0_1 l0_2 = some (r1,r2)) :
  Calls Try.prog 14 #[.agg #[.int .i64 a0_0,.slice A0_1 l0_1.length c0_1,.slice A0_2 l0_2.length c0_2]] w fun e w'=>∃ v0_ : Value,e = .returned (.tuple #[v0_,.bool r2]) ∧ Kd.R (Kd.int .i64) 3 w' w.heap.size (fun _=>True) v0_ r1 ∧ Below w.heap.size w w':=by
 have hu32:=Try.underlying32
 have HR0_1:=Aside0.mk hr0_1
 have HC0_1:=Aside0.mk hc0_1
 clear hr0_1 hc0_1
 have HR0_2:=Aside0.mk hr0_2
 have HC0_2:=Aside0.mk hc0_2
 clear hr0_2 hc0_2
 have HB:=Aside0.mk (Below.refl w.heap.size w)
 have H : ((impl_IsPlan.f k a0_0 l0_1 l0_2).bind fun t399=>(if t399 = true then (impl_ChainOfPlan.j0 k (a0_0 != 1) a0_0 l0_1 l0_2) else (impl_ChainOfPlan.j0 k true a0_0 l0_1 l0_2))) = some (r1,r2):=h
 clear h
 have HC2:=Aside0.mk H
 clear H
 go_enter Try.func14,Try.ntmps14
 go_upto_region 1 with (first|((with_reducible refine gate_dst (N:=1) rfl ?_);refine box_event ?hg (N:=1) ?hd (cs:=#[.int .i64 a0_0,.slice A0_1 l0_1.length c0_1,.slice A0_2 l0_2.length c0_2]) (t:=32) ?hr ?_;(case hd=>rfl);(case hg=>rfl);(case hr=>first|(go_simp;done)|(go_simp;rfl));intro gb398 hg w3 hbox hb;have n0_:=Aside0.mk (below_step bz hb);have n1_:=Aside0.mk (hbox);have n2_:=Aside0.mk ((by rw [hg];exact (below_size bz) : w.heap.size ≤ gb398));have n3_:=Aside0.mk ((by rw [hg];exact (below_size bz) : w.heap.size ≤ gb398));clear HB;have HB:=n0_;have BK398:=n1_;have GW398:=n2_;have GE398:=n3_;clear n0_ n1_ n2_ n3_;clear hb hbox hg))
 (try simp only [Act.put,xa,xb,xc])
 go_cut [11] (fun v11 wc=>∃ (kq : Nat) (x11_1 : Bool),v11 = .bool x11_1 ∧ Aside0 (impl_ChainOfPlan.j0 kq x11_1 a0_0 l0_1 l0_2 = some (r1,r2)) ∧ Aside0 (kq ≤ k) ∧ Aside0 (wc.heap[gb398]? = some (.cells #[.int .i64 a0_0,(.slice A0_1 l0_1.length c0_1),(.slice A0_2 l0_2.length c0_2)] 32 (0,0))) ∧ Aside0 (Below w.heap.size w wc))
 case first=>
  have H:=HC2.out
  clear HC2
  obtain ⟨t399,A4,H⟩:=bd H
  by_cases c5 : t399 = true
  ·subst c5
   rw [if_pos rfl] at H
   have H':=Aside0.mk H
   clear H
   have hcz6_0 : w3.cell? ⟨gb398,0,none⟩ = some (.int .i64 a0_0):=(blk_cell BK398.out 0).trans rfl
   have hcz6_1 : w3.cell? ⟨gb398,1,none⟩ = some (.slice A0_1 l0_1.length c0_1):=(blk_cell BK398.out 1).trans rfl
   have hcz6_2 : w3.cell? ⟨gb398,2,none⟩ = some (.slice A0_2 l0_2.length c0_2):=(blk_cell BK398.out 2).trans rfl
   have hfz6_0:=blk_frozen BK398.out 0
   have hfz6_1:=blk_frozen BK398.out 1
   have hfz6_2:=blk_frozen BK398.out 2
   go_wp2_with (first|((with_reducible refine gate_callee (f:=39) rfl ?_);refine goesL_ (some 5) rfl rfl Try.func39 (by kernel_rfl) rfl #[.agg #[.int .i64 a0_0,.slice A0_1 l0_1.length c0_1,.slice A0_2 l0_2.length c0_2]] rfl mz ?_;(with_reducible refine (impl_IsPlan.calls k a0_0 _ _ l0_1 _ _ l0_2 true _ ?side1 ?side2 ?side3 ?side4 A4.out).mono ?_);(case side1=>exact cz (Kd.C_below HR0_1.out HB.out));(case side2=>exact HC0_1.out);(case side3=>exact cz (Kd.C_below HR0_2.out HB.out));(case side4=>exact HC0_2.out);rintro e w7 ⟨rfl,hb⟩;refine ⟨_,rfl,?_⟩;have n0_:=Aside0.mk (blk_below (g:=gb398) (o:=.cells #[.int .i64 a0_0,.slice A0_1 l0_1.length c0_1,.slice A0_2 l0_2.length c0_2] 32 (0,0)) (kz BK398.out) hb);have n1_:=Aside0.mk (below_step bs hb);clear BK398 HB;have BK398:=n0_;have HB:=n1_;clear n0_ n1_;(try clear hb);have hcz8_0 : w7.cell? ⟨gb398,0,none⟩ = some (.int .i64 a0_0):=(blk_cell BK398.out 0).trans rfl;have hcz8_1 : w7.cell? ⟨gb398,1,none⟩ = some (.slice A0_1 l0_1.length c0_1):=(blk_cell BK398.out 1).trans rfl;have hcz8_2 : w7.cell? ⟨gb398,2,none⟩ = some (.slice A0_2 l0_2.length c0_2):=(blk_cell BK398.out 2).trans rfl;have hfz8_0:=blk_frozen BK398.out 0;have hfz8_1:=blk_frozen BK398.out 1;have hfz8_2:=blk_frozen BK398.out 2))
   go_meet
   case rel=>exact ⟨_,((a0_0 != 1)),fz,H',⟨by first|omega|exact Nat.le_refl _⟩,⟨by (with_reducible repeat (first|refine blk_drewN ?_ _|refine blk_drew ?_|refine blk_alloc ?_ _));exact BK398.out⟩,⟨by repeat (first|(with_reducible first|exact HB.out|apply below_alloc|apply pw_below_drewN|apply below_drew1|refine below_set ?_ GE398.out)|exact HB.out)⟩⟩
  ·replace c5:=Bool.eq_false_iff.mpr c5
   subst c5
   rw [if_neg (show ¬ (false = true) by decide)] at H
   have H':=Aside0.mk H
   clear H
   have hcz9_0 : w3.cell? ⟨gb398,0,none⟩ = some (.int .i64 a0_0):=(blk_cell BK398.out 0).trans rfl
   have hcz9_1 : w3.cell? ⟨gb398,1,none⟩ = some (.slice A0_1 l0_1.length c0_1):=(blk_cell BK398.out 1).trans rfl
   have hcz9_2 : w3.cell? ⟨gb398,2,none⟩ = some (.slice A0_2 l0_2.length c0_2):=(blk_cell BK398.out 2).trans rfl
   have hfz9_0:=blk_frozen BK398.out 0
   have hfz9_1:=blk_frozen BK398.out 1
   have hfz9_2:=blk_frozen BK398.out 2
   go_wp2_with (first|((with_reducible refine gate_callee (f:=39) rfl ?_);refine goesL_ (some 5) rfl rfl Try.func39 (by kernel_rfl) rfl #[.agg #[.int .i64 a0_0,.slice A0_1 l0_1.length c0_1,.slice A0_2 l0_2.length c0_2]] rfl mz ?_;(with_reducible refine (impl_IsPlan.calls k a0_0 _ _ l0_1 _ _ l0_2 false _ ?side1 ?side2 ?side3 ?side4 A4.out).mono ?_);(case side1=>exact cz (Kd.C_below HR0_1.out HB.out));(case side2=>exact HC0_1.out);(case side3=>exact cz (Kd.C_below HR0_2.out HB.out));(case side4=>exact HC0_2.out);rintro e w10 ⟨rfl,hb⟩;refine ⟨_,rfl,?_⟩;have n0_:=Aside0.mk (blk_below (g:=gb398) (o:=.cells #[.int .i64 a0_0,.slice A0_1 l0_1.length c0_1,.slice A0_2 l0_2.length c0_2] 32 (0,0)) (kz BK398.out) hb);have n1_:=Aside0.mk (below_step bs hb);clear BK398 HB;have BK398:=n0_;have HB:=n1_;clear n0_ n1_;(try clear hb)))
   go_meet
   case rel=>exact ⟨_,(true),fz,H',⟨by first|omega|exact Nat.le_refl _⟩,⟨by (with_reducible repeat (first|refine blk_drewN ?_ _|refine blk_drew ?_|refine blk_alloc ?_ _));exact BK398.out⟩,⟨by repeat (first|(with_reducible first|exact HB.out|apply below_alloc|apply pw_below_drewN|apply below_drew1|refine below_set ?_ GE398.out)|exact HB.out)⟩⟩
 case rest=>
  clear HC2
  try clear c1
  try clear p2
  try clear c3
  try clear c5
  try clear hcz6_0
  try clear hcz6_1
  try clear hcz6_2
  try clear hcz8_0
  try clear hcz8_1
  try clear hcz8_2
  try clear hcz9_0
  try clear hcz9_1
  try clear hcz9_2
  try clear hfz6_0
  try clear hfz6_1
  try clear hfz6_2
  try clear hfz8_0
  try clear hfz8_1
  try clear hfz8_2
  try clear hfz9_0
  try clear hfz9_1
  try clear hfz9_2
  obtain ⟨kq,x11_1,rfl,HA,HJ1,BK398,HB⟩:=hcut
  cases kq with
  | zero=>exact absurd HA.out (by simp [impl_ChainOfPlan.j0])
  | succ kj1=>
   have H:=HA.out
   clear HA
   simp only [impl_ChainOfPlan.j0] at H
   by_cases c11 : x11_1 = true
   ·subst c11
    rw [if_pos rfl] at H
    simp only [Option.some.injEq,Prod.mk.injEq] at H
    obtain ⟨rfl,rfl⟩:=H
    go_wp2
    go_ret2
    exact ⟨_,by first|rfl|(simp [errW_none,errW_some] <;> rfl)|(simp [*,errW_none,errW_some] <;> rfl),by first|exact Kd.R_nil _ _ _ _ _|exact Kd.N_nil _ _ _ _ _|exact Kd.V_nil _ _ _ _ _|exact Kd.Q_nil _ _ _ _ _|exact Kd.S_nil _ _ _ _ _,by repeat (first|(with_reducible first|exact HB.out|apply below_alloc|apply pw_below_drewN|apply below_drew1|refine below_set ?_ GE398.out)|exact HB.out)⟩
   ·replace c11:=Bool.eq_false_iff.mpr c11
    subst c11
    rw [if_neg (show ¬ (false = true) by decide)] at H
    obtain ⟨t400,A12,H⟩:=bd H
    obtain ⟨t403,A13,H⟩:=bd H
    obtain ⟨t406,A14,H⟩:=bd H
    simp only [Option.some.injEq,Prod.mk.injEq] at H
    obtain ⟨rfl,rfl⟩:=H
    go_wp2_with (first|((with_reducible refine gate_callee (f:=43) rfl ?_);refine goesL_ (some 12) rfl rfl Try.func43 (by kernel_rfl) rfl #[.pointer (some ⟨gb398,0,none⟩)] rfl mz ?_;(with_reducible refine (impl_Plan_exponents.calls kj1 gb398 a0_0 A0_1 c0_1 l0_1 A0_2 c0_2 l0_2 t400 _ ?side1 ?side2 ?side3 ?side4 ?side5 A12.out).mono ?_);(case side1=>exact by (with_reducible repeat (first|refine blk_drewN ?_ _|refine blk_drew ?_|refine blk_alloc ?_ _));exact BK398.out);(case side2=>exact cz (Kd.C_below HR0_1.out HB.out));(case side3=>exact HC0_1.out);(case side4=>exact cz (Kd.C_below HR0_2.out HB.out));(case side5=>exact HC0_2.out);rintro e w15 ⟨v401,rfl,ho0,hb⟩;refine ⟨_,rfl,?_⟩;have n0_:=Aside0.mk (Kd.S_lower ho0 (below_size bs));have n1_:=Aside0.mk (blk_below (g:=gb398) (o:=.cells #[.int .i64 a0_0,.slice A0_1 l0_1.length c0_1,.slice A0_2 l0_2.length c0_2] 32 (0,0)) (kz BK398.out) hb);have n2_:=Aside0.mk (below_step bs hb);clear BK398 HB;have HO402:=n0_;have BK398:=n1_;have HB:=n2_;clear n0_ n1_ n2_;(try clear hb);(try clear ho0);obtain ⟨Ao16,co16,eo16⟩:=Kd.S_slice HO402.out;subst eo16)|((with_reducible refine gate_callee (f:=42) rfl ?_);refine goesL_ (some 13) rfl rfl Try.func42 (by kernel_rfl) rfl #[.slice Ao16 t400.length co16] rfl mz ?_;(with_reducible refine (slices_Concat_int_int.calls _ _ t400 t403 _ ?side1 ?side2 A13.out).mono ?_);(case side1=>repeat (first|exact (Kd.S_reads' HO402.out).2.2|(with_reducible refine Kd.C_alloc ?_ _)|(with_reducible refine Kd.C_drewN ?_ _)|(with_reducible refine Kd.C_drew ?_)));(case side2=>exact (Kd.S_reads' HO402.out).2.1);rintro e w17 ⟨v404,rfl,ho0,hb⟩;refine ⟨_,rfl,?_⟩;have n0_:=Aside0.mk (Kd.S_elder' (by (with_reducible repeat (first|apply Kd.S_alloc|apply Kd.S_drewN|apply Kd.S_drew));exact HO402.out) (Kd.R_base ho0) hb);have n1_:=Aside0.mk (Kd.R_lower ho0 (below_size bs));have n2_:=Aside0.mk (blk_below (g:=gb398) (o:=.cells #[.int .i64 a0_0,.slice A0_1 l0_1.length c0_1,.slice A0_2 l0_2.length c0_2] 32 (0,0)) (kz BK398.out) hb);have n3_:=Aside0.mk (below_step bs hb);clear HO402 BK398 HB;have HO402:=n0_;have HO405:=n1_;have BK398:=n2_;have HB:=n3_;clear n0_ n1_ n2_ n3_;(try clear hb);(try clear ho0);obtain ⟨Ao18,co18,eo18⟩:=Kd.R_slice HO405.out;subst eo18)|((with_reducible refine gate_callee (f:=41) rfl ?_);refine goesL_ (some 14) rfl rfl Try.func41 (by kernel_rfl) rfl #[.slice Ao18 t403.length co18] rfl mz ?_;(with_reducible refine (impl_increasing.calls (fun k_=>some k_ = (.slice Ao18 t403.length co18 : Value).ownBlock) (.slice Ao18 t403.length co18) t403 t406 w _ ?side1 ?side2 A14.out).mono ?_);(case side1=>repeat (first|(with_reducible first|exact HB.out|apply below_alloc|apply pw_below_drewN|apply below_drew1|refine below_set ?_ GE398.out)|exact HB.out));(case side2=>exact Kd.R_tight rfl HO405.out);rintro e w19 ⟨v407,rfl,ho0,hb,hkp⟩;refine ⟨_,rfl,?_⟩;have n0_:=Aside0.mk (blk_kept (kz BK398.out) hkp (fun hs_=>(fun e_=>(Kd.R_ne HO405.out BK398.out (by decide)) e_) hs_));have n1_:=Aside0.mk (Kd.S_mono (ok':=fun k_=>some k_ ≠ (v407 : Value).ownBlock) (Kd.S_keptB (HO402.out) hkp (fun k_ hk_ hs_=>(hk_.2) hs_)) (fun k_ hk_=>fun e_=>Or.elim (ho0.1 k_ e_.symm) (fun hs_=>hk_.2.1 hs_) (fun hn_=>Nat.not_le.2 hk_.2.2 hn_)));have n2_:=Aside0.mk (Kd.R_mono (ok':=fun k_=>True) ho0 (fun k_ hk_=>trivial));have n3_:=Aside0.mk (hb);clear BK398 HO402 HB HO405;have BK398:=n0_;have HO402:=n1_;have HO408:=n2_;have HB:=n3_;clear n0_ n1_ n2_ n3_;(try clear hb);(try clear hkp);(try clear ho0)))
    go_ret2
    exact ⟨_,by first|rfl|(simp [errW_none,errW_some] <;> rfl)|(simp [*,errW_none,errW_some] <;> rfl),by (with_reducible repeat (first|apply Kd.R_alloc|apply Kd.R_drewN|apply Kd.R_drew));exact HO408.out,by repeat (first|(with_reducible first|exact HB.out|apply below_alloc|apply pw_below_drewN|apply below_drew1|refine below_set ?_ GE398.out)|exact HB.out)⟩
/-! ### spec_l1Cur_among: function 81 -/
def spec_l1Cur_among.f (s0_0 : List Int) (s0_1 : Int) (s0_2 : Int) (l1 : List Int) : Option (Int × Int × Int):=(spec_l1Cur_pick.f s0_0 s0_1 s0_2 (l1.length : Int)).bind fun bt409=>(if 0 ≤ bt409.1 then (if bt409.1 < (l1.length : Int) then (some (rd l1 bt409.1,bt409.2.1,bt409.2.2)) else (none)) else (none))
set_option maxHeartbeats 8000000 in
set_option maxRecDepth 100000 in
theorem spec_l1Cur_among.calls (g : Nat) (s0_0 : List Int) (s0_1 : Int) (s0_2 : Int) (A1 : Option Addr) (c1 : Nat) (l1 : List Int) (r1 : Int) (r2 : Int) (r3 : Int) (w0 w : World) (hI : IsS49 w0 w g s0_0 s0_1 s0_2) (hB : Below w0.heap.size w0 w) (hr1 : Kd.C (Kd.int .i64) w A1 l1.length l1) (hc1 : l1.length ≤ c1) (hf1 : ∀ ad,A1 = some ad → 0 < l1.length → ad.block ≠ g) (h : spec_l1Cur_among.f s0_0 s0_1 s0_2 l1 = some (r1,r2,r3)) :
  Calls Try.prog 81 #[.pointer (some ⟨g,0,none⟩),.slice A1 l1.length c1] w fun e w'=>e = .returned (.int .i64 r1) ∧ IsS49 w0 w' g s0_0 r2 r3 ∧ Below w0.heap.size w0 w' ∧ KeepBut w w' g none:=by
 have HR1:=Aside0.mk hr1
 have HC1:=Aside0.mk hc1
 clear hr1 hc1
 have HI0:=Aside0.mk hI
 have HK:=Aside0.mk (KeepBut.refl w g none)
 have HL:=Aside0.mk hB.size
 clear hI
 have HW0:=Aside0.mk hB.size
 have HB:=Aside0.mk hB
 clear hB
 have H : ((spec_l1Cur_pick.f s0_0 s0_1 s0_2 (l1.length : Int)).bind fun bt409=>(if 0 ≤ bt409.1 then (if bt409.1 < (l1.length : Int) then (some (rd l1 bt409.1,bt409.2.1,bt409.2.2)) else (none)) else (none))) = some (r1,r2,r3):=h
 clear h
 replace H:=Option.bind_eq_some_iff.mp H
 obtain ⟨⟨t409,t410,t411⟩,A30,H⟩:=H
 replace H : (if 0 ≤ t409 then (if t409 < (l1.length : Int) then (some (rd l1 t409,t410,t411)) else (none)) else (none)) = some (r1,r2,r3):=H
 have A3:=Aside0.mk A30
 clear A30
 by_cases c4 : 0 ≤ t409
 ·rw [if_pos c4] at H
  have c4b0 : decide (0 ≤ t409) = true:=decide_eq_true c4
  clear c4
  by_cases c5 : t409 < (l1.length : Int)
  ·rw [if_pos c5] at H
   have c5b0 : decide (t409 < (l1.length : Int)) = true:=decide_eq_true c5
   clear c5
   simp only [Option.some.injEq,Prod.mk.injEq] at H
   obtain ⟨rfl,rfl,rfl⟩:=H
   go_enter Try.func81,Try.ntmps81
   go_wp2_with (first|((with_reducible refine gate_callee (f:=47) rfl ?_);refine goesL_ (some 9) rfl rfl Try.func47 (by kernel_rfl) rfl #[.pointer (some ⟨g,0,none⟩),.int .i64 (l1.length : Int)] rfl mz ?_;(with_reducible refine (spec_l1Cur_pick.calls g s0_0 s0_1 s0_2 (l1.length : Int) t409 t410 t411 w0 _ ?side1 ?side2 A3.out).mono ?_);(case side1=>repeat (first|(with_reducible first|exact HI0.out|apply IsS49.alloc|apply IsS49.drewN|apply IsS49.drew|apply IsS49.set_1|apply IsS49.set_2)|exact HI0.out));(case side2=>repeat (first|(with_reducible first|exact HB.out|apply below_alloc|apply pw_below_drewN|apply below_drew1|refine below_set ?_ (IsS49.ge HI0.out))|exact HB.out));rintro e w6 ⟨rfl,hi,hb,hk⟩;refine ⟨_,rfl,?_⟩;have n0_:=Aside0.mk (KeepBut.trans (by repeat (first|(with_reducible first|exact HK.out|apply KeepBut.set_|apply keep_drewN|apply keep_drew|apply keep_alloc)|exact HK.out)) hk (.inl rfl));have n1_:=Aside0.mk (hb);have n2_:=Aside0.mk (hi);clear HK HB HI0;have HK:=n0_;have HB:=n1_;have HI0:=n2_;clear n0_ n1_ n2_;(try clear hb);(try clear hb2);(try clear hk);(try clear hi);have p412 : 0 ≤ (t409 : Int):=of_decide_eq_true az;have q412 : t409 < (l1.length : Int):=of_decide_eq_true az;obtain ⟨ad412,e412,hx412_0⟩:=Kd.at_int HR1.out t409 p412 q412;cases e412;replace hx412_0:=keep_cell HK.out hx412_0 (by first|(rw [add_block];exact hf1 _ rfl (by omega))|exact hf1 _ rfl (by omega)|exact hf1 ad412 rfl (by omega));replace p412:=eq_true p412;replace q412:=eq_true q412))
   go_ret
   exact ⟨by first|rfl|(simp [errW_none,errW_some] <;> rfl)|(simp [*,errW_none,errW_some] <;> rfl),by repeat (first|(with_reducible first|exact HI0.out|apply IsS49.alloc|apply IsS49.drewN|apply IsS49.drew|apply IsS49.set_1|apply IsS49.set_2)|exact HI0.out),by repeat (first|(with_reducible first|exact HB.out|apply below_alloc|apply pw_below_drewN|apply below_drew1|refine below_set ?_ (IsS49.ge HI0.out))|exact HB.out),by repeat (first|(with_reducible first|exact HK.out|apply KeepBut.set_|apply keep_drewN|apply keep_drew|apply keep_alloc)|exact HK.out)⟩
  ·rw [if_neg c5] at H
   exact absurd H (by simp)
 ·rw [if_neg c4] at H
  exact absurd H (by simp)
/-! ### spec_l1Cur_number: function 48 -/
def spec_l1Cur_number.f (s0_0 : List Int) (s0_1 : Int) (s0_2 : Int) : Option (Int × Int × Int):=(spec_l1Cur_pick.f s0_0 s0_1 s0_2 8).bind fun bt413=>(if bt413.1 = 0 then ((spec_l1Cur_among.f s0_0 bt413.2.1 bt413.2.2 (([(-1),0,1,2,1000000,1000001] : List Int))).bind fun bt419=>(some (bt419.1,bt419.2.1,bt419.2.2))) else (if bt413.1 = 1 then ((spec_l1Cur_pick.f s0_0 bt413.2.1 bt413.2.2 1000000).bind fun bt422=>(some (wrap64 (1 + bt422.1),bt422.2.1,bt422.2.2))) else ((spec_l1Cur_pick.f s0_0 bt413.2.1 bt413.2.2 120).bind fun bt425=>(some (wrap64 (1 + bt425.1),bt425.2.1,bt425.2.2)))))
set_option maxHeartbeats 8000000 in
set_option maxRecDepth 100000 in
theorem spec_l1Cur_number.calls (g : Nat) (s0_0 : List Int) (s0_1 : Int) (s0_2 : Int) (r1 : Int) (r2 : Int) (r3 : Int) (w0 w : World) (hI : IsS49 w0 w g s0_0 s0_1 s0_2) (hB : Below w0.heap.size w0 w) (h : spec_l1Cur_number.f s0_0 s0_1 s0_2 = some (r1,r2,r3)) :
  Calls Try.prog 48 #[.pointer (some ⟨g,0,none⟩)] w fun e w'=>e = .returned (.int .i64 r1) ∧ IsS49 w0 w' g s0_0 r2 r3 ∧ Below w0.heap.size w0 w' ∧ KeepBut w w' g none:=by
 have HI0:=Aside0.mk hI
 have HK:=Aside0.mk (KeepBut.refl w g none)
 have HL:=Aside0.mk hB.size
 clear hI
 have HW0:=Aside0.mk hB.size
 have HB:=Aside0.mk hB
 clear hB
 have H : ((spec_l1Cur_pick.f s0_0 s0_1 s0_2 8).bind fun bt413=>(if bt413.1 = 0 then ((spec_l1Cur_among.f s0_0 bt413.2.1 bt413.2.2 (([(-1),0,1,2,1000000,1000001] : List Int))).bind fun bt419=>(some (bt419.1,bt419.2.1,bt419.2.2))) else (if bt413.1 = 1 then ((spec_l1Cur_pick.f s0_0 bt413.2.1 bt413.2.2 1000000).bind fun bt422=>(some (wrap64 (1 + bt422.1),bt422.2.1,bt422.2.2))) else ((spec_l1Cur_pick.f s0_0 bt413.2.1 bt413.2.2 120).bind fun bt425=>(some (wrap64 (1 + bt425.1),bt425.2.1,bt425.2.2)))))) = some (r1,r2,r3):=h
 clear h
 replace H:=Option.bind_eq_some_iff.mp H
 obtain ⟨⟨t413,t414,t415⟩,A20,H⟩:=H
 replace H : (if t413 = 0 then ((spec_l1Cur_among.f s0_0 t414 t415 (([(-1),0,1,2,1000000,1000001] : List Int))).bind fun bt419=>(some (bt419.1,bt419.2.1,bt419.2.2))) else (if t413 = 1 then ((spec_l1Cur_pick.f s0_0 t414 t415 1000000).bind fun bt422=>(some (wrap64 (1 + bt422.1),bt422.2.1,bt422.2.2))) else ((spec_l1Cur_pick.f s0_0 t414 t415 120).bind fun bt425=>(some (wrap64 (1 + bt425.1),bt425.2.1,bt425.2.2))))) = some (r1,r2,r3):=H
 have A2:=Aside0.mk A20
 clear A20
 by_cases c3 : t413 = 0
 ·rw [if_pos c3] at H
  have c3b0 : (t413 == 0) = true:=beq_iff_eq.mpr c3
  have c3b1 : (t413 != 0) = false:=bne_eq_false_iff_eq.mpr c3
  clear c3
  obtain ⟨y416,hy416⟩ : ∃ y_ : List Int,y_ = (([(-1),0,1,2,1000000,1000001] : List Int)):=⟨_,rfl⟩
  replace H : ((spec_l1Cur_among.f s0_0 t414 t415 y416).bind fun bt419=>(some (bt419.1,bt419.2.1,bt419.2.2))) = some (r1,r2,r3):=by first|(rw [hy416];with_reducible exact H)|(have H2_:=(Option.bind_some _ _).symm.trans H;rw [hy416];with_reducible exact H2_)|(have H2_:=(Option.bind_some _ _).symm.trans H;with_reducible exact H2_)|with_reducible exact H|(rw [hy416];exact H)|exact H
  have Ny416:=Aside0.mk hy416
  clear hy416
  replace H:=Option.bind_eq_some_iff.mp H
  obtain ⟨⟨t419,t420,t421⟩,A40,H⟩:=H
  replace H : (some (t419,t420,t421)) = some (r1,r2,r3):=H
  have A4:=Aside0.mk A40
  clear A40
  simp only [Option.some.injEq,Prod.mk.injEq] at H
  obtain ⟨rfl,rfl,rfl⟩:=H
  go_enter Try.func48,Try.ntmps48
  go_wp2_with (first|((with_reducible refine gate_callee (f:=47) rfl ?_);refine goesL_ (some 4) rfl rfl Try.func47 (by kernel_rfl) rfl #[.pointer (some ⟨g,0,none⟩),.int .i64 8] rfl mz ?_;(with_reducible refine (spec_l1Cur_pick.calls g s0_0 s0_1 s0_2 8 t413 t414 t415 w0 _ ?side1 ?side2 A2.out).mono ?_);(case side1=>repeat (first|(with_reducible first|exact HI0.out|apply IsS49.alloc|apply IsS49.drewN|apply IsS49.drew|apply IsS49.set_1|apply IsS49.set_2)|exact HI0.out));(case side2=>repeat (first|(with_reducible first|exact HB.out|apply below_alloc|apply pw_below_drewN|apply below_drew1|refine below_set ?_ (IsS49.ge HI0.out))|exact HB.out));rintro e w5 ⟨rfl,hi,hb,hk⟩;refine ⟨_,rfl,?_⟩;have n0_:=Aside0.mk (KeepBut.trans (by repeat (first|(with_reducible first|exact HK.out|apply KeepBut.set_|apply keep_drewN|apply keep_drew|apply keep_alloc)|exact HK.out)) hk (.inl rfl));have n1_:=Aside0.mk (hb);have n2_:=Aside0.mk (hi);clear HK HB HI0;have HK:=n0_;have HB:=n1_;have HI0:=n2_;clear n0_ n1_ n2_;(try clear hb);(try clear hb2);(try clear hk);(try clear hi))|((with_reducible refine gate_dst (N:=8) rfl ?_);refine Kd.R_lit (Kd.int .i64) _ 3 ?hg (N:=8) ?hd (xs:=([(-1),0,1,2,1000000,1000001] : List Int)) (inner:=[.int .i64 (-1),.int .i64 0,.int .i64 1,.int .i64 2,.int .i64 1000000,.int .i64 1000001]) (ok:=fun _=>True) (okp:=fun _=>True) ?hr ?hp (fun _ hk=>hk) trivial (Below.refl _ _) (Nat.le_refl _) (by simp) ?_;(case hd=>rfl);(case hg=>rfl);(case hr=>first|(go_simp;done)|(go_simp;rfl));(case hp=>exact (Reps.one (show Kd.M (Kd.int .i64) _ _ _ (-1) [.int .i64 (-1)] from rfl) (Reps.one (show Kd.M (Kd.int .i64) _ _ _ 0 [.int .i64 0] from rfl) (Reps.one (show Kd.M (Kd.int .i64) _ _ _ 1 [.int .i64 1] from rfl) (Reps.one (show Kd.M (Kd.int .i64) _ _ _ 2 [.int .i64 2] from rfl) (Reps.one (show Kd.M (Kd.int .i64) _ _ _ 1000000 [.int .i64 1000000] from rfl) (Reps.one (show Kd.M (Kd.int .i64) _ _ _ 1000001 [.int .i64 1000001] from rfl) (Reps.none _ _))))))));intro v417 w6 ho7 hb hg_ hnew_;clear hg_ hnew_;(first|rw [← Ny416.out] at ho7|(simp only [Int.reduceToNat] at ho7;rw [← Ny416.out] at ho7));have n0_:=Aside0.mk (Kd.R_lower ho7 (keep_size (w:=w) (g:=g) (row:=none) (by repeat (first|(with_reducible first|exact HK.out|apply KeepBut.set_|apply keep_drewN|apply keep_drew|apply keep_alloc)|exact HK.out))));have n1_:=Aside0.mk (IsS49.below (by repeat (first|(with_reducible first|exact HI0.out|apply IsS49.alloc|apply IsS49.drewN|apply IsS49.drew|apply IsS49.set_1|apply IsS49.set_2)|exact HI0.out)) hb);have n2_:=Aside0.mk (KeepBut.trans (by repeat (first|(with_reducible first|exact HK.out|apply KeepBut.set_|apply keep_drewN|apply keep_drew|apply keep_alloc)|exact HK.out)) (KeepBut.of_below hb g none) (.inl rfl));have n3_:=Aside0.mk (below_step (by repeat (first|(with_reducible first|exact HB.out|apply below_alloc|apply pw_below_drewN|apply below_drew1|refine below_set ?_ (IsS49.ge HI0.out))|exact HB.out)) hb);clear HI0 HK HB;have HO418:=n0_;have HI0:=n1_;have HK:=n2_;have HB:=n3_;clear n0_ n1_ n2_ n3_;clear hb ho7;obtain ⟨Ao8,co8,eo8⟩:=Kd.R_slice HO418.out;subst eo8)|((with_reducible refine gate_callee (f:=81) rfl ?_);refine goesL_ (some 9) rfl rfl Try.func81 (by kernel_rfl) rfl #[.pointer (some ⟨g,0,none⟩),.slice Ao8 y416.length co8] rfl mz ?_;(with_reducible refine (spec_l1Cur_among.calls g s0_0 t414 t415 _ _ y416 t419 t420 t421 w0 _ ?side1 ?side2 ?side3 ?side4 ?side5 A4.out).mono ?_);(case side1=>repeat (first|(with_reducible first|exact HI0.out|apply IsS49.alloc|apply IsS49.drewN|apply IsS49.drew|apply IsS49.set_1|apply IsS49.set_2)|exact HI0.out));(case side2=>repeat (first|(with_reducible first|exact HB.out|apply below_alloc|apply pw_below_drewN|apply below_drew1|refine below_set ?_ (IsS49.ge HI0.out))|exact HB.out));(case side3=>exact cz (Kd.R_reads' HO418.out).2.2);(case side4=>exact (Kd.R_reads' HO418.out).2.1);(case side5=>exact far_slice (IsS49.own_ne HI0.out HO418.out (by decide)));rintro e w9 ⟨rfl,hi,hb,hk⟩;refine ⟨_,rfl,?_⟩;have n0_:=Aside0.mk (Kd.R_mono (Kd.R_keep (IsS49.apart (show IsS49 w0 _ g s0_0 t414 t415 from by repeat (first|(with_reducible first|exact HI0.out|apply IsS49.alloc|apply IsS49.drewN|apply IsS49.drew|apply IsS49.set_1|apply IsS49.set_2)|exact HI0.out)) (rz HO418.out) (by decide)) hk (fun _ h=>h.2)) (fun _ h=>h.1));have n1_:=Aside0.mk (KeepBut.trans (by repeat (first|(with_reducible first|exact HK.out|apply KeepBut.set_|apply keep_drewN|apply keep_drew|apply keep_alloc)|exact HK.out)) hk (.inl rfl));have n2_:=Aside0.mk (hb);have n3_:=Aside0.mk (hi);clear HO418 HK HB HI0;have HO418:=n0_;have HK:=n1_;have HB:=n2_;have HI0:=n3_;clear n0_ n1_ n2_ n3_;(try clear hb);(try clear hb2);(try clear hk);(try clear hi)))
  go_ret
  exact ⟨by first|rfl|(simp [errW_none,errW_some] <;> rfl)|(simp [*,errW_none,errW_some] <;> rfl),by repeat (first|(with_reducible first|exact HI0.out|apply IsS49.alloc|apply IsS49.drewN|apply IsS49.drew|apply IsS49.set_1|apply IsS49.set_2)|exact HI0.out),by repeat (first|(with_reducible first|exact HB.out|apply below_alloc|apply pw_below_drewN|apply below_drew1|refine below_set ?_ (IsS49.ge HI0.out))|exact HB.out),by repeat (first|(with_reducible first|exact HK.out|apply KeepBut.set_|apply keep_drewN|apply keep_drew|apply keep_alloc)|exact HK.out)⟩
 ·rw [if_neg c3] at H
  have c3b0 : (t413 == 0) = false:=beq_eq_false_iff_ne.mpr c3
  have c3b1 : (t413 != 0) = true:=bne_iff_ne.mpr c3
  by_cases c10 : t413 = 1
  ·rw [if_pos c10] at H
   have c10b0 : (t413 == 1) = true:=beq_iff_eq.mpr c10
   have c10b1 : (t413 != 1) = false:=bne_eq_false_iff_eq.mpr c10
   clear c10
   replace H:=Option.bind_eq_some_iff.mp H
   obtain ⟨⟨t422,t423,t424⟩,A110,H⟩:=H
   replace H : (some (wrap64 (1 + t422),t423,t424)) = some (r1,r2,r3):=H
   have A11:=Aside0.mk A110
   clear A110
   simp only [Option.some.injEq,Prod.mk.injEq] at H
   obtain ⟨rfl,rfl,rfl⟩:=H
   go_enter Try.func48,Try.ntmps48
   go_wp2_with (first|((with_reducible refine gate_callee (f:=47) rfl ?_);refine goesL_ (some 4) rfl rfl Try.func47 (by kernel_rfl) rfl #[.pointer (some ⟨g,0,none⟩),.int .i64 8] rfl mz ?_;(with_reducible refine (spec_l1Cur_pick.calls g s0_0 s0_1 s0_2 8 t413 t414 t415 w0 _ ?side1 ?side2 A2.out).mono ?_);(case side1=>repeat (first|(with_reducible first|exact HI0.out|apply IsS49.alloc|apply IsS49.drewN|apply IsS49.drew|apply IsS49.set_1|apply IsS49.set_2)|exact HI0.out));(case side2=>repeat (first|(with_reducible first|exact HB.out|apply below_alloc|apply pw_below_drewN|apply below_drew1|refine below_set ?_ (IsS49.ge HI0.out))|exact HB.out));rintro e w12 ⟨rfl,hi,hb,hk⟩;refine ⟨_,rfl,?_⟩;have n0_:=Aside0.mk (KeepBut.trans (by repeat (first|(with_reducible first|exact HK.out|apply KeepBut.set_|apply keep_drewN|apply keep_drew|apply keep_alloc)|exact HK.out)) hk (.inl rfl));have n1_:=Aside0.mk (hb);have n2_:=Aside0.mk (hi);clear HK HB HI0;have HK:=n0_;have HB:=n1_;have HI0:=n2_;clear n0_ n1_ n2_;(try clear hb);(try clear hb2);(try clear hk);(try clear hi))|((with_reducible refine gate_callee (f:=47) rfl ?_);refine goesL_ (some 13) rfl rfl Try.func47 (by kernel_rfl) rfl #[.pointer (some ⟨g,0,none⟩),.int .i64 1000000] rfl mz ?_;(with_reducible refine (spec_l1Cur_pick.calls g s0_0 t414 t415 1000000 t422 t423 t424 w0 _ ?side1 ?side2 A11.out).mono ?_);(case side1=>repeat (first|(with_reducible first|exact HI0.out|apply IsS49.alloc|apply IsS49.drewN|apply IsS49.drew|apply IsS49.set_1|apply IsS49.set_2)|exact HI0.out));(case side2=>repeat (first|(with_reducible first|exact HB.out|apply below_alloc|apply pw_below_drewN|apply below_drew1|refine below_set ?_ (IsS49.ge HI0.out))|exact HB.out));rintro e w13 ⟨rfl,hi,hb,hk⟩;refine ⟨_,rfl,?_⟩;have n0_:=Aside0.mk (KeepBut.trans (by repeat (first|(with_reducible first|exact HK.out|apply KeepBut.set_|apply keep_drewN|apply keep_drew|apply keep_alloc)|exact HK.out)) hk (.inl rfl));have n1_:=Aside0.mk (hb);have n2_:=Aside0.mk (hi);clear HK HB HI0;have HK:=n0_;have HB:=n1_;have HI0:=n2_;clear n0_ n1_ n2_;(try clear hb);(try clear hb2);(try clear hk);(try clear hi)))
   go_ret
   exact ⟨by first|rfl|(simp [errW_none,errW_some] <;> rfl)|(simp [*,errW_none,errW_some] <;> rfl),by repeat (first|(with_reducible first|exact HI0.out|apply IsS49.alloc|apply IsS49.drewN|apply IsS49.drew|apply IsS49.set_1|apply IsS49.set_2)|exact HI0.out),by repeat (first|(with_reducible first|exact HB.out|apply below_alloc|apply pw_below_drewN|apply below_drew1|refine below_set ?_ (IsS49.ge HI0.out))|exact HB.out),by repeat (first|(with_reducible first|exact HK.out|apply KeepBut.set_|apply keep_drewN|apply keep_drew|apply keep_alloc)|exact HK.out)⟩
  ·rw [if_neg c10] at H
   have c10b0 : (t413 == 1) = false:=beq_eq_false_iff_ne.mpr c10
   have c10b1 : (t413 != 1) = true:=bne_iff_ne.mpr c10
   replace H:=Option.bind_eq_some_iff.mp H
   obtain ⟨⟨t425,t426,t427⟩,A140,H⟩:=H
   replace H : (some (wrap64 (1 + t425),t426,t427)) = some (r1,r2,r3):=H
   have A14:=Aside0.mk A140
   clear A140
   simp only [Option.some.injEq,Prod.mk.injEq] at H
   obtain ⟨rfl,rfl,rfl⟩:=H
   go_enter Try.func48,Try.ntmps48
   go_wp2_with (first|((with_reducible refine gate_callee (f:=47) rfl ?_);refine goesL_ (some 4) rfl rfl Try.func47 (by kernel_rfl) rfl #[.pointer (some ⟨g,0,none⟩),.int .i64 8] rfl mz ?_;(with_reducible refine (spec_l1Cur_pick.calls g s0_0 s0_1 s0_2 8 t413 t414 t415 w0 _ ?side1 ?side2 A2.out).mono ?_);(case side1=>repeat (first|(with_reducible first|exact HI0.out|apply IsS49.alloc|apply IsS49.drewN|apply IsS49.drew|apply IsS49.set_1|apply IsS49.set_2)|exact HI0.out));(case side2=>repeat (first|(with_reducible first|exact HB.out|apply below_alloc|apply pw_below_drewN|apply below_drew1|refine below_set ?_ (IsS49.ge HI0.out))|exact HB.out));rintro e w15 ⟨rfl,hi,hb,hk⟩;refine ⟨_,rfl,?_⟩;have n0_:=Aside0.mk (KeepBut.trans (by repeat (first|(with_reducible first|exact HK.out|apply KeepBut.set_|apply keep_drewN|apply keep_drew|apply keep_alloc)|exact HK.out)) hk (.inl rfl));have n1_:=Aside0.mk (hb);have n2_:=Aside0.mk (hi);clear HK HB HI0;have HK:=n0_;have HB:=n1_;have HI0:=n2_;clear n0_ n1_ n2_;(try clear hb);(try clear hb2);(try clear hk);(try clear hi))|((with_reducible refine gate_callee (f:=47) rfl ?_);refine goesL_ (some 16) rfl rfl Try.func47 (by kernel_rfl) rfl #[.pointer (some ⟨g,0,none⟩),.int .i64 120] rfl mz ?_;(with_reducible refine (spec_l1Cur_pick.calls g s0_0 t414 t415 120 t425 t426 t427 w0 _ ?side1 ?side2 A14.out).mono ?_);(case side1=>repeat (first|(with_reducible first|exact HI0.out|apply IsS49.alloc|apply IsS49.drewN|apply IsS49.drew|apply IsS49.set_1|apply IsS49.set_2)|exact HI0.out));(case side2=>repeat (first|(with_reducible first|exact HB.out|apply below_alloc|apply pw_below_drewN|apply below_drew1|refine below_set ?_ (IsS49.ge HI0.out))|exact HB.out));rintro e w16 ⟨rfl,hi,hb,hk⟩;refine ⟨_,rfl,?_⟩;have n0_:=Aside0.mk (KeepBut.trans (by repeat (first|(with_reducible first|exact HK.out|apply KeepBut.set_|apply keep_drewN|apply keep_drew|apply keep_alloc)|exact HK.out)) hk (.inl rfl));have n1_:=Aside0.mk (hb);have n2_:=Aside0.mk (hi);clear HK HB HI0;have HK:=n0_;have HB:=n1_;have HI0:=n2_;clear n0_ n1_ n2_;(try clear hb);(try clear hb2);(try clear hk);(try clear hi)))
   go_ret
   exact ⟨by first|rfl|(simp [errW_none,errW_some] <;> rfl)|(simp [*,errW_none,errW_some] <;> rfl),by repeat (first|(with_reducible first|exact HI0.out|apply IsS49.alloc|apply IsS49.drewN|apply IsS49.drew|apply IsS49.set_1|apply IsS49.set_2)|exact HI0.out),by repeat (first|(with_reducible first|exact HB.out|apply below_alloc|apply pw_below_drewN|apply below_drew1|refine below_set ?_ (IsS49.ge HI0.out))|exact HB.out),by repeat (first|(with_reducible first|exact HK.out|apply KeepBut.set_|apply keep_drewN|apply keep_drew|apply keep_alloc)|exact HK.out)⟩
/-! ### spec_DrawInsertNumber: function 16 -/
def spec_DrawInsertNumber.j0 : Nat → List Int → Bool → List Int → Int → Int → Option (List Int × Int)
 | 0,_,_,_,_,_=>none
 | k + 1,x5,x17,x429000,x429001,x429002=>if x17 = true then ((spec_l1Cur_pick.f x429000 x429001 x429002 (x5.length : Int)).bind fun bt437=>(if 0 ≤ bt437.1 then (if bt437.1 < (x5.length : Int) then ((spec_l1Cur_pick.f x429000 bt437.2.1 bt437.2.2 (x5.length : Int)).bind fun bt441=>(if 0 ≤ bt441.1 then (if bt441.1 < (x5.length : Int) then (some (x5,wrap64 ((rd x5 bt437.1) + (rd x5 bt441.1)))) else (none)) else (none))) else (none)) else (none))) else ((spec_l1Cur_number.f x429000 x429001 x429002).bind fun bt445=>(some (x5,bt445.1)))
def spec_DrawInsertNumber.f (k : Nat) (l0 : List Int) : Option (List Int × Int):=(spec_l1Cur_anyChain.f k l0 0 0 8).bind fun bt429=>(if (bt429.1.length : Int) > 0 then ((spec_l1Cur_one.f l0 bt429.2.1 bt429.2.2 2).bind fun bt434=>(spec_DrawInsertNumber.j0 k bt429.1 bt434.1 l0 bt434.2.1 bt434.2.2)) else (spec_DrawInsertNumber.j0 k bt429.1 false l0 bt429.2.1 bt429.2.2))
theorem spec_DrawInsertNumber.mono_l : ∀ k,(∀ y0 y1 y2 y3 y4,LeO (spec_DrawInsertNumber.j0 k y0 y1 y2 y3 y4) (spec_DrawInsertNumber.j0 (k + 1) y0 y1 y2 y3 y4))
 | 0=>fun _ _ _ _ _ r h=>by simp [spec_DrawInsertNumber.j0] at h
 | k + 1=>by
  have ih0:=spec_DrawInsertNumber.mono_l k
  ·intro y0 y1 y2 y3 y4
   unfold spec_DrawInsertNumber.j0
   repeat' first
   | (with_reducible exact ih0 _ _ _ _ _)
   | (with_reducible exact spec_l1Cur_anyChain.mono _ _ _ _ _)
   | (with_reducible exact LeO.refl _)
   | (with_reducible exact LeO.none _)
   | (with_reducible refine LeO.ite ?_ ?_)
   | (with_reducible refine LeO.bind ?_ (fun _=>?_))
   | exact ih0 _ _ _ _ _
   | exact spec_l1Cur_anyChain.mono _ _ _ _ _
   | exact LeO.none _
   | refine LeO.ite ?_ ?_
   | refine LeO.bind ?_ (fun _=>?_)
theorem spec_DrawInsertNumber.mono : ∀ a0 k,LeO (spec_DrawInsertNumber.f k a0) (spec_DrawInsertNumber.f (k + 1) a0):=by
 intro a0 k
 have ih0:=spec_DrawInsertNumber.mono_l k
 unfold spec_DrawInsertNumber.f
 repeat' first
   | (with_reducible exact ih0 _ _ _ _ _)
   | (with_reducible exact spec_l1Cur_anyChain.mono _ _ _ _ _)
   | (with_reducible exact LeO.refl _)
   | (with_reducible exact LeO.none _)
   | (with_reducible refine LeO.ite ?_ ?_)
   | (with_reducible refine LeO.bind ?_ (fun _=>?_))
   | exact ih0 _ _ _ _ _
   | exact spec_l1Cur_anyChain.mono _ _ _ _ _
   | exact LeO.none _
   | refine LeO.ite ?_ ?_
   | refine LeO.bind ?_ (fun _=>?_)
def spec_DrawInsertNumber.T4 : Bool × List (List Nat × List Nat):=(true,[([],[]),([],[]),([],[]),([],[]),([3],[3]),([2,4],[2,4]),([1,5],[1,5]),([6],[6]),([],[]),([],[]),([],[]),([10],[10]),([9,11,5],[9,11]),([8,12],[8,12]),([13],[13]),([7,14],[7,14]),([0,12,0],[0]),([15,16,0,1,2,3,4,5,6,7,8,9,10,11,12,13,14,15,16],[15])])
def spec_DrawInsertNumber.B4 : List Nat:=[0,0,0,0,8,28,62,126,0,0,0,1024,3644,7996,16188,32766,7741,131071]
theorem spec_DrawInsertNumber.tab4 : rtab .any (opsOf Try.f16 4) = spec_DrawInsertNumber.T4:=by kernel_rfl
theorem spec_DrawInsertNumber.bits4 : waitsOk spec_DrawInsertNumber.T4.2 spec_DrawInsertNumber.B4 = true:=by kernel_rfl
set_option maxHeartbeats 8000000 in
set_option maxRecDepth 100000 in
theorem spec_DrawInsertNumber.calls (k : Nat) (A0 : Option Addr) (c0 : Nat) (l0 : List Int) (r1 : List Int) (r2 : Int) (w : World) (hr0 : Kd.C (Kd.int .u8) w A0 l0.length l0) (hc0 : l0.length ≤ c0) (h : spec_DrawInsertNumber.f k l0 = some (r1,r2)) :
  Calls Try.prog 16 #[.slice A0 l0.length c0] w fun e w'=>∃ v0_ : Value,e = .returned (.tuple #[v0_,.int .i64 r2]) ∧ Kd.R (Kd.int .i64) 3 w' w.heap.size (fun _=>True) v0_ r1 ∧ Below w.heap.size w w':=by
 have hu49:=Try.underlying49
 have HR0:=Aside0.mk hr0
 have HC0:=Aside0.mk hc0
 clear hr0 hc0
 have HB:=Aside0.mk (Below.refl w.heap.size w)
 have H : ((spec_l1Cur_anyChain.f k l0 0 0 8).bind fun bt429=>(if (bt429.1.length : Int) > 0 then ((spec_l1Cur_one.f l0 bt429.2.1 bt429.2.2 2).bind fun bt434=>(spec_DrawInsertNumber.j0 k bt429.1 bt434.1 l0 bt434.2.1 bt434.2.2)) else (spec_DrawInsertNumber.j0 k bt429.1 false l0 bt429.2.1 bt429.2.2))) = some (r1,r2):=h
 clear h
 replace H:=Option.bind_eq_some_iff.mp H
 obtain ⟨⟨t429,t432,t433⟩,A20,H⟩:=H
 replace H : (if (t429.length : Int) > 0 then ((spec_l1Cur_one.f l0 t432 t433 2).bind fun bt434=>(spec_DrawInsertNumber.j0 k t429 bt434.1 l0 bt434.2.1 bt434.2.2)) else (spec_DrawInsertNumber.j0 k t429 false l0 t432 t433)) = some (r1,r2):=H
 have A2:=Aside0.mk A20
 clear A20
 have HC3:=Aside0.mk H
 clear H
 go_enter Try.func16,Try.ntmps16
 go_upto_region 3 with (first|((with_reducible refine gate_dst (N:=8) rfl ?_);refine box_event ?hg (N:=8) ?hd (cs:=#[.slice A0 l0.length c0,.int .i64 0,.int .u64 0]) (t:=49) ?hr ?_;(case hd=>rfl);(case hg=>rfl);(case hr=>first|(go_simp;done)|(go_simp;rfl));intro gb428 hg w4 hbox hb;have n0_:=Aside0.mk (below_step bz hb);have n1_:=Aside0.mk ((by rw [hg];exact (below_size bz) : w.heap.size ≤ gb428));have n2_:=Aside0.mk ((by rw [hg];exact (below_size bz) : w.heap.size ≤ gb428));have n3_:=Aside0.mk ((show IsS49 w w4 gb428 l0 0 0 from ⟨_,_,hbox,(by rw [hg];exact (below_size bz)),HR0.out⟩));clear HB;have HB:=n0_;have GW428:=n1_;have GE428:=n2_;have HI428:=n3_;clear n0_ n1_ n2_ n3_;clear hb hbox hg)|((with_reducible refine gate_callee (f:=30) rfl ?_);refine goesL_ (some 10) rfl rfl Try.func30 (by kernel_rfl) rfl #[.pointer (some ⟨gb428,0,none⟩),.int .i64 8] rfl mz ?_;(with_reducible refine (spec_l1Cur_anyChain.calls k gb428 l0 0 0 8 t429 t432 t433 w _ ?side1 ?side2 A2.out).mono ?_);(case side1=>repeat (first|(with_reducible first|exact HI428.out|apply IsS49.alloc|apply IsS49.drewN|apply IsS49.drew|apply IsS49.set_1|apply IsS49.set_2)|exact HI428.out));(case side2=>repeat (first|(with_reducible first|exact HB.out|apply below_alloc|apply pw_below_drewN|apply below_drew1|refine below_set ?_ (IsS49.ge HI428.out))|exact HB.out));rintro e w5 ⟨v430,rfl,ho0,hi,hb,hk⟩;refine ⟨_,rfl,?_⟩;have n0_:=Aside0.mk (Kd.R_lower ho0 (below_size (by repeat (first|(with_reducible first|exact HB.out|apply below_alloc|apply pw_below_drewN|apply below_drew1|refine below_set ?_ (IsS49.ge HI428.out))|exact HB.out))));have n1_:=Aside0.mk (hb);have n2_:=Aside0.mk (hi);clear HB HI428;have HO431:=n0_;have HB:=n1_;have HI428:=n2_;clear n0_ n1_ n2_;(try clear hb);(try clear hb2);(try clear hk);(try clear hi);(try clear ho0)))
 (try simp only [Act.put,xa,xb,xc])
 go_cut [17] (fun v17 wc=>∃ (kq : Nat) (x17_2 : Bool) (x429001_2 : Int) (x429002_2 : Int),v17 = .bool x17_2 ∧ Aside0 (spec_DrawInsertNumber.j0 kq t429 x17_2 l0 x429001_2 x429002_2 = some (r1,r2)) ∧ Aside0 (kq ≤ k) ∧ Aside0 (Kd.R (Kd.int .i64) 3 wc w.heap.size (fun _=>True) v430 t429) ∧ Aside0 (IsS49 w wc gb428 l0 x429001_2 x429002_2) ∧ Aside0 (Below w.heap.size w wc))
 case first=>
  have H:=HC3.out
  clear HC3
  by_cases c6 : (t429.length : Int) > 0
  ·rw [if_pos c6] at H
   have c6b0 : decide (0 < (t429.length : Int)) = true:=decide_eq_true c6
   have c6b1 : decide (0 < t429.length) = true:=decide_eq_true (by omega)
   clear c6
   (first|rw [c6b0]|(simp only [i64_w,i32_w];rw [c6b0])|skip)
   replace H:=Option.bind_eq_some_iff.mp H
   obtain ⟨⟨t434,t435,t436⟩,A70,H⟩:=H
   replace H : (spec_DrawInsertNumber.j0 k t429 t434 l0 t435 t436) = some (r1,r2):=H
   have A7:=Aside0.mk A70
   clear A70
   have H':=Aside0.mk H
   clear H
   obtain ⟨Ao8,co8,eo8⟩:=Kd.R_slice HO431.out
   subst eo8
   go_wp2_with (first|(go_at_call 46;(with_reducible refine (spec_l1Cur_one.calls gb428 l0 t432 t433 2 t434 t435 t436 w _ ?side1 ?side2 A7.out).mono ?_);(case side1=>repeat (first|(with_reducible first|exact HI428.out|apply IsS49.alloc|apply IsS49.drewN|apply IsS49.drew|apply IsS49.set_1|apply IsS49.set_2)|exact HI428.out));(case side2=>repeat (first|(with_reducible first|exact HB.out|apply below_alloc|apply pw_below_drewN|apply below_drew1|refine below_set ?_ (IsS49.ge HI428.out))|exact HB.out));rintro e w9 ⟨rfl,hi,hb,hk⟩;have n0_:=Aside0.mk (Kd.R_mono (Kd.R_keep (IsS49.apart (show IsS49 w _ gb428 l0 t432 t433 from by repeat (first|(with_reducible first|exact HI428.out|apply IsS49.alloc|apply IsS49.drewN|apply IsS49.drew|apply IsS49.set_1|apply IsS49.set_2)|exact HI428.out)) (rz HO431.out) (by decide)) hk (fun _ h=>h.2)) (fun _ h=>h.1));have n1_:=Aside0.mk (hb);have n2_:=Aside0.mk (hi);clear HO431 HB HI428;have HO431:=n0_;have HB:=n1_;have HI428:=n2_;clear n0_ n1_ n2_;(try clear hb);(try clear hb2);(try clear hk);(try clear hi)))
   go_meet
   case rel=>exact ⟨_,(t434),(t435),(t436),fz,H',⟨by first|omega|exact Nat.le_refl _⟩,⟨by (with_reducible repeat (first|apply Kd.R_alloc|apply Kd.R_drewN|apply Kd.R_drew));exact HO431.out⟩,⟨by repeat (first|(with_reducible first|exact HI428.out|apply IsS49.alloc|apply IsS49.drewN|apply IsS49.drew|apply IsS49.set_1|apply IsS49.set_2)|exact HI428.out)⟩,⟨by repeat (first|(with_reducible first|exact HB.out|apply below_alloc|apply pw_below_drewN|apply below_drew1|refine below_set ?_ (IsS49.ge HI428.out))|exact HB.out)⟩⟩
  ·rw [if_neg c6] at H
   have c6b0 : decide (0 < (t429.length : Int)) = false:=decide_eq_false c6
   have c6b1 : decide (0 < t429.length) = false:=decide_eq_false (by omega)
   clear c6
   (first|rw [c6b0]|(simp only [i64_w,i32_w];rw [c6b0])|skip)
   have H':=Aside0.mk H
   clear H
   obtain ⟨Ao10,co10,eo10⟩:=Kd.R_slice HO431.out
   subst eo10
   go_wp2
   go_meet
   case rel=>exact ⟨_,(false),(t432),(t433),fz,H',⟨by first|omega|exact Nat.le_refl _⟩,⟨by (with_reducible repeat (first|apply Kd.R_alloc|apply Kd.R_drewN|apply Kd.R_drew));exact HO431.out⟩,⟨by repeat (first|(with_reducible first|exact HI428.out|apply IsS49.alloc|apply IsS49.drewN|apply IsS49.drew|apply IsS49.set_1|apply IsS49.set_2)|exact HI428.out)⟩,⟨by repeat (first|(with_reducible first|exact HB.out|apply below_alloc|apply pw_below_drewN|apply below_drew1|refine below_set ?_ (IsS49.ge HI428.out))|exact HB.out)⟩⟩
 case rest=>
  clear HC3
  try clear c1
  try clear p2
  try clear c3
  try clear c6
  try clear c6b0
  try clear c6b1
  obtain ⟨kq,x17_2,x429001_2,x429002_2,rfl,HA,HJ2,HO_5,HI428,HB⟩:=hcut
  cases kq with
  | zero=>exact absurd HA.out (by simp [spec_DrawInsertNumber.j0])
  | succ kj2=>
   have H:=HA.out
   clear HA
   simp only [spec_DrawInsertNumber.j0] at H
   by_cases c11 : x17_2 = true
   ·subst c11
    rw [if_pos rfl] at H
    replace H:=Option.bind_eq_some_iff.mp H
    obtain ⟨⟨t437,t438,t439⟩,A120,H⟩:=H
    replace H : (if 0 ≤ t437 then (if t437 < (t429.length : Int) then ((spec_l1Cur_pick.f l0 t438 t439 (t429.length : Int)).bind fun bt441=>(if 0 ≤ bt441.1 then (if bt441.1 < (t429.length : Int) then (some (t429,wrap64 ((rd t429 t437) + (rd t429 bt441.1)))) else (none)) else (none))) else (none)) else (none)) = some (r1,r2):=H
    have A12:=Aside0.mk A120
    clear A120
    by_cases c13 : 0 ≤ t437
    ·rw [if_pos c13] at H
     have c13b0 : decide (0 ≤ t437) = true:=decide_eq_true c13
     clear c13
     by_cases c14 : t437 < (t429.length : Int)
     ·rw [if_pos c14] at H
      have c14b0 : decide (t437 < (t429.length : Int)) = true:=decide_eq_true c14
      clear c14
      replace H:=Option.bind_eq_some_iff.mp H
      obtain ⟨⟨t441,t442,t443⟩,A150,H⟩:=H
      replace H : (if 0 ≤ t441 then (if t441 < (t429.length : Int) then (some (t429,wrap64 ((rd t429 t437) + (rd t429 t441)))) else (none)) else (none)) = some (r1,r2):=H
      have A15:=Aside0.mk A150
      clear A150
      by_cases c16 : 0 ≤ t441
      ·rw [if_pos c16] at H
       have c16b0 : decide (0 ≤ t441) = true:=decide_eq_true c16
       clear c16
       by_cases c17 : t441 < (t429.length : Int)
       ·rw [if_pos c17] at H
        have c17b0 : decide (t441 < (t429.length : Int)) = true:=decide_eq_true c17
        clear c17
        simp only [Option.some.injEq,Prod.mk.injEq] at H
        obtain ⟨rfl,rfl⟩:=H
        try go_wp2
        have n0_:=Aside0.mk (Kd.R_drew HO_5.out)
        have n1_:=Aside0.mk (IsS49.drew HI428.out)
        have n2_:=Aside0.mk (below_drew1 HB.out)
        clear HO_5
        clear HI428
        clear HB
        have HO_5:=n0_
        have HI428:=n1_
        have HB:=n2_
        clear n0_ n1_ n2_
        obtain ⟨Ao19,co19,eo19⟩:=Kd.R_slice HO_5.out
        (first|subst eo19|(injection eo19 with f1_ f2_ f3_;have f4_:=f1_.symm;have f5_:=f3_.symm;clear f1_ f2_ f3_;subst f4_;subst f5_))
        have p440 : 0 ≤ (t437 : Int):=of_decide_eq_true az
        have q440 : t437 < (t429.length : Int):=of_decide_eq_true az
        obtain ⟨ad440,e440,hx440_0⟩:=Kd.at_int (Kd.R_reads' HO_5.out).2.2 t437 p440 q440
        cases e440
        replace p440:=eq_true p440
        replace q440:=eq_true q440
        have p444 : 0 ≤ (t441 : Int):=of_decide_eq_true az
        have q444 : t441 < (t429.length : Int):=of_decide_eq_true az
        obtain ⟨ad444,e444,hx444_0⟩:=Kd.at_int (Kd.R_reads' HO_5.out).2.2 t441 p444 q444
        obtain rfl : ad440 = ad444:=(by injection e444)
        replace p444:=eq_true p444
        replace q444:=eq_true q444
        refine start_ (n:=18) (S:=fun w'=>w'.cell? (ad440.add (t437).toNat) = some (.int .i64 (rd t429 t437)) ∧ w'.cell? (ad440.add (t441).toNat) = some (.int .i64 (rd t429 t441))) (ds:=[]) #[false,false,false,false,false,false,false,false,false,false,false,false,false,false,false,false,false,false] (by kernel_rfl) rfl rfl ⟨hx440_0,hx444_0⟩ (fun hHeld=>?_);refine with_tabW spec_DrawInsertNumber.tab4 spec_DrawInsertNumber.bits4 (fun HT_ HW_=>?_)
        generalize wc.drew = w18 at HO_5 HI428 HB hx440_0 hx444_0 hHeld ⊢
        refine pure_ (i:=0) (N:=some 18) (v:=?_) (a':=?_) #[true,false,false,false,false,false,false,false,false,false,false,false,false,false,false,false,false,false] rfl rfl (any_of HT_.out (by kernel_rfl)) (fun _ _ _ h=>h) (Or.inl ⟨by rfl,?_⟩) ?_ ?_
        rotate_left
        ·intro w'
         go_simp
         with_reducible rfl
        rotate_left
        ·simp only [Act.put,xa,xb,xc,i64_w,i32_w]
         rfl
        refine pure_ (i:=1) (N:=some 19) (v:=?_) (a':=?_) #[true,true,false,false,false,false,false,false,false,false,false,false,false,false,false,false,false,false] rfl rfl (any_of HT_.out (by kernel_rfl)) (fun _ _ _ h=>h) (Or.inl ⟨by rfl,?_⟩) ?_ ?_
        rotate_left
        ·intro w'
         go_simp
         with_reducible rfl
        rotate_left
        ·simp only [Act.put,xa,xb,xc,i64_w,i32_w]
         rfl
        refine pure_ (i:=2) (N:=some 20) (v:=?_) (a':=?_) #[true,true,true,false,false,false,false,false,false,false,false,false,false,false,false,false,false,false] rfl rfl (any_of HT_.out (by kernel_rfl)) (fun _ _ _ h=>h) (Or.inl ⟨by rfl,?_⟩) ?_ ?_
        rotate_left
        ·intro w'
         go_simp
         with_reducible rfl
        rotate_left
        ·simp only [Act.put,xa,xb,xc,i64_w,i32_w]
         rfl
        refine pure_ (i:=3) (N:=some 21) (v:=?_) (a':=?_) #[true,true,true,true,false,false,false,false,false,false,false,false,false,false,false,false,false,false] rfl rfl (any_of HT_.out (by kernel_rfl)) (fun _ _ _ h=>h) (Or.inl ⟨by rfl,?_⟩) ?_ ?_
        rotate_left
        ·intro w'
         go_simp
         with_reducible rfl
        rotate_left
        ·simp only [Act.put,xa,xb,xc,i64_w,i32_w]
         rfl
        refine pure_ (i:=4) (N:=some 22) (v:=?_) (a':=?_) #[true,true,true,true,true,false,false,false,false,false,false,false,false,false,false,false,false,false] rfl rfl (any_of HT_.out (by kernel_rfl)) (fun _ _ _ h=>h) (Or.inl ⟨by rfl,?_⟩) ?_ ?_
        rotate_left
        ·intro w'
         go_simp
         with_reducible rfl
        rotate_left
        ·simp only [Act.put,xa,xb,xc,i64_w,i32_w]
         rfl
        refine pure_ (i:=8) (N:=some 26) (v:=?_) (a':=?_) #[true,true,true,true,true,false,false,false,true,false,false,false,false,false,false,false,false,false] rfl rfl (any_of HT_.out (by kernel_rfl)) (fun _ _ _ h=>h) (Or.inl ⟨by rfl,?_⟩) ?_ ?_
        rotate_left
        ·intro w'
         go_simp
         with_reducible rfl
        rotate_left
        ·simp only [Act.put,xa,xb,xc,i64_w,i32_w]
         rfl
        refine pure_ (i:=9) (N:=some 27) (v:=?_) (a':=?_) #[true,true,true,true,true,false,false,false,true,true,false,false,false,false,false,false,false,false] rfl rfl (any_of HT_.out (by kernel_rfl)) (fun _ _ _ h=>h) (Or.inl ⟨by rfl,?_⟩) ?_ ?_
        rotate_left
        ·intro w'
         go_simp
         with_reducible rfl
        rotate_left
        ·simp only [Act.put,xa,xb,xc,i64_w,i32_w]
         rfl
        refine pure_ (i:=10) (N:=some 28) (v:=?_) (a':=?_) #[true,true,true,true,true,false,false,false,true,true,true,false,false,false,false,false,false,false] rfl rfl (any_of HT_.out (by kernel_rfl)) (fun _ _ _ h=>h) (Or.inl ⟨by rfl,?_⟩) ?_ ?_
        rotate_left
        ·intro w'
         go_simp
         with_reducible rfl
        rotate_left
        ·simp only [Act.put,xa,xb,xc,i64_w,i32_w]
         rfl
        refine pure_ (i:=11) (N:=some 29) (v:=?_) (a':=?_) #[true,true,true,true,true,false,false,false,true,true,true,true,false,false,false,false,false,false] rfl rfl (any_of HT_.out (by kernel_rfl)) (fun _ _ _ h=>h) (Or.inl ⟨by rfl,?_⟩) ?_ ?_
        rotate_left
        ·intro w'
         go_simp
         with_reducible rfl
        rotate_left
        ·simp only [Act.put,xa,xb,xc,i64_w,i32_w]
         rfl
        refine one_ (i:=5) (N:=some 23) #[true,true,true,true,true,true,false,false,true,true,true,true,false,false,false,false,false,false] rfl rfl (one_of HT_.out (by kernel_rfl)) (by decide) (fun K hK=>?_)
        refine goes_ Try.func47 (by kernel_rfl) rfl #[.pointer (some ⟨gb428,0,none⟩),.int .i64 (t429.length : Int)] (by rfl) rfl rfl mz ?_
        with_reducible refine (spec_l1Cur_pick.calls gb428 l0 x429001_2 x429002_2 (t429.length : Int) t437 t438 t439 w _ ?side1 ?side2 A12.out).mono ?_
        (case side1=>repeat (first|(with_reducible first|exact HI428.out|apply IsS49.alloc|apply IsS49.drewN|apply IsS49.drew|apply IsS49.set_1|apply IsS49.set_2)|exact HI428.out))
        (case side2=>repeat (first|(with_reducible first|exact HB.out|apply below_alloc|apply pw_below_drewN|apply below_drew1|refine below_set ?_ (IsS49.ge HI428.out))|exact HB.out))
        rintro e w20 ⟨rfl,hi,hb,hk⟩
        have HS0_:=keep_cell hk (hHeld.1) (by first|(rw [add_block];exact Kd.own_blk (IsS49.own_ne HI428.out HO_5.out (by decide)))|(show (Addr.add _ _).block ≠ _;rw [add_block];exact Kd.own_blk (IsS49.own_ne HI428.out HO_5.out (by decide)))|exact Kd.own_blk (IsS49.own_ne HI428.out HO_5.out (by decide)))
        have HS1_:=keep_cell hk (hHeld.2) (by first|(rw [add_block];exact Kd.own_blk (IsS49.own_ne HI428.out HO_5.out (by decide)))|(show (Addr.add _ _).block ≠ _;rw [add_block];exact Kd.own_blk (IsS49.own_ne HI428.out HO_5.out (by decide)))|exact Kd.own_blk (IsS49.own_ne HI428.out HO_5.out (by decide)))
        refine ⟨_,rfl,?_⟩
        have n0_:=Aside0.mk (Kd.R_mono (Kd.R_keep (IsS49.apart (show IsS49 w _ gb428 l0 x429001_2 x429002_2 from by repeat (first|(with_reducible first|exact HI428.out|apply IsS49.alloc|apply IsS49.drewN|apply IsS49.drew|apply IsS49.set_1|apply IsS49.set_2)|exact HI428.out)) (rz HO_5.out) (by decide)) hk (fun _ h=>h.2)) (fun _ h=>h.1))
        have n1_:=Aside0.mk (hb)
        have n2_:=Aside0.mk (hi)
        clear HO_5
        clear HB
        clear HI428
        have HO_5:=n0_
        have HB:=n1_
        have HI428:=n2_
        clear n0_ n1_ n2_
        (try clear hb)
        (try clear hb2)
        (try clear hk)
        (try clear hi)
        refine hK.out _ _ ⟨HS0_,HS1_⟩ (fun hHeld=>?_)
        clear hK K
        refine norm_ (a':=?_) ?_ ?_
        rotate_left
        ·show Act.put _ (some 23) _ = _
         simp only [Act.put,xa,xb,xc,i64_w,i32_w]
         rfl
        refine pure_ (i:=6) (N:=some 24) (v:=?_) (a':=?_) #[true,true,true,true,true,true,true,false,true,true,true,true,false,false,false,false,false,false] rfl rfl (any_of HT_.out (by kernel_rfl)) (fun _ _ _ h=>h) (Or.inl ⟨by rfl,?_⟩) ?_ ?_
        rotate_left
        ·intro w'
         go_simp
         with_reducible rfl
        rotate_left
        ·simp only [Act.put,xa,xb,xc,i64_w,i32_w]
         rfl
        refine take_ (i:=7) (N:=some 25) (v:=?_) (a':=?_) #[true,true,true,true,true,true,true,true,true,true,true,true,false,false,false,false,false,false] rfl rfl (take_ofW HT_.out HW_.out (by kernel_rfl)) (fun _ _ _ h=>h) (Or.inl ⟨by rfl,?_⟩) hHeld ?_ ?_
        rotate_left
        ·rintro w' ⟨s0,s1⟩
         go_simp
         with_reducible rfl
        rotate_left
        ·simp only [Act.put,xa,xb,xc,i64_w,i32_w]
         rfl
        refine one_ (i:=12) (N:=some 30) #[true,true,true,true,true,true,true,true,true,true,true,true,true,false,false,false,false,false] rfl rfl (one_of HT_.out (by kernel_rfl)) (by decide) (fun K hK=>?_)
        refine goes_ Try.func47 (by kernel_rfl) rfl #[.pointer (some ⟨gb428,0,none⟩),.int .i64 (t429.length : Int)] (by rfl) rfl rfl mz ?_
        with_reducible refine (spec_l1Cur_pick.calls gb428 l0 t438 t439 (t429.length : Int) t441 t442 t443 w _ ?side1 ?side2 A15.out).mono ?_
        (case side1=>repeat (first|(with_reducible first|exact HI428.out|apply IsS49.alloc|apply IsS49.drewN|apply IsS49.drew|apply IsS49.set_1|apply IsS49.set_2)|exact HI428.out))
        (case side2=>repeat (first|(with_reducible first|exact HB.out|apply below_alloc|apply pw_below_drewN|apply below_drew1|refine below_set ?_ (IsS49.ge HI428.out))|exact HB.out))
        rintro e w21 ⟨rfl,hi,hb,hk⟩
        have HS0_:=keep_cell hk (hHeld.1) (by first|(rw [add_block];exact Kd.own_blk (IsS49.own_ne HI428.out HO_5.out (by decide)))|(show (Addr.add _ _).block ≠ _;rw [add_block];exact Kd.own_blk (IsS49.own_ne HI428.out HO_5.out (by decide)))|exact Kd.own_blk (IsS49.own_ne HI428.out HO_5.out (by decide)))
        have HS1_:=keep_cell hk (hHeld.2) (by first|(rw [add_block];exact Kd.own_blk (IsS49.own_ne HI428.out HO_5.out (by decide)))|(show (Addr.add _ _).block ≠ _;rw [add_block];exact Kd.own_blk (IsS49.own_ne HI428.out HO_5.out (by decide)))|exact Kd.own_blk (IsS49.own_ne HI428.out HO_5.out (by decide)))
        refine ⟨_,rfl,?_⟩
        have n0_:=Aside0.mk (Kd.R_mono (Kd.R_keep (IsS49.apart (show IsS49 w _ gb428 l0 t438 t439 from by repeat (first|(with_reducible first|exact HI428.out|apply IsS49.alloc|apply IsS49.drewN|apply IsS49.drew|apply IsS49.set_1|apply IsS49.set_2)|exact HI428.out)) (rz HO_5.out) (by decide)) hk (fun _ h=>h.2)) (fun _ h=>h.1))
        have n1_:=Aside0.mk (hb)
        have n2_:=Aside0.mk (hi)
        clear HO_5
        clear HB
        clear HI428
        have HO_5:=n0_
        have HB:=n1_
        have HI428:=n2_
        clear n0_ n1_ n2_
        (try clear hb)
        (try clear hb2)
        (try clear hk)
        (try clear hi)
        refine hK.out _ _ ⟨HS0_,HS1_⟩ (fun hHeld=>?_)
        clear hK K
        refine norm_ (a':=?_) ?_ ?_
        rotate_left
        ·show Act.put _ (some 30) _ = _
         simp only [Act.put,xa,xb,xc,i64_w,i32_w]
         rfl
        refine pure_ (i:=13) (N:=some 31) (v:=?_) (a':=?_) #[true,true,true,true,true,true,true,true,true,true,true,true,true,true,false,false,false,false] rfl rfl (any_of HT_.out (by kernel_rfl)) (fun _ _ _ h=>h) (Or.inl ⟨by rfl,?_⟩) ?_ ?_
        rotate_left
        ·intro w'
         go_simp
         with_reducible rfl
        rotate_left
        ·simp only [Act.put,xa,xb,xc,i64_w,i32_w]
         rfl
        refine pure_ (i:=16) (N:=some 2) (v:=?_) (a':=?_) #[true,true,true,true,true,true,true,true,true,true,true,true,true,true,false,false,true,false] rfl rfl (any_of HT_.out (by kernel_rfl)) (fun _ _ _ h=>h) (Or.inl ⟨by rfl,?_⟩) ?_ ?_
        rotate_left
        ·intro w'
         go_simp
         with_reducible rfl
        rotate_left
        ·simp only [Act.put,xa,xb,xc,i64_w,i32_w]
         rfl
        refine take_ (i:=14) (N:=some 32) (v:=?_) (a':=?_) #[true,true,true,true,true,true,true,true,true,true,true,true,true,true,true,false,true,false] rfl rfl (take_ofW HT_.out HW_.out (by kernel_rfl)) (fun _ _ _ h=>h) (Or.inl ⟨by rfl,?_⟩) hHeld ?_ ?_
        rotate_left
        ·rintro w' ⟨s0,s1⟩
         go_simp
         with_reducible rfl
        rotate_left
        ·simp only [Act.put,xa,xb,xc,i64_w,i32_w]
         rfl
        refine pure_ (i:=15) (N:=some 33) (v:=?_) (a':=?_) #[true,true,true,true,true,true,true,true,true,true,true,true,true,true,true,true,true,false] rfl rfl (any_of HT_.out (by kernel_rfl)) (fun _ _ _ h=>h) (Or.inl ⟨by rfl,?_⟩) ?_ ?_
        rotate_left
        ·intro w'
         go_simp
         with_reducible rfl
        rotate_left
        ·simp only [Act.put,xa,xb,xc,i64_w,i32_w]
         rfl
        refine pure_ (i:=17) (N:=some 3) (v:=?_) (a':=?_) #[true,true,true,true,true,true,true,true,true,true,true,true,true,true,true,true,true,true] rfl rfl (any_of HT_.out (by kernel_rfl)) (fun _ _ _ h=>h) (Or.inl ⟨by rfl,?_⟩) ?_ ?_
        rotate_left
        ·intro w'
         go_simp
         with_reducible rfl
        rotate_left
        ·simp only [Act.put,xa,xb,xc,i64_w,i32_w]
         rfl
        refine done_ (done_of HT_.out (by kernel_rfl)) ?_
        try go_wp2
        go_ret2
        exact ⟨_,by first|rfl|(simp [errW_none,errW_some] <;> rfl)|(simp [*,errW_none,errW_some] <;> rfl),by (with_reducible repeat (first|apply Kd.R_alloc|apply Kd.R_drewN|apply Kd.R_drew));exact HO_5.out,by repeat (first|(with_reducible first|exact HB.out|apply below_alloc|apply pw_below_drewN|apply below_drew1|refine below_set ?_ (IsS49.ge HI428.out))|exact HB.out)⟩
       ·rw [if_neg c17] at H
        exact absurd H (by simp)
      ·rw [if_neg c16] at H
       exact absurd H (by simp)
     ·rw [if_neg c14] at H
      exact absurd H (by simp)
    ·rw [if_neg c13] at H
     exact absurd H (by simp)
   ·replace c11:=Bool.eq_false_iff.mpr c11
    subst c11
    rw [if_neg (show ¬ (false = true) by decide)] at H
    replace H:=Option.bind_eq_some_iff.mp H
    obtain ⟨⟨t445,t446,t447⟩,A220,H⟩:=H
    replace H : (some (t429,t445)) = some (r1,r2):=H
    have A22:=Aside0.mk A220
    clear A220
    simp only [Option.some.injEq,Prod.mk.injEq] at H
    obtain ⟨rfl,rfl⟩:=H
    go_wp2_with (first|((with_reducible refine gate_callee (f:=48) rfl ?_);refine goesL_ (some 36) rfl rfl Try.func48 (by kernel_rfl) rfl #[.pointer (some ⟨gb428,0,none⟩)] rfl mz ?_;(with_reducible refine (spec_l1Cur_number.calls gb428 l0 x429001_2 x429002_2 t445 t446 t447 w _ ?side1 ?side2 A22.out).mono ?_);(case side1=>repeat (first|(with_reducible first|exact HI428.out|apply IsS49.alloc|apply IsS49.drewN|apply IsS49.drew|apply IsS49.set_1|apply IsS49.set_2)|exact HI428.out));(case side2=>repeat (first|(with_reducible first|exact HB.out|apply below_alloc|apply pw_below_drewN|apply below_drew1|refine below_set ?_ (IsS49.ge HI428.out))|exact HB.out));rintro e w23 ⟨rfl,hi,hb,hk⟩;refine ⟨_,rfl,?_⟩;have n0_:=Aside0.mk (Kd.R_mono (Kd.R_keep (IsS49.apart (show IsS49 w _ gb428 l0 x429001_2 x429002_2 from by repeat (first|(with_reducible first|exact HI428.out|apply IsS49.alloc|apply IsS49.drewN|apply IsS49.drew|apply IsS49.set_1|apply IsS49.set_2)|exact HI428.out)) (rz HO_5.out) (by decide)) hk (fun _ h=>h.2)) (fun _ h=>h.1));have n1_:=Aside0.mk (hb);have n2_:=Aside0.mk (hi);clear HO_5 HB HI428;have HO_5:=n0_;have HB:=n1_;have HI428:=n2_;clear n0_ n1_ n2_;(try clear hb);(try clear hb2);(try clear hk);(try clear hi)))
    go_ret2
    exact ⟨_,by first|rfl|(simp [errW_none,errW_some] <;> rfl)|(simp [*,errW_none,errW_some] <;> rfl),by (with_reducible repeat (first|apply Kd.R_alloc|apply Kd.R_drewN|apply Kd.R_drew));exact HO_5.out,by repeat (first|(with_reducible first|exact HB.out|apply below_alloc|apply pw_below_drewN|apply below_drew1|refine below_set ?_ (IsS49.ge HI428.out))|exact HB.out)⟩
/-! ### cmp_isNaN_int: function 95 -/
def cmp_isNaN_int.f (a0 : Int) : Option (Bool):=some (a0 != a0)
set_option maxHeartbeats 8000000 in
set_option maxRecDepth 100000 in
theorem cmp_isNaN_int.calls (a0 : Int) (r : Bool) (w : World) (h : cmp_isNaN_int.f a0 = some r) :
  Calls Try.prog 95 #[.int .i64 a0] w fun e w'=>e = .returned (.bool r) ∧ Drawn0 w w':=by
 have H : (some (a0 != a0)) = some r:=h
 clear h
 obtain rfl:=Option.some.inj H
 go_enter Try.func95,Try.ntmps95
 go_wp2
 go_ret
 exact ⟨by first|rfl|(simp;done)|(simp [*];done),by repeat (first|exact Drawn0.refl _|apply Drawn0.step)⟩
end Go.Proofs.Ytlefjgpkabijdaa.MFnNeededParts
--sq
