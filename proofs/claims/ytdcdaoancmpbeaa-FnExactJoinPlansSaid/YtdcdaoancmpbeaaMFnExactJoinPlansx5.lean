import Derived.Test.YtdcdaoancmpbeaaMFnExactJoinPlansx0
import Derived.Test.YtdcdaoancmpbeaaMFnExactJoinPlansx3
import Derived.Test.YtdcdaoancmpbeaaMFnExactJoinPlansx4
namespace Go.Proofs.Ytdcdaoancmpbeaa.MFnExactJoinPlans
open Go.RowKit Go.Proofs.YtdcdaoancmpbeaaW.PrintWords Go.Proofs.YtdcdaoancmpbeaaW.PrintLast Go.Proofs.YtdcdaoancmpbeaaW.PrintMore Go.Proofs.YtdcdaoancmpbeaaV Go.Proofs.YtdcdaoancmpbeaaZ
attribute [local go_sem] max2_int min2_int max_two min_two max_three min_three max_four min_four   -- for this text's walks alone
set_option linter.unusedVariables false
set_option linter.unusedSimpArgs false
/-! ### spec_JoinPlans: function 11 -/
def spec_JoinPlans.j0 : Nat → Bool → Int → List (S73) → List Int → Int → List (S73) → List Int → Option (Int × (List (S73)) × List Int × Bool)
 | 0,_,_,_,_,_,_,_=>none
 | k + 1,x22,x184000,x184001,x184002,x185000,x185001,x185002=>if x22 = true then (some (0,([] : List (S73)),([] : List Int),false)) else ((spec_plUpTo.f k x184000).bind fun t188=>((spec_plThen.f k x184001 x184000 x185000 x185001 x185002 t188).bind fun bt191=>((spec_l1Own.f x184002).bind fun t197=>(if t197.length + bt191.2.length < 17592186044416 then ((spec_plIf.f k x184000 bt191.1 (t197 ++ bt191.2)).bind fun bt203=>(some (bt203.1,bt203.2.1,bt203.2.2.1,bt203.2.2.2))) else (none)))))
def spec_JoinPlans.f (k : Nat) (a0_0 : Int) (l0_1 : List (S73)) (l0_2 : List Int) (a1_0 : Int) (l1_1 : List (S73)) (l1_2 : List Int) : Option (Int × (List (S73)) × List Int × Bool):=(spec_plGood.f k a0_0 l0_1 l0_2).bind fun t186=>(if t186 = true then ((spec_plGood.f k a1_0 l1_1 l1_2).bind fun t187=>(if t187 = true then (spec_JoinPlans.j0 k (a0_0 != a1_0) a0_0 l0_1 l0_2 a1_0 l1_1 l1_2) else (spec_JoinPlans.j0 k true a0_0 l0_1 l0_2 a1_0 l1_1 l1_2))) else (spec_JoinPlans.j0 k true a0_0 l0_1 l0_2 a1_0 l1_1 l1_2))
theorem spec_JoinPlans.mono_l : ∀ k,(∀ y0 y1 y2 y3 y4 y5 y6,LeO (spec_JoinPlans.j0 k y0 y1 y2 y3 y4 y5 y6) (spec_JoinPlans.j0 (k + 1) y0 y1 y2 y3 y4 y5 y6))
 | 0=>fun _ _ _ _ _ _ _ r h=>by simp [spec_JoinPlans.j0] at h
 | k + 1=>by
  have ih0:=spec_JoinPlans.mono_l k
  ·intro y0 y1 y2 y3 y4 y5 y6
   unfold spec_JoinPlans.j0
   repeat' first
   | (with_reducible exact ih0 _ _ _ _ _ _ _)
   | (with_reducible exact spec_plGood.mono _ _ _ _)
   | (with_reducible exact spec_plIf.mono _ _ _ _)
   | (with_reducible exact spec_plThen.mono _ _ _ _ _ _ _)
   | (with_reducible exact spec_plUpTo.mono _ _)
   | (with_reducible exact LeO.refl _)
   | (with_reducible exact LeO.none _)
   | (with_reducible refine LeO.ite ?_ ?_)
   | (with_reducible refine LeO.bind ?_ (fun _=>?_))
   | exact ih0 _ _ _ _ _ _ _
   | exact spec_plGood.mono _ _ _ _
   | exact spec_plIf.mono _ _ _ _
   | exact spec_plThen.mono _ _ _ _ _ _ _
   | exact spec_plUpTo.mono _ _
   | exact LeO.none _
   | refine LeO.ite ?_ ?_
   | refine LeO.bind ?_ (fun _=>?_)
theorem spec_JoinPlans.mono : ∀ a0 a1 a2 a3 a4 a5 k,LeO (spec_JoinPlans.f k a0 a1 a2 a3 a4 a5) (spec_JoinPlans.f (k + 1) a0 a1 a2 a3 a4 a5):=by
 intro a0 a1 a2 a3 a4 a5 k
 have ih0:=spec_JoinPlans.mono_l k
 unfold spec_JoinPlans.f
 repeat' first
   | (with_reducible exact ih0 _ _ _ _ _ _ _)
   | (with_reducible exact spec_plGood.mono _ _ _ _)
   | (with_reducible exact spec_plIf.mono _ _ _ _)
   | (with_reducible exact spec_plThen.mono _ _ _ _ _ _ _)
   | (with_reducible exact spec_plUpTo.mono _ _)
   | (with_reducible exact LeO.refl _)
   | (with_reducible exact LeO.none _)
   | (with_reducible refine LeO.ite ?_ ?_)
   | (with_reducible refine LeO.bind ?_ (fun _=>?_))
   | exact ih0 _ _ _ _ _ _ _
   | exact spec_plGood.mono _ _ _ _
   | exact spec_plIf.mono _ _ _ _
   | exact spec_plThen.mono _ _ _ _ _ _ _
   | exact spec_plUpTo.mono _ _
   | exact LeO.none _
   | refine LeO.ite ?_ ?_
   | refine LeO.bind ?_ (fun _=>?_)
def spec_JoinPlans.T3 : Bool × List (List Nat × List Nat):=(true,[([],[]),([0],[0]),([],[]),([2],[2]),([],[]),([],[]),([5],[5]),([6],[6]),([1,3,4,7,7],[1,3,4,7]),([8],[8]),([9],[9]),([9],[9]),([10,8,0,1,2,3,4,5,6,7,8,9,10],[10]),([11,12,0,1,2,3,4,5,6,7,8,9,10,11,12],[11])])
def spec_JoinPlans.B3 : List Nat:=[0,1,0,4,0,0,32,96,255,511,1023,1023,2047,8191]
theorem spec_JoinPlans.tab3 : rtab .any (opsOf Try.f11 3) = spec_JoinPlans.T3:=by kernel_rfl
theorem spec_JoinPlans.bits3 : waitsOk spec_JoinPlans.T3.2 spec_JoinPlans.B3 = true:=by kernel_rfl
def spec_JoinPlans.T4 : Bool × List (List Nat × List Nat):=(true,[([],[]),([0],[0]),([],[]),([],[]),([3],[3]),([4],[4]),([],[]),([5,6,5],[5,6]),([1,2,7],[1,2,7]),([8,7],[8]),([9],[9]),([9],[9]),([10,9,0,1,2,3,4,5,6,7,8,9,10,11],[10]),([11,12,0,1,2,3,4,5,6,7,8,9,10,11,12],[11])])
def spec_JoinPlans.B4 : List Nat:=[0,1,0,0,8,24,0,120,255,511,1023,1023,4095,8191]
theorem spec_JoinPlans.tab4 : rtab .any (opsOf Try.f11 4) = spec_JoinPlans.T4:=by kernel_rfl
theorem spec_JoinPlans.bits4 : waitsOk spec_JoinPlans.T4.2 spec_JoinPlans.B4 = true:=by kernel_rfl
set_option maxHeartbeats 8000000 in
set_option maxRecDepth 100000 in
theorem spec_JoinPlans.calls (k : Nat) (a0_0 : Int) (A0_1 : Option Addr) (c0_1 : Nat) (l0_1 : List (S73)) (A0_2 : Option Addr) (c0_2 : Nat) (l0_2 : List Int) (a1_0 : Int) (A1_1 : Option Addr) (c1_1 : Nat) (l1_1 : List (S73)) (A1_2 : Option Addr) (c1_2 : Nat) (l1_2 : List Int) (r1 : Int) (r2 : List (S73)) (r3 : List Int) (r4 : Bool) (w : World) (hr0_1 : Kd.C k73 w A0_1 l0_1.length l0_1) (hc0_1 : l0_1.length ≤ c0_1) (hr0_2 : Kd.C (Kd.int .i64) w A0_2 l0_2.length l0_2) (hc0_2 : l0_2.length ≤ c0_2) (hr1_1 : Kd.C k73 w A1_1 l1_1.length l1_1) (hc1_1 : l1_1.length ≤ c1_1) (hr1_2 : Kd.C (Kd.int .i64) w A1_2 l1_2.length l1_2) (hc1_2 : l1_2.length ≤ c1_2) (h : spec_JoinPlans.f k a0_0 l0_1 l0_2 a1_0 l1_1 l1_2 = some (r1,r2,r3,r4)) :
  Calls Try.prog 11 #[.agg #[.int .i64 a0_0,.slice A0_1 l0_1.length c0_1,.slice A0_2 l0_2.length c0_2],.agg #[.int .i64 a1_0,.slice A1_1 l1_1.length c1_1,.slice A1_2 l1_2.length c1_2]] w fun e w'=>∃ v1_ v2_ : Value,e = .returned (.tuple #[.agg #[.int .i64 r1,v1_,v2_],.bool r4]) ∧ Kd.R k73 73 w' w.heap.size (fun _=>True) v1_ r2 ∧ Kd.R (Kd.int .i64) 3 w' w.heap.size (fun _=>True) v2_ r3 ∧ Below w.heap.size w w':=by
 have hu29:=Try.underlying29
 have HR0_1:=Aside0.mk hr0_1
 have HC0_1:=Aside0.mk hc0_1
 clear hr0_1 hc0_1
 have HR0_2:=Aside0.mk hr0_2
 have HC0_2:=Aside0.mk hc0_2
 clear hr0_2 hc0_2
 have HR1_1:=Aside0.mk hr1_1
 have HC1_1:=Aside0.mk hc1_1
 clear hr1_1 hc1_1
 have HR1_2:=Aside0.mk hr1_2
 have HC1_2:=Aside0.mk hc1_2
 clear hr1_2 hc1_2
 have HB:=Aside0.mk (Below.refl w.heap.size w)
 have H : ((spec_plGood.f k a0_0 l0_1 l0_2).bind fun t186=>(if t186 = true then ((spec_plGood.f k a1_0 l1_1 l1_2).bind fun t187=>(if t187 = true then (spec_JoinPlans.j0 k (a0_0 != a1_0) a0_0 l0_1 l0_2 a1_0 l1_1 l1_2) else (spec_JoinPlans.j0 k true a0_0 l0_1 l0_2 a1_0 l1_1 l1_2))) else (spec_JoinPlans.j0 k true a0_0 l0_1 l0_2 a1_0 l1_1 l1_2))) = some (r1,r2,r3,r4):=h
 clear h
 have HC3:=Aside0.mk H
 clear H
 go_enter Try.func11,Try.ntmps11
 go_upto_region 1 with (first|((with_reducible refine gate_dst (N:=2) rfl ?_);refine box_event ?hg (N:=2) ?hd (cs:=#[.int .i64 a0_0,.slice A0_1 l0_1.length c0_1,.slice A0_2 l0_2.length c0_2]) (t:=29) ?hr ?_;(case hd=>rfl);(case hg=>rfl);(case hr=>first|(go_simp;done)|(go_simp;rfl));intro gb183 hg w4 hbox hb;have n0_:=Aside0.mk (below_step bz hb);have n1_:=Aside0.mk (hbox);have n2_:=Aside0.mk ((by rw [hg];exact (below_size bz) : w.heap.size ≤ gb183));have n3_:=Aside0.mk ((by rw [hg];exact (below_size bz) : w.heap.size ≤ gb183));clear HB;have HB:=n0_;have BK183:=n1_;have GW183:=n2_;have GE183:=n3_;clear n0_ n1_ n2_ n3_;clear hb hbox hg)|((with_reducible refine gate_dst (N:=3) rfl ?_);refine box_event ?hg (N:=3) ?hd (cs:=#[.int .i64 a1_0,.slice A1_1 l1_1.length c1_1,.slice A1_2 l1_2.length c1_2]) (t:=29) ?hr ?_;(case hd=>rfl);(case hg=>rfl);(case hr=>first|(go_simp;done)|(go_simp;rfl));intro gb184 hg w5 hbox hb;have n0_:=Aside0.mk (kb BK183.out hb);have n1_:=Aside0.mk (below_step bs hb);have n2_:=Aside0.mk (hbox);have n3_:=Aside0.mk ((by rw [hg];exact (below_size bs) : w.heap.size ≤ gb184));have n4_:=Aside0.mk ((by rw [hg];exact (below_size bs) : w.heap.size ≤ gb184));have n5_:=Aside0.mk (kn hg BK183.out);have n6_:=Aside0.mk (km hg BK183.out);clear BK183 HB;have BK183:=n0_;have HB:=n1_;have BK184:=n2_;have GW184:=n3_;have GE184:=n4_;have NB183_184:=n5_;have NB184_183:=n6_;clear n0_ n1_ n2_ n3_ n4_ n5_ n6_;clear hb hbox hg)|((with_reducible refine gate_dst (N:=4) rfl ?_);refine box_event ?hg (N:=4) ?hd (cs:=#[.int .i64 0,.slice none 0 0,.slice none 0 0]) (t:=29) ?hr ?_;(case hd=>rfl);(case hg=>rfl);(case hr=>first|(go_simp;done)|(go_simp;rfl));intro gb185 hg w6 hbox hb;have n0_:=Aside0.mk (kb BK183.out hb);have n1_:=Aside0.mk (kb BK184.out hb);have n2_:=Aside0.mk (below_step bs hb);have n3_:=Aside0.mk (hbox);have n4_:=Aside0.mk ((by rw [hg];exact (below_size bs) : w.heap.size ≤ gb185));have n5_:=Aside0.mk ((by rw [hg];exact (below_size bs) : w.heap.size ≤ gb185));have n6_:=Aside0.mk (kn hg BK183.out);have n7_:=Aside0.mk (km hg BK183.out);have n8_:=Aside0.mk (kn hg BK184.out);have n9_:=Aside0.mk (km hg BK184.out);clear BK183 BK184 HB;have BK183:=n0_;have BK184:=n1_;have HB:=n2_;have BK185:=n3_;have GW185:=n4_;have GE185:=n5_;have NB183_185:=n6_;have NB185_183:=n7_;have NB184_185:=n8_;have NB185_184:=n9_;clear n0_ n1_ n2_ n3_ n4_ n5_ n6_ n7_ n8_ n9_;clear hb hbox hg))
 (try simp only [Act.put,xa,xb,xc])
 go_cut [22] (fun v22 wc=>∃ (kq : Nat) (x22_2 : Bool),v22 = .bool x22_2 ∧ Aside0 (spec_JoinPlans.j0 kq x22_2 a0_0 l0_1 l0_2 a1_0 l1_1 l1_2 = some (r1,r2,r3,r4)) ∧ Aside0 (kq ≤ k) ∧ Aside0 (wc.heap[gb183]? = some (.cells #[.int .i64 a0_0,(.slice A0_1 l0_1.length c0_1),(.slice A0_2 l0_2.length c0_2)] 29 (0,0))) ∧ Aside0 (wc.heap[gb184]? = some (.cells #[.int .i64 a1_0,(.slice A1_1 l1_1.length c1_1),(.slice A1_2 l1_2.length c1_2)] 29 (0,0))) ∧ Aside0 (wc.heap[gb185]? = some (.cells #[.int .i64 0,(.slice none 0 0),(.slice none 0 0)] 29 (0,0))) ∧ Aside0 (Below w.heap.size w wc))
 case first=>
  have H:=HC3.out
  clear HC3
  obtain ⟨t186,A7,H⟩:=bd H
  by_cases c8 : t186 = true
  ·subst c8
   rw [if_pos rfl] at H
   obtain ⟨t187,A9,H⟩:=bd H
   by_cases c10 : t187 = true
   ·subst c10
    rw [if_pos rfl] at H
    have H':=Aside0.mk H
    clear H
    have hnb11:=NB183_184.out
    have hnc11:=NB184_183.out
    have hnb12:=NB183_185.out
    have hnc12:=NB185_183.out
    have hcz13_0 : w6.cell? ⟨gb183,0,none⟩ = some (.int .i64 a0_0):=(blk_cell BK183.out 0).trans rfl
    have hcz13_1 : w6.cell? ⟨gb183,1,none⟩ = some (.slice A0_1 l0_1.length c0_1):=(blk_cell BK183.out 1).trans rfl
    have hcz13_2 : w6.cell? ⟨gb183,2,none⟩ = some (.slice A0_2 l0_2.length c0_2):=(blk_cell BK183.out 2).trans rfl
    have hfz13_0:=blk_frozen BK183.out 0
    have hfz13_1:=blk_frozen BK183.out 1
    have hfz13_2:=blk_frozen BK183.out 2
    go_wp2_with (first|((with_reducible refine gate_callee (f:=38) rfl ?_);refine goesL_ (some 9) rfl rfl Try.func38 (by kernel_rfl) rfl #[.agg #[.int .i64 a0_0,.slice A0_1 l0_1.length c0_1,.slice A0_2 l0_2.length c0_2]] rfl mz ?_;(with_reducible refine (spec_plGood.calls k a0_0 _ _ l0_1 _ _ l0_2 true _ ?side1 ?side2 ?side3 ?side4 A7.out).mono ?_);(case side1=>exact cz (Kd.C_below HR0_1.out HB.out));(case side2=>exact HC0_1.out);(case side3=>exact cz (Kd.C_below HR0_2.out HB.out));(case side4=>exact HC0_2.out);rintro e w14 ⟨rfl,hb⟩;refine ⟨_,rfl,?_⟩;have n0_:=Aside0.mk (kb BK183.out hb);have n1_:=Aside0.mk (kb BK184.out hb);have n2_:=Aside0.mk (kb BK185.out hb);have n3_:=Aside0.mk (below_step bs hb);clear BK183 BK184 BK185 HB;have BK183:=n0_;have BK184:=n1_;have BK185:=n2_;have HB:=n3_;clear n0_ n1_ n2_ n3_;(try clear hb);have hnb15:=NB184_185.out;have hnc15:=NB185_184.out;have hcz16_0 : w14.cell? ⟨gb184,0,none⟩ = some (.int .i64 a1_0):=(blk_cell BK184.out 0).trans rfl;have hcz16_1 : w14.cell? ⟨gb184,1,none⟩ = some (.slice A1_1 l1_1.length c1_1):=(blk_cell BK184.out 1).trans rfl;have hcz16_2 : w14.cell? ⟨gb184,2,none⟩ = some (.slice A1_2 l1_2.length c1_2):=(blk_cell BK184.out 2).trans rfl;have hfz16_0:=blk_frozen BK184.out 0;have hfz16_1:=blk_frozen BK184.out 1;have hfz16_2:=blk_frozen BK184.out 2)|(go_at_call 38;(with_reducible refine (spec_plGood.calls k a1_0 _ _ l1_1 _ _ l1_2 true _ ?side1 ?side2 ?side3 ?side4 A9.out).mono ?_);(case side1=>exact cz (Kd.C_below HR1_1.out HB.out));(case side2=>exact HC1_1.out);(case side3=>exact cz (Kd.C_below HR1_2.out HB.out));(case side4=>exact HC1_2.out);rintro e w17 ⟨rfl,hb⟩;have n0_:=Aside0.mk (kb BK183.out hb);have n1_:=Aside0.mk (kb BK184.out hb);have n2_:=Aside0.mk (kb BK185.out hb);have n3_:=Aside0.mk (below_step bs hb);clear BK183 BK184 BK185 HB;have BK183:=n0_;have BK184:=n1_;have BK185:=n2_;have HB:=n3_;clear n0_ n1_ n2_ n3_;(try clear hb);have hcz18_0 : w17.cell? ⟨gb183,0,none⟩ = some (.int .i64 a0_0):=(blk_cell BK183.out 0).trans rfl;have hcz18_1 : w17.cell? ⟨gb183,1,none⟩ = some (.slice A0_1 l0_1.length c0_1):=(blk_cell BK183.out 1).trans rfl;have hcz18_2 : w17.cell? ⟨gb183,2,none⟩ = some (.slice A0_2 l0_2.length c0_2):=(blk_cell BK183.out 2).trans rfl;have hfz18_0:=blk_frozen BK183.out 0;have hfz18_1:=blk_frozen BK183.out 1;have hfz18_2:=blk_frozen BK183.out 2;have hcz19_0 : w17.cell? ⟨gb184,0,none⟩ = some (.int .i64 a1_0):=(blk_cell BK184.out 0).trans rfl;have hcz19_1 : w17.cell? ⟨gb184,1,none⟩ = some (.slice A1_1 l1_1.length c1_1):=(blk_cell BK184.out 1).trans rfl;have hcz19_2 : w17.cell? ⟨gb184,2,none⟩ = some (.slice A1_2 l1_2.length c1_2):=(blk_cell BK184.out 2).trans rfl;have hfz19_0:=blk_frozen BK184.out 0;have hfz19_1:=blk_frozen BK184.out 1;have hfz19_2:=blk_frozen BK184.out 2))
    go_meet
    case rel=>exact ⟨_,((a0_0 != a1_0)),fz,H',⟨by first|omega|exact Nat.le_refl _⟩,⟨by (with_reducible repeat (first|refine blk_drewN ?_ _|refine blk_drew ?_|refine blk_alloc ?_ _));exact BK183.out⟩,⟨by (with_reducible repeat (first|refine blk_drewN ?_ _|refine blk_drew ?_|refine blk_alloc ?_ _));exact BK184.out⟩,⟨by (with_reducible repeat (first|refine blk_drewN ?_ _|refine blk_drew ?_|refine blk_alloc ?_ _));exact BK185.out⟩,⟨by repeat (first|(with_reducible first|exact HB.out|apply below_alloc|apply pw_below_drewN|apply below_drew1|refine below_set ?_ GE183.out|refine below_set ?_ GE184.out|refine below_set ?_ GE185.out)|exact HB.out)⟩⟩
   ·replace c10:=Bool.eq_false_iff.mpr c10
    subst c10
    rw [if_neg (show ¬ (false = true) by decide)] at H
    have H':=Aside0.mk H
    clear H
    have hnb20:=NB183_184.out
    have hnc20:=NB184_183.out
    have hnb21:=NB183_185.out
    have hnc21:=NB185_183.out
    have hcz22_0 : w6.cell? ⟨gb183,0,none⟩ = some (.int .i64 a0_0):=(blk_cell BK183.out 0).trans rfl
    have hcz22_1 : w6.cell? ⟨gb183,1,none⟩ = some (.slice A0_1 l0_1.length c0_1):=(blk_cell BK183.out 1).trans rfl
    have hcz22_2 : w6.cell? ⟨gb183,2,none⟩ = some (.slice A0_2 l0_2.length c0_2):=(blk_cell BK183.out 2).trans rfl
    have hfz22_0:=blk_frozen BK183.out 0
    have hfz22_1:=blk_frozen BK183.out 1
    have hfz22_2:=blk_frozen BK183.out 2
    go_wp2_with (first|((with_reducible refine gate_callee (f:=38) rfl ?_);refine goesL_ (some 9) rfl rfl Try.func38 (by kernel_rfl) rfl #[.agg #[.int .i64 a0_0,.slice A0_1 l0_1.length c0_1,.slice A0_2 l0_2.length c0_2]] rfl mz ?_;(with_reducible refine (spec_plGood.calls k a0_0 _ _ l0_1 _ _ l0_2 true _ ?side1 ?side2 ?side3 ?side4 A7.out).mono ?_);(case side1=>exact cz (Kd.C_below HR0_1.out HB.out));(case side2=>exact HC0_1.out);(case side3=>exact cz (Kd.C_below HR0_2.out HB.out));(case side4=>exact HC0_2.out);rintro e w23 ⟨rfl,hb⟩;refine ⟨_,rfl,?_⟩;have n0_:=Aside0.mk (kb BK183.out hb);have n1_:=Aside0.mk (kb BK184.out hb);have n2_:=Aside0.mk (kb BK185.out hb);have n3_:=Aside0.mk (below_step bs hb);clear BK183 BK184 BK185 HB;have BK183:=n0_;have BK184:=n1_;have BK185:=n2_;have HB:=n3_;clear n0_ n1_ n2_ n3_;(try clear hb);have hnb24:=NB184_185.out;have hnc24:=NB185_184.out;have hcz25_0 : w23.cell? ⟨gb184,0,none⟩ = some (.int .i64 a1_0):=(blk_cell BK184.out 0).trans rfl;have hcz25_1 : w23.cell? ⟨gb184,1,none⟩ = some (.slice A1_1 l1_1.length c1_1):=(blk_cell BK184.out 1).trans rfl;have hcz25_2 : w23.cell? ⟨gb184,2,none⟩ = some (.slice A1_2 l1_2.length c1_2):=(blk_cell BK184.out 2).trans rfl;have hfz25_0:=blk_frozen BK184.out 0;have hfz25_1:=blk_frozen BK184.out 1;have hfz25_2:=blk_frozen BK184.out 2)|(go_at_call 38;(with_reducible refine (spec_plGood.calls k a1_0 _ _ l1_1 _ _ l1_2 false _ ?side1 ?side2 ?side3 ?side4 A9.out).mono ?_);(case side1=>exact cz (Kd.C_below HR1_1.out HB.out));(case side2=>exact HC1_1.out);(case side3=>exact cz (Kd.C_below HR1_2.out HB.out));(case side4=>exact HC1_2.out);rintro e w26 ⟨rfl,hb⟩;have n0_:=Aside0.mk (kb BK183.out hb);have n1_:=Aside0.mk (kb BK184.out hb);have n2_:=Aside0.mk (kb BK185.out hb);have n3_:=Aside0.mk (below_step bs hb);clear BK183 BK184 BK185 HB;have BK183:=n0_;have BK184:=n1_;have BK185:=n2_;have HB:=n3_;clear n0_ n1_ n2_ n3_;(try clear hb)))
    go_meet
    case rel=>exact ⟨_,(true),fz,H',⟨by first|omega|exact Nat.le_refl _⟩,⟨by (with_reducible repeat (first|refine blk_drewN ?_ _|refine blk_drew ?_|refine blk_alloc ?_ _));exact BK183.out⟩,⟨by (with_reducible repeat (first|refine blk_drewN ?_ _|refine blk_drew ?_|refine blk_alloc ?_ _));exact BK184.out⟩,⟨by (with_reducible repeat (first|refine blk_drewN ?_ _|refine blk_drew ?_|refine blk_alloc ?_ _));exact BK185.out⟩,⟨by repeat (first|(with_reducible first|exact HB.out|apply below_alloc|apply pw_below_drewN|apply below_drew1|refine below_set ?_ GE183.out|refine below_set ?_ GE184.out|refine below_set ?_ GE185.out)|exact HB.out)⟩⟩
  ·replace c8:=Bool.eq_false_iff.mpr c8
   subst c8
   rw [if_neg (show ¬ (false = true) by decide)] at H
   have H':=Aside0.mk H
   clear H
   have hnb27:=NB183_184.out
   have hnc27:=NB184_183.out
   have hnb28:=NB183_185.out
   have hnc28:=NB185_183.out
   have hcz29_0 : w6.cell? ⟨gb183,0,none⟩ = some (.int .i64 a0_0):=(blk_cell BK183.out 0).trans rfl
   have hcz29_1 : w6.cell? ⟨gb183,1,none⟩ = some (.slice A0_1 l0_1.length c0_1):=(blk_cell BK183.out 1).trans rfl
   have hcz29_2 : w6.cell? ⟨gb183,2,none⟩ = some (.slice A0_2 l0_2.length c0_2):=(blk_cell BK183.out 2).trans rfl
   have hfz29_0:=blk_frozen BK183.out 0
   have hfz29_1:=blk_frozen BK183.out 1
   have hfz29_2:=blk_frozen BK183.out 2
   go_wp2_with (first|((with_reducible refine gate_callee (f:=38) rfl ?_);refine goesL_ (some 9) rfl rfl Try.func38 (by kernel_rfl) rfl #[.agg #[.int .i64 a0_0,.slice A0_1 l0_1.length c0_1,.slice A0_2 l0_2.length c0_2]] rfl mz ?_;(with_reducible refine (spec_plGood.calls k a0_0 _ _ l0_1 _ _ l0_2 false _ ?side1 ?side2 ?side3 ?side4 A7.out).mono ?_);(case side1=>exact cz (Kd.C_below HR0_1.out HB.out));(case side2=>exact HC0_1.out);(case side3=>exact cz (Kd.C_below HR0_2.out HB.out));(case side4=>exact HC0_2.out);rintro e w30 ⟨rfl,hb⟩;refine ⟨_,rfl,?_⟩;have n0_:=Aside0.mk (kb BK183.out hb);have n1_:=Aside0.mk (kb BK184.out hb);have n2_:=Aside0.mk (kb BK185.out hb);have n3_:=Aside0.mk (below_step bs hb);clear BK183 BK184 BK185 HB;have BK183:=n0_;have BK184:=n1_;have BK185:=n2_;have HB:=n3_;clear n0_ n1_ n2_ n3_;(try clear hb)))
   go_meet
   case rel=>exact ⟨_,(true),fz,H',⟨by first|omega|exact Nat.le_refl _⟩,⟨by (with_reducible repeat (first|refine blk_drewN ?_ _|refine blk_drew ?_|refine blk_alloc ?_ _));exact BK183.out⟩,⟨by (with_reducible repeat (first|refine blk_drewN ?_ _|refine blk_drew ?_|refine blk_alloc ?_ _));exact BK184.out⟩,⟨by (with_reducible repeat (first|refine blk_drewN ?_ _|refine blk_drew ?_|refine blk_alloc ?_ _));exact BK185.out⟩,⟨by repeat (first|(with_reducible first|exact HB.out|apply below_alloc|apply pw_below_drewN|apply below_drew1|refine below_set ?_ GE183.out|refine below_set ?_ GE184.out|refine below_set ?_ GE185.out)|exact HB.out)⟩⟩
 case rest=>
  clear HC3
  try clear c1
  try clear c2
  try clear p2
  try clear c3
  try clear c8
  try clear c10
  try clear c11
  try clear c12
  try clear c15
  try clear c20
  try clear c21
  try clear c24
  try clear c27
  try clear c28
  try clear hcz13_0
  try clear hcz13_1
  try clear hcz13_2
  try clear hcz16_0
  try clear hcz16_1
  try clear hcz16_2
  try clear hcz18_0
  try clear hcz18_1
  try clear hcz18_2
  try clear hcz19_0
  try clear hcz19_1
  try clear hcz19_2
  try clear hcz22_0
  try clear hcz22_1
  try clear hcz22_2
  try clear hcz25_0
  try clear hcz25_1
  try clear hcz25_2
  try clear hcz29_0
  try clear hcz29_1
  try clear hcz29_2
  try clear hfz13_0
  try clear hfz13_1
  try clear hfz13_2
  try clear hfz16_0
  try clear hfz16_1
  try clear hfz16_2
  try clear hfz18_0
  try clear hfz18_1
  try clear hfz18_2
  try clear hfz19_0
  try clear hfz19_1
  try clear hfz19_2
  try clear hfz22_0
  try clear hfz22_1
  try clear hfz22_2
  try clear hfz25_0
  try clear hfz25_1
  try clear hfz25_2
  try clear hfz29_0
  try clear hfz29_1
  try clear hfz29_2
  obtain ⟨kq,x22_2,rfl,HA,HJ2,BK183,BK184,BK185,HB⟩:=hcut
  cases kq with
  | zero=>exact absurd HA.out (by simp [spec_JoinPlans.j0])
  | succ kj2=>
   have H:=HA.out
   clear HA
   simp only [spec_JoinPlans.j0] at H
   by_cases c31 : x22_2 = true
   ·subst c31
    rw [if_pos rfl] at H
    simp only [Option.some.injEq,Prod.mk.injEq] at H
    obtain ⟨rfl,rfl,rfl,rfl⟩:=H
    have hnb32:=NB185_183.out
    have hnc32:=NB183_185.out
    have hnb33:=NB185_184.out
    have hnc33:=NB184_185.out
    have hcz34_0 : wc.cell? ⟨gb185,0,none⟩ = some (.int .i64 0):=(blk_cell BK185.out 0).trans rfl
    have hcz34_1 : wc.cell? ⟨gb185,1,none⟩ = some (.slice none 0 0):=(blk_cell BK185.out 1).trans rfl
    have hcz34_2 : wc.cell? ⟨gb185,2,none⟩ = some (.slice none 0 0):=(blk_cell BK185.out 2).trans rfl
    have hfz34_0:=blk_frozen BK185.out 0
    have hfz34_1:=blk_frozen BK185.out 1
    have hfz34_2:=blk_frozen BK185.out 2
    go_wp2
    refine bodyPost_ret (results_ct rfl _ _ gb185 29 #[.int .i64 0,.slice none 0 0,.slice none 0 0] (0,0) _ rfl (by (with_reducible repeat (first|refine blk_drewN ?_ _|refine blk_drew ?_|refine blk_alloc ?_ _));refine blk_put (cs:=#[.int .i64 0,.slice none 0 0,.slice none 0 0]) ?_ 2 _ rfl;(with_reducible repeat (first|refine blk_drewN ?_ _|refine blk_drew ?_|refine blk_alloc ?_ _));refine blk_put (cs:=#[.int .i64 0,.slice none 0 0,.slice none 0 0]) ?_ 1 _ rfl;(with_reducible repeat (first|refine blk_drewN ?_ _|refine blk_drew ?_|refine blk_alloc ?_ _));refine blk_put (cs:=#[.int .i64 0,.slice none 0 0,.slice none 0 0]) ?_ 0 _ rfl;(with_reducible repeat (first|refine blk_drewN ?_ _|refine blk_drew ?_|refine blk_alloc ?_ _));exact BK185.out) Try.underlying29 rfl (by kernel_rfl)) rfl ?_
    exact ⟨_,_,by first|rfl|(simp [errW_none,errW_some] <;> rfl)|(simp [*,errW_none,errW_some] <;> rfl),by first|exact Kd.R_nil _ _ _ _ _|exact Kd.N_nil _ _ _ _ _|exact Kd.V_nil _ _ _ _ _|exact Kd.Q_nil _ _ _ _ _|exact Kd.S_nil _ _ _ _ _,by first|exact Kd.R_nil _ _ _ _ _|exact Kd.N_nil _ _ _ _ _|exact Kd.V_nil _ _ _ _ _|exact Kd.Q_nil _ _ _ _ _|exact Kd.S_nil _ _ _ _ _,by repeat (first|(with_reducible first|exact HB.out|apply below_alloc|apply pw_below_drewN|apply below_drew1|refine below_set ?_ GE183.out|refine below_set ?_ GE184.out|refine below_set ?_ GE185.out)|exact HB.out)⟩
   ·replace c31:=Bool.eq_false_iff.mpr c31
    subst c31
    rw [if_neg (show ¬ (false = true) by decide)] at H
    obtain ⟨t188,A35,H⟩:=bd H
    obtain ⟨⟨t191,t194⟩,A36,H⟩:=bd H
    try dsimp only at H
    obtain ⟨t197,A37,H⟩:=bd H
    by_cases c38 : t197.length + t194.length < 17592186044416
    ·rw [if_pos c38] at H
     have LMc38:=Aside0.mk c38
     clear c38
     obtain ⟨y200,hy200⟩ : ∃ y_ : List Int,y_ = (t197 ++ t194):=⟨_,rfl⟩
     replace H : ((spec_plIf.f kj2 a0_0 t191 y200).bind fun bt203=>(some (bt203.1,bt203.2.1,bt203.2.2.1,bt203.2.2.2))) = some (r1,r2,r3,r4):=by first|(rw [hy200];with_reducible exact H)|(have H2_:=(Option.bind_some _ _).symm.trans H;rw [hy200];with_reducible exact H2_)|(have H2_:=(Option.bind_some _ _).symm.trans H;with_reducible exact H2_)|with_reducible exact H|(rw [hy200];exact H)|exact H
     have Ny200:=Aside0.mk hy200
     clear hy200
     obtain ⟨⟨t203,t204,t207,t210⟩,A39,H⟩:=bd H
     try dsimp only at H
     simp only [Option.some.injEq,Prod.mk.injEq] at H
     obtain ⟨rfl,rfl,rfl,rfl⟩:=H
     try go_wp2
     have n0_:=Aside0.mk (blk_drew BK183.out)
     have n1_:=Aside0.mk (blk_drew BK184.out)
     have n2_:=Aside0.mk (blk_drew BK185.out)
     have n3_:=Aside0.mk (below_drew1 HB.out)
     clear BK183
     clear BK184
     clear BK185
     clear HB
     have BK183:=n0_
     have BK184:=n1_
     have BK185:=n2_
     have HB:=n3_
     clear n0_ n1_ n2_ n3_
     refine start_ (n:=14) (S:=fun w'=>w'.cell? ⟨gb183,0,none⟩ = some (.int .i64 a0_0) ∧ w'.cell? ⟨gb183,1,none⟩ = some (.slice A0_1 l0_1.length c0_1) ∧ w'.cell? ⟨gb183,2,none⟩ = some (.slice A0_2 l0_2.length c0_2) ∧ w'.cell? ⟨gb184,0,none⟩ = some (.int .i64 a1_0) ∧ w'.cell? ⟨gb184,1,none⟩ = some (.slice A1_1 l1_1.length c1_1) ∧ w'.cell? ⟨gb184,2,none⟩ = some (.slice A1_2 l1_2.length c1_2)) (ds:=[]) #[false,false,false,false,false,false,false,false,false,false,false,false,false,false] (by kernel_rfl) rfl rfl ⟨(blk_cell BK183.out 0).trans rfl,(blk_cell BK183.out 1).trans rfl,(blk_cell BK183.out 2).trans rfl,(blk_cell BK184.out 0).trans rfl,(blk_cell BK184.out 1).trans rfl,(blk_cell BK184.out 2).trans rfl⟩ (fun hHeld=>?_);refine with_tabW spec_JoinPlans.tab3 spec_JoinPlans.bits3 (fun HT_ HW_=>?_)
     generalize wc.drew = w40 at BK183 BK184 BK185 HB hHeld ⊢
     refine pure_ (i:=0) (N:=some 25) (v:=?_) (a':=?_) #[true,false,false,false,false,false,false,false,false,false,false,false,false,false] rfl rfl (any_of HT_.out (by kernel_rfl)) (fun _ _ _ h=>h) (Or.inl ⟨by rfl,?_⟩) ?_ ?_
     rotate_left
     ·intro w'
      go_simp
      with_reducible rfl
     rotate_left
     ·simp only [Act.put,xa,xb,xc,i64_w,i32_w]
      rfl
     refine pure_ (i:=2) (N:=some 27) (v:=?_) (a':=?_) #[true,false,true,false,false,false,false,false,false,false,false,false,false,false] rfl rfl (any_of HT_.out (by kernel_rfl)) (fun _ _ _ h=>h) (Or.inl ⟨by rfl,?_⟩) ?_ ?_
     rotate_left
     ·intro w'
      go_simp
      with_reducible rfl
     rotate_left
     ·simp only [Act.put,xa,xb,xc,i64_w,i32_w]
      rfl
     refine pure_ (i:=5) (N:=some 30) (v:=?_) (a':=?_) #[true,false,true,false,false,true,false,false,false,false,false,false,false,false] rfl rfl (any_of HT_.out (by kernel_rfl)) (fun _ _ _ h=>h) (Or.inl ⟨by rfl,?_⟩) ?_ ?_
     rotate_left
     ·intro w'
      go_simp
      with_reducible rfl
     rotate_left
     ·simp only [Act.put,xa,xb,xc,i64_w,i32_w]
      rfl
     refine take_ (i:=1) (N:=some 26) (v:=?_) (a':=?_) #[true,true,true,false,false,true,false,false,false,false,false,false,false,false] rfl rfl (take_ofW HT_.out HW_.out (by kernel_rfl)) (fun _ _ _ h=>h) (Or.inl ⟨by rfl,?_⟩) hHeld ?_ ?_
     rotate_left
     ·rintro w' ⟨s0,s1,s2,s3,s4,s5⟩
      go_simp
      with_reducible rfl
     rotate_left
     ·simp only [Act.put,xa,xb,xc,i64_w,i32_w]
      rfl
     refine take_ (i:=3) (N:=some 28) (v:=?_) (a':=?_) #[true,true,true,true,false,true,false,false,false,false,false,false,false,false] rfl rfl (take_ofW HT_.out HW_.out (by kernel_rfl)) (fun _ _ _ h=>h) (Or.inl ⟨by rfl,?_⟩) hHeld ?_ ?_
     rotate_left
     ·rintro w' ⟨s0,s1,s2,s3,s4,s5⟩
      go_simp
      with_reducible rfl
     rotate_left
     ·simp only [Act.put,xa,xb,xc,i64_w,i32_w]
      rfl
     refine take_ (i:=4) (N:=some 29) (v:=?_) (a':=?_) #[true,true,true,true,true,true,false,false,false,false,false,false,false,false] rfl rfl (take_ofW HT_.out HW_.out (by kernel_rfl)) (fun _ _ _ h=>h) (Or.inl ⟨by rfl,?_⟩) hHeld ?_ ?_
     rotate_left
     ·rintro w' ⟨s0,s1,s2,s3,s4,s5⟩
      go_simp
      with_reducible rfl
     rotate_left
     ·simp only [Act.put,xa,xb,xc,i64_w,i32_w]
      rfl
     refine take_ (i:=6) (N:=some 31) (v:=?_) (a':=?_) #[true,true,true,true,true,true,true,false,false,false,false,false,false,false] rfl rfl (take_ofW HT_.out HW_.out (by kernel_rfl)) (fun _ _ _ h=>h) (Or.inl ⟨by rfl,?_⟩) hHeld ?_ ?_
     rotate_left
     ·rintro w' ⟨s0,s1,s2,s3,s4,s5⟩
      go_simp
      with_reducible rfl
     rotate_left
     ·simp only [Act.put,xa,xb,xc,i64_w,i32_w]
      rfl
     refine one_ (i:=7) (N:=some 32) #[true,true,true,true,true,true,true,true,false,false,false,false,false,false] rfl rfl (one_of HT_.out (by kernel_rfl)) (by decide) (fun K hK=>?_)
     refine goes_ Try.func40 (by kernel_rfl) rfl #[.int .i64 a0_0] (by rfl) rfl rfl mz ?_
     with_reducible refine (spec_plUpTo.calls kj2 a0_0 t188 _ A35.out).mono ?_
     rintro e w41 ⟨v189,rfl,ho0,hb⟩
     refine ⟨_,rfl,?_⟩
     have n0_:=Aside0.mk (Kd.R_lower ho0 (below_size bs))
     have n1_:=Aside0.mk (kb BK183.out hb)
     have n2_:=Aside0.mk (kb BK184.out hb)
     have n3_:=Aside0.mk (kb BK185.out hb)
     have n4_:=Aside0.mk (below_step bs hb)
     clear BK183
     clear BK184
     clear BK185
     clear HB
     have HO190:=n0_
     have BK183:=n1_
     have BK184:=n2_
     have BK185:=n3_
     have HB:=n4_
     clear n0_ n1_ n2_ n3_ n4_
     (try clear hb)
     (try clear ho0)
     obtain ⟨Ao42,co42,eo42⟩:=Kd.R_slice HO190.out
     (first|subst eo42|(injection eo42 with f1_ f2_ f3_;have f4_:=f1_.symm;have f5_:=f3_.symm;clear f1_ f2_ f3_;subst f4_;subst f5_))
     refine hK.out _ _ ⟨(blk_cell BK183.out 0).trans rfl,(blk_cell BK183.out 1).trans rfl,(blk_cell BK183.out 2).trans rfl,(blk_cell BK184.out 0).trans rfl,(blk_cell BK184.out 1).trans rfl,(blk_cell BK184.out 2).trans rfl⟩ (fun hHeld=>?_)
     clear hK K
     refine norm_ (a':=?_) ?_ ?_
     rotate_left
     ·show Act.put _ (some 32) _ = _
      simp only [Act.put,xa,xb,xc,i64_w,i32_w]
      rfl
     refine one_ (i:=8) (N:=some 33) #[true,true,true,true,true,true,true,true,true,false,false,false,false,false] rfl rfl (one_of HT_.out (by kernel_rfl)) (by decide) (fun K hK=>?_)
     refine goes_ Try.func39 (by kernel_rfl) rfl #[.slice A0_1 l0_1.length c0_1,.int .i64 a0_0,.agg #[.int .i64 a1_0,.slice A1_1 l1_1.length c1_1,.slice A1_2 l1_2.length c1_2],.slice Ao42 t188.length co42] (by rfl) rfl rfl mz ?_
     with_reducible refine (spec_plThen.calls kj2 _ _ l0_1 a0_0 a1_0 _ _ l1_1 _ _ l1_2 _ _ t188 t191 t194 _ ?side1 ?side2 ?side3 ?side4 ?side5 ?side6 ?side7 ?side8 A36.out).mono ?_
     (case side1=>exact cz (Kd.C_below HR0_1.out HB.out))
     (case side2=>exact HC0_1.out)
     (case side3=>exact cz (Kd.C_below HR1_1.out HB.out))
     (case side4=>exact HC1_1.out)
     (case side5=>exact cz (Kd.C_below HR1_2.out HB.out))
     (case side6=>exact HC1_2.out)
     (case side7=>exact cz (Kd.R_reads' HO190.out).2.2)
     (case side8=>exact (Kd.R_reads' HO190.out).2.1)
     rintro e w43 ⟨v192,v195,rfl,ho0,ho1,hb⟩
     refine ⟨_,rfl,?_⟩
     have n0_:=Aside0.mk (Kd.R_elder' (rz HO190.out) (Kd.R_base ho1) hb)
     have n1_:=Aside0.mk (Kd.R_lower ho0 (below_size bs))
     have n2_:=Aside0.mk (Kd.R_lower (Kd.R_new' ho1 (Kd.R_lt (rz HO190.out))) (below_size bs))
     have n3_:=Aside0.mk (kb BK183.out hb)
     have n4_:=Aside0.mk (kb BK184.out hb)
     have n5_:=Aside0.mk (kb BK185.out hb)
     have n6_:=Aside0.mk (below_step bs hb)
     clear HO190
     clear BK183
     clear BK184
     clear BK185
     clear HB
     have HO190:=n0_
     have HO193:=n1_
     have HO196:=n2_
     have BK183:=n3_
     have BK184:=n4_
     have BK185:=n5_
     have HB:=n6_
     clear n0_ n1_ n2_ n3_ n4_ n5_ n6_
     (try clear hb)
     (try clear ho0)
     (try clear ho1)
     refine hK.out _ _ ⟨(blk_cell BK183.out 0).trans rfl,(blk_cell BK183.out 1).trans rfl,(blk_cell BK183.out 2).trans rfl,(blk_cell BK184.out 0).trans rfl,(blk_cell BK184.out 1).trans rfl,(blk_cell BK184.out 2).trans rfl⟩ (fun hHeld=>?_)
     clear hK K
     refine norm_ (a':=?_) ?_ ?_
     rotate_left
     ·show Act.put _ (some 33) _ = _
      simp only [Act.put,xa,xb,xc,i64_w,i32_w]
      rfl
     refine pure_ (i:=9) (N:=some 24) (v:=?_) (a':=?_) #[true,true,true,true,true,true,true,true,true,true,false,false,false,false] rfl rfl (any_of HT_.out (by kernel_rfl)) (fun _ _ _ h=>h) (Or.inl ⟨by rfl,?_⟩) ?_ ?_
     rotate_left
     ·intro w'
      go_simp
      with_reducible rfl
     rotate_left
     ·simp only [Act.put,xa,xb,xc,i64_w,i32_w]
      rfl
     refine pure_ (i:=10) (N:=some 34) (v:=?_) (a':=?_) #[true,true,true,true,true,true,true,true,true,true,true,false,false,false] rfl rfl (any_of HT_.out (by kernel_rfl)) (fun _ _ _ h=>h) (Or.inl ⟨by rfl,?_⟩) ?_ ?_
     rotate_left
     ·intro w'
      go_simp
      with_reducible rfl
     rotate_left
     ·simp only [Act.put,xa,xb,xc,i64_w,i32_w]
      rfl
     refine pure_ (i:=11) (N:=some 35) (v:=?_) (a':=?_) #[true,true,true,true,true,true,true,true,true,true,true,true,false,false] rfl rfl (any_of HT_.out (by kernel_rfl)) (fun _ _ _ h=>h) (Or.inl ⟨by rfl,?_⟩) ?_ ?_
     rotate_left
     ·intro w'
      go_simp
      with_reducible rfl
     rotate_left
     ·simp only [Act.put,xa,xb,xc,i64_w,i32_w]
      rfl
     refine pure_ (i:=12) (N:=some 6) (v:=?_) (a':=?_) #[true,true,true,true,true,true,true,true,true,true,true,true,true,false] rfl rfl (any_of HT_.out (by kernel_rfl)) (fun _ _ _ h=>h) (Or.inl ⟨by rfl,?_⟩) ?_ ?_
     rotate_left
     ·intro w'
      go_simp
      with_reducible rfl
     rotate_left
     ·simp only [Act.put,xa,xb,xc,i64_w,i32_w]
      rfl
     refine pure_ (i:=13) (N:=some 7) (v:=?_) (a':=?_) #[true,true,true,true,true,true,true,true,true,true,true,true,true,true] rfl rfl (any_of HT_.out (by kernel_rfl)) (fun _ _ _ h=>h) (Or.inl ⟨by rfl,?_⟩) ?_ ?_
     rotate_left
     ·intro w'
      go_simp
      with_reducible rfl
     rotate_left
     ·simp only [Act.put,xa,xb,xc,i64_w,i32_w]
      rfl
     refine done_ (done_of HT_.out (by kernel_rfl)) ?_
     try go_wp2
     have n0_:=Aside0.mk (Kd.R_drew HO190.out)
     have n1_:=Aside0.mk (Kd.R_drew HO193.out)
     have n2_:=Aside0.mk (Kd.R_drew HO196.out)
     have n3_:=Aside0.mk (blk_drew BK183.out)
     have n4_:=Aside0.mk (blk_drew BK184.out)
     have n5_:=Aside0.mk (blk_drew BK185.out)
     have n6_:=Aside0.mk (below_drew1 HB.out)
     clear HO190
     clear HO193
     clear HO196
     clear BK183
     clear BK184
     clear BK185
     clear HB
     have HO190:=n0_
     have HO193:=n1_
     have HO196:=n2_
     have BK183:=n3_
     have BK184:=n4_
     have BK185:=n5_
     have HB:=n6_
     clear n0_ n1_ n2_ n3_ n4_ n5_ n6_
     refine start_ (n:=14) (S:=fun w'=>w'.cell? ⟨gb183,0,none⟩ = some (.int .i64 a0_0) ∧ w'.cell? ⟨gb183,1,none⟩ = some (.slice A0_1 l0_1.length c0_1) ∧ w'.cell? ⟨gb183,2,none⟩ = some (.slice A0_2 l0_2.length c0_2)) (ds:=[]) #[false,false,false,false,false,false,false,false,false,false,false,false,false,false] (by kernel_rfl) rfl rfl ⟨(blk_cell BK183.out 0).trans rfl,(blk_cell BK183.out 1).trans rfl,(blk_cell BK183.out 2).trans rfl⟩ (fun hHeld=>?_);refine with_tabW spec_JoinPlans.tab4 spec_JoinPlans.bits4 (fun HT_ HW_=>?_)
     generalize w43.drew = w44 at HO190 HO193 HO196 BK183 BK184 BK185 HB hHeld ⊢
     refine pure_ (i:=0) (N:=some 36) (v:=?_) (a':=?_) #[true,false,false,false,false,false,false,false,false,false,false,false,false,false] rfl rfl (any_of HT_.out (by kernel_rfl)) (fun _ _ _ h=>h) (Or.inl ⟨by rfl,?_⟩) ?_ ?_
     rotate_left
     ·intro w'
      go_simp
      with_reducible rfl
     rotate_left
     ·simp only [Act.put,xa,xb,xc,i64_w,i32_w]
      rfl
     refine pure_ (i:=2) (N:=some 38) (v:=?_) (a':=?_) #[true,false,true,false,false,false,false,false,false,false,false,false,false,false] rfl rfl (any_of HT_.out (by kernel_rfl)) (fun _ _ _ h=>h) (Or.inl ⟨by rfl,?_⟩) ?_ ?_
     rotate_left
     ·intro w'
      go_simp
      with_reducible rfl
     rotate_left
     ·simp only [Act.put,xa,xb,xc,i64_w,i32_w]
      rfl
     refine pure_ (i:=3) (N:=some 39) (v:=?_) (a':=?_) #[true,false,true,true,false,false,false,false,false,false,false,false,false,false] rfl rfl (any_of HT_.out (by kernel_rfl)) (fun _ _ _ h=>h) (Or.inl ⟨by rfl,?_⟩) ?_ ?_
     rotate_left
     ·intro w'
      go_simp
      with_reducible rfl
     rotate_left
     ·simp only [Act.put,xa,xb,xc,i64_w,i32_w]
      rfl
     refine pure_ (i:=6) (N:=some 42) (v:=?_) (a':=?_) #[true,false,true,true,false,false,true,false,false,false,false,false,false,false] rfl rfl (any_of HT_.out (by kernel_rfl)) (fun _ _ _ h=>h) (Or.inl ⟨by rfl,?_⟩) ?_ ?_
     rotate_left
     ·intro w'
      go_simp
      with_reducible rfl
     rotate_left
     ·simp only [Act.put,xa,xb,xc,i64_w,i32_w]
      rfl
     refine take_ (i:=1) (N:=some 37) (v:=?_) (a':=?_) #[true,true,true,true,false,false,true,false,false,false,false,false,false,false] rfl rfl (take_ofW HT_.out HW_.out (by kernel_rfl)) (fun _ _ _ h=>h) (Or.inl ⟨by rfl,?_⟩) hHeld ?_ ?_
     rotate_left
     ·rintro w' ⟨s0,s1,s2⟩
      go_simp
      with_reducible rfl
     rotate_left
     ·simp only [Act.put,xa,xb,xc,i64_w,i32_w]
      rfl
     refine take_ (i:=4) (N:=some 40) (v:=?_) (a':=?_) #[true,true,true,true,true,false,true,false,false,false,false,false,false,false] rfl rfl (take_ofW HT_.out HW_.out (by kernel_rfl)) (fun _ _ _ h=>h) (Or.inl ⟨by rfl,?_⟩) hHeld ?_ ?_
     rotate_left
     ·rintro w' ⟨s0,s1,s2⟩
      go_simp
      with_reducible rfl
     rotate_left
     ·simp only [Act.put,xa,xb,xc,i64_w,i32_w]
      rfl
     refine one_ (i:=5) (N:=some 41) #[true,true,true,true,true,true,true,false,false,false,false,false,false,false] rfl rfl (one_of HT_.out (by kernel_rfl)) (by decide) (fun K hK=>?_)
     refine goes_ Try.func42 (by kernel_rfl) rfl #[.slice A0_2 l0_2.length c0_2] (by rfl) rfl rfl mz ?_
     with_reducible refine (spec_l1Own.calls _ _ l0_2 t197 _ ?side1 ?side2 A37.out).mono ?_
     (case side1=>exact cz (Kd.C_below HR0_2.out HB.out))
     (case side2=>exact HC0_2.out)
     rintro e w45 ⟨v198,rfl,ho0,hb⟩
     refine ⟨_,rfl,?_⟩
     have n0_:=Aside0.mk (Kd.R_elder' (rz HO190.out) (Kd.R_base ho0) hb)
     have n1_:=Aside0.mk (Kd.R_below (rz HO193.out) hb)
     have n2_:=Aside0.mk (Kd.R_elder' (rz HO196.out) (Kd.R_base ho0) hb)
     have n3_:=Aside0.mk (Kd.R_lower (Kd.R_new' (Kd.R_new' ho0 (Kd.R_lt (rz HO190.out))) (Kd.R_lt (rz HO196.out))) (below_size bs))
     have n4_:=Aside0.mk (kb BK183.out hb)
     have n5_:=Aside0.mk (kb BK184.out hb)
     have n6_:=Aside0.mk (kb BK185.out hb)
     have n7_:=Aside0.mk (below_step bs hb)
     clear HO190
     clear HO193
     clear HO196
     clear BK183
     clear BK184
     clear BK185
     clear HB
     have HO190:=n0_
     have HO193:=n1_
     have HO196:=n2_
     have HO199:=n3_
     have BK183:=n4_
     have BK184:=n5_
     have BK185:=n6_
     have HB:=n7_
     clear n0_ n1_ n2_ n3_ n4_ n5_ n6_ n7_
     (try clear hb)
     (try clear ho0)
     obtain ⟨Ao47,co47,eo47⟩:=Kd.R_slice HO196.out
     (first|subst eo47|(injection eo47 with f1_ f2_ f3_;have f4_:=f1_.symm;have f5_:=f3_.symm;clear f1_ f2_ f3_;subst f4_;subst f5_))
     refine hK.out _ _ ⟨(blk_cell BK183.out 0).trans rfl,(blk_cell BK183.out 1).trans rfl,(blk_cell BK183.out 2).trans rfl⟩ (fun hHeld=>?_)
     clear hK K
     refine norm_ (a':=?_) ?_ ?_
     rotate_left
     ·show Act.put _ (some 41) _ = _
      simp only [Act.put,xa,xb,xc,i64_w,i32_w]
      rfl
     refine one_ (i:=7) (N:=some 43) #[true,true,true,true,true,true,true,true,false,false,false,false,false,false] rfl rfl (one_of HT_.out (by kernel_rfl)) (by decide) (fun K hK=>?_)
     refine Kd.R_append_rows_step (Kd.int .i64) (w0:=w) w.heap.size (by rfl) (.tmp 41) (.tmp 42) 23 3 (.int .i64 0) 8 rfl Try.underlying23 info3 rfl (by decide) (by omega) v198 t197 t194 _ _ _ (fun k_=>some k_ ≠ (.slice Ao42 t188.length co42 : Value).ownBlock ∧ some k_ ≠ (.slice Ao47 t194.length co47 : Value).ownBlock) (fun _=>False) rfl rfl ?aO ?aR (fun _ _ h=>h) (fun _ h=>h.elim) ?aF ?aB ?aS ?aL ?_
     (case aR=>repeat (first|exact (Kd.R_reads' HO196.out).2.2|(with_reducible refine Kd.C_alloc ?_ _)|(with_reducible refine Kd.C_drewN ?_ _)|(with_reducible refine Kd.C_drew ?_)))
     (case aB=>exact bs)
     (case aF=>exact (fun k_ hk=>⟨Kd.fresh' (Kd.R_lt (rz HO190.out)) k_ hk,Kd.fresh' (Kd.R_lt (rz HO196.out)) k_ hk⟩))
     (case aO=>exact (by (with_reducible repeat (first|apply Kd.R_alloc|apply Kd.R_drewN|apply Kd.R_drew));exact Kd.R_mono HO199.out (fun _ hk=>⟨hk.1.2,hk.2⟩)))
     (case aS=>exact (below_size bs))
     (case aL=>have:=LMc38.out;omega)
     intro v201 w46 ho hb hg hat
     rw [← Ny200.out] at ho
     have n0_:=Aside0.mk (blk_grown (g:=gb183) (o:=.cells #[.int .i64 a0_0,.slice A0_1 l0_1.length c0_1,.slice A0_2 l0_2.length c0_2] 29 (0,0)) (kz BK183.out) hg (Kd.R_ne HO199.out BK183.out (by decide)))
     have n1_:=Aside0.mk (blk_grown (g:=gb184) (o:=.cells #[.int .i64 a1_0,.slice A1_1 l1_1.length c1_1,.slice A1_2 l1_2.length c1_2] 29 (0,0)) (kz BK184.out) hg (Kd.R_ne HO199.out BK184.out (by decide)))
     have n2_:=Aside0.mk (blk_grown (g:=gb185) (o:=.cells #[.int .i64 0,.slice none 0 0,.slice none 0 0] 29 (0,0)) (kz BK185.out) hg (Kd.R_ne HO199.out BK185.out (by decide)))
     have n3_:=Aside0.mk (Kd.R_after (ok:=(fun k_=>some k_ ≠ (.slice Ao47 t194.length co47 : Value).ownBlock)) (by (with_reducible repeat (first|apply Kd.R_alloc|apply Kd.R_drewN|apply Kd.R_drew));exact Kd.R_mono HO190.out (fun _ hk=>⟨hk.1.2,hk.2⟩)) hg hat)
     have n4_:=Aside0.mk (Kd.R_over' (rz HO193.out) (Kd.R_typed (rz HO199.out)) (by decide) hg)
     have n5_:=Aside0.mk (Kd.R_after (ok:=(fun k_=>some k_ ≠ (.slice Ao42 t188.length co42 : Value).ownBlock)) (by (with_reducible repeat (first|apply Kd.R_alloc|apply Kd.R_drewN|apply Kd.R_drew));exact Kd.R_mono HO196.out (fun _ hk=>⟨hk.1.2,hk.2⟩)) hg hat)
     have n6_:=Aside0.mk (hb)
     have n7_:=Aside0.mk (ho)
     clear BK183
     clear BK184
     clear BK185
     clear HO190
     clear HO193
     clear HO196
     clear HB
     clear HO199
     have BK183:=n0_
     have BK184:=n1_
     have BK185:=n2_
     have HO190:=n3_
     have HO193:=n4_
     have HO196:=n5_
     have HB:=n6_
     have HO202:=n7_
     clear n0_ n1_ n2_ n3_ n4_ n5_ n6_ n7_
     clear ho hb hg hat
     obtain ⟨Ao48,co48,eo48⟩:=Kd.R_slice HO202.out
     (first|subst eo48|(injection eo48 with f1_ f2_ f3_;have f4_:=f1_.symm;have f5_:=f3_.symm;clear f1_ f2_ f3_;subst f4_;subst f5_))
     obtain ⟨Ao49,co49,eo49⟩:=Kd.R_slice HO193.out
     (first|subst eo49|(injection eo49 with f1_ f2_ f3_;have f4_:=f1_.symm;have f5_:=f3_.symm;clear f1_ f2_ f3_;subst f4_;subst f5_))
     refine hK.out _ _ ⟨(blk_cell BK183.out 0).trans rfl,(blk_cell BK183.out 1).trans rfl,(blk_cell BK183.out 2).trans rfl⟩ (fun hHeld=>?_)
     clear hK K
     refine norm_ (a':=?_) ?_ ?_
     rotate_left
     ·show Act.put _ (some 43) _ = _
      simp only [Act.put,xa,xb,xc,i64_w,i32_w]
      rfl
     refine pure_ (i:=8) (N:=some 44) (v:=?_) (a':=?_) #[true,true,true,true,true,true,true,true,true,false,false,false,false,false] rfl rfl (any_of HT_.out (by kernel_rfl)) (fun _ _ _ h=>h) (Or.inl ⟨by rfl,?_⟩) ?_ ?_
     rotate_left
     ·intro w'
      go_simp
      with_reducible rfl
     rotate_left
     ·simp only [Act.put,xa,xb,xc,i64_w,i32_w]
      rfl
     refine one_ (i:=9) (N:=some 45) #[true,true,true,true,true,true,true,true,true,true,false,false,false,false] rfl rfl (one_of HT_.out (by kernel_rfl)) (by decide) (fun K hK=>?_)
     refine goes_ Try.func41 (by kernel_rfl) rfl #[.agg #[.int .i64 a0_0,.slice Ao49 t191.length co49,.slice Ao48 y200.length co48]] (by rfl) rfl rfl mz ?_
     with_reducible refine (spec_plIf.calls kj2 a0_0 (fun k_=>some k_ = (.slice Ao49 t191.length co49 : Value).ownBlock) (.slice Ao49 t191.length co49) t191 (fun k_=>some k_ = (.slice Ao48 y200.length co48 : Value).ownBlock) (.slice Ao48 y200.length co48) y200 t203 t204 t207 t210 w _ ?side1 ?side2 ?side3 A39.out).mono ?_
     (case side1=>repeat (first|(with_reducible first|exact HB.out|apply below_alloc|apply pw_below_drewN|apply below_drew1|refine below_set ?_ GE183.out|refine below_set ?_ GE184.out|refine below_set ?_ GE185.out)|exact HB.out))
     (case side2=>exact Kd.R_tight rfl HO193.out)
     (case side3=>exact Kd.R_tight rfl HO202.out)
     rintro e w50 ⟨v205,v208,rfl,ho0,ho1,hb,hkp⟩
     refine ⟨_,rfl,?_⟩
     have n0_:=Aside0.mk (blk_kept (kz BK183.out) hkp (fun hs_=>Or.elim hs_ (fun e_=>(fun e_=>(Kd.R_ne HO193.out BK183.out (by decide)) e_) e_) (fun e_=>(fun e_=>(Kd.R_ne HO202.out BK183.out (by decide)) e_) e_)))
     have n1_:=Aside0.mk (blk_kept (kz BK184.out) hkp (fun hs_=>Or.elim hs_ (fun e_=>(fun e_=>(Kd.R_ne HO193.out BK184.out (by decide)) e_) e_) (fun e_=>(fun e_=>(Kd.R_ne HO202.out BK184.out (by decide)) e_) e_)))
     have n2_:=Aside0.mk (blk_kept (kz BK185.out) hkp (fun hs_=>Or.elim hs_ (fun e_=>(fun e_=>(Kd.R_ne HO193.out BK185.out (by decide)) e_) e_) (fun e_=>(fun e_=>(Kd.R_ne HO202.out BK185.out (by decide)) e_) e_)))
     have n3_:=Aside0.mk (Kd.R_mono (ok':=fun k_=>some k_ ≠ (.slice Ao47 t194.length co47 : Value).ownBlock ∧ some k_ ≠ (v208 : Value).ownBlock) (Kd.R_keptB ((Kd.R_apart' HO190.out (Kd.R_typed HO193.out) (by decide))) hkp (fun k_ hk_ hs_=>Or.elim hs_ (fun e_=>(hk_.2) e_) (fun e_=>(hk_.1.2) e_))) (fun k_ hk_=>⟨hk_.1.1.1,fun e_=>Or.elim (ho1.1 k_ e_.symm) (fun hs_=>hk_.2.1 hs_) (fun hn_=>Nat.not_le.2 hk_.2.2 hn_)⟩))
     have n4_:=Aside0.mk (Kd.R_mono (ok':=fun k_=>some k_ ≠ (.slice Ao42 t188.length co42 : Value).ownBlock ∧ some k_ ≠ (v208 : Value).ownBlock) (Kd.R_keptB ((Kd.R_apart' HO196.out (Kd.R_typed HO193.out) (by decide))) hkp (fun k_ hk_ hs_=>Or.elim hs_ (fun e_=>(hk_.2) e_) (fun e_=>(hk_.1.2) e_))) (fun k_ hk_=>⟨hk_.1.1.1,fun e_=>Or.elim (ho1.1 k_ e_.symm) (fun hs_=>hk_.2.1 hs_) (fun hn_=>Nat.not_le.2 hk_.2.2 hn_)⟩))
     have n5_:=Aside0.mk (Kd.R_mono (ok':=fun k_=>True) ho0 (fun k_ hk_=>trivial))
     have n6_:=Aside0.mk (Kd.R_mono (ok':=fun k_=>some k_ ≠ (.slice Ao42 t188.length co42 : Value).ownBlock ∧ some k_ ≠ (.slice Ao47 t194.length co47 : Value).ownBlock) ho1 (fun k_ hk_=>⟨Or.elim hk_ (fun hs_=>Or.elim hs_ (fun hs_=>fun e_=>((((Kd.R_apart' HO190.out (Kd.R_typed HO193.out) (by decide))).1 k_ e_.symm).2) hs_) (fun hs_=>fun e_=>((((Kd.R_apart' HO190.out (Kd.R_typed HO193.out) (by decide))).1 k_ e_.symm).1.2) hs_)) (fun hn_=>(Kd.fresh' (Kd.R_lt (rz HO190.out)) k_ hn_)),Or.elim hk_ (fun hs_=>Or.elim hs_ (fun hs_=>fun e_=>((((Kd.R_apart' HO196.out (Kd.R_typed HO193.out) (by decide))).1 k_ e_.symm).2) hs_) (fun hs_=>fun e_=>((((Kd.R_apart' HO196.out (Kd.R_typed HO193.out) (by decide))).1 k_ e_.symm).1.2) hs_)) (fun hn_=>(Kd.fresh' (Kd.R_lt (rz HO196.out)) k_ hn_))⟩))
     have n7_:=Aside0.mk (hb)
     clear BK183
     clear BK184
     clear BK185
     clear HO190
     clear HO196
     clear HB
     clear HO193
     clear HO202
     have BK183:=n0_
     have BK184:=n1_
     have BK185:=n2_
     have HO190:=n3_
     have HO196:=n4_
     have HO206:=n5_
     have HO209:=n6_
     have HB:=n7_
     clear n0_ n1_ n2_ n3_ n4_ n5_ n6_ n7_
     (try clear hb)
     (try clear hkp)
     (try clear ho0)
     (try clear ho1)
     obtain ⟨Ao52,co52,eo52⟩:=Kd.R_slice HO206.out
     (first|subst eo52|(injection eo52 with f1_ f2_ f3_;have f4_:=f1_.symm;have f5_:=f3_.symm;clear f1_ f2_ f3_;subst f4_;subst f5_))
     obtain ⟨Ao54,co54,eo54⟩:=Kd.R_slice HO209.out
     (first|subst eo54|(injection eo54 with f1_ f2_ f3_;have f4_:=f1_.symm;have f5_:=f3_.symm;clear f1_ f2_ f3_;subst f4_;subst f5_))
     refine hK.out _ _ ⟨(blk_cell BK183.out 0).trans rfl,(blk_cell BK183.out 1).trans rfl,(blk_cell BK183.out 2).trans rfl⟩ (fun hHeld=>?_)
     clear hK K
     refine norm_ (a':=?_) ?_ ?_
     rotate_left
     ·show Act.put _ (some 45) _ = _
      simp only [Act.put,xa,xb,xc,i64_w,i32_w]
      rfl
     refine pure_ (i:=10) (N:=some 46) (v:=?_) (a':=?_) #[true,true,true,true,true,true,true,true,true,true,true,false,false,false] rfl rfl (any_of HT_.out (by kernel_rfl)) (fun _ _ _ h=>h) (Or.inl ⟨by rfl,?_⟩) ?_ ?_
     rotate_left
     ·intro w'
      go_simp
      with_reducible rfl
     rotate_left
     ·simp only [Act.put,xa,xb,xc,i64_w,i32_w]
      rfl
     refine pure_ (i:=11) (N:=some 47) (v:=?_) (a':=?_) #[true,true,true,true,true,true,true,true,true,true,true,true,false,false] rfl rfl (any_of HT_.out (by kernel_rfl)) (fun _ _ _ h=>h) (Or.inl ⟨by rfl,?_⟩) ?_ ?_
     rotate_left
     ·intro w'
      go_simp
      with_reducible rfl
     rotate_left
     ·simp only [Act.put,xa,xb,xc,i64_w,i32_w]
      rfl
     refine one_ (i:=12) (N:=none) #[true,true,true,true,true,true,true,true,true,true,true,true,true,false] rfl rfl (one_of HT_.out (by kernel_rfl)) (by decide) (fun K hK=>?_)
     have hs51 : w50.cell? ⟨gb185,0,none⟩ = some (.int .i64 0):=(blk_cell BK185.out 0).trans rfl
     have hfs51:=blk_frozen BK185.out 0
     have hns51_0:=NB183_185.out
     have hns51_1:=NB184_185.out
     have hms51_0:=NB185_183.out
     have hms51_1:=NB185_184.out
     have hs53 : w50.cell? ⟨gb185,1,none⟩ = some (.slice none 0 0):=(blk_cell BK185.out 1).trans rfl
     have hfs53:=blk_frozen BK185.out 1
     have hns53_0:=NB183_185.out
     have hns53_1:=NB184_185.out
     have hms53_0:=NB185_183.out
     have hms53_1:=NB185_184.out
     have hs55 : w50.cell? ⟨gb185,2,none⟩ = some (.slice none 0 0):=(blk_cell BK185.out 2).trans rfl
     have hfs55:=blk_frozen BK185.out 2
     have hns55_0:=NB183_185.out
     have hns55_1:=NB184_185.out
     have hms55_0:=NB185_183.out
     have hms55_1:=NB185_184.out
     refine skip_ (w1:=?_) (by rfl) rfl ?_ ?_
     rotate_left
     ·go_simp
      rfl
     refine hK.out _ _ ⟨((cell_far (p:=⟨gb185,_,none⟩) NB183_185.out _).trans (((cell_far (p:=⟨gb185,_,none⟩) NB183_185.out _).trans (((cell_far (p:=⟨gb185,_,none⟩) NB183_185.out _).trans (hHeld.1)))))),((cell_far (p:=⟨gb185,_,none⟩) NB183_185.out _).trans (((cell_far (p:=⟨gb185,_,none⟩) NB183_185.out _).trans (((cell_far (p:=⟨gb185,_,none⟩) NB183_185.out _).trans (hHeld.2.1)))))),((cell_far (p:=⟨gb185,_,none⟩) NB183_185.out _).trans (((cell_far (p:=⟨gb185,_,none⟩) NB183_185.out _).trans (((cell_far (p:=⟨gb185,_,none⟩) NB183_185.out _).trans (hHeld.2.2))))))⟩ (fun hHeld=>?_)
     clear hK K
     refine pure_ (i:=13) (N:=some 5) (v:=?_) (a':=?_) #[true,true,true,true,true,true,true,true,true,true,true,true,true,true] rfl rfl (any_of HT_.out (by kernel_rfl)) (fun _ _ _ h=>h) (Or.inl ⟨by rfl,?_⟩) ?_ ?_
     rotate_left
     ·intro w'
      go_simp
      with_reducible rfl
     rotate_left
     ·simp only [Act.put,xa,xb,xc,i64_w,i32_w]
      rfl
     refine done_ (done_of HT_.out (by kernel_rfl)) ?_
     try go_wp2
     refine bodyPost_ret (results_ct rfl _ _ gb185 29 #[.int .i64 t203,.slice Ao52 t204.length co52,.slice Ao54 t207.length co54] (0,0) _ rfl (by (with_reducible repeat (first|refine blk_drewN ?_ _|refine blk_drew ?_|refine blk_alloc ?_ _));refine blk_put (cs:=#[.int .i64 t203,.slice Ao52 t204.length co52,.slice none 0 0]) ?_ 2 _ rfl;(with_reducible repeat (first|refine blk_drewN ?_ _|refine blk_drew ?_|refine blk_alloc ?_ _));refine blk_put (cs:=#[.int .i64 t203,.slice none 0 0,.slice none 0 0]) ?_ 1 _ rfl;(with_reducible repeat (first|refine blk_drewN ?_ _|refine blk_drew ?_|refine blk_alloc ?_ _));refine blk_put (cs:=#[.int .i64 0,.slice none 0 0,.slice none 0 0]) ?_ 0 _ rfl;(with_reducible repeat (first|refine blk_drewN ?_ _|refine blk_drew ?_|refine blk_alloc ?_ _));exact BK185.out) Try.underlying29 rfl (by kernel_rfl)) rfl ?_
     exact ⟨_,_,by first|rfl|(simp [errW_none,errW_some] <;> rfl)|(simp [*,errW_none,errW_some] <;> rfl),by (with_reducible repeat (first|apply Kd.R_alloc|apply Kd.R_drewN|apply Kd.R_drew));exact Kd.R_mono (Kd.R_far (p:=⟨gb185,2,none⟩) (Kd.R_far (p:=⟨gb185,1,none⟩) (Kd.R_far (p:=⟨gb185,0,none⟩) (Kd.R_types HO206.out BK185.out (by decide)) (fun _ hk=>hk.2) (.int .i64 t203)) (fun _ hk=>hk.2) (.slice Ao52 t204.length co52)) (fun _ hk=>hk.2) (.slice Ao54 t207.length co54)) (fun _ hk=>trivial),by (with_reducible repeat (first|apply Kd.R_alloc|apply Kd.R_drewN|apply Kd.R_drew));exact Kd.R_mono (Kd.R_far (p:=⟨gb185,2,none⟩) (Kd.R_far (p:=⟨gb185,1,none⟩) (Kd.R_far (p:=⟨gb185,0,none⟩) (Kd.R_types HO209.out BK185.out (by decide)) (fun _ hk=>hk.2) (.int .i64 t203)) (fun _ hk=>hk.2) (.slice Ao52 t204.length co52)) (fun _ hk=>hk.2) (.slice Ao54 t207.length co54)) (fun _ hk=>trivial),by repeat (first|(with_reducible first|exact HB.out|apply below_alloc|apply pw_below_drewN|apply below_drew1|refine below_set ?_ GE183.out|refine below_set ?_ GE184.out|refine below_set ?_ GE185.out)|exact HB.out)⟩
    ·rw [if_neg c38] at H
     exact absurd H (by simp)
/-! ### laws_toIntS: function 18 -/
def laws_toIntS.l0 : Nat → List Int → List Int → Int → Option (List Int)
 | 0,_,_,_=>none
 | k + 1,x0,x3,x4=>if x4 < (x0.length : Int) then (if 0 ≤ x4 then (if x4 < (x3.length : Int) then (laws_toIntS.l0 k x0 (x3.set (x4 : Int).toNat (rd x0 x4)) (wrap64 (x4 + 1))) else (none)) else (none)) else (some x3)
def laws_toIntS.f (k : Nat) (l0 : List Int) : Option (List Int):=if 0 ≤ (l0.length : Int) then (if ((l0.length : Int) : Int).toNat ≤ 35184372088832 then (laws_toIntS.l0 k l0 (List.replicate ((l0.length : Int) : Int).toNat 0) 0) else (none)) else (none)
theorem laws_toIntS.mono_l : ∀ k,(∀ y0 y1 y2,LeO (laws_toIntS.l0 k y0 y1 y2) (laws_toIntS.l0 (k + 1) y0 y1 y2))
 | 0=>fun _ _ _ r h=>by simp [laws_toIntS.l0] at h
 | k + 1=>by
  have ih0:=laws_toIntS.mono_l k
  ·intro y0 y1 y2
   unfold laws_toIntS.l0
   repeat' first
   | (with_reducible exact ih0 _ _ _)
   | (with_reducible exact LeO.refl _)
   | (with_reducible exact LeO.none _)
   | (with_reducible refine LeO.ite ?_ ?_)
   | (with_reducible refine LeO.bind ?_ (fun _=>?_))
   | exact ih0 _ _ _
   | exact LeO.none _
   | refine LeO.ite ?_ ?_
   | refine LeO.bind ?_ (fun _=>?_)
theorem laws_toIntS.mono : ∀ a0 k,LeO (laws_toIntS.f k a0) (laws_toIntS.f (k + 1) a0):=by
 intro a0 k
 have ih0:=laws_toIntS.mono_l k
 unfold laws_toIntS.f
 repeat' first
   | (with_reducible exact ih0 _ _ _)
   | (with_reducible exact LeO.refl _)
   | (with_reducible exact LeO.none _)
   | (with_reducible refine LeO.ite ?_ ?_)
   | (with_reducible refine LeO.bind ?_ (fun _=>?_))
   | exact ih0 _ _ _
   | exact LeO.none _
   | refine LeO.ite ?_ ?_
   | refine LeO.bind ?_ (fun _=>?_)
set_option maxHeartbeats 8000000 in
set_option maxRecDepth 100000 in
theorem laws_toIntS.calls (k : Nat) (A0 : Option Addr) (c0 : Nat) (l0 : List Int) (r : List Int) (w : World) (hr0 : Kd.C (Kd.int .i64) w A0 l0.length l0) (hc0 : l0.length ≤ c0) (h : laws_toIntS.f k l0 = some r) :
  Calls Try.prog 18 #[.slice A0 l0.length c0] w fun e w'=>∃ v0_ : Value,e = .returned (v0_) ∧ Kd.R (Kd.int .i64) 3 w' w.heap.size (fun _=>True) v0_ r ∧ Below w.heap.size w w':=by
 have HR0:=Aside0.mk hr0
 have HC0:=Aside0.mk hc0
 clear hr0 hc0
 have HB:=Aside0.mk (Below.refl w.heap.size w)
 have H : (if 0 ≤ (l0.length : Int) then (if ((l0.length : Int) : Int).toNat ≤ 35184372088832 then (laws_toIntS.l0 k l0 (List.replicate ((l0.length : Int) : Int).toNat 0) 0) else (none)) else (none)) = some r:=h
 clear h
 by_cases c2 : 0 ≤ (l0.length : Int)
 ·rw [if_pos c2] at H
  have c2b0:=eq_true c2
  have c2b1 : decide (0 ≤ (l0.length : Int)) = true:=decide_eq_true c2
  clear c2
  by_cases c3 : ((l0.length : Int) : Int).toNat ≤ 35184372088832
  ·rw [if_pos c3] at H
   have c3b0:=eq_true c3
   have c3b1 : decide (((l0.length : Int) : Int).toNat ≤ 35184372088832) = true:=decide_eq_true c3
   clear c3
   obtain ⟨y211,hy211⟩ : ∃ y_ : List Int,y_ = (List.replicate ((l0.length : Int) : Int).toNat 0):=⟨_,rfl⟩
   replace H : (laws_toIntS.l0 k l0 y211 0) = some r:=by first|(rw [hy211];with_reducible exact H)|(have H2_:=(Option.bind_some _ _).symm.trans H;rw [hy211];with_reducible exact H2_)|(have H2_:=(Option.bind_some _ _).symm.trans H;with_reducible exact H2_)|with_reducible exact H|(rw [hy211];exact H)|exact H
   have Ny211:=Aside0.mk hy211
   clear hy211
   have H':=Aside0.mk H
   clear H
   go_enter Try.func18,Try.ntmps18
   go_wp2_with (first|((with_reducible refine gate_dst (N:=7) rfl ?_);refine Kd.R_make (Kd.int .i64) _ 3 rfl (N:=7) rfl 23 _ _ rfl (l0.length : Int) rfl rfl Try.underlying23 (.int .i64 0) 8 info3 rfl (by decide) (by omega) 0 (ok:=fun _=>True) (okp:=fun _=>True) rfl (fun _ hk=>hk) trivial (of_decide_eq_true az) (Nat.le_trans (Nat.mul_le_mul_right _ (of_decide_eq_true az : (l0.length : Int).toNat ≤ 35184372088832)) (by omega)) (Below.refl _ _) (Nat.le_refl _) ?_;intro v212 w4 ho5 hb hg_ hnew_;clear hg_ hnew_;(first|rw [← Ny211.out] at ho5|(simp only [Int.reduceToNat] at ho5;rw [← Ny211.out] at ho5));have n0_:=Aside0.mk (Kd.R_lower ho5 (below_size bz));have n1_:=Aside0.mk (below_step bz hb);clear HB;have HO213:=n0_;have HB:=n1_;clear n0_ n1_;clear hb ho5))
   go_loopg [4] k (fun kq v4 w'=>∃ (x3_1 : List Int) (x4_1 : Int),v4 = .int .i64 x4_1 ∧ Aside0 (laws_toIntS.l0 kq l0 x3_1 x4_1 = some r) ∧ Aside0 (kq ≤ k) ∧ Aside0 (Kd.R (Kd.int .i64) 3 w' w.heap.size (fun _=>True) v212 x3_1) ∧ Aside0 (Below w.heap.size w w'))
   case atStart=>exact ⟨(y211),(0),fz,H',⟨Nat.le_refl _⟩,⟨by (with_reducible repeat (first|apply Kd.R_alloc|apply Kd.R_drewN|apply Kd.R_drew));exact HO213.out⟩,⟨by repeat (first|(with_reducible first|exact HB.out|apply below_alloc|apply pw_below_drewN|apply below_drew1)|exact HB.out)⟩⟩
   case round=>
    clear H'
    try clear c1
    try clear c2
    try clear c2b0
    try clear c2b1
    try clear p2
    try clear c3
    try clear c3b0
    try clear c3b1
    obtain ⟨x3_1,x4_1,rfl,HA,HK1,HO_3,HB⟩:=hrel
    cases gk with
    | zero=>exact absurd HA.out (by simp [laws_toIntS.l0])
    | succ k1=>
     have H:=HA.out
     clear HA
     simp only [laws_toIntS.l0] at H
     by_cases c6 : x4_1 < (l0.length : Int)
     ·rw [if_pos c6] at H
      have c6b0 : decide (x4_1 < (l0.length : Int)) = true:=decide_eq_true c6
      clear c6
      by_cases c7 : 0 ≤ x4_1
      ·rw [if_pos c7] at H
       have c7b0 : decide (0 ≤ x4_1) = true:=decide_eq_true c7
       clear c7
       by_cases c8 : x4_1 < (x3_1.length : Int)
       ·rw [if_pos c8] at H
        have c8b0 : decide (x4_1 < (x3_1.length : Int)) = true:=decide_eq_true c8
        clear c8
        obtain ⟨y215,hy215⟩ : ∃ y_ : List Int,y_ = (x3_1.set (x4_1 : Int).toNat (rd l0 x4_1)):=⟨_,rfl⟩
        replace H : (laws_toIntS.l0 k1 l0 y215 (wrap64 (x4_1 + 1))) = some r:=by first|(rw [hy215];with_reducible exact H)|(have H2_:=(Option.bind_some _ _).symm.trans H;rw [hy215];with_reducible exact H2_)|(have H2_:=(Option.bind_some _ _).symm.trans H;with_reducible exact H2_)|with_reducible exact H|(rw [hy215];exact H)|exact H
        have Ny215:=Aside0.mk hy215
        clear hy215
        have H':=Aside0.mk H
        clear H
        have p214 : 0 ≤ (x4_1 : Int):=of_decide_eq_true az
        have q214 : x4_1 < (l0.length : Int):=of_decide_eq_true az
        obtain ⟨ad214,e214,hx214_0⟩:=Kd.at_int HR0.out x4_1 p214 q214
        cases e214
        replace hx214_0:=(HB.out.cell (World.block_lt_of_cell? w _ hx214_0)).trans hx214_0
        replace p214:=eq_true p214
        replace q214:=eq_true q214
        have p9 : 0 ≤ (x4_1 : Int):=of_decide_eq_true az
        have q9 : (x4_1 : Int) < ((x3_1.length : Int) : Int):=of_decide_eq_true az
        obtain ⟨go9,co9,eo9,gb9,gl9,cl9,HG9⟩:=Kd.R_form HO_3.out (by omega)
        (first|cases eo9|(injection eo9 with ea_ en_ ec_;(first|subst ea_|(injection ea_ with ea_;subst ea_));subst ec_;clear en_))
        have GB9:=Aside0.mk gb9
        have GG9:=Aside0.mk HG9
        clear gb9 gl9 HG9
        obtain ⟨hx9_0,hf9_0⟩:=Kd.R_celln 0 HO_3.out (x4_1 : Int) p9 q9
        replace p9:=eq_true p9
        replace q9:=eq_true q9
        have HP10:=Kd.R_putg HO_3.out (x4_1 : Int) (rd l0 x4_1)
        go_wp2_with (first|((with_reducible refine gate_store (t:=3) (p:=20) rfl ?_);refine store_event (t:=3) (p:=20) (v:=?vo_w11) (w1:=(wr.setCell ⟨go9,(x4_1 : Int).toNat,none⟩ (.int .i64 (rd l0 x4_1)))) ?hg ?ho ?hn ?hr ?_;(case ho=>rfl);(case hg=>rfl);(case hn=>rfl);(case hr=>first|(go_simp;done)|(go_simp;rfl));intro w11 hw;have hg : wr.grownBy w11 (some go9):=(by rw [hw];exact HP10.2);have hp_ : Kd.R (Kd.int .i64) 3 w11 w.heap.size (fun _=>True) (.slice (some ⟨go9,0,none⟩) x3_1.length co9) y215:=(by rw [hw,Ny215.out];exact HP10.1);clear HP10;have n0_:=Aside0.mk (hp_);have n1_:=Aside0.mk ((by rw [hw];exact below_set (HB.out) GB9.out : Below w.heap.size w w11));clear HO_3 HB;have HO_3:=n0_;have HB:=n1_;clear n0_ n1_;clear hg hw hp_))
        go_roundg k1
        case measure=>have:=HK1.out;omega
        case rel=>exact ⟨(y215),(wrap64 (x4_1 + 1)),fz,H',⟨by have:=HK1.out;omega⟩,⟨by (with_reducible repeat (first|apply Kd.R_alloc|apply Kd.R_drewN|apply Kd.R_drew));exact HO_3.out⟩,⟨by repeat (first|(with_reducible first|exact HB.out|apply below_alloc|apply pw_below_drewN|apply below_drew1)|exact HB.out)⟩⟩
       ·rw [if_neg c8] at H
        exact absurd H (by simp)
      ·rw [if_neg c7] at H
       exact absurd H (by simp)
     ·rw [if_neg c6] at H
      have c6b0 : decide (x4_1 < (l0.length : Int)) = false:=decide_eq_false c6
      clear c6
      obtain rfl:=Option.some.inj H
      go_wp2
      go_ret
      exact ⟨_,by first|rfl|(simp [errW_none,errW_some] <;> rfl)|(simp [*,errW_none,errW_some] <;> rfl),by (with_reducible repeat (first|apply Kd.R_alloc|apply Kd.R_drewN|apply Kd.R_drew));exact HO_3.out,by repeat (first|(with_reducible first|exact HB.out|apply below_alloc|apply pw_below_drewN|apply below_drew1)|exact HB.out)⟩
  ·rw [if_neg c3] at H
   exact absurd H (by simp)
 ·rw [if_neg c2] at H
  exact absurd H (by simp)
end Go.Proofs.Ytdcdaoancmpbeaa.MFnExactJoinPlans
--sq
