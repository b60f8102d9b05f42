import Derived.Test.YtdcdaoancmpbeaaMFnExactSequencePlanx0
import Derived.Test.YtdcdaoancmpbeaaMFnExactSequencePlanx3
namespace Go.Proofs.Ytdcdaoancmpbeaa.MFnExactSequencePlan
open Go.RowKit Go.Proofs.YtdcdaoancmpbeaaW.PrintWords Go.Proofs.YtdcdaoancmpbeaaW.PrintLast Go.Proofs.YtdcdaoancmpbeaaW.PrintMore Go.Proofs.YtdcdaoancmpbeaaV
attribute [local go_sem] max2_int min2_int max_two min_two max_three min_three max_four min_four   -- for this text's walks alone
set_option linter.unusedVariables false
set_option linter.unusedSimpArgs false
/-! ### spec_plKeep: function 56 -/
mutual
def spec_plKeep.l0 : Nat → List Int → List Int → Int → Int → Int → List (S73) → List Int → Int → List (S73) → Option (Int × (List (S73)) × List Int)
 | 0,_,_,_,_,_,_,_,_,_=>none
 | k + 1,x1,x14,x15,x16,x162000,x162001,x162002,x164000,x164001=>if x16 < x15 then (if 0 ≤ x16 then (if x16 < (x14.length : Int) then (if 0 ≤ (rd x14 x16) then (if (rd x14 x16) < (x162001.length : Int) then ((spec_plNumber.f k x162000 x162001 x162002 x1 ((rd_T73 x162001 (rd x14 x16)).f0)).bind fun t167=>((spec_plNumber.f k x162000 x162001 x162002 x1 ((rd_T73 x162001 (rd x14 x16)).f1)).bind fun t168=>((spec_plStep.f t167 t168).bind fun bt169=>(if x164001.length < 8796093022208 then (spec_plKeep.l0 k x1 x14 x15 (wrap64 (x16 + 1)) x162000 x162001 x162002 x164000 (x164001 ++ [(⟨bt169.1,bt169.2⟩ : S73)])) else (none))))) else (none)) else (none)) else (none)) else (none)) else (spec_plKeep.l1 k x1 x162002 (x162002.length : Int) 0 x162000 x162001 x162002 x164000 x164001 ([] : List Int))
def spec_plKeep.l1 : Nat → List Int → List Int → Int → Int → Int → List (S73) → List Int → Int → List (S73) → List Int → Option (Int × (List (S73)) × List Int)
 | 0,_,_,_,_,_,_,_,_,_,_=>none
 | k + 1,x1,x43,x44,x45,x162000,x162001,x162002,x164000,x164001,x164002=>if x45 < x44 then (if 0 ≤ x45 then (if x45 < (x43.length : Int) then ((spec_plNumber.f k x162000 x162001 x162002 x1 (rd x43 x45)).bind fun t175=>(if x164002.length < 17592186044416 then (spec_plKeep.l1 k x1 x43 x44 (wrap64 (x45 + 1)) x162000 x162001 x162002 x164000 x164001 (x164002 ++ [t175])) else (none))) else (none)) else (none)) else (some (x164000,x164001,x164002))
end
def spec_plKeep.f (k : Nat) (a0_0 : Int) (l0_1 : List (S73)) (l0_2 : List Int) (l1 : List Int) : Option (Int × (List (S73)) × List Int):=spec_plKeep.l0 k l1 l1 (l1.length : Int) 0 a0_0 l0_1 l0_2 a0_0 ([] : List (S73))
theorem spec_plKeep.mono_l : ∀ k,(∀ y0 y1 y2 y3 y4 y5 y6 y7 y8,LeO (spec_plKeep.l0 k y0 y1 y2 y3 y4 y5 y6 y7 y8) (spec_plKeep.l0 (k + 1) y0 y1 y2 y3 y4 y5 y6 y7 y8)) ∧ (∀ y0 y1 y2 y3 y4 y5 y6 y7 y8 y9,LeO (spec_plKeep.l1 k y0 y1 y2 y3 y4 y5 y6 y7 y8 y9) (spec_plKeep.l1 (k + 1) y0 y1 y2 y3 y4 y5 y6 y7 y8 y9))
 | 0=>⟨fun _ _ _ _ _ _ _ _ _ r h=>by simp [spec_plKeep.l0] at h,fun _ _ _ _ _ _ _ _ _ _ r h=>by simp [spec_plKeep.l1] at h⟩
 | k + 1=>by
  obtain ⟨ih0,ih1⟩:=spec_plKeep.mono_l k
  refine ⟨?_,?_⟩
  ·intro y0 y1 y2 y3 y4 y5 y6 y7 y8
   unfold spec_plKeep.l0
   repeat' first
   | (with_reducible exact ih0 _ _ _ _ _ _ _ _ _)
   | (with_reducible exact ih1 _ _ _ _ _ _ _ _ _ _)
   | (with_reducible exact spec_plNumber.mono _ _ _ _ _ _)
   | (with_reducible exact LeO.refl _)
   | (with_reducible exact LeO.none _)
   | (with_reducible refine LeO.ite ?_ ?_)
   | (with_reducible refine LeO.bind ?_ (fun _=>?_))
   | exact ih0 _ _ _ _ _ _ _ _ _
   | exact ih1 _ _ _ _ _ _ _ _ _ _
   | exact spec_plNumber.mono _ _ _ _ _ _
   | exact LeO.none _
   | refine LeO.ite ?_ ?_
   | refine LeO.bind ?_ (fun _=>?_)
  ·intro y0 y1 y2 y3 y4 y5 y6 y7 y8 y9
   unfold spec_plKeep.l1
   repeat' first
   | (with_reducible exact ih0 _ _ _ _ _ _ _ _ _)
   | (with_reducible exact ih1 _ _ _ _ _ _ _ _ _ _)
   | (with_reducible exact spec_plNumber.mono _ _ _ _ _ _)
   | (with_reducible exact LeO.refl _)
   | (with_reducible exact LeO.none _)
   | (with_reducible refine LeO.ite ?_ ?_)
   | (with_reducible refine LeO.bind ?_ (fun _=>?_))
   | exact ih0 _ _ _ _ _ _ _ _ _
   | exact ih1 _ _ _ _ _ _ _ _ _ _
   | exact spec_plNumber.mono _ _ _ _ _ _
   | exact LeO.none _
   | refine LeO.ite ?_ ?_
   | refine LeO.bind ?_ (fun _=>?_)
theorem spec_plKeep.mono : ∀ a0 a1 a2 a3 k,LeO (spec_plKeep.f k a0 a1 a2 a3) (spec_plKeep.f (k + 1) a0 a1 a2 a3):=by
 intro a0 a1 a2 a3 k
 obtain ⟨ih0,ih1⟩:=spec_plKeep.mono_l k
 unfold spec_plKeep.f
 repeat' first
   | (with_reducible exact ih0 _ _ _ _ _ _ _ _ _)
   | (with_reducible exact ih1 _ _ _ _ _ _ _ _ _ _)
   | (with_reducible exact spec_plNumber.mono _ _ _ _ _ _)
   | (with_reducible exact LeO.refl _)
   | (with_reducible exact LeO.none _)
   | (with_reducible refine LeO.ite ?_ ?_)
   | (with_reducible refine LeO.bind ?_ (fun _=>?_))
   | exact ih0 _ _ _ _ _ _ _ _ _
   | exact ih1 _ _ _ _ _ _ _ _ _ _
   | exact spec_plNumber.mono _ _ _ _ _ _
   | exact LeO.none _
   | refine LeO.ite ?_ ?_
   | refine LeO.bind ?_ (fun _=>?_)
def spec_plKeep.T6 : Bool × List (List Nat × List Nat):=(true,[([],[]),([0],[0]),([],[]),([],[]),([],[]),([4],[4]),([2,3,5],[2,3,5]),([],[]),([],[]),([],[]),([9],[9]),([7,8,10,6],[7,8,10]),([6,11,11],[6,11]),([12],[12]),([1,13,12],[1,13]),([0,1,2,3,4,5,6,7,8,9,10,11,12,13,14],[]),([15,14,14,0,1,2,3,4,5,6,7,8,9,10,11,12,13,14],[14,15])])
def spec_plKeep.B6 : List Nat:=[0,1,0,0,0,16,60,0,0,0,512,2044,4092,8188,16383,32767,65535]
theorem spec_plKeep.tab6 : rtab .any (opsOf Try.f56 6) = spec_plKeep.T6:=by kernel_rfl
theorem spec_plKeep.bits6 : waitsOk spec_plKeep.T6.2 spec_plKeep.B6 = true:=by kernel_rfl
def spec_plKeep.T11 : Bool × List (List Nat × List Nat):=(true,[([],[]),([0],[0]),([],[]),([],[]),([],[]),([2,3,4],[2,3,4]),([5],[5]),([1,6,5],[1,6]),([0,1,2,3,4,5,6,7],[]),([8,7,7,0,1,2,3,4,5,6,7],[7,8])])
def spec_plKeep.B11 : List Nat:=[0,1,0,0,0,28,60,127,255,511]
theorem spec_plKeep.tab11 : rtab .any (opsOf Try.f56 11) = spec_plKeep.T11:=by kernel_rfl
theorem spec_plKeep.bits11 : waitsOk spec_plKeep.T11.2 spec_plKeep.B11 = true:=by kernel_rfl
set_option maxHeartbeats 8000000 in
set_option maxRecDepth 100000 in
theorem spec_plKeep.calls (k : Nat) (a0_0 : Int) (A0_1 : Option Addr) (c0_1 : Nat) (l0_1 : List (S73)) (A0_2 : Option Addr) (c0_2 : Nat) (l0_2 : List Int) (A1 : Option Addr) (c1 : Nat) (l1 : List Int) (r1 : Int) (r2 : List (S73)) (r3 : List Int) (w : World) (hr0_1 : Kd.C k73 w A0_1 l0_1.length l0_1) (hc0_1 : l0_1.length ≤ c0_1) (hr0_2 : Kd.C (Kd.int .i64) w A0_2 l0_2.length l0_2) (hc0_2 : l0_2.length ≤ c0_2) (hr1 : Kd.C (Kd.int .i64) w A1 l1.length l1) (hc1 : l1.length ≤ c1) (h : spec_plKeep.f k a0_0 l0_1 l0_2 l1 = some (r1,r2,r3)) :
  Calls Try.prog 56 #[.agg #[.int .i64 a0_0,.slice A0_1 l0_1.length c0_1,.slice A0_2 l0_2.length c0_2],.slice A1 l1.length c1] w fun e w'=>∃ v1_ v2_ : Value,e = .returned (.agg #[.int .i64 r1,v1_,v2_]) ∧ Kd.R k73 73 w' w.heap.size (fun _=>True) v1_ r2 ∧ Kd.R (Kd.int .i64) 3 w' w.heap.size (fun _=>True) v2_ r3 ∧ Below w.heap.size w w':=by
 have hu29:=Try.underlying29
 have hu73:=Try.underlying73
 have HR0_1:=Aside0.mk hr0_1
 have HC0_1:=Aside0.mk hc0_1
 clear hr0_1 hc0_1
 have HR0_2:=Aside0.mk hr0_2
 have HC0_2:=Aside0.mk hc0_2
 clear hr0_2 hc0_2
 have HR1:=Aside0.mk hr1
 have HC1:=Aside0.mk hc1
 clear hr1 hc1
 have HB:=Aside0.mk (Below.refl w.heap.size w)
 have H : (spec_plKeep.l0 k l1 l1 (l1.length : Int) 0 a0_0 l0_1 l0_2 a0_0 ([] : List (S73))) = some (r1,r2,r3):=h
 clear h
 have H':=Aside0.mk H
 clear H
 go_enter Try.func56,Try.ntmps56
 go_wp2_with (first|((with_reducible refine gate_dst (N:=2) rfl ?_);refine box_event ?hg (N:=2) ?hd (cs:=#[.int .i64 a0_0,.slice A0_1 l0_1.length c0_1,.slice A0_2 l0_2.length c0_2]) (t:=29) ?hr ?_;(case hd=>rfl);(case hg=>rfl);(case hr=>first|(go_simp;done)|(go_simp;rfl));intro gb161 hg w3 hbox hb;have n0_:=Aside0.mk (below_step (by repeat (first|(with_reducible first|exact HB.out|apply below_alloc|apply pw_below_drewN|apply below_drew1)|exact HB.out)) hb);have n1_:=Aside0.mk (hbox);have n2_:=Aside0.mk ((by rw [hg];exact (below_size (by repeat (first|(with_reducible first|exact HB.out|apply below_alloc|apply pw_below_drewN|apply below_drew1)|exact HB.out))) : w.heap.size ≤ gb161));have n3_:=Aside0.mk ((by rw [hg];exact (below_size (by repeat (first|(with_reducible first|exact HB.out|apply below_alloc|apply pw_below_drewN|apply below_drew1)|exact HB.out))) : w.heap.size ≤ gb161));clear HB;have HB:=n0_;have BK161:=n1_;have GW161:=n2_;have GE161:=n3_;clear n0_ n1_ n2_ n3_;clear hb hbox hg)|((with_reducible refine gate_dst (N:=4) rfl ?_);refine box_event ?hg (N:=4) ?hd (cs:=#[.int .i64 0,.slice none 0 0,.slice none 0 0]) (t:=29) ?hr ?_;(case hd=>rfl);(case hg=>rfl);(case hr=>first|(go_simp;done)|(go_simp;rfl));intro gb162 hg w4 hbox hb;have n0_:=Aside0.mk (blk_below (g:=gb161) (o:=.cells #[.int .i64 a0_0,.slice A0_1 l0_1.length c0_1,.slice A0_2 l0_2.length c0_2] 29 (0,0)) (by (with_reducible repeat (first|refine blk_drewN ?_ _|refine blk_drew ?_|refine blk_alloc ?_ _));exact BK161.out) hb);have n1_:=Aside0.mk (below_step (by repeat (first|(with_reducible first|exact HB.out|apply below_alloc|apply pw_below_drewN|apply below_drew1|refine below_set ?_ GE161.out)|exact HB.out)) hb);have n2_:=Aside0.mk (hbox);have n3_:=Aside0.mk ((by rw [hg];exact (below_size (by repeat (first|(with_reducible first|exact HB.out|apply below_alloc|apply pw_below_drewN|apply below_drew1|refine below_set ?_ GE161.out)|exact HB.out))) : w.heap.size ≤ gb162));have n4_:=Aside0.mk ((by rw [hg];exact (below_size (by repeat (first|(with_reducible first|exact HB.out|apply below_alloc|apply pw_below_drewN|apply below_drew1|refine below_set ?_ GE161.out)|exact HB.out))) : w.heap.size ≤ gb162));have n5_:=Aside0.mk ((by rw [hg];exact Nat.ne_of_lt (blk_lt (g:=gb161) (o:=.cells #[.int .i64 a0_0,.slice A0_1 l0_1.length c0_1,.slice A0_2 l0_2.length c0_2] 29 (0,0)) (by (with_reducible repeat (first|refine blk_drewN ?_ _|refine blk_drew ?_|refine blk_alloc ?_ _));exact BK161.out)) : gb161 ≠ gb162));have n6_:=Aside0.mk ((by rw [hg];exact Nat.ne_of_gt (blk_lt (g:=gb161) (o:=.cells #[.int .i64 a0_0,.slice A0_1 l0_1.length c0_1,.slice A0_2 l0_2.length c0_2] 29 (0,0)) (by (with_reducible repeat (first|refine blk_drewN ?_ _|refine blk_drew ?_|refine blk_alloc ?_ _));exact BK161.out)) : gb162 ≠ gb161));clear BK161;clear HB;have BK161:=n0_;have HB:=n1_;have BK162:=n2_;have GW162:=n3_;have GE162:=n4_;have NB161_162:=n5_;have NB162_161:=n6_;clear n0_ n1_ n2_ n3_ n4_ n5_ n6_;clear hb hbox hg;have hnb5:=NB161_162.out;have hnc5:=NB162_161.out;have hcz6_0 : w4.cell? ⟨gb161,0,none⟩ = some (.int .i64 a0_0):=(blk_cell BK161.out 0).trans rfl;have hcz6_1 : w4.cell? ⟨gb161,1,none⟩ = some (.slice A0_1 l0_1.length c0_1):=(blk_cell BK161.out 1).trans rfl;have hcz6_2 : w4.cell? ⟨gb161,2,none⟩ = some (.slice A0_2 l0_2.length c0_2):=(blk_cell BK161.out 2).trans rfl;have hfz6_0:=blk_frozen BK161.out 0;have hfz6_1:=blk_frozen BK161.out 1;have hfz6_2:=blk_frozen BK161.out 2)|((with_reducible refine gate_dst (N:=5) rfl ?_);refine box_event ?hg (N:=5) ?hd (cs:=#[.int .i64 0,.slice none 0 0,.slice none 0 0]) (t:=29) ?hr ?_;(case hd=>rfl);(case hg=>rfl);(case hr=>first|(go_simp;done)|(go_simp;rfl));intro gb163 hg w7 hbox hb;have n0_:=Aside0.mk (blk_below (g:=gb161) (o:=.cells #[.int .i64 a0_0,.slice A0_1 l0_1.length c0_1,.slice A0_2 l0_2.length c0_2] 29 (0,0)) (by (with_reducible repeat (first|refine blk_drewN ?_ _|refine blk_drew ?_|refine blk_alloc ?_ _));exact BK161.out) hb);have n1_:=Aside0.mk (blk_below (g:=gb162) (o:=.cells #[.int .i64 0,.slice none 0 0,.slice none 0 0] 29 (0,0)) (by (with_reducible repeat (first|refine blk_drewN ?_ _|refine blk_drew ?_|refine blk_alloc ?_ _));exact BK162.out) hb);have n2_:=Aside0.mk (below_step (by repeat (first|(with_reducible first|exact HB.out|apply below_alloc|apply pw_below_drewN|apply below_drew1|refine below_set ?_ GE161.out|refine below_set ?_ GE162.out)|exact HB.out)) hb);have n3_:=Aside0.mk (hbox);have n4_:=Aside0.mk ((by rw [hg];exact (below_size (by repeat (first|(with_reducible first|exact HB.out|apply below_alloc|apply pw_below_drewN|apply below_drew1|refine below_set ?_ GE161.out|refine below_set ?_ GE162.out)|exact HB.out))) : w.heap.size ≤ gb163));have n5_:=Aside0.mk ((by rw [hg];exact (below_size (by repeat (first|(with_reducible first|exact HB.out|apply below_alloc|apply pw_below_drewN|apply below_drew1|refine below_set ?_ GE161.out|refine below_set ?_ GE162.out)|exact HB.out))) : w.heap.size ≤ gb163));have n6_:=Aside0.mk ((by rw [hg];exact Nat.ne_of_lt (blk_lt (g:=gb161) (o:=.cells #[.int .i64 a0_0,.slice A0_1 l0_1.length c0_1,.slice A0_2 l0_2.length c0_2] 29 (0,0)) (by (with_reducible repeat (first|refine blk_drewN ?_ _|refine blk_drew ?_|refine blk_alloc ?_ _));exact BK161.out)) : gb161 ≠ gb163));have n7_:=Aside0.mk ((by rw [hg];exact Nat.ne_of_gt (blk_lt (g:=gb161) (o:=.cells #[.int .i64 a0_0,.slice A0_1 l0_1.length c0_1,.slice A0_2 l0_2.length c0_2] 29 (0,0)) (by (with_reducible repeat (first|refine blk_drewN ?_ _|refine blk_drew ?_|refine blk_alloc ?_ _));exact BK161.out)) : gb163 ≠ gb161));have n8_:=Aside0.mk ((by rw [hg];exact Nat.ne_of_lt (blk_lt (g:=gb162) (o:=.cells #[.int .i64 0,.slice none 0 0,.slice none 0 0] 29 (0,0)) (by (with_reducible repeat (first|refine blk_drewN ?_ _|refine blk_drew ?_|refine blk_alloc ?_ _));exact BK162.out)) : gb162 ≠ gb163));have n9_:=Aside0.mk ((by rw [hg];exact Nat.ne_of_gt (blk_lt (g:=gb162) (o:=.cells #[.int .i64 0,.slice none 0 0,.slice none 0 0] 29 (0,0)) (by (with_reducible repeat (first|refine blk_drewN ?_ _|refine blk_drew ?_|refine blk_alloc ?_ _));exact BK162.out)) : gb163 ≠ gb162));clear BK161;clear BK162;clear HB;have BK161:=n0_;have BK162:=n1_;have HB:=n2_;have BK163:=n3_;have GW163:=n4_;have GE163:=n5_;have NB161_163:=n6_;have NB163_161:=n7_;have NB162_163:=n8_;have NB163_162:=n9_;clear n0_ n1_ n2_ n3_ n4_ n5_ n6_ n7_ n8_ n9_;clear hb hbox hg;have hnb8:=NB163_161.out;have hnc8:=NB161_163.out;have hnb9:=NB163_162.out;have hnc9:=NB162_163.out;have hcz10_0 : w7.cell? ⟨gb163,0,none⟩ = some (.int .i64 0):=(blk_cell BK163.out 0).trans rfl;have hcz10_1 : w7.cell? ⟨gb163,1,none⟩ = some (.slice none 0 0):=(blk_cell BK163.out 1).trans rfl;have hcz10_2 : w7.cell? ⟨gb163,2,none⟩ = some (.slice none 0 0):=(blk_cell BK163.out 2).trans rfl;have hfz10_0:=blk_frozen BK163.out 0;have hfz10_1:=blk_frozen BK163.out 1;have hfz10_2:=blk_frozen BK163.out 2))
 go_loopg [16] k (fun kq v16 w'=>∃ (x16_1 : Int) (x164001_1 : List (S73)) (u164001 : Value),v16 = .int .i64 x16_1 ∧ Aside0 (spec_plKeep.l0 kq l1 l1 (l1.length : Int) x16_1 a0_0 l0_1 l0_2 a0_0 x164001_1 = some (r1,r2,r3)) ∧ Aside0 (kq ≤ k) ∧ Aside0 (Kd.R k73 73 w' w.heap.size (fun _=>True) u164001 x164001_1) ∧ Aside0 (w'.heap[gb161]? = some (.cells #[.int .i64 a0_0,(.slice A0_1 l0_1.length c0_1),(.slice A0_2 l0_2.length c0_2)] 29 (0,0))) ∧ Aside0 (w'.heap[gb162]? = some (.cells #[.int .i64 0,(.slice none 0 0),(.slice none 0 0)] 29 (0,0))) ∧ Aside0 (w'.heap[gb163]? = some (.cells #[.int .i64 a0_0,u164001,(.slice none 0 0)] 29 (0,0))) ∧ Aside0 (Below w.heap.size w w'))
 case atStart=>exact ⟨(0),(([] : List (S73))),(.slice none 0 0),(by first|rfl|(simp;done)|(simp [*];done)),H',⟨Nat.le_refl _⟩,⟨by first|exact Kd.R_nil _ _ _ _ _|exact Kd.N_nil _ _ _ _ _|exact Kd.V_nil _ _ _ _ _|exact Kd.Q_nil _ _ _ _ _|exact Kd.S_nil _ _ _ _ _⟩,⟨by (with_reducible repeat (first|refine blk_drewN ?_ _|refine blk_drew ?_|refine blk_alloc ?_ _));refine blk_far ?_ NB161_163.out _;(with_reducible repeat (first|refine blk_drewN ?_ _|refine blk_drew ?_|refine blk_alloc ?_ _));refine blk_far ?_ NB161_163.out _;(with_reducible repeat (first|refine blk_drewN ?_ _|refine blk_drew ?_|refine blk_alloc ?_ _));refine blk_far ?_ NB161_163.out _;(with_reducible repeat (first|refine blk_drewN ?_ _|refine blk_drew ?_|refine blk_alloc ?_ _));exact BK161.out⟩,⟨by (with_reducible repeat (first|refine blk_drewN ?_ _|refine blk_drew ?_|refine blk_alloc ?_ _));refine blk_far ?_ NB162_163.out _;(with_reducible repeat (first|refine blk_drewN ?_ _|refine blk_drew ?_|refine blk_alloc ?_ _));refine blk_far ?_ NB162_163.out _;(with_reducible repeat (first|refine blk_drewN ?_ _|refine blk_drew ?_|refine blk_alloc ?_ _));refine blk_far ?_ NB162_163.out _;(with_reducible repeat (first|refine blk_drewN ?_ _|refine blk_drew ?_|refine blk_alloc ?_ _));exact BK162.out⟩,⟨by (with_reducible repeat (first|refine blk_drewN ?_ _|refine blk_drew ?_|refine blk_alloc ?_ _));refine blk_put (cs:=#[.int .i64 a0_0,.slice none 0 0,.slice none 0 0]) ?_ 2 _ rfl;(with_reducible repeat (first|refine blk_drewN ?_ _|refine blk_drew ?_|refine blk_alloc ?_ _));refine blk_put (cs:=#[.int .i64 a0_0,.slice none 0 0,.slice none 0 0]) ?_ 1 _ rfl;(with_reducible repeat (first|refine blk_drewN ?_ _|refine blk_drew ?_|refine blk_alloc ?_ _));refine blk_put (cs:=#[.int .i64 0,.slice none 0 0,.slice none 0 0]) ?_ 0 _ rfl;(with_reducible repeat (first|refine blk_drewN ?_ _|refine blk_drew ?_|refine blk_alloc ?_ _));exact BK163.out⟩,⟨by repeat (first|(with_reducible first|exact HB.out|apply below_alloc|apply pw_below_drewN|apply below_drew1|refine below_set ?_ GE161.out|refine below_set ?_ GE162.out|refine below_set ?_ GE163.out)|exact HB.out)⟩⟩
 case round=>
  clear H'
  try clear c1
  try clear p2
  try clear c5
  try clear c8
  try clear c9
  try clear hcz10_0
  try clear hcz10_1
  try clear hcz10_2
  try clear hcz6_0
  try clear hcz6_1
  try clear hcz6_2
  try clear hfz10_0
  try clear hfz10_1
  try clear hfz10_2
  try clear hfz6_0
  try clear hfz6_1
  try clear hfz6_2
  obtain ⟨x16_1,x164001_1,u164001,rfl,HA,HK1,HO_164001,BK161,BK162,BK163,HB⟩:=hrel
  cases gk with
  | zero=>exact absurd HA.out (by simp [spec_plKeep.l0])
  | succ k1=>
   have H:=HA.out
   clear HA
   simp only [spec_plKeep.l0] at H
   by_cases c11 : x16_1 < (l1.length : Int)
   ·rw [if_pos c11] at H
    have c11b0 : decide (x16_1 < (l1.length : Int)) = true:=decide_eq_true c11
    clear c11
    by_cases c12 : 0 ≤ x16_1
    ·rw [if_pos c12] at H
     have c12b0 : decide (0 ≤ x16_1) = true:=decide_eq_true c12
     clear c12
     by_cases c13 : x16_1 < (l1.length : Int)
     ·rw [if_pos c13] at H
      have c13b0 : decide (x16_1 < (l1.length : Int)) = true:=decide_eq_true c13
      clear c13
      by_cases c14 : 0 ≤ (rd l1 x16_1)
      ·rw [if_pos c14] at H
       have c14b0 : decide (0 ≤ (rd l1 x16_1)) = true:=decide_eq_true c14
       clear c14
       by_cases c15 : (rd l1 x16_1) < (l0_1.length : Int)
       ·rw [if_pos c15] at H
        have c15b0 : decide ((rd l1 x16_1) < (l0_1.length : Int)) = true:=decide_eq_true c15
        clear c15
        replace H:=Option.bind_eq_some_iff.mp H
        obtain ⟨t167,A160,H⟩:=H
        replace H : ((spec_plNumber.f k1 a0_0 l0_1 l0_2 l1 ((rd_T73 l0_1 (rd l1 x16_1)).f1)).bind fun t168=>((spec_plStep.f t167 t168).bind fun bt169=>(if x164001_1.length < 8796093022208 then (spec_plKeep.l0 k1 l1 l1 (l1.length : Int) (wrap64 (x16_1 + 1)) a0_0 l0_1 l0_2 a0_0 (x164001_1 ++ [(⟨bt169.1,bt169.2⟩ : S73)])) else (none)))) = some (r1,r2,r3):=H
        have A16:=Aside0.mk A160
        clear A160
        replace H:=Option.bind_eq_some_iff.mp H
        obtain ⟨t168,A170,H⟩:=H
        replace H : ((spec_plStep.f t167 t168).bind fun bt169=>(if x164001_1.length < 8796093022208 then (spec_plKeep.l0 k1 l1 l1 (l1.length : Int) (wrap64 (x16_1 + 1)) a0_0 l0_1 l0_2 a0_0 (x164001_1 ++ [(⟨bt169.1,bt169.2⟩ : S73)])) else (none))) = some (r1,r2,r3):=H
        have A17:=Aside0.mk A170
        clear A170
        replace H:=Option.bind_eq_some_iff.mp H
        obtain ⟨⟨t169,t170⟩,A180,H⟩:=H
        replace H : (if x164001_1.length < 8796093022208 then (spec_plKeep.l0 k1 l1 l1 (l1.length : Int) (wrap64 (x16_1 + 1)) a0_0 l0_1 l0_2 a0_0 (x164001_1 ++ [(⟨t169,t170⟩ : S73)])) else (none)) = some (r1,r2,r3):=H
        have A18:=Aside0.mk A180
        clear A180
        by_cases c19 : x164001_1.length < 8796093022208
        ·rw [if_pos c19] at H
         have LMc19:=Aside0.mk c19
         clear c19
         obtain ⟨y171,hy171⟩ : ∃ y_ : List (S73),y_ = (x164001_1 ++ [(⟨t169,t170⟩ : S73)]):=⟨_,rfl⟩
         replace H : (spec_plKeep.l0 k1 l1 l1 (l1.length : Int) (wrap64 (x16_1 + 1)) a0_0 l0_1 l0_2 a0_0 y171) = some (r1,r2,r3):=by first|(rw [hy171];with_reducible exact H)|(have H2_:=(Option.bind_some _ _).symm.trans H;rw [hy171];with_reducible exact H2_)|(have H2_:=(Option.bind_some _ _).symm.trans H;with_reducible exact H2_)|with_reducible exact H|(rw [hy171];exact H)|exact H
         have Ny171:=Aside0.mk hy171
         clear hy171
         have H':=Aside0.mk H
         clear H
         have p164 : 0 ≤ (x16_1 : Int):=of_decide_eq_true (by first|(with_reducible assumption)|assumption)
         have q164 : x16_1 < (l1.length : Int):=of_decide_eq_true (by first|(with_reducible assumption)|assumption)
         obtain ⟨ad164,e164,hx164_0⟩:=Kd.at_int HR1.out x16_1 p164 q164
         cases e164
         replace hx164_0:=(HB.out.cell (World.block_lt_of_cell? w _ hx164_0)).trans hx164_0
         replace p164:=eq_true p164
         replace q164:=eq_true q164
         have hnb20:=NB161_162.out
         have hnc20:=NB162_161.out
         have hnb21:=NB161_163.out
         have hnc21:=NB163_161.out
         have hcz22_0 : wr.cell? ⟨gb161,0,none⟩ = some (.int .i64 a0_0):=(blk_cell BK161.out 0).trans rfl
         have hcz22_1 : wr.cell? ⟨gb161,1,none⟩ = some (.slice A0_1 l0_1.length c0_1):=(blk_cell BK161.out 1).trans rfl
         have hcz22_2 : wr.cell? ⟨gb161,2,none⟩ = some (.slice A0_2 l0_2.length c0_2):=(blk_cell BK161.out 2).trans rfl
         have hfz22_0:=blk_frozen BK161.out 0
         have hfz22_1:=blk_frozen BK161.out 1
         have hfz22_2:=blk_frozen BK161.out 2
         have p165 : 0 ≤ ((rd l1 x16_1) : Int):=of_decide_eq_true (by first|(with_reducible assumption)|assumption)
         have q165 : (rd l1 x16_1) < (l0_1.length : Int):=of_decide_eq_true (by first|(with_reducible assumption)|assumption)
         obtain ⟨ad165,e165,hx165_0,hx165_1⟩:=at_T73 HR0_1.out (rd l1 x16_1) p165 q165
         cases e165
         replace hx165_0:=(HB.out.cell (World.block_lt_of_cell? w _ hx165_0)).trans hx165_0
         replace hx165_1:=(HB.out.cell (World.block_lt_of_cell? w _ hx165_1)).trans hx165_1
         replace p165:=eq_true p165
         replace q165:=eq_true q165
         try go_wp2_with (first|((with_reducible refine gate_dst (N:=8) rfl ?_);refine box_event ?hg (N:=8) ?hd (cs:=#[.int .i64 0,.int .i64 0]) (t:=73) ?hr ?_;(case hd=>rfl);(case hg=>rfl);(case hr=>first|(go_simp;done)|(go_simp;rfl));intro gb166 hg w23 hbox hb;have n0_:=Aside0.mk (Kd.R_below (Kd.R_elderB (by (with_reducible repeat (first|apply Kd.R_alloc|apply Kd.R_drewN|apply Kd.R_drew));exact HO_164001.out) gb166 (Nat.le_of_eq hg.symm)) hb);have n1_:=Aside0.mk (blk_below (g:=gb161) (o:=.cells #[.int .i64 a0_0,.slice (some ad165) l0_1.length c0_1,.slice A0_2 l0_2.length c0_2] 29 (0,0)) (by (with_reducible repeat (first|refine blk_drewN ?_ _|refine blk_drew ?_|refine blk_alloc ?_ _));exact BK161.out) hb);have n2_:=Aside0.mk (blk_below (g:=gb162) (o:=.cells #[.int .i64 0,.slice none 0 0,.slice none 0 0] 29 (0,0)) (by (with_reducible repeat (first|refine blk_drewN ?_ _|refine blk_drew ?_|refine blk_alloc ?_ _));exact BK162.out) hb);have n3_:=Aside0.mk (blk_below (g:=gb163) (o:=.cells #[.int .i64 a0_0,u164001,.slice none 0 0] 29 (0,0)) (by (with_reducible repeat (first|refine blk_drewN ?_ _|refine blk_drew ?_|refine blk_alloc ?_ _));exact BK163.out) hb);have n4_:=Aside0.mk (below_step (by repeat (first|(with_reducible first|exact HB.out|apply below_alloc|apply pw_below_drewN|apply below_drew1|refine below_set ?_ GE161.out|refine below_set ?_ GE162.out|refine below_set ?_ GE163.out)|exact HB.out)) hb);have n5_:=Aside0.mk (hbox);have n6_:=Aside0.mk ((by rw [hg];exact (below_size (by repeat (first|(with_reducible first|exact HB.out|apply below_alloc|apply pw_below_drewN|apply below_drew1|refine below_set ?_ GE161.out|refine below_set ?_ GE162.out|refine below_set ?_ GE163.out)|exact HB.out))) : w.heap.size ≤ gb166));have n7_:=Aside0.mk ((by rw [hg];exact (below_size (by repeat (first|(with_reducible first|exact HB.out|apply below_alloc|apply pw_below_drewN|apply below_drew1|refine below_set ?_ GE161.out|refine below_set ?_ GE162.out|refine below_set ?_ GE163.out)|exact HB.out))) : w.heap.size ≤ gb166));have n8_:=Aside0.mk ((by rw [hg];exact Nat.ne_of_lt (blk_lt (g:=gb161) (o:=.cells #[.int .i64 a0_0,.slice (some ad165) l0_1.length c0_1,.slice A0_2 l0_2.length c0_2] 29 (0,0)) (by (with_reducible repeat (first|refine blk_drewN ?_ _|refine blk_drew ?_|refine blk_alloc ?_ _));exact BK161.out)) : gb161 ≠ gb166));have n9_:=Aside0.mk ((by rw [hg];exact Nat.ne_of_gt (blk_lt (g:=gb161) (o:=.cells #[.int .i64 a0_0,.slice (some ad165) l0_1.length c0_1,.slice A0_2 l0_2.length c0_2] 29 (0,0)) (by (with_reducible repeat (first|refine blk_drewN ?_ _|refine blk_drew ?_|refine blk_alloc ?_ _));exact BK161.out)) : gb166 ≠ gb161));have n10_:=Aside0.mk ((by rw [hg];exact Nat.ne_of_lt (blk_lt (g:=gb162) (o:=.cells #[.int .i64 0,.slice none 0 0,.slice none 0 0] 29 (0,0)) (by (with_reducible repeat (first|refine blk_drewN ?_ _|refine blk_drew ?_|refine blk_alloc ?_ _));exact BK162.out)) : gb162 ≠ gb166));have n11_:=Aside0.mk ((by rw [hg];exact Nat.ne_of_gt (blk_lt (g:=gb162) (o:=.cells #[.int .i64 0,.slice none 0 0,.slice none 0 0] 29 (0,0)) (by (with_reducible repeat (first|refine blk_drewN ?_ _|refine blk_drew ?_|refine blk_alloc ?_ _));exact BK162.out)) : gb166 ≠ gb162));have n12_:=Aside0.mk ((by rw [hg];exact Nat.ne_of_lt (blk_lt (g:=gb163) (o:=.cells #[.int .i64 a0_0,u164001,.slice none 0 0] 29 (0,0)) (by (with_reducible repeat (first|refine blk_drewN ?_ _|refine blk_drew ?_|refine blk_alloc ?_ _));exact BK163.out)) : gb163 ≠ gb166));have n13_:=Aside0.mk ((by rw [hg];exact Nat.ne_of_gt (blk_lt (g:=gb163) (o:=.cells #[.int .i64 a0_0,u164001,.slice none 0 0] 29 (0,0)) (by (with_reducible repeat (first|refine blk_drewN ?_ _|refine blk_drew ?_|refine blk_alloc ?_ _));exact BK163.out)) : gb166 ≠ gb163));clear HO_164001;clear BK161;clear BK162;clear BK163;clear HB;have HO_164001:=n0_;have BK161:=n1_;have BK162:=n2_;have BK163:=n3_;have HB:=n4_;have BK166:=n5_;have GW166:=n6_;have GE166:=n7_;have NB161_166:=n8_;have NB166_161:=n9_;have NB162_166:=n10_;have NB166_162:=n11_;have NB163_166:=n12_;have NB166_163:=n13_;clear n0_ n1_ n2_ n3_ n4_ n5_ n6_ n7_ n8_ n9_ n10_ n11_ n12_ n13_;clear hb hbox hg;have hnb24:=NB166_161.out;have hnc24:=NB161_166.out;have hnb25:=NB166_162.out;have hnc25:=NB162_166.out;have hnb26:=NB166_163.out;have hnc26:=NB163_166.out;have hcz27_0 : w23.cell? ⟨gb166,0,none⟩ = some (.int .i64 0):=(blk_cell BK166.out 0).trans rfl;have hcz27_1 : w23.cell? ⟨gb166,1,none⟩ = some (.int .i64 0):=(blk_cell BK166.out 1).trans rfl;have hfz27_0:=blk_frozen BK166.out 0;have hfz27_1:=blk_frozen BK166.out 1))
         have n0_ : Aside0 (Kd.R k73 73 ((w23.setCell ⟨gb166,0,none⟩ (.int .i64 ((rd_T73 l0_1 (rd l1 x16_1)).f0))).setCell ⟨gb166,1,none⟩ (.int .i64 ((rd_T73 l0_1 (rd l1 x16_1)).f1))) w.heap.size (fun k_=>k_ ≠ gb166) u164001 x164001_1):=⟨by (with_reducible repeat (first|apply Kd.R_alloc|apply Kd.R_drewN|apply Kd.R_drew));exact Kd.R_mono (Kd.R_far (p:=⟨gb166,1,none⟩) (Kd.R_far (p:=⟨gb166,0,none⟩) (Kd.R_mono HO_164001.out (fun k_ hk=>(⟨hk,hk.2⟩ : _ ∧ k_ ≠ gb166))) (fun _ hk=>hk.2) (.int .i64 ((rd_T73 l0_1 (rd l1 x16_1)).f0))) (fun _ hk=>hk.2) (.int .i64 ((rd_T73 l0_1 (rd l1 x16_1)).f1))) (fun _ hk=>hk.1.2)⟩
         have n1_ : Aside0 (((w23.setCell ⟨gb166,0,none⟩ (.int .i64 ((rd_T73 l0_1 (rd l1 x16_1)).f0))).setCell ⟨gb166,1,none⟩ (.int .i64 ((rd_T73 l0_1 (rd l1 x16_1)).f1))).heap[gb161]? = some (.cells #[.int .i64 a0_0,.slice (some ad165) l0_1.length c0_1,.slice A0_2 l0_2.length c0_2] 29 (0,0))):=⟨by (with_reducible repeat (first|refine blk_drewN ?_ _|refine blk_drew ?_|refine blk_alloc ?_ _));refine blk_far ?_ NB161_166.out _;(with_reducible repeat (first|refine blk_drewN ?_ _|refine blk_drew ?_|refine blk_alloc ?_ _));refine blk_far ?_ NB161_166.out _;(with_reducible repeat (first|refine blk_drewN ?_ _|refine blk_drew ?_|refine blk_alloc ?_ _));exact BK161.out⟩
         have n2_ : Aside0 (((w23.setCell ⟨gb166,0,none⟩ (.int .i64 ((rd_T73 l0_1 (rd l1 x16_1)).f0))).setCell ⟨gb166,1,none⟩ (.int .i64 ((rd_T73 l0_1 (rd l1 x16_1)).f1))).heap[gb162]? = some (.cells #[.int .i64 0,.slice none 0 0,.slice none 0 0] 29 (0,0))):=⟨by (with_reducible repeat (first|refine blk_drewN ?_ _|refine blk_drew ?_|refine blk_alloc ?_ _));refine blk_far ?_ NB162_166.out _;(with_reducible repeat (first|refine blk_drewN ?_ _|refine blk_drew ?_|refine blk_alloc ?_ _));refine blk_far ?_ NB162_166.out _;(with_reducible repeat (first|refine blk_drewN ?_ _|refine blk_drew ?_|refine blk_alloc ?_ _));exact BK162.out⟩
         have n3_ : Aside0 (((w23.setCell ⟨gb166,0,none⟩ (.int .i64 ((rd_T73 l0_1 (rd l1 x16_1)).f0))).setCell ⟨gb166,1,none⟩ (.int .i64 ((rd_T73 l0_1 (rd l1 x16_1)).f1))).heap[gb163]? = some (.cells #[.int .i64 a0_0,u164001,.slice none 0 0] 29 (0,0))):=⟨by (with_reducible repeat (first|refine blk_drewN ?_ _|refine blk_drew ?_|refine blk_alloc ?_ _));refine blk_far ?_ NB163_166.out _;(with_reducible repeat (first|refine blk_drewN ?_ _|refine blk_drew ?_|refine blk_alloc ?_ _));refine blk_far ?_ NB163_166.out _;(with_reducible repeat (first|refine blk_drewN ?_ _|refine blk_drew ?_|refine blk_alloc ?_ _));exact BK163.out⟩
         have n4_ : Aside0 (((w23.setCell ⟨gb166,0,none⟩ (.int .i64 ((rd_T73 l0_1 (rd l1 x16_1)).f0))).setCell ⟨gb166,1,none⟩ (.int .i64 ((rd_T73 l0_1 (rd l1 x16_1)).f1))).heap[gb166]? = some (.cells #[.int .i64 ((rd_T73 l0_1 (rd l1 x16_1)).f0),.int .i64 ((rd_T73 l0_1 (rd l1 x16_1)).f1)] 73 (0,0))):=⟨by (with_reducible repeat (first|refine blk_drewN ?_ _|refine blk_drew ?_|refine blk_alloc ?_ _));refine blk_put (cs:=#[.int .i64 ((rd_T73 l0_1 (rd l1 x16_1)).f0),.int .i64 0]) ?_ 1 _ rfl;(with_reducible repeat (first|refine blk_drewN ?_ _|refine blk_drew ?_|refine blk_alloc ?_ _));refine blk_put (cs:=#[.int .i64 0,.int .i64 0]) ?_ 0 _ rfl;(with_reducible repeat (first|refine blk_drewN ?_ _|refine blk_drew ?_|refine blk_alloc ?_ _));exact BK166.out⟩
         have n5_ : Aside0 (Below w.heap.size w ((w23.setCell ⟨gb166,0,none⟩ (.int .i64 ((rd_T73 l0_1 (rd l1 x16_1)).f0))).setCell ⟨gb166,1,none⟩ (.int .i64 ((rd_T73 l0_1 (rd l1 x16_1)).f1)))):=⟨by repeat (first|(with_reducible first|exact HB.out|apply below_alloc|apply pw_below_drewN|apply below_drew1|refine below_set ?_ GE161.out|refine below_set ?_ GE162.out|refine below_set ?_ GE163.out|refine below_set ?_ GE166.out)|exact HB.out)⟩
         (try clear HO_164001)
         (try clear BK161)
         (try clear BK162)
         (try clear BK163)
         (try clear BK166)
         (try clear HB)
         generalize ((w23.setCell ⟨gb166,0,none⟩ (.int .i64 ((rd_T73 l0_1 (rd l1 x16_1)).f0))).setCell ⟨gb166,1,none⟩ (.int .i64 ((rd_T73 l0_1 (rd l1 x16_1)).f1))) = w28 at n0_ n1_ n2_ n3_ n4_ n5_ ⊢
         have HO_164001:=n0_
         have BK161:=n1_
         have BK162:=n2_
         have BK163:=n3_
         have BK166:=n4_
         have HB:=n5_
         clear n0_ n1_ n2_ n3_ n4_ n5_
         have n0_:=Aside0.mk (Kd.R_drew HO_164001.out)
         have n1_:=Aside0.mk (blk_drew BK161.out)
         have n2_:=Aside0.mk (blk_drew BK162.out)
         have n3_:=Aside0.mk (blk_drew BK163.out)
         have n4_:=Aside0.mk (blk_drew BK166.out)
         have n5_:=Aside0.mk (below_drew1 HB.out)
         clear HO_164001
         clear BK161
         clear BK162
         clear BK163
         clear BK166
         clear HB
         have HO_164001:=n0_
         have BK161:=n1_
         have BK162:=n2_
         have BK163:=n3_
         have BK166:=n4_
         have HB:=n5_
         clear n0_ n1_ n2_ n3_ n4_ n5_
         refine start_ (n:=17) (S:=fun w'=>w'.cell? ⟨gb163,0,none⟩ = some (.int .i64 a0_0) ∧ w'.cell? ⟨gb163,1,none⟩ = some (u164001) ∧ w'.cell? ⟨gb163,2,none⟩ = some (.slice none 0 0) ∧ w'.cell? ⟨gb161,0,none⟩ = some (.int .i64 a0_0) ∧ w'.cell? ⟨gb161,1,none⟩ = some (.slice (some ad165) l0_1.length c0_1) ∧ w'.cell? ⟨gb161,2,none⟩ = some (.slice A0_2 l0_2.length c0_2) ∧ w'.cell? ⟨gb166,0,none⟩ = some (.int .i64 ((rd_T73 l0_1 (rd l1 x16_1)).f0)) ∧ w'.cell? ⟨gb166,1,none⟩ = some (.int .i64 ((rd_T73 l0_1 (rd l1 x16_1)).f1))) (ds:=[16]) #[false,false,false,false,false,false,false,false,false,false,false,false,false,false,false,false,false] (by kernel_rfl) rfl rfl ⟨(blk_cell BK163.out 0).trans rfl,(blk_cell BK163.out 1).trans rfl,(blk_cell BK163.out 2).trans rfl,(blk_cell BK161.out 0).trans rfl,(blk_cell BK161.out 1).trans rfl,(blk_cell BK161.out 2).trans rfl,(blk_cell BK166.out 0).trans rfl,(blk_cell BK166.out 1).trans rfl⟩ (fun hHeld=>?_);refine with_tabW spec_plKeep.tab6 spec_plKeep.bits6 (fun HT_ HW_=>?_)
         generalize w28.drew = w29 at HO_164001 BK161 BK162 BK163 BK166 HB hHeld ⊢
         refine pure_ (i:=0) (N:=some 25) (v:=?_) (a':=?_) #[true,false,false,false,false,false,false,false,false,false,false,false,false,false,false,false,false] rfl rfl (any_of HT_.out (by kernel_rfl)) (fun _ _ _ h=>h) (Or.inl ⟨by rfl,?_⟩) ?_ ?_
         rotate_left
         ·intro w'
          go_simp
          with_reducible rfl
         rotate_left
         ·simp only [Act.put,List.setIfInBounds_toArray,List.set_cons_zero,List.set_cons_succ,i64_w,i32_w]
          rfl
         refine pure_ (i:=3) (N:=some 28) (v:=?_) (a':=?_) #[true,false,false,true,false,false,false,false,false,false,false,false,false,false,false,false,false] rfl rfl (any_of HT_.out (by kernel_rfl)) (fun _ _ _ h=>h) (Or.inl ⟨by rfl,?_⟩) ?_ ?_
         rotate_left
         ·intro w'
          go_simp
          with_reducible rfl
         rotate_left
         ·simp only [Act.put,List.setIfInBounds_toArray,List.set_cons_zero,List.set_cons_succ,i64_w,i32_w]
          rfl
         refine pure_ (i:=4) (N:=some 29) (v:=?_) (a':=?_) #[true,false,false,true,true,false,false,false,false,false,false,false,false,false,false,false,false] rfl rfl (any_of HT_.out (by kernel_rfl)) (fun _ _ _ h=>h) (Or.inl ⟨by rfl,?_⟩) ?_ ?_
         rotate_left
         ·intro w'
          go_simp
          with_reducible rfl
         rotate_left
         ·simp only [Act.put,List.setIfInBounds_toArray,List.set_cons_zero,List.set_cons_succ,i64_w,i32_w]
          rfl
         refine pure_ (i:=8) (N:=some 33) (v:=?_) (a':=?_) #[true,false,false,true,true,false,false,false,true,false,false,false,false,false,false,false,false] rfl rfl (any_of HT_.out (by kernel_rfl)) (fun _ _ _ h=>h) (Or.inl ⟨by rfl,?_⟩) ?_ ?_
         rotate_left
         ·intro w'
          go_simp
          with_reducible rfl
         rotate_left
         ·simp only [Act.put,List.setIfInBounds_toArray,List.set_cons_zero,List.set_cons_succ,i64_w,i32_w]
          rfl
         refine pure_ (i:=9) (N:=some 34) (v:=?_) (a':=?_) #[true,false,false,true,true,false,false,false,true,true,false,false,false,false,false,false,false] rfl rfl (any_of HT_.out (by kernel_rfl)) (fun _ _ _ h=>h) (Or.inl ⟨by rfl,?_⟩) ?_ ?_
         rotate_left
         ·intro w'
          go_simp
          with_reducible rfl
         rotate_left
         ·simp only [Act.put,List.setIfInBounds_toArray,List.set_cons_zero,List.set_cons_succ,i64_w,i32_w]
          rfl
         refine take_ (i:=1) (N:=some 26) (v:=?_) (a':=?_) #[true,true,false,true,true,false,false,false,true,true,false,false,false,false,false,false,false] rfl rfl (take_ofW HT_.out HW_.out (by kernel_rfl)) (fun _ _ _ h=>h) (Or.inl ⟨by rfl,?_⟩) hHeld ?_ ?_
         rotate_left
         ·rintro w' ⟨s0,s1,s2,s3,s4,s5,s6,s7⟩
          go_simp
          with_reducible rfl
         rotate_left
         ·simp only [Act.put,List.setIfInBounds_toArray,List.set_cons_zero,List.set_cons_succ,i64_w,i32_w]
          rfl
         refine take_ (i:=2) (N:=some 27) (v:=?_) (a':=?_) #[true,true,true,true,true,false,false,false,true,true,false,false,false,false,false,false,false] rfl rfl (take_ofW HT_.out HW_.out (by kernel_rfl)) (fun _ _ _ h=>h) (Or.inl ⟨by rfl,?_⟩) hHeld ?_ ?_
         rotate_left
         ·rintro w' ⟨s0,s1,s2,s3,s4,s5,s6,s7⟩
          go_simp
          with_reducible rfl
         rotate_left
         ·simp only [Act.put,List.setIfInBounds_toArray,List.set_cons_zero,List.set_cons_succ,i64_w,i32_w]
          rfl
         refine take_ (i:=5) (N:=some 30) (v:=?_) (a':=?_) #[true,true,true,true,true,true,false,false,true,true,false,false,false,false,false,false,false] rfl rfl (take_ofW HT_.out HW_.out (by kernel_rfl)) (fun _ _ _ h=>h) (Or.inl ⟨by rfl,?_⟩) hHeld ?_ ?_
         rotate_left
         ·rintro w' ⟨s0,s1,s2,s3,s4,s5,s6,s7⟩
          go_simp
          with_reducible rfl
         rotate_left
         ·simp only [Act.put,List.setIfInBounds_toArray,List.set_cons_zero,List.set_cons_succ,i64_w,i32_w]
          rfl
         refine take_ (i:=7) (N:=some 32) (v:=?_) (a':=?_) #[true,true,true,true,true,true,false,true,true,true,false,false,false,false,false,false,false] rfl rfl (take_ofW HT_.out HW_.out (by kernel_rfl)) (fun _ _ _ h=>h) (Or.inl ⟨by rfl,?_⟩) hHeld ?_ ?_
         rotate_left
         ·rintro w' ⟨s0,s1,s2,s3,s4,s5,s6,s7⟩
          go_simp
          with_reducible rfl
         rotate_left
         ·simp only [Act.put,List.setIfInBounds_toArray,List.set_cons_zero,List.set_cons_succ,i64_w,i32_w]
          rfl
         refine take_ (i:=10) (N:=some 35) (v:=?_) (a':=?_) #[true,true,true,true,true,true,false,true,true,true,true,false,false,false,false,false,false] rfl rfl (take_ofW HT_.out HW_.out (by kernel_rfl)) (fun _ _ _ h=>h) (Or.inl ⟨by rfl,?_⟩) hHeld ?_ ?_
         rotate_left
         ·rintro w' ⟨s0,s1,s2,s3,s4,s5,s6,s7⟩
          go_simp
          with_reducible rfl
         rotate_left
         ·simp only [Act.put,List.setIfInBounds_toArray,List.set_cons_zero,List.set_cons_succ,i64_w,i32_w]
          rfl
         refine one_ (i:=6) (N:=some 31) #[true,true,true,true,true,true,true,true,true,true,true,false,false,false,false,false,false] rfl rfl (one_of HT_.out (by kernel_rfl)) (by decide) (fun K hK=>?_)
         refine goes_ Try.func97 (by kernel_rfl) rfl #[.agg #[.int .i64 a0_0,.slice (some ad165) l0_1.length c0_1,.slice A0_2 l0_2.length c0_2],.slice (some ad164) l1.length c1,.int .i64 ((rd_T73 l0_1 (rd l1 x16_1)).f0)] (by rfl) rfl rfl (by (try simp only [List.map_toArray,List.map_cons,List.map_nil]);first|done|rfl|(simp only [List.length_drop,List.length_take];rfl)) ?_
         with_reducible refine (spec_plNumber.calls k1 a0_0 _ _ l0_1 _ _ l0_2 _ _ l1 ((rd_T73 l0_1 (rd l1 x16_1)).f0) t167 _ ?side1 ?side2 ?side3 ?side4 ?side5 ?side6 A16.out).mono ?_
         (case side1=>repeat (first|exact (Kd.C_below HR0_1.out HB.out)|(with_reducible refine Kd.C_alloc ?_ _)|(with_reducible refine Kd.C_drewN ?_ _)|(with_reducible refine Kd.C_drew ?_)))
         (case side2=>exact HC0_1.out)
         (case side3=>repeat (first|exact (Kd.C_below HR0_2.out HB.out)|(with_reducible refine Kd.C_alloc ?_ _)|(with_reducible refine Kd.C_drewN ?_ _)|(with_reducible refine Kd.C_drew ?_)))
         (case side4=>exact HC0_2.out)
         (case side5=>repeat (first|exact (Kd.C_below HR1.out HB.out)|(with_reducible refine Kd.C_alloc ?_ _)|(with_reducible refine Kd.C_drewN ?_ _)|(with_reducible refine Kd.C_drew ?_)))
         (case side6=>exact HC1.out)
         rintro e w30 ⟨rfl,hb⟩
         refine ⟨_,rfl,?_⟩
         have n0_:=Aside0.mk (Kd.R_below (by (with_reducible repeat (first|apply Kd.R_alloc|apply Kd.R_drewN|apply Kd.R_drew));exact HO_164001.out) hb)
         have n1_:=Aside0.mk (blk_below (g:=gb161) (o:=.cells #[.int .i64 a0_0,.slice (some ad165) l0_1.length c0_1,.slice A0_2 l0_2.length c0_2] 29 (0,0)) (by (with_reducible repeat (first|refine blk_drewN ?_ _|refine blk_drew ?_|refine blk_alloc ?_ _));exact BK161.out) hb)
         have n2_:=Aside0.mk (blk_below (g:=gb162) (o:=.cells #[.int .i64 0,.slice none 0 0,.slice none 0 0] 29 (0,0)) (by (with_reducible repeat (first|refine blk_drewN ?_ _|refine blk_drew ?_|refine blk_alloc ?_ _));exact BK162.out) hb)
         have n3_:=Aside0.mk (blk_below (g:=gb163) (o:=.cells #[.int .i64 a0_0,u164001,.slice none 0 0] 29 (0,0)) (by (with_reducible repeat (first|refine blk_drewN ?_ _|refine blk_drew ?_|refine blk_alloc ?_ _));exact BK163.out) hb)
         have n4_:=Aside0.mk (blk_below (g:=gb166) (o:=.cells #[.int .i64 ((rd_T73 l0_1 (rd l1 x16_1)).f0),.int .i64 ((rd_T73 l0_1 (rd l1 x16_1)).f1)] 73 (0,0)) (by (with_reducible repeat (first|refine blk_drewN ?_ _|refine blk_drew ?_|refine blk_alloc ?_ _));exact BK166.out) hb)
         have n5_:=Aside0.mk (below_step (by repeat (first|(with_reducible first|exact HB.out|apply below_alloc|apply pw_below_drewN|apply below_drew1|refine below_set ?_ GE161.out|refine below_set ?_ GE162.out|refine below_set ?_ GE163.out|refine below_set ?_ GE166.out)|exact HB.out)) hb)
         clear HO_164001
         clear BK161
         clear BK162
         clear BK163
         clear BK166
         clear HB
         have HO_164001:=n0_
         have BK161:=n1_
         have BK162:=n2_
         have BK163:=n3_
         have BK166:=n4_
         have HB:=n5_
         clear n0_ n1_ n2_ n3_ n4_ n5_
         (try clear hb)
         refine hK.out _ _ ⟨(blk_cell BK163.out 0).trans rfl,(blk_cell BK163.out 1).trans rfl,(blk_cell BK163.out 2).trans rfl,(blk_cell BK161.out 0).trans rfl,(blk_cell BK161.out 1).trans rfl,(blk_cell BK161.out 2).trans rfl,(blk_cell BK166.out 0).trans rfl,(blk_cell BK166.out 1).trans rfl⟩ (fun hHeld=>?_)
         clear hK K
         refine norm_ (a':=?_) ?_ ?_
         rotate_left
         ·show Act.put _ (some 31) _ = _
          simp only [Act.put,List.setIfInBounds_toArray,List.set_cons_zero,List.set_cons_succ,i64_w,i32_w]
          rfl
         refine one_ (i:=11) (N:=some 36) #[true,true,true,true,true,true,true,true,true,true,true,true,false,false,false,false,false] rfl rfl (one_of HT_.out (by kernel_rfl)) (by decide) (fun K hK=>?_)
         refine goes_ Try.func97 (by kernel_rfl) rfl #[.agg #[.int .i64 a0_0,.slice (some ad165) l0_1.length c0_1,.slice A0_2 l0_2.length c0_2],.slice (some ad164) l1.length c1,.int .i64 ((rd_T73 l0_1 (rd l1 x16_1)).f1)] (by rfl) rfl rfl (by (try simp only [List.map_toArray,List.map_cons,List.map_nil]);first|done|rfl|(simp only [List.length_drop,List.length_take];rfl)) ?_
         with_reducible refine (spec_plNumber.calls k1 a0_0 _ _ l0_1 _ _ l0_2 _ _ l1 ((rd_T73 l0_1 (rd l1 x16_1)).f1) t168 _ ?side1 ?side2 ?side3 ?side4 ?side5 ?side6 A17.out).mono ?_
         (case side1=>repeat (first|exact (Kd.C_below HR0_1.out HB.out)|(with_reducible refine Kd.C_alloc ?_ _)|(with_reducible refine Kd.C_drewN ?_ _)|(with_reducible refine Kd.C_drew ?_)))
         (case side2=>exact HC0_1.out)
         (case side3=>repeat (first|exact (Kd.C_below HR0_2.out HB.out)|(with_reducible refine Kd.C_alloc ?_ _)|(with_reducible refine Kd.C_drewN ?_ _)|(with_reducible refine Kd.C_drew ?_)))
         (case side4=>exact HC0_2.out)
         (case side5=>repeat (first|exact (Kd.C_below HR1.out HB.out)|(with_reducible refine Kd.C_alloc ?_ _)|(with_reducible refine Kd.C_drewN ?_ _)|(with_reducible refine Kd.C_drew ?_)))
         (case side6=>exact HC1.out)
         rintro e w31 ⟨rfl,hb⟩
         refine ⟨_,rfl,?_⟩
         have n0_:=Aside0.mk (Kd.R_below (by (with_reducible repeat (first|apply Kd.R_alloc|apply Kd.R_drewN|apply Kd.R_drew));exact HO_164001.out) hb)
         have n1_:=Aside0.mk (blk_below (g:=gb161) (o:=.cells #[.int .i64 a0_0,.slice (some ad165) l0_1.length c0_1,.slice A0_2 l0_2.length c0_2] 29 (0,0)) (by (with_reducible repeat (first|refine blk_drewN ?_ _|refine blk_drew ?_|refine blk_alloc ?_ _));exact BK161.out) hb)
         have n2_:=Aside0.mk (blk_below (g:=gb162) (o:=.cells #[.int .i64 0,.slice none 0 0,.slice none 0 0] 29 (0,0)) (by (with_reducible repeat (first|refine blk_drewN ?_ _|refine blk_drew ?_|refine blk_alloc ?_ _));exact BK162.out) hb)
         have n3_:=Aside0.mk (blk_below (g:=gb163) (o:=.cells #[.int .i64 a0_0,u164001,.slice none 0 0] 29 (0,0)) (by (with_reducible repeat (first|refine blk_drewN ?_ _|refine blk_drew ?_|refine blk_alloc ?_ _));exact BK163.out) hb)
         have n4_:=Aside0.mk (blk_below (g:=gb166) (o:=.cells #[.int .i64 ((rd_T73 l0_1 (rd l1 x16_1)).f0),.int .i64 ((rd_T73 l0_1 (rd l1 x16_1)).f1)] 73 (0,0)) (by (with_reducible repeat (first|refine blk_drewN ?_ _|refine blk_drew ?_|refine blk_alloc ?_ _));exact BK166.out) hb)
         have n5_:=Aside0.mk (below_step (by repeat (first|(with_reducible first|exact HB.out|apply below_alloc|apply pw_below_drewN|apply below_drew1|refine below_set ?_ GE161.out|refine below_set ?_ GE162.out|refine below_set ?_ GE163.out|refine below_set ?_ GE166.out)|exact HB.out)) hb)
         clear HO_164001
         clear BK161
         clear BK162
         clear BK163
         clear BK166
         clear HB
         have HO_164001:=n0_
         have BK161:=n1_
         have BK162:=n2_
         have BK163:=n3_
         have BK166:=n4_
         have HB:=n5_
         clear n0_ n1_ n2_ n3_ n4_ n5_
         (try clear hb)
         refine hK.out _ _ ⟨(blk_cell BK163.out 0).trans rfl,(blk_cell BK163.out 1).trans rfl,(blk_cell BK163.out 2).trans rfl,(blk_cell BK161.out 0).trans rfl,(blk_cell BK161.out 1).trans rfl,(blk_cell BK161.out 2).trans rfl,(blk_cell BK166.out 0).trans rfl,(blk_cell BK166.out 1).trans rfl⟩ (fun hHeld=>?_)
         clear hK K
         refine norm_ (a':=?_) ?_ ?_
         rotate_left
         ·show Act.put _ (some 36) _ = _
          simp only [Act.put,List.setIfInBounds_toArray,List.set_cons_zero,List.set_cons_succ,i64_w,i32_w]
          rfl
         refine one_ (i:=12) (N:=some 37) #[true,true,true,true,true,true,true,true,true,true,true,true,true,false,false,false,false] rfl rfl (one_of HT_.out (by kernel_rfl)) (by decide) (fun K hK=>?_)
         refine goes_ Try.func63 (by kernel_rfl) rfl #[.int .i64 t167,.int .i64 t168] (by rfl) rfl rfl (by (try simp only [List.map_toArray,List.map_cons,List.map_nil]);first|done|rfl|(simp only [List.length_drop,List.length_take];rfl)) ?_
         with_reducible refine (spec_plStep.calls t167 t168 t169 t170 _ A18.out).mono ?_
         rintro e w32 ⟨rfl,hb⟩
         refine ⟨_,rfl,?_⟩
         have n0_:=Aside0.mk (Kd.R_below (by (with_reducible repeat (first|apply Kd.R_alloc|apply Kd.R_drewN|apply Kd.R_drew));exact HO_164001.out) hb)
         have n1_:=Aside0.mk (blk_below (g:=gb161) (o:=.cells #[.int .i64 a0_0,.slice (some ad165) l0_1.length c0_1,.slice A0_2 l0_2.length c0_2] 29 (0,0)) (by (with_reducible repeat (first|refine blk_drewN ?_ _|refine blk_drew ?_|refine blk_alloc ?_ _));exact BK161.out) hb)
         have n2_:=Aside0.mk (blk_below (g:=gb162) (o:=.cells #[.int .i64 0,.slice none 0 0,.slice none 0 0] 29 (0,0)) (by (with_reducible repeat (first|refine blk_drewN ?_ _|refine blk_drew ?_|refine blk_alloc ?_ _));exact BK162.out) hb)
         have n3_:=Aside0.mk (blk_below (g:=gb163) (o:=.cells #[.int .i64 a0_0,u164001,.slice none 0 0] 29 (0,0)) (by (with_reducible repeat (first|refine blk_drewN ?_ _|refine blk_drew ?_|refine blk_alloc ?_ _));exact BK163.out) hb)
         have n4_:=Aside0.mk (blk_below (g:=gb166) (o:=.cells #[.int .i64 ((rd_T73 l0_1 (rd l1 x16_1)).f0),.int .i64 ((rd_T73 l0_1 (rd l1 x16_1)).f1)] 73 (0,0)) (by (with_reducible repeat (first|refine blk_drewN ?_ _|refine blk_drew ?_|refine blk_alloc ?_ _));exact BK166.out) hb)
         have n5_:=Aside0.mk (below_step (by repeat (first|(with_reducible first|exact HB.out|apply below_alloc|apply pw_below_drewN|apply below_drew1|refine below_set ?_ GE161.out|refine below_set ?_ GE162.out|refine below_set ?_ GE163.out|refine below_set ?_ GE166.out)|exact HB.out)) hb)
         clear HO_164001
         clear BK161
         clear BK162
         clear BK163
         clear BK166
         clear HB
         have HO_164001:=n0_
         have BK161:=n1_
         have BK162:=n2_
         have BK163:=n3_
         have BK166:=n4_
         have HB:=n5_
         clear n0_ n1_ n2_ n3_ n4_ n5_
         (try clear hb)
         refine hK.out _ _ ⟨(blk_cell BK163.out 0).trans rfl,(blk_cell BK163.out 1).trans rfl,(blk_cell BK163.out 2).trans rfl,(blk_cell BK161.out 0).trans rfl,(blk_cell BK161.out 1).trans rfl,(blk_cell BK161.out 2).trans rfl,(blk_cell BK166.out 0).trans rfl,(blk_cell BK166.out 1).trans rfl⟩ (fun hHeld=>?_)
         clear hK K
         refine norm_ (a':=?_) ?_ ?_
         rotate_left
         ·show Act.put _ (some 37) _ = _
          simp only [Act.put,List.setIfInBounds_toArray,List.set_cons_zero,List.set_cons_succ,i64_w,i32_w]
          rfl
         refine one_ (i:=13) (N:=some 38) #[true,true,true,true,true,true,true,true,true,true,true,true,true,true,false,false,false] rfl rfl (one_of HT_.out (by kernel_rfl)) (by decide) (fun K hK=>?_)
         refine value_ (w1:=?_) (v:=?_) (by rfl) rfl ?_ ?_
         rotate_left 2
         ·go_simp
          constructor
          ·rfl
          ·rfl
         refine hK.out _ _ ⟨(blk_cell (blk_alloc BK163.out _) 0).trans rfl,(blk_cell (blk_alloc BK163.out _) 1).trans rfl,(blk_cell (blk_alloc BK163.out _) 2).trans rfl,(blk_cell (blk_alloc BK161.out _) 0).trans rfl,(blk_cell (blk_alloc BK161.out _) 1).trans rfl,(blk_cell (blk_alloc BK161.out _) 2).trans rfl,(blk_cell (blk_alloc BK166.out _) 0).trans rfl,(blk_cell (blk_alloc BK166.out _) 1).trans rfl⟩ (fun hHeld=>?_)
         clear hK K
         refine norm_ (a':=?_) ?_ ?_
         rotate_left
         ·show Act.put _ (some 38) _ = _
          simp only [Act.put,List.setIfInBounds_toArray,List.set_cons_zero,List.set_cons_succ,i64_w,i32_w]
          rfl
         refine one_ (i:=14) (N:=some 39) #[true,true,true,true,true,true,true,true,true,true,true,true,true,true,true,false,false] rfl rfl (one_of HT_.out (by kernel_rfl)) (by decide) (fun K hK=>?_)
         refine Kd.R_append_step k73 (w0:=w) w.heap.size (by rfl) (.tmp 26) (.tmp 38) 27 73 (.agg #[(.int .i64 0),(.int .i64 0)]) 16 rfl Try.underlying27 info73 rfl (by decide) (by omega) u164001 x164001_1 (⟨t169,t170⟩ : S73) [.int .i64 t169,.int .i64 t170] (fun k_=>k_ ≠ gb166) (fun _=>False) rfl rfl ?aP (fun _ hk=>hk.elim) ?aF ?aO ?aB ?aS ?aL ?_
         (case aP=>exact k73_mkM _ _ _ (⟨t169,t170⟩ : S73))
         (case aB=>exact (by repeat (first|(with_reducible first|exact HB.out|apply below_alloc|apply pw_below_drewN|apply below_drew1|refine below_set ?_ GE161.out|refine below_set ?_ GE162.out|refine below_set ?_ GE163.out|refine below_set ?_ GE166.out)|exact HB.out)))
         (case aF=>exact (fun k_ hk=>Kd.freshB (g:=gb166) (o:=.cells #[.int .i64 ((rd_T73 l0_1 (rd l1 x16_1)).f0),.int .i64 ((rd_T73 l0_1 (rd l1 x16_1)).f1)] 73 (0,0)) (by (with_reducible repeat (first|refine blk_drewN ?_ _|refine blk_drew ?_|refine blk_alloc ?_ _));exact BK166.out) k_ hk))
         (case aO=>exact (by (with_reducible repeat (first|apply Kd.R_alloc|apply Kd.R_drewN|apply Kd.R_drew));exact HO_164001.out))
         (case aS=>exact (below_size (by repeat (first|(with_reducible first|exact HB.out|apply below_alloc|apply pw_below_drewN|apply below_drew1|refine below_set ?_ GE161.out|refine below_set ?_ GE162.out|refine below_set ?_ GE163.out|refine below_set ?_ GE166.out)|exact HB.out))))
         (case aL=>have:=LMc19.out;omega)
         intro v172 w33 ho hb hg hat
         rw [← Ny171.out] at ho
         have n0_:=Aside0.mk (blk_grown (g:=gb161) (o:=.cells #[.int .i64 a0_0,.slice (some ad165) l0_1.length c0_1,.slice A0_2 l0_2.length c0_2] 29 (0,0)) (by (with_reducible repeat (first|refine blk_drewN ?_ _|refine blk_drew ?_|refine blk_alloc ?_ _));exact BK161.out) hg (Kd.R_ne HO_164001.out BK161.out (by decide)))
         have n1_:=Aside0.mk (blk_grown (g:=gb162) (o:=.cells #[.int .i64 0,.slice none 0 0,.slice none 0 0] 29 (0,0)) (by (with_reducible repeat (first|refine blk_drewN ?_ _|refine blk_drew ?_|refine blk_alloc ?_ _));exact BK162.out) hg (Kd.R_ne HO_164001.out BK162.out (by decide)))
         have n2_:=Aside0.mk (blk_grown (g:=gb163) (o:=.cells #[.int .i64 a0_0,u164001,.slice none 0 0] 29 (0,0)) (by (with_reducible repeat (first|refine blk_drewN ?_ _|refine blk_drew ?_|refine blk_alloc ?_ _));exact BK163.out) hg (Kd.R_ne HO_164001.out BK163.out (by decide)))
         have n3_:=Aside0.mk (blk_grown (g:=gb166) (o:=.cells #[.int .i64 ((rd_T73 l0_1 (rd l1 x16_1)).f0),.int .i64 ((rd_T73 l0_1 (rd l1 x16_1)).f1)] 73 (0,0)) (by (with_reducible repeat (first|refine blk_drewN ?_ _|refine blk_drew ?_|refine blk_alloc ?_ _));exact BK166.out) hg (Kd.R_away HO_164001.out (fun _ hk=>hk)))
         have n4_:=Aside0.mk (hb)
         have n5_:=Aside0.mk (ho)
         clear BK161
         clear BK162
         clear BK163
         clear BK166
         clear HB
         clear HO_164001
         have BK161:=n0_
         have BK162:=n1_
         have BK163:=n2_
         have BK166:=n3_
         have HB:=n4_
         have HO173:=n5_
         clear n0_ n1_ n2_ n3_ n4_ n5_
         clear ho hb hg hat
         obtain ⟨Ao34,co34,eo34⟩:=Kd.R_slice HO173.out
         (first|subst eo34|(injection eo34 with f1_ f2_ f3_;have f4_:=f1_.symm;have f5_:=f3_.symm;clear f1_ f2_ f3_;subst f4_;subst f5_))
         refine hK.out _ _ ⟨(blk_cell BK163.out 0).trans rfl,(blk_cell BK163.out 1).trans rfl,(blk_cell BK163.out 2).trans rfl,(blk_cell BK161.out 0).trans rfl,(blk_cell BK161.out 1).trans rfl,(blk_cell BK161.out 2).trans rfl,(blk_cell BK166.out 0).trans rfl,(blk_cell BK166.out 1).trans rfl⟩ (fun hHeld=>?_)
         clear hK K
         refine norm_ (a':=?_) ?_ ?_
         rotate_left
         ·show Act.put _ (some 39) _ = _
          simp only [Act.put,List.setIfInBounds_toArray,List.set_cons_zero,List.set_cons_succ,i64_w,i32_w]
          rfl
         refine pure_ (i:=15) (N:=some 40) (v:=?_) (a':=?_) #[true,true,true,true,true,true,true,true,true,true,true,true,true,true,true,true,false] rfl rfl (any_of HT_.out (by kernel_rfl)) (fun _ _ _ h=>h) (Or.inl ⟨by rfl,?_⟩) ?_ ?_
         rotate_left
         ·intro w'
          go_simp
          with_reducible rfl
         rotate_left
         ·simp only [Act.put,List.setIfInBounds_toArray,List.set_cons_zero,List.set_cons_succ,i64_w,i32_w]
          rfl
         refine last_ (i:=16) (N:=none) #[true,true,true,true,true,true,true,true,true,true,true,true,true,true,true,true,true] rfl rfl (one_of HT_.out (by kernel_rfl)) (by decide) (fun K hK=>?_)
         have hs35 : w33.cell? ⟨gb163,1,none⟩ = some (u164001):=(blk_cell BK163.out 1).trans rfl
         have hfs35:=blk_frozen BK163.out 1
         have hns35_0:=NB161_163.out
         have hns35_1:=NB162_163.out
         have hns35_3:=NB166_163.out
         have hms35_0:=NB163_161.out
         have hms35_1:=NB163_162.out
         have hms35_3:=NB163_166.out
         refine skip_ (w1:=?_) (by rfl) rfl ?_ ?_
         rotate_left
         ·go_simp
          rfl
         refine hK.out _ _ ?_
         clear hK K
         refine done_ (done_of HT_.out (by kernel_rfl)) ?_
         try go_wp2
         go_roundg k1
         case measure=>have:=HK1.out;omega
         case rel=>exact ⟨(wrap64 (x16_1 + 1)),(y171),(.slice Ao34 y171.length co34),(by first|rfl|(simp;done)|(simp [*];done)),H',⟨by have:=HK1.out;omega⟩,⟨by (with_reducible repeat (first|apply Kd.R_alloc|apply Kd.R_drewN|apply Kd.R_drew));exact Kd.R_mono (Kd.R_far (p:=⟨gb163,1,none⟩) (Kd.R_types HO173.out BK163.out (by decide)) (fun _ hk=>hk.2) (.slice Ao34 y171.length co34)) (fun _ hk=>trivial)⟩,⟨by (with_reducible repeat (first|refine blk_drewN ?_ _|refine blk_drew ?_|refine blk_alloc ?_ _));refine blk_far ?_ NB161_163.out _;(with_reducible repeat (first|refine blk_drewN ?_ _|refine blk_drew ?_|refine blk_alloc ?_ _));exact BK161.out⟩,⟨by (with_reducible repeat (first|refine blk_drewN ?_ _|refine blk_drew ?_|refine blk_alloc ?_ _));refine blk_far ?_ NB162_163.out _;(with_reducible repeat (first|refine blk_drewN ?_ _|refine blk_drew ?_|refine blk_alloc ?_ _));exact BK162.out⟩,⟨by (with_reducible repeat (first|refine blk_drewN ?_ _|refine blk_drew ?_|refine blk_alloc ?_ _));refine blk_put (cs:=#[.int .i64 a0_0,u164001,.slice none 0 0]) ?_ 1 _ rfl;(with_reducible repeat (first|refine blk_drewN ?_ _|refine blk_drew ?_|refine blk_alloc ?_ _));exact BK163.out⟩,⟨by repeat (first|(with_reducible first|exact HB.out|apply below_alloc|apply pw_below_drewN|apply below_drew1|refine below_set ?_ GE161.out|refine below_set ?_ GE162.out|refine below_set ?_ GE163.out|refine below_set ?_ GE166.out)|exact HB.out)⟩⟩
        ·rw [if_neg c19] at H
         exact absurd H (by simp)
       ·rw [if_neg c15] at H
        exact absurd H (by simp)
      ·rw [if_neg c14] at H
       exact absurd H (by simp)
     ·rw [if_neg c13] at H
      exact absurd H (by simp)
    ·rw [if_neg c12] at H
     exact absurd H (by simp)
   ·rw [if_neg c11] at H
    have c11b0 : decide (x16_1 < (l1.length : Int)) = false:=decide_eq_false c11
    clear c11
    have H':=Aside0.mk H
    clear H
    have hnb36:=NB161_162.out
    have hnc36:=NB162_161.out
    have hnb37:=NB161_163.out
    have hnc37:=NB163_161.out
    have hcz38_0 : wr.cell? ⟨gb161,0,none⟩ = some (.int .i64 a0_0):=(blk_cell BK161.out 0).trans rfl
    have hcz38_1 : wr.cell? ⟨gb161,1,none⟩ = some (.slice A0_1 l0_1.length c0_1):=(blk_cell BK161.out 1).trans rfl
    have hcz38_2 : wr.cell? ⟨gb161,2,none⟩ = some (.slice A0_2 l0_2.length c0_2):=(blk_cell BK161.out 2).trans rfl
    have hfz38_0:=blk_frozen BK161.out 0
    have hfz38_1:=blk_frozen BK161.out 1
    have hfz38_2:=blk_frozen BK161.out 2
    go_wp2
    go_loopg [45] k1 (fun kq v45 w'=>∃ (x45_2 : Int) (x164002_2 : List Int) (u164002 : Value),v45 = .int .i64 x45_2 ∧ Aside0 (spec_plKeep.l1 kq l1 l0_2 (l0_2.length : Int) x45_2 a0_0 l0_1 l0_2 a0_0 x164001_1 x164002_2 = some (r1,r2,r3)) ∧ Aside0 (kq ≤ k1) ∧ Aside0 (Kd.R k73 73 w' w.heap.size (fun _=>True) u164001 x164001_1) ∧ Aside0 (Kd.R (Kd.int .i64) 3 w' w.heap.size (fun _=>True) u164002 x164002_2) ∧ Aside0 (w'.heap[gb161]? = some (.cells #[.int .i64 a0_0,(.slice A0_1 l0_1.length c0_1),(.slice A0_2 l0_2.length c0_2)] 29 (0,0))) ∧ Aside0 (w'.heap[gb162]? = some (.cells #[.int .i64 0,(.slice none 0 0),(.slice none 0 0)] 29 (0,0))) ∧ Aside0 (w'.heap[gb163]? = some (.cells #[.int .i64 a0_0,u164001,u164002] 29 (0,0))) ∧ Aside0 (Below w.heap.size w w'))
    case atStart=>exact ⟨(0),(([] : List Int)),(.slice none 0 0),(by first|rfl|(simp;done)|(simp [*];done)),H',⟨Nat.le_refl _⟩,⟨by (with_reducible repeat (first|apply Kd.R_alloc|apply Kd.R_drewN|apply Kd.R_drew));exact HO_164001.out⟩,⟨by first|exact Kd.R_nil _ _ _ _ _|exact Kd.N_nil _ _ _ _ _|exact Kd.V_nil _ _ _ _ _|exact Kd.Q_nil _ _ _ _ _|exact Kd.S_nil _ _ _ _ _⟩,⟨by (with_reducible repeat (first|refine blk_drewN ?_ _|refine blk_drew ?_|refine blk_alloc ?_ _));exact BK161.out⟩,⟨by (with_reducible repeat (first|refine blk_drewN ?_ _|refine blk_drew ?_|refine blk_alloc ?_ _));exact BK162.out⟩,⟨by (with_reducible repeat (first|refine blk_drewN ?_ _|refine blk_drew ?_|refine blk_alloc ?_ _));exact BK163.out⟩,⟨by repeat (first|(with_reducible first|exact HB.out|apply below_alloc|apply pw_below_drewN|apply below_drew1|refine below_set ?_ GE161.out|refine below_set ?_ GE162.out|refine below_set ?_ GE163.out)|exact HB.out)⟩⟩
    case round=>
     clear H'
     try clear c1
     try clear p1
     try clear q1
     try clear hx1
     try clear c2
     try clear p2
     try clear c3
     try clear c5
     try clear c6
     try clear p6
     try clear c8
     try clear c9
     try clear c11
     try clear c11b0
     try clear c12
     try clear c12b0
     try clear c13
     try clear c13b0
     try clear c14
     try clear c14b0
     try clear c15
     try clear c15b0
     try clear p16
     try clear q16
     try clear hx16
     try clear c19
     try clear c20
     try clear c21
     try clear c24
     try clear c25
     try clear c26
     try clear c36
     try clear c37
     try clear hcz10_0
     try clear hcz10_1
     try clear hcz10_2
     try clear hcz22_0
     try clear hcz22_1
     try clear hcz22_2
     try clear hcz27_0
     try clear hcz27_1
     try clear hcz38_0
     try clear hcz38_1
     try clear hcz38_2
     try clear hcz6_0
     try clear hcz6_1
     try clear hcz6_2
     try clear hfz10_0
     try clear hfz10_1
     try clear hfz10_2
     try clear hfz22_0
     try clear hfz22_1
     try clear hfz22_2
     try clear hfz27_0
     try clear hfz27_1
     try clear hfz38_0
     try clear hfz38_1
     try clear hfz38_2
     try clear hfz6_0
     try clear hfz6_1
     try clear hfz6_2
     try clear hx164_0
     try clear hx165_0
     try clear hx165_1
     try clear p164
     try clear p165
     try clear p2
     try clear q164
     try clear q165
     obtain ⟨x45_2,x164002_2,u164002,rfl,HA,HK2,HO_164001,HO_164002,BK161,BK162,BK163,HB⟩:=hrel
     cases gk with
     | zero=>exact absurd HA.out (by simp [spec_plKeep.l1])
     | succ k2=>
      have H:=HA.out
      clear HA
      simp only [spec_plKeep.l1] at H
      by_cases c39 : x45_2 < (l0_2.length : Int)
      ·rw [if_pos c39] at H
       have c39b0 : decide (x45_2 < (l0_2.length : Int)) = true:=decide_eq_true c39
       clear c39
       by_cases c40 : 0 ≤ x45_2
       ·rw [if_pos c40] at H
        have c40b0 : decide (0 ≤ x45_2) = true:=decide_eq_true c40
        clear c40
        by_cases c41 : x45_2 < (l0_2.length : Int)
        ·rw [if_pos c41] at H
         have c41b0 : decide (x45_2 < (l0_2.length : Int)) = true:=decide_eq_true c41
         clear c41
         replace H:=Option.bind_eq_some_iff.mp H
         obtain ⟨t175,A420,H⟩:=H
         replace H : (if x164002_2.length < 17592186044416 then (spec_plKeep.l1 k2 l1 l0_2 (l0_2.length : Int) (wrap64 (x45_2 + 1)) a0_0 l0_1 l0_2 a0_0 x164001_1 (x164002_2 ++ [t175])) else (none)) = some (r1,r2,r3):=H
         have A42:=Aside0.mk A420
         clear A420
         by_cases c43 : x164002_2.length < 17592186044416
         ·rw [if_pos c43] at H
          have LMc43:=Aside0.mk c43
          clear c43
          obtain ⟨y176,hy176⟩ : ∃ y_ : List Int,y_ = (x164002_2 ++ [t175]):=⟨_,rfl⟩
          replace H : (spec_plKeep.l1 k2 l1 l0_2 (l0_2.length : Int) (wrap64 (x45_2 + 1)) a0_0 l0_1 l0_2 a0_0 x164001_1 y176) = some (r1,r2,r3):=by first|(rw [hy176];with_reducible exact H)|(have H2_:=(Option.bind_some _ _).symm.trans H;rw [hy176];with_reducible exact H2_)|(have H2_:=(Option.bind_some _ _).symm.trans H;with_reducible exact H2_)|with_reducible exact H|(rw [hy176];exact H)|exact H
          have Ny176:=Aside0.mk hy176
          clear hy176
          have H':=Aside0.mk H
          clear H
          have p174 : 0 ≤ (x45_2 : Int):=of_decide_eq_true (by first|(with_reducible assumption)|assumption)
          have q174 : x45_2 < (l0_2.length : Int):=of_decide_eq_true (by first|(with_reducible assumption)|assumption)
          obtain ⟨ad174,e174,hx174_0⟩:=Kd.at_int HR0_2.out x45_2 p174 q174
          cases e174
          replace hx174_0:=(HB.out.cell (World.block_lt_of_cell? w _ hx174_0)).trans hx174_0
          replace p174:=eq_true p174
          replace q174:=eq_true q174
          try go_wp2
          have n0_:=Aside0.mk (Kd.R_drew HO_164001.out)
          have n1_:=Aside0.mk (Kd.R_drew HO_164002.out)
          have n2_:=Aside0.mk (blk_drew BK161.out)
          have n3_:=Aside0.mk (blk_drew BK162.out)
          have n4_:=Aside0.mk (blk_drew BK163.out)
          have n5_:=Aside0.mk (below_drew1 HB.out)
          clear HO_164001
          clear HO_164002
          clear BK161
          clear BK162
          clear BK163
          clear HB
          have HO_164001:=n0_
          have HO_164002:=n1_
          have BK161:=n2_
          have BK162:=n3_
          have BK163:=n4_
          have HB:=n5_
          clear n0_ n1_ n2_ n3_ n4_ n5_
          refine start_ (n:=10) (S:=fun w'=>w'.cell? ⟨gb163,0,none⟩ = some (.int .i64 a0_0) ∧ w'.cell? ⟨gb163,1,none⟩ = some (u164001) ∧ w'.cell? ⟨gb163,2,none⟩ = some (u164002) ∧ w'.cell? ⟨gb161,0,none⟩ = some (.int .i64 a0_0) ∧ w'.cell? ⟨gb161,1,none⟩ = some (.slice A0_1 l0_1.length c0_1) ∧ w'.cell? ⟨gb161,2,none⟩ = some (.slice (some ad174) l0_2.length c0_2)) (ds:=[9]) #[false,false,false,false,false,false,false,false,false,false] (by kernel_rfl) rfl rfl ⟨(blk_cell BK163.out 0).trans rfl,(blk_cell BK163.out 1).trans rfl,(blk_cell BK163.out 2).trans rfl,(blk_cell BK161.out 0).trans rfl,(blk_cell BK161.out 1).trans rfl,(blk_cell BK161.out 2).trans rfl⟩ (fun hHeld=>?_);refine with_tabW spec_plKeep.tab11 spec_plKeep.bits11 (fun HT_ HW_=>?_)
          generalize wr.drew = w44 at HO_164001 HO_164002 BK161 BK162 BK163 HB hHeld ⊢
          refine pure_ (i:=0) (N:=some 49) (v:=?_) (a':=?_) #[true,false,false,false,false,false,false,false,false,false] rfl rfl (any_of HT_.out (by kernel_rfl)) (fun _ _ _ h=>h) (Or.inl ⟨by rfl,?_⟩) ?_ ?_
          rotate_left
          ·intro w'
           go_simp
           with_reducible rfl
          rotate_left
          ·simp only [Act.put,List.setIfInBounds_toArray,List.set_cons_zero,List.set_cons_succ,i64_w,i32_w]
           rfl
          refine pure_ (i:=3) (N:=some 52) (v:=?_) (a':=?_) #[true,false,false,true,false,false,false,false,false,false] rfl rfl (any_of HT_.out (by kernel_rfl)) (fun _ _ _ h=>h) (Or.inl ⟨by rfl,?_⟩) ?_ ?_
          rotate_left
          ·intro w'
           go_simp
           with_reducible rfl
          rotate_left
          ·simp only [Act.put,List.setIfInBounds_toArray,List.set_cons_zero,List.set_cons_succ,i64_w,i32_w]
           rfl
          refine pure_ (i:=4) (N:=some 53) (v:=?_) (a':=?_) #[true,false,false,true,true,false,false,false,false,false] rfl rfl (any_of HT_.out (by kernel_rfl)) (fun _ _ _ h=>h) (Or.inl ⟨by rfl,?_⟩) ?_ ?_
          rotate_left
          ·intro w'
           go_simp
           with_reducible rfl
          rotate_left
          ·simp only [Act.put,List.setIfInBounds_toArray,List.set_cons_zero,List.set_cons_succ,i64_w,i32_w]
           rfl
          refine take_ (i:=1) (N:=some 50) (v:=?_) (a':=?_) #[true,true,false,true,true,false,false,false,false,false] rfl rfl (take_ofW HT_.out HW_.out (by kernel_rfl)) (fun _ _ _ h=>h) (Or.inl ⟨by rfl,?_⟩) hHeld ?_ ?_
          rotate_left
          ·rintro w' ⟨s0,s1,s2,s3,s4,s5⟩
           go_simp
           with_reducible rfl
          rotate_left
          ·simp only [Act.put,List.setIfInBounds_toArray,List.set_cons_zero,List.set_cons_succ,i64_w,i32_w]
           rfl
          refine take_ (i:=2) (N:=some 51) (v:=?_) (a':=?_) #[true,true,true,true,true,false,false,false,false,false] rfl rfl (take_ofW HT_.out HW_.out (by kernel_rfl)) (fun _ _ _ h=>h) (Or.inl ⟨by rfl,?_⟩) hHeld ?_ ?_
          rotate_left
          ·rintro w' ⟨s0,s1,s2,s3,s4,s5⟩
           go_simp
           with_reducible rfl
          rotate_left
          ·simp only [Act.put,List.setIfInBounds_toArray,List.set_cons_zero,List.set_cons_succ,i64_w,i32_w]
           rfl
          refine one_ (i:=5) (N:=some 54) #[true,true,true,true,true,true,false,false,false,false] rfl rfl (one_of HT_.out (by kernel_rfl)) (by decide) (fun K hK=>?_)
          refine goes_ Try.func97 (by kernel_rfl) rfl #[.agg #[.int .i64 a0_0,.slice A0_1 l0_1.length c0_1,.slice (some ad174) l0_2.length c0_2],.slice A1 l1.length c1,.int .i64 (rd l0_2 x45_2)] (by rfl) rfl rfl (by (try simp only [List.map_toArray,List.map_cons,List.map_nil]);first|done|rfl|(simp only [List.length_drop,List.length_take];rfl)) ?_
          with_reducible refine (spec_plNumber.calls k2 a0_0 _ _ l0_1 _ _ l0_2 _ _ l1 (rd l0_2 x45_2) t175 _ ?side1 ?side2 ?side3 ?side4 ?side5 ?side6 A42.out).mono ?_
          (case side1=>repeat (first|exact (Kd.C_below HR0_1.out HB.out)|(with_reducible refine Kd.C_alloc ?_ _)|(with_reducible refine Kd.C_drewN ?_ _)|(with_reducible refine Kd.C_drew ?_)))
          (case side2=>exact HC0_1.out)
          (case side3=>repeat (first|exact (Kd.C_below HR0_2.out HB.out)|(with_reducible refine Kd.C_alloc ?_ _)|(with_reducible refine Kd.C_drewN ?_ _)|(with_reducible refine Kd.C_drew ?_)))
          (case side4=>exact HC0_2.out)
          (case side5=>repeat (first|exact (Kd.C_below HR1.out HB.out)|(with_reducible refine Kd.C_alloc ?_ _)|(with_reducible refine Kd.C_drewN ?_ _)|(with_reducible refine Kd.C_drew ?_)))
          (case side6=>exact HC1.out)
          rintro e w45 ⟨rfl,hb⟩
          refine ⟨_,rfl,?_⟩
          have n0_:=Aside0.mk (Kd.R_below (by (with_reducible repeat (first|apply Kd.R_alloc|apply Kd.R_drewN|apply Kd.R_drew));exact HO_164001.out) hb)
          have n1_:=Aside0.mk (Kd.R_below (by (with_reducible repeat (first|apply Kd.R_alloc|apply Kd.R_drewN|apply Kd.R_drew));exact HO_164002.out) hb)
          have n2_:=Aside0.mk (blk_below (g:=gb161) (o:=.cells #[.int .i64 a0_0,.slice A0_1 l0_1.length c0_1,.slice (some ad174) l0_2.length c0_2] 29 (0,0)) (by (with_reducible repeat (first|refine blk_drewN ?_ _|refine blk_drew ?_|refine blk_alloc ?_ _));exact BK161.out) hb)
          have n3_:=Aside0.mk (blk_below (g:=gb162) (o:=.cells #[.int .i64 0,.slice none 0 0,.slice none 0 0] 29 (0,0)) (by (with_reducible repeat (first|refine blk_drewN ?_ _|refine blk_drew ?_|refine blk_alloc ?_ _));exact BK162.out) hb)
          have n4_:=Aside0.mk (blk_below (g:=gb163) (o:=.cells #[.int .i64 a0_0,u164001,u164002] 29 (0,0)) (by (with_reducible repeat (first|refine blk_drewN ?_ _|refine blk_drew ?_|refine blk_alloc ?_ _));exact BK163.out) hb)
          have n5_:=Aside0.mk (below_step (by repeat (first|(with_reducible first|exact HB.out|apply below_alloc|apply pw_below_drewN|apply below_drew1|refine below_set ?_ GE161.out|refine below_set ?_ GE162.out|refine below_set ?_ GE163.out)|exact HB.out)) hb)
          clear HO_164001
          clear HO_164002
          clear BK161
          clear BK162
          clear BK163
          clear HB
          have HO_164001:=n0_
          have HO_164002:=n1_
          have BK161:=n2_
          have BK162:=n3_
          have BK163:=n4_
          have HB:=n5_
          clear n0_ n1_ n2_ n3_ n4_ n5_
          (try clear hb)
          refine hK.out _ _ ⟨(blk_cell BK163.out 0).trans rfl,(blk_cell BK163.out 1).trans rfl,(blk_cell BK163.out 2).trans rfl,(blk_cell BK161.out 0).trans rfl,(blk_cell BK161.out 1).trans rfl,(blk_cell BK161.out 2).trans rfl⟩ (fun hHeld=>?_)
          clear hK K
          refine norm_ (a':=?_) ?_ ?_
          rotate_left
          ·show Act.put _ (some 54) _ = _
           simp only [Act.put,List.setIfInBounds_toArray,List.set_cons_zero,List.set_cons_succ,i64_w,i32_w]
           rfl
          refine one_ (i:=6) (N:=some 55) #[true,true,true,true,true,true,true,false,false,false] rfl rfl (one_of HT_.out (by kernel_rfl)) (by decide) (fun K hK=>?_)
          refine value_ (w1:=?_) (v:=?_) (by rfl) rfl ?_ ?_
          rotate_left 2
          ·go_simp
           constructor
           ·rfl
           ·rfl
          refine hK.out _ _ ⟨(blk_cell (blk_alloc BK163.out _) 0).trans rfl,(blk_cell (blk_alloc BK163.out _) 1).trans rfl,(blk_cell (blk_alloc BK163.out _) 2).trans rfl,(blk_cell (blk_alloc BK161.out _) 0).trans rfl,(blk_cell (blk_alloc BK161.out _) 1).trans rfl,(blk_cell (blk_alloc BK161.out _) 2).trans rfl⟩ (fun hHeld=>?_)
          clear hK K
          refine norm_ (a':=?_) ?_ ?_
          rotate_left
          ·show Act.put _ (some 55) _ = _
           simp only [Act.put,List.setIfInBounds_toArray,List.set_cons_zero,List.set_cons_succ,i64_w,i32_w]
           rfl
          refine one_ (i:=7) (N:=some 56) #[true,true,true,true,true,true,true,true,false,false] rfl rfl (one_of HT_.out (by kernel_rfl)) (by decide) (fun K hK=>?_)
          refine Kd.R_append_step (Kd.int .i64) (w0:=w) w.heap.size (by rfl) (.tmp 50) (.tmp 55) 23 3 (.int .i64 0) 8 rfl Try.underlying23 info3 rfl (by decide) (by omega) u164002 x164002_2 t175 [.int .i64 t175] (fun _=>True) (fun _=>False) rfl rfl ?aP (fun _ hk=>hk.elim) ?aF ?aO ?aB ?aS ?aL ?_
          (case aP=>exact rfl)
          (case aB=>exact (by repeat (first|(with_reducible first|exact HB.out|apply below_alloc|apply pw_below_drewN|apply below_drew1|refine below_set ?_ GE161.out|refine below_set ?_ GE162.out|refine below_set ?_ GE163.out)|exact HB.out)))
          (case aF=>exact (fun _ _=>trivial))
          (case aO=>exact (by (with_reducible repeat (first|apply Kd.R_alloc|apply Kd.R_drewN|apply Kd.R_drew));exact HO_164002.out))
          (case aS=>exact (below_size (by repeat (first|(with_reducible first|exact HB.out|apply below_alloc|apply pw_below_drewN|apply below_drew1|refine below_set ?_ GE161.out|refine below_set ?_ GE162.out|refine below_set ?_ GE163.out)|exact HB.out))))
          (case aL=>have:=LMc43.out;omega)
          intro v177 w46 ho hb hg hat
          rw [← Ny176.out] at ho
          have n0_:=Aside0.mk (Kd.R_over' (by (with_reducible repeat (first|apply Kd.R_alloc|apply Kd.R_drewN|apply Kd.R_drew));exact HO_164001.out) (Kd.R_typed (by (with_reducible repeat (first|apply Kd.R_alloc|apply Kd.R_drewN|apply Kd.R_drew));exact HO_164002.out)) (by decide) hg)
          have n1_:=Aside0.mk (blk_grown (g:=gb161) (o:=.cells #[.int .i64 a0_0,.slice A0_1 l0_1.length c0_1,.slice (some ad174) l0_2.length c0_2] 29 (0,0)) (by (with_reducible repeat (first|refine blk_drewN ?_ _|refine blk_drew ?_|refine blk_alloc ?_ _));exact BK161.out) hg (Kd.R_ne HO_164002.out BK161.out (by decide)))
          have n2_:=Aside0.mk (blk_grown (g:=gb162) (o:=.cells #[.int .i64 0,.slice none 0 0,.slice none 0 0] 29 (0,0)) (by (with_reducible repeat (first|refine blk_drewN ?_ _|refine blk_drew ?_|refine blk_alloc ?_ _));exact BK162.out) hg (Kd.R_ne HO_164002.out BK162.out (by decide)))
          have n3_:=Aside0.mk (blk_grown (g:=gb163) (o:=.cells #[.int .i64 a0_0,u164001,u164002] 29 (0,0)) (by (with_reducible repeat (first|refine blk_drewN ?_ _|refine blk_drew ?_|refine blk_alloc ?_ _));exact BK163.out) hg (Kd.R_ne HO_164002.out BK163.out (by decide)))
          have n4_:=Aside0.mk (hb)
          have n5_:=Aside0.mk (ho)
          clear HO_164001
          clear BK161
          clear BK162
          clear BK163
          clear HB
          clear HO_164002
          have HO_164001:=n0_
          have BK161:=n1_
          have BK162:=n2_
          have BK163:=n3_
          have HB:=n4_
          have HO178:=n5_
          clear n0_ n1_ n2_ n3_ n4_ n5_
          clear ho hb hg hat
          obtain ⟨Ao47,co47,eo47⟩:=Kd.R_slice HO178.out
          (first|subst eo47|(injection eo47 with f1_ f2_ f3_;have f4_:=f1_.symm;have f5_:=f3_.symm;clear f1_ f2_ f3_;subst f4_;subst f5_))
          refine hK.out _ _ ⟨(blk_cell BK163.out 0).trans rfl,(blk_cell BK163.out 1).trans rfl,(blk_cell BK163.out 2).trans rfl,(blk_cell BK161.out 0).trans rfl,(blk_cell BK161.out 1).trans rfl,(blk_cell BK161.out 2).trans rfl⟩ (fun hHeld=>?_)
          clear hK K
          refine norm_ (a':=?_) ?_ ?_
          rotate_left
          ·show Act.put _ (some 56) _ = _
           simp only [Act.put,List.setIfInBounds_toArray,List.set_cons_zero,List.set_cons_succ,i64_w,i32_w]
           rfl
          refine pure_ (i:=8) (N:=some 57) (v:=?_) (a':=?_) #[true,true,true,true,true,true,true,true,true,false] rfl rfl (any_of HT_.out (by kernel_rfl)) (fun _ _ _ h=>h) (Or.inl ⟨by rfl,?_⟩) ?_ ?_
          rotate_left
          ·intro w'
           go_simp
           with_reducible rfl
          rotate_left
          ·simp only [Act.put,List.setIfInBounds_toArray,List.set_cons_zero,List.set_cons_succ,i64_w,i32_w]
           rfl
          refine last_ (i:=9) (N:=none) #[true,true,true,true,true,true,true,true,true,true] rfl rfl (one_of HT_.out (by kernel_rfl)) (by decide) (fun K hK=>?_)
          have hs48 : w46.cell? ⟨gb163,2,none⟩ = some (u164002):=(blk_cell BK163.out 2).trans rfl
          have hfs48:=blk_frozen BK163.out 2
          have hns48_0:=NB161_163.out
          have hns48_1:=NB162_163.out
          have hms48_0:=NB163_161.out
          have hms48_1:=NB163_162.out
          refine skip_ (w1:=?_) (by rfl) rfl ?_ ?_
          rotate_left
          ·go_simp
           rfl
          refine hK.out _ _ ?_
          clear hK K
          refine done_ (done_of HT_.out (by kernel_rfl)) ?_
          try go_wp2
          go_roundg k2
          case measure=>have:=HK1.out;have:=HK2.out;omega
          case rel=>exact ⟨(wrap64 (x45_2 + 1)),(y176),(.slice Ao47 y176.length co47),(by first|rfl|(simp;done)|(simp [*];done)),H',⟨by have:=HK1.out;have:=HK2.out;omega⟩,⟨by (with_reducible repeat (first|apply Kd.R_alloc|apply Kd.R_drewN|apply Kd.R_drew));exact Kd.R_mono (Kd.R_far (p:=⟨gb163,2,none⟩) (Kd.R_types HO_164001.out BK163.out (by decide)) (fun _ hk=>hk.2) (.slice Ao47 y176.length co47)) (fun _ hk=>trivial)⟩,⟨by (with_reducible repeat (first|apply Kd.R_alloc|apply Kd.R_drewN|apply Kd.R_drew));exact Kd.R_mono (Kd.R_far (p:=⟨gb163,2,none⟩) (Kd.R_types HO178.out BK163.out (by decide)) (fun _ hk=>hk.2) (.slice Ao47 y176.length co47)) (fun _ hk=>trivial)⟩,⟨by (with_reducible repeat (first|refine blk_drewN ?_ _|refine blk_drew ?_|refine blk_alloc ?_ _));refine blk_far ?_ NB161_163.out _;(with_reducible repeat (first|refine blk_drewN ?_ _|refine blk_drew ?_|refine blk_alloc ?_ _));exact BK161.out⟩,⟨by (with_reducible repeat (first|refine blk_drewN ?_ _|refine blk_drew ?_|refine blk_alloc ?_ _));refine blk_far ?_ NB162_163.out _;(with_reducible repeat (first|refine blk_drewN ?_ _|refine blk_drew ?_|refine blk_alloc ?_ _));exact BK162.out⟩,⟨by (with_reducible repeat (first|refine blk_drewN ?_ _|refine blk_drew ?_|refine blk_alloc ?_ _));refine blk_put (cs:=#[.int .i64 a0_0,u164001,u164002]) ?_ 2 _ rfl;(with_reducible repeat (first|refine blk_drewN ?_ _|refine blk_drew ?_|refine blk_alloc ?_ _));exact BK163.out⟩,⟨by repeat (first|(with_reducible first|exact HB.out|apply below_alloc|apply pw_below_drewN|apply below_drew1|refine below_set ?_ GE161.out|refine below_set ?_ GE162.out|refine below_set ?_ GE163.out)|exact HB.out)⟩⟩
         ·rw [if_neg c43] at H
          exact absurd H (by simp)
        ·rw [if_neg c41] at H
         exact absurd H (by simp)
       ·rw [if_neg c40] at H
        exact absurd H (by simp)
      ·rw [if_neg c39] at H
       have c39b0 : decide (x45_2 < (l0_2.length : Int)) = false:=decide_eq_false c39
       clear c39
       simp only [Option.some.injEq,Prod.mk.injEq] at H
       obtain ⟨rfl,rfl,rfl⟩:=H
       have hnb49:=NB163_161.out
       have hnc49:=NB161_163.out
       have hnb50:=NB163_162.out
       have hnc50:=NB162_163.out
       have hcz51_0 : wr.cell? ⟨gb163,0,none⟩ = some (.int .i64 a0_0):=(blk_cell BK163.out 0).trans rfl
       have hcz51_1 : wr.cell? ⟨gb163,1,none⟩ = some (u164001):=(blk_cell BK163.out 1).trans rfl
       have hcz51_2 : wr.cell? ⟨gb163,2,none⟩ = some (u164002):=(blk_cell BK163.out 2).trans rfl
       have hfz51_0:=blk_frozen BK163.out 0
       have hfz51_1:=blk_frozen BK163.out 1
       have hfz51_2:=blk_frozen BK163.out 2
       have hnb52:=NB162_161.out
       have hnc52:=NB161_162.out
       have hcz53_0 : wr.cell? ⟨gb162,0,none⟩ = some (.int .i64 0):=(blk_cell BK162.out 0).trans rfl
       have hcz53_1 : wr.cell? ⟨gb162,1,none⟩ = some (.slice none 0 0):=(blk_cell BK162.out 1).trans rfl
       have hcz53_2 : wr.cell? ⟨gb162,2,none⟩ = some (.slice none 0 0):=(blk_cell BK162.out 2).trans rfl
       have hfz53_0:=blk_frozen BK162.out 0
       have hfz53_1:=blk_frozen BK162.out 1
       have hfz53_2:=blk_frozen BK162.out 2
       obtain ⟨Ao54,co54,eo54⟩:=Kd.R_slice HO_164001.out
       subst eo54
       obtain ⟨Ao55,co55,eo55⟩:=Kd.R_slice HO_164002.out
       subst eo55
       go_wp2
       refine bodyPost_ret (results_cell_row rfl _ _ gb162 29 #[.int .i64 a0_0,.slice Ao54 x164001_1.length co54,.slice Ao55 x164002_2.length co55] (0,0) _ rfl (by (with_reducible repeat (first|refine blk_drewN ?_ _|refine blk_drew ?_|refine blk_alloc ?_ _));refine blk_put (cs:=#[.int .i64 a0_0,.slice Ao54 x164001_1.length co54,.slice none 0 0]) ?_ 2 _ rfl;(with_reducible repeat (first|refine blk_drewN ?_ _|refine blk_drew ?_|refine blk_alloc ?_ _));refine blk_put (cs:=#[.int .i64 a0_0,.slice none 0 0,.slice none 0 0]) ?_ 1 _ rfl;(with_reducible repeat (first|refine blk_drewN ?_ _|refine blk_drew ?_|refine blk_alloc ?_ _));refine blk_put (cs:=#[.int .i64 0,.slice none 0 0,.slice none 0 0]) ?_ 0 _ rfl;(with_reducible repeat (first|refine blk_drewN ?_ _|refine blk_drew ?_|refine blk_alloc ?_ _));exact BK162.out) Try.underlying29 rfl (by kernel_rfl)) rfl ?_
       exact ⟨_,_,by first|rfl|(simp [errW_none,errW_some] <;> rfl)|(simp [*,errW_none,errW_some] <;> rfl),by (with_reducible repeat (first|apply Kd.R_alloc|apply Kd.R_drewN|apply Kd.R_drew));exact Kd.R_mono (Kd.R_far (p:=⟨gb162,2,none⟩) (Kd.R_far (p:=⟨gb162,1,none⟩) (Kd.R_far (p:=⟨gb162,0,none⟩) (Kd.R_types HO_164001.out BK162.out (by decide)) (fun _ hk=>hk.2) (.int .i64 a0_0)) (fun _ hk=>hk.2) (.slice Ao54 x164001_1.length co54)) (fun _ hk=>hk.2) (.slice Ao55 x164002_2.length co55)) (fun _ hk=>trivial),by (with_reducible repeat (first|apply Kd.R_alloc|apply Kd.R_drewN|apply Kd.R_drew));exact Kd.R_mono (Kd.R_far (p:=⟨gb162,2,none⟩) (Kd.R_far (p:=⟨gb162,1,none⟩) (Kd.R_far (p:=⟨gb162,0,none⟩) (Kd.R_types HO_164002.out BK162.out (by decide)) (fun _ hk=>hk.2) (.int .i64 a0_0)) (fun _ hk=>hk.2) (.slice Ao54 x164001_1.length co54)) (fun _ hk=>hk.2) (.slice Ao55 x164002_2.length co55)) (fun _ hk=>trivial),by repeat (first|(with_reducible first|exact HB.out|apply below_alloc|apply pw_below_drewN|apply below_drew1|refine below_set ?_ GE161.out|refine below_set ?_ GE162.out|refine below_set ?_ GE163.out)|exact HB.out)⟩
/-! ### spec_l1Own: function 42 -/
def spec_l1Own.f (l0 : List Int) : Option (List Int):=(some (([] : List Int) : List Int)).bind fun y179=>(if y179.length + l0.length < 17592186044416 then (some (y179 ++ l0)) else (none))
set_option maxHeartbeats 8000000 in
set_option maxRecDepth 100000 in
theorem spec_l1Own.calls (A0 : Option Addr) (c0 : Nat) (l0 : List Int) (r : List Int) (w : World) (hr0 : Kd.C (Kd.int .i64) w A0 l0.length l0) (hc0 : l0.length ≤ c0) (h : spec_l1Own.f l0 = some r) :
  Calls Try.prog 42 #[.slice A0 l0.length c0] w fun e w'=>∃ v0_ : Value,e = .returned (v0_) ∧ Kd.R (Kd.int .i64) 3 w' w.heap.size (fun _=>True) v0_ r ∧ Below w.heap.size w w':=by
 have HR0:=Aside0.mk hr0
 have HC0:=Aside0.mk hc0
 clear hr0 hc0
 have HB:=Aside0.mk (Below.refl w.heap.size w)
 have H : ((some (([] : List Int) : List Int)).bind fun y179=>(if y179.length + l0.length < 17592186044416 then (some (y179 ++ l0)) else (none))) = some r:=h
 clear h
 obtain ⟨y179,hy179⟩ : ∃ y_ : List Int,y_ = (([] : List Int)):=⟨_,rfl⟩
 replace H : (if y179.length + l0.length < 17592186044416 then (some (y179 ++ l0)) else (none)) = some r:=by first|(rw [hy179];with_reducible exact H)|(have H2_:=(Option.bind_some _ _).symm.trans H;rw [hy179];with_reducible exact H2_)|(have H2_:=(Option.bind_some _ _).symm.trans H;with_reducible exact H2_)|with_reducible exact H|(rw [hy179];exact H)|exact H
 have Ny179:=Aside0.mk hy179
 clear hy179
 by_cases c2 : y179.length + l0.length < 17592186044416
 ·rw [if_pos c2] at H
  have LMc2:=Aside0.mk c2
  clear c2
  obtain ⟨y182,hy182⟩ : ∃ y_ : List Int,y_ = (y179 ++ l0):=⟨_,rfl⟩
  replace H : (some y182) = some r:=by first|(rw [hy182];with_reducible exact H)|(have H2_:=(Option.bind_some _ _).symm.trans H;rw [hy182];with_reducible exact H2_)|(have H2_:=(Option.bind_some _ _).symm.trans H;with_reducible exact H2_)|with_reducible exact H|(rw [hy182];exact H)|exact H
  have Ny182:=Aside0.mk hy182
  clear hy182
  obtain rfl:=Option.some.inj H
  go_enter Try.func42,Try.ntmps42
  go_wp2_with (first|((with_reducible refine gate_dst (N:=3) rfl ?_);refine Kd.R_lit (Kd.int .i64) _ 3 ?hg (N:=3) ?hd (xs:=([] : List Int)) (inner:=[]) (ok:=fun _=>True) (okp:=fun _=>True) ?hr ?hp (fun _ hk=>hk) trivial (Below.refl _ _) (Nat.le_refl _) (by simp) ?_;(case hd=>rfl);(case hg=>rfl);(case hr=>first|(go_simp;done)|(go_simp;rfl));(case hp=>exact (Reps.none _ _));intro v180 w3 ho4 hb hg_ hnew_;clear hg_ hnew_;(first|rw [← Ny179.out] at ho4|(simp only [Int.reduceToNat] at ho4;rw [← Ny179.out] at ho4));have n0_:=Aside0.mk (Kd.R_lower ho4 (below_size (by repeat (first|(with_reducible first|exact HB.out|apply below_alloc|apply pw_below_drewN|apply below_drew1)|exact HB.out))));have n1_:=Aside0.mk (below_step (by repeat (first|(with_reducible first|exact HB.out|apply below_alloc|apply pw_below_drewN|apply below_drew1)|exact HB.out)) hb);clear HB;have HO181:=n0_;have HB:=n1_;clear n0_ n1_;clear hb ho4)|((with_reducible refine gate_builtin (b:=.append) (xs:=#[.tmp 3,.tmp 4]) rfl ?_);at_builtin;refine Kd.R_append_rows (Kd.int .i64) (w0:=w) w.heap.size rfl (.tmp 3) (.tmp 4) 23 3 (.int .i64 0) 8 rfl Try.underlying23 info3 rfl (by decide) (by omega) v180 y179 l0 _ _ _ (fun _=>True) (fun _=>False) rfl rfl ?aO ?aR (fun _ _ h=>h) (fun _ h=>h.elim) ?aF ?aB ?aS ?aL ?_;(case aR=>repeat (first|exact (Kd.C_below HR0.out HB.out)|(with_reducible refine Kd.C_alloc ?_ _)|(with_reducible refine Kd.C_drewN ?_ _)|(with_reducible refine Kd.C_drew ?_)));(case aB=>exact (by repeat (first|(with_reducible first|exact HB.out|apply below_alloc|apply pw_below_drewN|apply below_drew1)|exact HB.out)));(case aF=>exact (fun _ _=>trivial));(case aO=>exact (by (with_reducible repeat (first|apply Kd.R_alloc|apply Kd.R_drewN|apply Kd.R_drew));exact HO181.out));(case aS=>exact (below_size (by repeat (first|(with_reducible first|exact HB.out|apply below_alloc|apply pw_below_drewN|apply below_drew1)|exact HB.out))));(case aL=>have:=LMc2.out;omega);intro v183 w5 ho hb hg hat;rw [← Ny182.out] at ho;have n0_:=Aside0.mk (hb);have n1_:=Aside0.mk (ho);clear HB;clear HO181;have HB:=n0_;have HO184:=n1_;clear n0_ n1_;clear ho hb hg hat))
  go_ret
  exact ⟨_,by first|rfl|(simp [errW_none,errW_some] <;> rfl)|(simp [*,errW_none,errW_some] <;> rfl),by (with_reducible repeat (first|apply Kd.R_alloc|apply Kd.R_drewN|apply Kd.R_drew));exact HO184.out,by repeat (first|(with_reducible first|exact HB.out|apply below_alloc|apply pw_below_drewN|apply below_drew1)|exact HB.out)⟩
 ·rw [if_neg c2] at H
  exact absurd H (by simp)
end Go.Proofs.Ytdcdaoancmpbeaa.MFnExactSequencePlan
--sq
