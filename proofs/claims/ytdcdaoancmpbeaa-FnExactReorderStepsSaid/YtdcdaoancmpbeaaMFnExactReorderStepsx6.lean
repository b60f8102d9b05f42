import Derived.Test.YtdcdaoancmpbeaaMFnExactReorderStepsx0
import Derived.Test.YtdcdaoancmpbeaaMFnExactReorderStepsx5
namespace Go.Proofs.Ytdcdaoancmpbeaa.MFnExactReorderSteps
open Go.RowKit Go.Proofs.YtdcdaoancmpbeaaW.PrintWords Go.Proofs.YtdcdaoancmpbeaaW.PrintLast Go.Proofs.YtdcdaoancmpbeaaW.PrintMore Go.Proofs.YtdcdaoancmpbeaaV Go.Proofs.YtdcdaoancmpbeaaZ
attribute [local go_sem] max2_int min2_int max_two min_two max_three min_three max_four min_four   -- for this text's walks alone
set_option linter.unusedVariables false
set_option linter.unusedSimpArgs false
/-! ### spec_plKeep: function 56 -/
mutual
def spec_plKeep.l0 : Nat → List Int → List Int → Int → Int → Int → List (S73) → List Int → Int → List (S73) → Option (Int × (List (S73)) × List Int)
 | 0,_,_,_,_,_,_,_,_,_=>none
 | k + 1,x1,x14,x15,x16,x197000,x197001,x197002,x199000,x199001=>if x16 < x15 then (if 0 ≤ x16 then (if x16 < (x14.length : Int) then (if 0 ≤ (rd x14 x16) then (if (rd x14 x16) < (x197001.length : Int) then ((spec_plNumber.f k x197000 x197001 x197002 x1 ((rd_T73 x197001 (rd x14 x16)).f0)).bind fun t202=>((spec_plNumber.f k x197000 x197001 x197002 x1 ((rd_T73 x197001 (rd x14 x16)).f1)).bind fun t203=>((spec_plStep.f t202 t203).bind fun bt204=>(if x199001.length < 8796093022208 then (spec_plKeep.l0 k x1 x14 x15 (wrap64 (x16 + 1)) x197000 x197001 x197002 x199000 (x199001 ++ [(⟨bt204.1,bt204.2⟩ : S73)])) else (none))))) else (none)) else (none)) else (none)) else (none)) else (spec_plKeep.l1 k x1 x197002 (x197002.length : Int) 0 x197000 x197001 x197002 x199000 x199001 ([] : List Int))
def spec_plKeep.l1 : Nat → List Int → List Int → Int → Int → Int → List (S73) → List Int → Int → List (S73) → List Int → Option (Int × (List (S73)) × List Int)
 | 0,_,_,_,_,_,_,_,_,_,_=>none
 | k + 1,x1,x43,x44,x45,x197000,x197001,x197002,x199000,x199001,x199002=>if x45 < x44 then (if 0 ≤ x45 then (if x45 < (x43.length : Int) then ((spec_plNumber.f k x197000 x197001 x197002 x1 (rd x43 x45)).bind fun t210=>(if x199002.length < 17592186044416 then (spec_plKeep.l1 k x1 x43 x44 (wrap64 (x45 + 1)) x197000 x197001 x197002 x199000 x199001 (x199002 ++ [t210])) else (none))) else (none)) else (none)) else (some (x199000,x199001,x199002))
end
def spec_plKeep.f (k : Nat) (a0_0 : Int) (l0_1 : List (S73)) (l0_2 : List Int) (l1 : List Int) : Option (Int × (List (S73)) × List Int):=spec_plKeep.l0 k l1 l1 (l1.length : Int) 0 a0_0 l0_1 l0_2 a0_0 ([] : List (S73))
theorem spec_plKeep.mono_l : ∀ k,(∀ y0 y1 y2 y3 y4 y5 y6 y7 y8,LeO (spec_plKeep.l0 k y0 y1 y2 y3 y4 y5 y6 y7 y8) (spec_plKeep.l0 (k + 1) y0 y1 y2 y3 y4 y5 y6 y7 y8)) ∧ (∀ y0 y1 y2 y3 y4 y5 y6 y7 y8 y9,LeO (spec_plKeep.l1 k y0 y1 y2 y3 y4 y5 y6 y7 y8 y9) (spec_plKeep.l1 (k + 1) y0 y1 y2 y3 y4 y5 y6 y7 y8 y9))
 | 0=>⟨fun _ _ _ _ _ _ _ _ _ r h=>by simp [spec_plKeep.l0] at h,fun _ _ _ _ _ _ _ _ _ _ r h=>by simp [spec_plKeep.l1] at h⟩
 | k + 1=>by
  obtain ⟨ih0,ih1⟩:=spec_plKeep.mono_l k
  refine ⟨?_,?_⟩
  ·intro y0 y1 y2 y3 y4 y5 y6 y7 y8
   unfold spec_plKeep.l0
   repeat' first
   | (with_reducible exact ih0 _ _ _ _ _ _ _ _ _)
   | (with_reducible exact ih1 _ _ _ _ _ _ _ _ _ _)
   | (with_reducible exact spec_plNumber.mono _ _ _ _ _ _)
   | (with_reducible exact LeO.refl _)
   | (with_reducible exact LeO.none _)
   | (with_reducible refine LeO.ite ?_ ?_)
   | (with_reducible refine LeO.bind ?_ (fun _=>?_))
   | exact ih0 _ _ _ _ _ _ _ _ _
   | exact ih1 _ _ _ _ _ _ _ _ _ _
   | exact spec_plNumber.mono _ _ _ _ _ _
   | exact LeO.none _
   | refine LeO.ite ?_ ?_
   | refine LeO.bind ?_ (fun _=>?_)
  ·intro y0 y1 y2 y3 y4 y5 y6 y7 y8 y9
   unfold spec_plKeep.l1
   repeat' first
   | (with_reducible exact ih0 _ _ _ _ _ _ _ _ _)
   | (with_reducible exact ih1 _ _ _ _ _ _ _ _ _ _)
   | (with_reducible exact spec_plNumber.mono _ _ _ _ _ _)
   | (with_reducible exact LeO.refl _)
   | (with_reducible exact LeO.none _)
   | (with_reducible refine LeO.ite ?_ ?_)
   | (with_reducible refine LeO.bind ?_ (fun _=>?_))
   | exact ih0 _ _ _ _ _ _ _ _ _
   | exact ih1 _ _ _ _ _ _ _ _ _ _
   | exact spec_plNumber.mono _ _ _ _ _ _
   | exact LeO.none _
   | refine LeO.ite ?_ ?_
   | refine LeO.bind ?_ (fun _=>?_)
theorem spec_plKeep.mono : ∀ a0 a1 a2 a3 k,LeO (spec_plKeep.f k a0 a1 a2 a3) (spec_plKeep.f (k + 1) a0 a1 a2 a3):=by
 intro a0 a1 a2 a3 k
 obtain ⟨ih0,ih1⟩:=spec_plKeep.mono_l k
 unfold spec_plKeep.f
 repeat' first
   | (with_reducible exact ih0 _ _ _ _ _ _ _ _ _)
   | (with_reducible exact ih1 _ _ _ _ _ _ _ _ _ _)
   | (with_reducible exact spec_plNumber.mono _ _ _ _ _ _)
   | (with_reducible exact LeO.refl _)
   | (with_reducible exact LeO.none _)
   | (with_reducible refine LeO.ite ?_ ?_)
   | (with_reducible refine LeO.bind ?_ (fun _=>?_))
   | exact ih0 _ _ _ _ _ _ _ _ _
   | exact ih1 _ _ _ _ _ _ _ _ _ _
   | exact spec_plNumber.mono _ _ _ _ _ _
   | exact LeO.none _
   | refine LeO.ite ?_ ?_
   | refine LeO.bind ?_ (fun _=>?_)
def spec_plKeep.T6 : Bool × List (List Nat × List Nat):=(true,[([],[]),([0],[0]),([],[]),([],[]),([],[]),([4],[4]),([2,3,5],[2,3,5]),([],[]),([],[]),([],[]),([9],[9]),([7,8,10,6],[7,8,10]),([6,11,11],[6,11]),([12],[12]),([1,13,12],[1,13]),([0,1,2,3,4,5,6,7,8,9,10,11,12,13,14],[]),([15,14,14,0,1,2,3,4,5,6,7,8,9,10,11,12,13,14],[14,15])])
def spec_plKeep.B6 : List Nat:=[0,1,0,0,0,16,60,0,0,0,512,2044,4092,8188,16383,32767,65535]
theorem spec_plKeep.tab6 : rtab .any (opsOf Try.f56 6) = spec_plKeep.T6:=by kernel_rfl
theorem spec_plKeep.bits6 : waitsOk spec_plKeep.T6.2 spec_plKeep.B6 = true:=by kernel_rfl
def spec_plKeep.T11 : Bool × List (List Nat × List Nat):=(true,[([],[]),([0],[0]),([],[]),([],[]),([],[]),([2,3,4],[2,3,4]),([5],[5]),([1,6,5],[1,6]),([0,1,2,3,4,5,6,7],[]),([8,7,7,0,1,2,3,4,5,6,7],[7,8])])
def spec_plKeep.B11 : List Nat:=[0,1,0,0,0,28,60,127,255,511]
theorem spec_plKeep.tab11 : rtab .any (opsOf Try.f56 11) = spec_plKeep.T11:=by kernel_rfl
theorem spec_plKeep.bits11 : waitsOk spec_plKeep.T11.2 spec_plKeep.B11 = true:=by kernel_rfl
set_option maxHeartbeats 8000000 in
set_option maxRecDepth 100000 in
theorem spec_plKeep.calls (k : Nat) (a0_0 : Int) (A0_1 : Option Addr) (c0_1 : Nat) (l0_1 : List (S73)) (A0_2 : Option Addr) (c0_2 : Nat) (l0_2 : List Int) (A1 : Option Addr) (c1 : Nat) (l1 : List Int) (r1 : Int) (r2 : List (S73)) (r3 : List Int) (w : World) (hr0_1 : Kd.C k73 w A0_1 l0_1.length l0_1) (hc0_1 : l0_1.length ≤ c0_1) (hr0_2 : Kd.C (Kd.int .i64) w A0_2 l0_2.length l0_2) (hc0_2 : l0_2.length ≤ c0_2) (hr1 : Kd.C (Kd.int .i64) w A1 l1.length l1) (hc1 : l1.length ≤ c1) (h : spec_plKeep.f k a0_0 l0_1 l0_2 l1 = some (r1,r2,r3)) :
  Calls Try.prog 56 #[.agg #[.int .i64 a0_0,.slice A0_1 l0_1.length c0_1,.slice A0_2 l0_2.length c0_2],.slice A1 l1.length c1] w fun e w'=>∃ v1_ v2_ : Value,e = .returned (.agg #[.int .i64 r1,v1_,v2_]) ∧ Kd.R k73 73 w' w.heap.size (fun _=>True) v1_ r2 ∧ Kd.R (Kd.int .i64) 3 w' w.heap.size (fun _=>True) v2_ r3 ∧ Below w.heap.size w w':=by
 have hu29:=Try.underlying29
 have hu73:=Try.underlying73
 have HR0_1:=Aside0.mk hr0_1
 have HC0_1:=Aside0.mk hc0_1
 clear hr0_1 hc0_1
 have HR0_2:=Aside0.mk hr0_2
 have HC0_2:=Aside0.mk hc0_2
 clear hr0_2 hc0_2
 have HR1:=Aside0.mk hr1
 have HC1:=Aside0.mk hc1
 clear hr1 hc1
 have HB:=Aside0.mk (Below.refl w.heap.size w)
 have H : (spec_plKeep.l0 k l1 l1 (l1.length : Int) 0 a0_0 l0_1 l0_2 a0_0 ([] : List (S73))) = some (r1,r2,r3):=h
 clear h
 have H':=Aside0.mk H
 clear H
 go_enter Try.func56,Try.ntmps56
 go_wp2_with (first|((with_reducible refine gate_dst (N:=2) rfl ?_);refine box_event ?hg (N:=2) ?hd (cs:=#[.int .i64 a0_0,.slice A0_1 l0_1.length c0_1,.slice A0_2 l0_2.length c0_2]) (t:=29) ?hr ?_;(case hd=>rfl);(case hg=>rfl);(case hr=>first|(go_simp;done)|(go_simp;rfl));intro gb196 hg w3 hbox hb;have n0_:=Aside0.mk (below_step bz hb);have n1_:=Aside0.mk (hbox);have n2_:=Aside0.mk ((by rw [hg];exact (below_size bz) : w.heap.size ≤ gb196));have n3_:=Aside0.mk ((by rw [hg];exact (below_size bz) : w.heap.size ≤ gb196));clear HB;have HB:=n0_;have BK196:=n1_;have GW196:=n2_;have GE196:=n3_;clear n0_ n1_ n2_ n3_;clear hb hbox hg)|((with_reducible refine gate_dst (N:=4) rfl ?_);refine box_event ?hg (N:=4) ?hd (cs:=#[.int .i64 0,.slice none 0 0,.slice none 0 0]) (t:=29) ?hr ?_;(case hd=>rfl);(case hg=>rfl);(case hr=>first|(go_simp;done)|(go_simp;rfl));intro gb197 hg w4 hbox hb;have n0_:=Aside0.mk (kb BK196.out hb);have n1_:=Aside0.mk (below_step bs hb);have n2_:=Aside0.mk (hbox);have n3_:=Aside0.mk ((by rw [hg];exact (below_size bs) : w.heap.size ≤ gb197));have n4_:=Aside0.mk ((by rw [hg];exact (below_size bs) : w.heap.size ≤ gb197));have n5_:=Aside0.mk (kn hg BK196.out);have n6_:=Aside0.mk (km hg BK196.out);clear BK196 HB;have BK196:=n0_;have HB:=n1_;have BK197:=n2_;have GW197:=n3_;have GE197:=n4_;have NB196_197:=n5_;have NB197_196:=n6_;clear n0_ n1_ n2_ n3_ n4_ n5_ n6_;clear hb hbox hg;have hnb5:=NB196_197.out;have hnc5:=NB197_196.out;have hcz6_0 : w4.cell? ⟨gb196,0,none⟩ = some (.int .i64 a0_0):=(blk_cell BK196.out 0).trans rfl;have hcz6_1 : w4.cell? ⟨gb196,1,none⟩ = some (.slice A0_1 l0_1.length c0_1):=(blk_cell BK196.out 1).trans rfl;have hcz6_2 : w4.cell? ⟨gb196,2,none⟩ = some (.slice A0_2 l0_2.length c0_2):=(blk_cell BK196.out 2).trans rfl;have hfz6_0:=blk_frozen BK196.out 0;have hfz6_1:=blk_frozen BK196.out 1;have hfz6_2:=blk_frozen BK196.out 2)|((with_reducible refine gate_dst (N:=5) rfl ?_);refine box_event ?hg (N:=5) ?hd (cs:=#[.int .i64 0,.slice none 0 0,.slice none 0 0]) (t:=29) ?hr ?_;(case hd=>rfl);(case hg=>rfl);(case hr=>first|(go_simp;done)|(go_simp;rfl));intro gb198 hg w7 hbox hb;have n0_:=Aside0.mk (kb BK196.out hb);have n1_:=Aside0.mk (kb BK197.out hb);have n2_:=Aside0.mk (below_step bs hb);have n3_:=Aside0.mk (hbox);have n4_:=Aside0.mk ((by rw [hg];exact (below_size bs) : w.heap.size ≤ gb198));have n5_:=Aside0.mk ((by rw [hg];exact (below_size bs) : w.heap.size ≤ gb198));have n6_:=Aside0.mk (kn hg BK196.out);have n7_:=Aside0.mk (km hg BK196.out);have n8_:=Aside0.mk (kn hg BK197.out);have n9_:=Aside0.mk (km hg BK197.out);clear BK196 BK197 HB;have BK196:=n0_;have BK197:=n1_;have HB:=n2_;have BK198:=n3_;have GW198:=n4_;have GE198:=n5_;have NB196_198:=n6_;have NB198_196:=n7_;have NB197_198:=n8_;have NB198_197:=n9_;clear n0_ n1_ n2_ n3_ n4_ n5_ n6_ n7_ n8_ n9_;clear hb hbox hg;have hnb8:=NB198_196.out;have hnc8:=NB196_198.out;have hnb9:=NB198_197.out;have hnc9:=NB197_198.out;have hcz10_0 : w7.cell? ⟨gb198,0,none⟩ = some (.int .i64 0):=(blk_cell BK198.out 0).trans rfl;have hcz10_1 : w7.cell? ⟨gb198,1,none⟩ = some (.slice none 0 0):=(blk_cell BK198.out 1).trans rfl;have hcz10_2 : w7.cell? ⟨gb198,2,none⟩ = some (.slice none 0 0):=(blk_cell BK198.out 2).trans rfl;have hfz10_0:=blk_frozen BK198.out 0;have hfz10_1:=blk_frozen BK198.out 1;have hfz10_2:=blk_frozen BK198.out 2))
 go_loopg [16] k (fun kq v16 w'=>∃ (x16_1 : Int) (x199001_1 : List (S73)) (u199001 : Value),v16 = .int .i64 x16_1 ∧ Aside0 (spec_plKeep.l0 kq l1 l1 (l1.length : Int) x16_1 a0_0 l0_1 l0_2 a0_0 x199001_1 = some (r1,r2,r3)) ∧ Aside0 (kq ≤ k) ∧ Aside0 (Kd.R k73 73 w' w.heap.size (fun _=>True) u199001 x199001_1) ∧ Aside0 (w'.heap[gb196]? = some (.cells #[.int .i64 a0_0,(.slice A0_1 l0_1.length c0_1),(.slice A0_2 l0_2.length c0_2)] 29 (0,0))) ∧ Aside0 (w'.heap[gb197]? = some (.cells #[.int .i64 0,(.slice none 0 0),(.slice none 0 0)] 29 (0,0))) ∧ Aside0 (w'.heap[gb198]? = some (.cells #[.int .i64 a0_0,u199001,(.slice none 0 0)] 29 (0,0))) ∧ Aside0 (Below w.heap.size w w'))
 case atStart=>exact ⟨(0),(([] : List (S73))),(.slice none 0 0),fz,H',⟨Nat.le_refl _⟩,⟨by first|exact Kd.R_nil _ _ _ _ _|exact Kd.N_nil _ _ _ _ _|exact Kd.V_nil _ _ _ _ _|exact Kd.Q_nil _ _ _ _ _|exact Kd.S_nil _ _ _ _ _⟩,⟨by (with_reducible repeat (first|refine blk_drewN ?_ _|refine blk_drew ?_|refine blk_alloc ?_ _));refine blk_far ?_ NB196_198.out _;(with_reducible repeat (first|refine blk_drewN ?_ _|refine blk_drew ?_|refine blk_alloc ?_ _));refine blk_far ?_ NB196_198.out _;(with_reducible repeat (first|refine blk_drewN ?_ _|refine blk_drew ?_|refine blk_alloc ?_ _));refine blk_far ?_ NB196_198.out _;(with_reducible repeat (first|refine blk_drewN ?_ _|refine blk_drew ?_|refine blk_alloc ?_ _));exact BK196.out⟩,⟨by (with_reducible repeat (first|refine blk_drewN ?_ _|refine blk_drew ?_|refine blk_alloc ?_ _));refine blk_far ?_ NB197_198.out _;(with_reducible repeat (first|refine blk_drewN ?_ _|refine blk_drew ?_|refine blk_alloc ?_ _));refine blk_far ?_ NB197_198.out _;(with_reducible repeat (first|refine blk_drewN ?_ _|refine blk_drew ?_|refine blk_alloc ?_ _));refine blk_far ?_ NB197_198.out _;(with_reducible repeat (first|refine blk_drewN ?_ _|refine blk_drew ?_|refine blk_alloc ?_ _));exact BK197.out⟩,⟨by (with_reducible repeat (first|refine blk_drewN ?_ _|refine blk_drew ?_|refine blk_alloc ?_ _));refine blk_put (cs:=#[.int .i64 a0_0,.slice none 0 0,.slice none 0 0]) ?_ 2 _ rfl;(with_reducible repeat (first|refine blk_drewN ?_ _|refine blk_drew ?_|refine blk_alloc ?_ _));refine blk_put (cs:=#[.int .i64 a0_0,.slice none 0 0,.slice none 0 0]) ?_ 1 _ rfl;(with_reducible repeat (first|refine blk_drewN ?_ _|refine blk_drew ?_|refine blk_alloc ?_ _));refine blk_put (cs:=#[.int .i64 0,.slice none 0 0,.slice none 0 0]) ?_ 0 _ rfl;(with_reducible repeat (first|refine blk_drewN ?_ _|refine blk_drew ?_|refine blk_alloc ?_ _));exact BK198.out⟩,⟨by repeat (first|(with_reducible first|exact HB.out|apply below_alloc|apply pw_below_drewN|apply below_drew1|refine below_set ?_ GE196.out|refine below_set ?_ GE197.out|refine below_set ?_ GE198.out)|exact HB.out)⟩⟩
 case round=>
  clear H'
  try clear c1
  try clear p2
  try clear c5
  try clear c8
  try clear c9
  try clear hcz10_0
  try clear hcz10_1
  try clear hcz10_2
  try clear hcz6_0
  try clear hcz6_1
  try clear hcz6_2
  try clear hfz10_0
  try clear hfz10_1
  try clear hfz10_2
  try clear hfz6_0
  try clear hfz6_1
  try clear hfz6_2
  obtain ⟨x16_1,x199001_1,u199001,rfl,HA,HK1,HO_199001,BK196,BK197,BK198,HB⟩:=hrel
  cases gk with
  | zero=>exact absurd HA.out (by simp [spec_plKeep.l0])
  | succ k1=>
   have H:=HA.out
   clear HA
   simp only [spec_plKeep.l0] at H
   by_cases c11 : x16_1 < (l1.length : Int)
   ·rw [if_pos c11] at H
    have c11b0 : decide (x16_1 < (l1.length : Int)) = true:=decide_eq_true c11
    clear c11
    by_cases c12 : 0 ≤ x16_1
    ·rw [if_pos c12] at H
     have c12b0 : decide (0 ≤ x16_1) = true:=decide_eq_true c12
     clear c12
     by_cases c13 : x16_1 < (l1.length : Int)
     ·rw [if_pos c13] at H
      have c13b0 : decide (x16_1 < (l1.length : Int)) = true:=decide_eq_true c13
      clear c13
      by_cases c14 : 0 ≤ (rd l1 x16_1)
      ·rw [if_pos c14] at H
       have c14b0 : decide (0 ≤ (rd l1 x16_1)) = true:=decide_eq_true c14
       clear c14
       by_cases c15 : (rd l1 x16_1) < (l0_1.length : Int)
       ·rw [if_pos c15] at H
        have c15b0 : decide ((rd l1 x16_1) < (l0_1.length : Int)) = true:=decide_eq_true c15
        clear c15
        obtain ⟨t202,A16,H⟩:=bd H
        obtain ⟨t203,A17,H⟩:=bd H
        obtain ⟨⟨t204,t205⟩,A18,H⟩:=bd H
        try dsimp only at H
        by_cases c19 : x199001_1.length < 8796093022208
        ·rw [if_pos c19] at H
         have LMc19:=Aside0.mk c19
         clear c19
         obtain ⟨y206,hy206⟩ : ∃ y_ : List (S73),y_ = (x199001_1 ++ [(⟨t204,t205⟩ : S73)]):=⟨_,rfl⟩
         replace H : (spec_plKeep.l0 k1 l1 l1 (l1.length : Int) (wrap64 (x16_1 + 1)) a0_0 l0_1 l0_2 a0_0 y206) = some (r1,r2,r3):=by first|(rw [hy206];with_reducible exact H)|(have H2_:=(Option.bind_some _ _).symm.trans H;rw [hy206];with_reducible exact H2_)|(have H2_:=(Option.bind_some _ _).symm.trans H;with_reducible exact H2_)|with_reducible exact H|(rw [hy206];exact H)|exact H
         have Ny206:=Aside0.mk hy206
         clear hy206
         have H':=Aside0.mk H
         clear H
         have p199 : 0 ≤ (x16_1 : Int):=of_decide_eq_true az
         have q199 : x16_1 < (l1.length : Int):=of_decide_eq_true az
         obtain ⟨ad199,e199,hx199_0⟩:=Kd.at_int HR1.out x16_1 p199 q199
         cases e199
         replace hx199_0:=(HB.out.cell (World.block_lt_of_cell? w _ hx199_0)).trans hx199_0
         replace p199:=eq_true p199
         replace q199:=eq_true q199
         have hnb20:=NB196_197.out
         have hnc20:=NB197_196.out
         have hnb21:=NB196_198.out
         have hnc21:=NB198_196.out
         have hcz22_0 : wr.cell? ⟨gb196,0,none⟩ = some (.int .i64 a0_0):=(blk_cell BK196.out 0).trans rfl
         have hcz22_1 : wr.cell? ⟨gb196,1,none⟩ = some (.slice A0_1 l0_1.length c0_1):=(blk_cell BK196.out 1).trans rfl
         have hcz22_2 : wr.cell? ⟨gb196,2,none⟩ = some (.slice A0_2 l0_2.length c0_2):=(blk_cell BK196.out 2).trans rfl
         have hfz22_0:=blk_frozen BK196.out 0
         have hfz22_1:=blk_frozen BK196.out 1
         have hfz22_2:=blk_frozen BK196.out 2
         have p200 : 0 ≤ ((rd l1 x16_1) : Int):=of_decide_eq_true az
         have q200 : (rd l1 x16_1) < (l0_1.length : Int):=of_decide_eq_true az
         obtain ⟨ad200,e200,hx200_0,hx200_1⟩:=at_T73 HR0_1.out (rd l1 x16_1) p200 q200
         cases e200
         replace hx200_0:=(HB.out.cell (World.block_lt_of_cell? w _ hx200_0)).trans hx200_0
         replace hx200_1:=(HB.out.cell (World.block_lt_of_cell? w _ hx200_1)).trans hx200_1
         replace p200:=eq_true p200
         replace q200:=eq_true q200
         try go_wp2_with (first|((with_reducible refine gate_dst (N:=8) rfl ?_);refine box_event ?hg (N:=8) ?hd (cs:=#[.int .i64 0,.int .i64 0]) (t:=73) ?hr ?_;(case hd=>rfl);(case hg=>rfl);(case hr=>first|(go_simp;done)|(go_simp;rfl));intro gb201 hg w23 hbox hb;have n0_:=Aside0.mk (Kd.R_below (Kd.R_elderB (rz HO_199001.out) gb201 (Nat.le_of_eq hg.symm)) hb);have n1_:=Aside0.mk (kb BK196.out hb);have n2_:=Aside0.mk (kb BK197.out hb);have n3_:=Aside0.mk (kb BK198.out hb);have n4_:=Aside0.mk (below_step bs hb);have n5_:=Aside0.mk (hbox);have n6_:=Aside0.mk ((by rw [hg];exact (below_size bs) : w.heap.size ≤ gb201));have n7_:=Aside0.mk ((by rw [hg];exact (below_size bs) : w.heap.size ≤ gb201));have n8_:=Aside0.mk (kn hg BK196.out);have n9_:=Aside0.mk (km hg BK196.out);have n10_:=Aside0.mk (kn hg BK197.out);have n11_:=Aside0.mk (km hg BK197.out);have n12_:=Aside0.mk (kn hg BK198.out);have n13_:=Aside0.mk (km hg BK198.out);clear HO_199001 BK196 BK197 BK198 HB;have HO_199001:=n0_;have BK196:=n1_;have BK197:=n2_;have BK198:=n3_;have HB:=n4_;have BK201:=n5_;have GW201:=n6_;have GE201:=n7_;have NB196_201:=n8_;have NB201_196:=n9_;have NB197_201:=n10_;have NB201_197:=n11_;have NB198_201:=n12_;have NB201_198:=n13_;clear n0_ n1_ n2_ n3_ n4_ n5_ n6_ n7_ n8_ n9_ n10_ n11_ n12_ n13_;clear hb hbox hg;have hnb24:=NB201_196.out;have hnc24:=NB196_201.out;have hnb25:=NB201_197.out;have hnc25:=NB197_201.out;have hnb26:=NB201_198.out;have hnc26:=NB198_201.out;have hcz27_0 : w23.cell? ⟨gb201,0,none⟩ = some (.int .i64 0):=(blk_cell BK201.out 0).trans rfl;have hcz27_1 : w23.cell? ⟨gb201,1,none⟩ = some (.int .i64 0):=(blk_cell BK201.out 1).trans rfl;have hfz27_0:=blk_frozen BK201.out 0;have hfz27_1:=blk_frozen BK201.out 1))
         have n0_ : Aside0 (Kd.R k73 73 ((w23.setCell ⟨gb201,0,none⟩ (.int .i64 ((rd_T73 l0_1 (rd l1 x16_1)).f0))).setCell ⟨gb201,1,none⟩ (.int .i64 ((rd_T73 l0_1 (rd l1 x16_1)).f1))) w.heap.size (fun k_=>k_ ≠ gb201) u199001 x199001_1):=⟨by (with_reducible repeat (first|apply Kd.R_alloc|apply Kd.R_drewN|apply Kd.R_drew));exact Kd.R_mono (Kd.R_far (p:=⟨gb201,1,none⟩) (Kd.R_far (p:=⟨gb201,0,none⟩) (Kd.R_mono HO_199001.out (fun k_ hk=>(⟨hk,hk.2⟩ : _ ∧ k_ ≠ gb201))) (fun _ hk=>hk.2) (.int .i64 ((rd_T73 l0_1 (rd l1 x16_1)).f0))) (fun _ hk=>hk.2) (.int .i64 ((rd_T73 l0_1 (rd l1 x16_1)).f1))) (fun _ hk=>hk.1.2)⟩
         have n1_ : Aside0 (((w23.setCell ⟨gb201,0,none⟩ (.int .i64 ((rd_T73 l0_1 (rd l1 x16_1)).f0))).setCell ⟨gb201,1,none⟩ (.int .i64 ((rd_T73 l0_1 (rd l1 x16_1)).f1))).heap[gb196]? = some (.cells #[.int .i64 a0_0,.slice (some ad200) l0_1.length c0_1,.slice A0_2 l0_2.length c0_2] 29 (0,0))):=⟨by (with_reducible repeat (first|refine blk_drewN ?_ _|refine blk_drew ?_|refine blk_alloc ?_ _));refine blk_far ?_ NB196_201.out _;(with_reducible repeat (first|refine blk_drewN ?_ _|refine blk_drew ?_|refine blk_alloc ?_ _));refine blk_far ?_ NB196_201.out _;(with_reducible repeat (first|refine blk_drewN ?_ _|refine blk_drew ?_|refine blk_alloc ?_ _));exact BK196.out⟩
         have n2_ : Aside0 (((w23.setCell ⟨gb201,0,none⟩ (.int .i64 ((rd_T73 l0_1 (rd l1 x16_1)).f0))).setCell ⟨gb201,1,none⟩ (.int .i64 ((rd_T73 l0_1 (rd l1 x16_1)).f1))).heap[gb197]? = some (.cells #[.int .i64 0,.slice none 0 0,.slice none 0 0] 29 (0,0))):=⟨by (with_reducible repeat (first|refine blk_drewN ?_ _|refine blk_drew ?_|refine blk_alloc ?_ _));refine blk_far ?_ NB197_201.out _;(with_reducible repeat (first|refine blk_drewN ?_ _|refine blk_drew ?_|refine blk_alloc ?_ _));refine blk_far ?_ NB197_201.out _;(with_reducible repeat (first|refine blk_drewN ?_ _|refine blk_drew ?_|refine blk_alloc ?_ _));exact BK197.out⟩
         have n3_ : Aside0 (((w23.setCell ⟨gb201,0,none⟩ (.int .i64 ((rd_T73 l0_1 (rd l1 x16_1)).f0))).setCell ⟨gb201,1,none⟩ (.int .i64 ((rd_T73 l0_1 (rd l1 x16_1)).f1))).heap[gb198]? = some (.cells #[.int .i64 a0_0,u199001,.slice none 0 0] 29 (0,0))):=⟨by (with_reducible repeat (first|refine blk_drewN ?_ _|refine blk_drew ?_|refine blk_alloc ?_ _));refine blk_far ?_ NB198_201.out _;(with_reducible repeat (first|refine blk_drewN ?_ _|refine blk_drew ?_|refine blk_alloc ?_ _));refine blk_far ?_ NB198_201.out _;(with_reducible repeat (first|refine blk_drewN ?_ _|refine blk_drew ?_|refine blk_alloc ?_ _));exact BK198.out⟩
         have n4_ : Aside0 (((w23.setCell ⟨gb201,0,none⟩ (.int .i64 ((rd_T73 l0_1 (rd l1 x16_1)).f0))).setCell ⟨gb201,1,none⟩ (.int .i64 ((rd_T73 l0_1 (rd l1 x16_1)).f1))).heap[gb201]? = some (.cells #[.int .i64 ((rd_T73 l0_1 (rd l1 x16_1)).f0),.int .i64 ((rd_T73 l0_1 (rd l1 x16_1)).f1)] 73 (0,0))):=⟨by (with_reducible repeat (first|refine blk_drewN ?_ _|refine blk_drew ?_|refine blk_alloc ?_ _));refine blk_put (cs:=#[.int .i64 ((rd_T73 l0_1 (rd l1 x16_1)).f0),.int .i64 0]) ?_ 1 _ rfl;(with_reducible repeat (first|refine blk_drewN ?_ _|refine blk_drew ?_|refine blk_alloc ?_ _));refine blk_put (cs:=#[.int .i64 0,.int .i64 0]) ?_ 0 _ rfl;(with_reducible repeat (first|refine blk_drewN ?_ _|refine blk_drew ?_|refine blk_alloc ?_ _));exact BK201.out⟩
         have n5_ : Aside0 (Below w.heap.size w ((w23.setCell ⟨gb201,0,none⟩ (.int .i64 ((rd_T73 l0_1 (rd l1 x16_1)).f0))).setCell ⟨gb201,1,none⟩ (.int .i64 ((rd_T73 l0_1 (rd l1 x16_1)).f1)))):=⟨by repeat (first|(with_reducible first|exact HB.out|apply below_alloc|apply pw_below_drewN|apply below_drew1|refine below_set ?_ GE196.out|refine below_set ?_ GE197.out|refine below_set ?_ GE198.out|refine below_set ?_ GE201.out)|exact HB.out)⟩
         (try clear HO_199001)
         (try clear BK196)
         (try clear BK197)
         (try clear BK198)
         (try clear BK201)
         (try clear HB)
         generalize ((w23.setCell ⟨gb201,0,none⟩ (.int .i64 ((rd_T73 l0_1 (rd l1 x16_1)).f0))).setCell ⟨gb201,1,none⟩ (.int .i64 ((rd_T73 l0_1 (rd l1 x16_1)).f1))) = w28 at n0_ n1_ n2_ n3_ n4_ n5_ ⊢
         have HO_199001:=n0_
         have BK196:=n1_
         have BK197:=n2_
         have BK198:=n3_
         have BK201:=n4_
         have HB:=n5_
         clear n0_ n1_ n2_ n3_ n4_ n5_
         have n0_:=Aside0.mk (Kd.R_drew HO_199001.out)
         have n1_:=Aside0.mk (blk_drew BK196.out)
         have n2_:=Aside0.mk (blk_drew BK197.out)
         have n3_:=Aside0.mk (blk_drew BK198.out)
         have n4_:=Aside0.mk (blk_drew BK201.out)
         have n5_:=Aside0.mk (below_drew1 HB.out)
         clear HO_199001
         clear BK196
         clear BK197
         clear BK198
         clear BK201
         clear HB
         have HO_199001:=n0_
         have BK196:=n1_
         have BK197:=n2_
         have BK198:=n3_
         have BK201:=n4_
         have HB:=n5_
         clear n0_ n1_ n2_ n3_ n4_ n5_
         refine start_ (n:=17) (S:=fun w'=>w'.cell? ⟨gb198,0,none⟩ = some (.int .i64 a0_0) ∧ w'.cell? ⟨gb198,1,none⟩ = some (u199001) ∧ w'.cell? ⟨gb198,2,none⟩ = some (.slice none 0 0) ∧ w'.cell? ⟨gb196,0,none⟩ = some (.int .i64 a0_0) ∧ w'.cell? ⟨gb196,1,none⟩ = some (.slice (some ad200) l0_1.length c0_1) ∧ w'.cell? ⟨gb196,2,none⟩ = some (.slice A0_2 l0_2.length c0_2) ∧ w'.cell? ⟨gb201,0,none⟩ = some (.int .i64 ((rd_T73 l0_1 (rd l1 x16_1)).f0)) ∧ w'.cell? ⟨gb201,1,none⟩ = some (.int .i64 ((rd_T73 l0_1 (rd l1 x16_1)).f1))) (ds:=[16]) #[false,false,false,false,false,false,false,false,false,false,false,false,false,false,false,false,false] (by kernel_rfl) rfl rfl ⟨(blk_cell BK198.out 0).trans rfl,(blk_cell BK198.out 1).trans rfl,(blk_cell BK198.out 2).trans rfl,(blk_cell BK196.out 0).trans rfl,(blk_cell BK196.out 1).trans rfl,(blk_cell BK196.out 2).trans rfl,(blk_cell BK201.out 0).trans rfl,(blk_cell BK201.out 1).trans rfl⟩ (fun hHeld=>?_);refine with_tabW spec_plKeep.tab6 spec_plKeep.bits6 (fun HT_ HW_=>?_)
         generalize w28.drew = w29 at HO_199001 BK196 BK197 BK198 BK201 HB hHeld ⊢
         refine pure_ (i:=0) (N:=some 25) (v:=?_) (a':=?_) #[true,false,false,false,false,false,false,false,false,false,false,false,false,false,false,false,false] rfl rfl (any_of HT_.out (by kernel_rfl)) (fun _ _ _ h=>h) (Or.inl ⟨by rfl,?_⟩) ?_ ?_
         rotate_left
         ·intro w'
          go_simp
          with_reducible rfl
         rotate_left
         ·simp only [Act.put,xa,xb,xc,i64_w,i32_w]
          rfl
         refine pure_ (i:=3) (N:=some 28) (v:=?_) (a':=?_) #[true,false,false,true,false,false,false,false,false,false,false,false,false,false,false,false,false] rfl rfl (any_of HT_.out (by kernel_rfl)) (fun _ _ _ h=>h) (Or.inl ⟨by rfl,?_⟩) ?_ ?_
         rotate_left
         ·intro w'
          go_simp
          with_reducible rfl
         rotate_left
         ·simp only [Act.put,xa,xb,xc,i64_w,i32_w]
          rfl
         refine pure_ (i:=4) (N:=some 29) (v:=?_) (a':=?_) #[true,false,false,true,true,false,false,false,false,false,false,false,false,false,false,false,false] rfl rfl (any_of HT_.out (by kernel_rfl)) (fun _ _ _ h=>h) (Or.inl ⟨by rfl,?_⟩) ?_ ?_
         rotate_left
         ·intro w'
          go_simp
          with_reducible rfl
         rotate_left
         ·simp only [Act.put,xa,xb,xc,i64_w,i32_w]
          rfl
         refine pure_ (i:=8) (N:=some 33) (v:=?_) (a':=?_) #[true,false,false,true,true,false,false,false,true,false,false,false,false,false,false,false,false] rfl rfl (any_of HT_.out (by kernel_rfl)) (fun _ _ _ h=>h) (Or.inl ⟨by rfl,?_⟩) ?_ ?_
         rotate_left
         ·intro w'
          go_simp
          with_reducible rfl
         rotate_left
         ·simp only [Act.put,xa,xb,xc,i64_w,i32_w]
          rfl
         refine pure_ (i:=9) (N:=some 34) (v:=?_) (a':=?_) #[true,false,false,true,true,false,false,false,true,true,false,false,false,false,false,false,false] rfl rfl (any_of HT_.out (by kernel_rfl)) (fun _ _ _ h=>h) (Or.inl ⟨by rfl,?_⟩) ?_ ?_
         rotate_left
         ·intro w'
          go_simp
          with_reducible rfl
         rotate_left
         ·simp only [Act.put,xa,xb,xc,i64_w,i32_w]
          rfl
         refine take_ (i:=1) (N:=some 26) (v:=?_) (a':=?_) #[true,true,false,true,true,false,false,false,true,true,false,false,false,false,false,false,false] rfl rfl (take_ofW HT_.out HW_.out (by kernel_rfl)) (fun _ _ _ h=>h) (Or.inl ⟨by rfl,?_⟩) hHeld ?_ ?_
         rotate_left
         ·rintro w' ⟨s0,s1,s2,s3,s4,s5,s6,s7⟩
          go_simp
          with_reducible rfl
         rotate_left
         ·simp only [Act.put,xa,xb,xc,i64_w,i32_w]
          rfl
         refine take_ (i:=2) (N:=some 27) (v:=?_) (a':=?_) #[true,true,true,true,true,false,false,false,true,true,false,false,false,false,false,false,false] rfl rfl (take_ofW HT_.out HW_.out (by kernel_rfl)) (fun _ _ _ h=>h) (Or.inl ⟨by rfl,?_⟩) hHeld ?_ ?_
         rotate_left
         ·rintro w' ⟨s0,s1,s2,s3,s4,s5,s6,s7⟩
          go_simp
          with_reducible rfl
         rotate_left
         ·simp only [Act.put,xa,xb,xc,i64_w,i32_w]
          rfl
         refine take_ (i:=5) (N:=some 30) (v:=?_) (a':=?_) #[true,true,true,true,true,true,false,false,true,true,false,false,false,false,false,false,false] rfl rfl (take_ofW HT_.out HW_.out (by kernel_rfl)) (fun _ _ _ h=>h) (Or.inl ⟨by rfl,?_⟩) hHeld ?_ ?_
         rotate_left
         ·rintro w' ⟨s0,s1,s2,s3,s4,s5,s6,s7⟩
          go_simp
          with_reducible rfl
         rotate_left
         ·simp only [Act.put,xa,xb,xc,i64_w,i32_w]
          rfl
         refine take_ (i:=7) (N:=some 32) (v:=?_) (a':=?_) #[true,true,true,true,true,true,false,true,true,true,false,false,false,false,false,false,false] rfl rfl (take_ofW HT_.out HW_.out (by kernel_rfl)) (fun _ _ _ h=>h) (Or.inl ⟨by rfl,?_⟩) hHeld ?_ ?_
         rotate_left
         ·rintro w' ⟨s0,s1,s2,s3,s4,s5,s6,s7⟩
          go_simp
          with_reducible rfl
         rotate_left
         ·simp only [Act.put,xa,xb,xc,i64_w,i32_w]
          rfl
         refine take_ (i:=10) (N:=some 35) (v:=?_) (a':=?_) #[true,true,true,true,true,true,false,true,true,true,true,false,false,false,false,false,false] rfl rfl (take_ofW HT_.out HW_.out (by kernel_rfl)) (fun _ _ _ h=>h) (Or.inl ⟨by rfl,?_⟩) hHeld ?_ ?_
         rotate_left
         ·rintro w' ⟨s0,s1,s2,s3,s4,s5,s6,s7⟩
          go_simp
          with_reducible rfl
         rotate_left
         ·simp only [Act.put,xa,xb,xc,i64_w,i32_w]
          rfl
         refine one_ (i:=6) (N:=some 31) #[true,true,true,true,true,true,true,true,true,true,true,false,false,false,false,false,false] rfl rfl (one_of HT_.out (by kernel_rfl)) (by decide) (fun K hK=>?_)
         refine goes_ Try.func97 (by kernel_rfl) rfl #[.agg #[.int .i64 a0_0,.slice (some ad200) l0_1.length c0_1,.slice A0_2 l0_2.length c0_2],.slice (some ad199) l1.length c1,.int .i64 ((rd_T73 l0_1 (rd l1 x16_1)).f0)] (by rfl) rfl rfl mz ?_
         with_reducible refine (spec_plNumber.calls k1 a0_0 _ _ l0_1 _ _ l0_2 _ _ l1 ((rd_T73 l0_1 (rd l1 x16_1)).f0) t202 _ ?side1 ?side2 ?side3 ?side4 ?side5 ?side6 A16.out).mono ?_
         (case side1=>exact cz (Kd.C_below HR0_1.out HB.out))
         (case side2=>exact HC0_1.out)
         (case side3=>exact cz (Kd.C_below HR0_2.out HB.out))
         (case side4=>exact HC0_2.out)
         (case side5=>exact cz (Kd.C_below HR1.out HB.out))
         (case side6=>exact HC1.out)
         rintro e w30 ⟨rfl,hb⟩
         refine ⟨_,rfl,?_⟩
         have n0_:=Aside0.mk (Kd.R_below (rz HO_199001.out) hb)
         have n1_:=Aside0.mk (kb BK196.out hb)
         have n2_:=Aside0.mk (kb BK197.out hb)
         have n3_:=Aside0.mk (kb BK198.out hb)
         have n4_:=Aside0.mk (kb BK201.out hb)
         have n5_:=Aside0.mk (below_step bs hb)
         clear HO_199001
         clear BK196
         clear BK197
         clear BK198
         clear BK201
         clear HB
         have HO_199001:=n0_
         have BK196:=n1_
         have BK197:=n2_
         have BK198:=n3_
         have BK201:=n4_
         have HB:=n5_
         clear n0_ n1_ n2_ n3_ n4_ n5_
         (try clear hb)
         refine hK.out _ _ ⟨(blk_cell BK198.out 0).trans rfl,(blk_cell BK198.out 1).trans rfl,(blk_cell BK198.out 2).trans rfl,(blk_cell BK196.out 0).trans rfl,(blk_cell BK196.out 1).trans rfl,(blk_cell BK196.out 2).trans rfl,(blk_cell BK201.out 0).trans rfl,(blk_cell BK201.out 1).trans rfl⟩ (fun hHeld=>?_)
         clear hK K
         refine norm_ (a':=?_) ?_ ?_
         rotate_left
         ·show Act.put _ (some 31) _ = _
          simp only [Act.put,xa,xb,xc,i64_w,i32_w]
          rfl
         refine one_ (i:=11) (N:=some 36) #[true,true,true,true,true,true,true,true,true,true,true,true,false,false,false,false,false] rfl rfl (one_of HT_.out (by kernel_rfl)) (by decide) (fun K hK=>?_)
         refine goes_ Try.func97 (by kernel_rfl) rfl #[.agg #[.int .i64 a0_0,.slice (some ad200) l0_1.length c0_1,.slice A0_2 l0_2.length c0_2],.slice (some ad199) l1.length c1,.int .i64 ((rd_T73 l0_1 (rd l1 x16_1)).f1)] (by rfl) rfl rfl mz ?_
         with_reducible refine (spec_plNumber.calls k1 a0_0 _ _ l0_1 _ _ l0_2 _ _ l1 ((rd_T73 l0_1 (rd l1 x16_1)).f1) t203 _ ?side1 ?side2 ?side3 ?side4 ?side5 ?side6 A17.out).mono ?_
         (case side1=>exact cz (Kd.C_below HR0_1.out HB.out))
         (case side2=>exact HC0_1.out)
         (case side3=>exact cz (Kd.C_below HR0_2.out HB.out))
         (case side4=>exact HC0_2.out)
         (case side5=>exact cz (Kd.C_below HR1.out HB.out))
         (case side6=>exact HC1.out)
         rintro e w31 ⟨rfl,hb⟩
         refine ⟨_,rfl,?_⟩
         have n0_:=Aside0.mk (Kd.R_below (rz HO_199001.out) hb)
         have n1_:=Aside0.mk (kb BK196.out hb)
         have n2_:=Aside0.mk (kb BK197.out hb)
         have n3_:=Aside0.mk (kb BK198.out hb)
         have n4_:=Aside0.mk (kb BK201.out hb)
         have n5_:=Aside0.mk (below_step bs hb)
         clear HO_199001
         clear BK196
         clear BK197
         clear BK198
         clear BK201
         clear HB
         have HO_199001:=n0_
         have BK196:=n1_
         have BK197:=n2_
         have BK198:=n3_
         have BK201:=n4_
         have HB:=n5_
         clear n0_ n1_ n2_ n3_ n4_ n5_
         (try clear hb)
         refine hK.out _ _ ⟨(blk_cell BK198.out 0).trans rfl,(blk_cell BK198.out 1).trans rfl,(blk_cell BK198.out 2).trans rfl,(blk_cell BK196.out 0).trans rfl,(blk_cell BK196.out 1).trans rfl,(blk_cell BK196.out 2).trans rfl,(blk_cell BK201.out 0).trans rfl,(blk_cell BK201.out 1).trans rfl⟩ (fun hHeld=>?_)
         clear hK K
         refine norm_ (a':=?_) ?_ ?_
         rotate_left
         ·show Act.put _ (some 36) _ = _
          simp only [Act.put,xa,xb,xc,i64_w,i32_w]
          rfl
         refine one_ (i:=12) (N:=some 37) #[true,true,true,true,true,true,true,true,true,true,true,true,true,false,false,false,false] rfl rfl (one_of HT_.out (by kernel_rfl)) (by decide) (fun K hK=>?_)
         refine goes_ Try.func63 (by kernel_rfl) rfl #[.int .i64 t202,.int .i64 t203] (by rfl) rfl rfl mz ?_
         with_reducible refine (spec_plStep.calls t202 t203 t204 t205 _ A18.out).mono ?_
         rintro e w32 ⟨rfl,hb⟩
         refine ⟨_,rfl,?_⟩
         have n0_:=Aside0.mk (Kd.R_below (rz HO_199001.out) hb)
         have n1_:=Aside0.mk (kb BK196.out hb)
         have n2_:=Aside0.mk (kb BK197.out hb)
         have n3_:=Aside0.mk (kb BK198.out hb)
         have n4_:=Aside0.mk (kb BK201.out hb)
         have n5_:=Aside0.mk (below_step bs hb)
         clear HO_199001
         clear BK196
         clear BK197
         clear BK198
         clear BK201
         clear HB
         have HO_199001:=n0_
         have BK196:=n1_
         have BK197:=n2_
         have BK198:=n3_
         have BK201:=n4_
         have HB:=n5_
         clear n0_ n1_ n2_ n3_ n4_ n5_
         (try clear hb)
         refine hK.out _ _ ⟨(blk_cell BK198.out 0).trans rfl,(blk_cell BK198.out 1).trans rfl,(blk_cell BK198.out 2).trans rfl,(blk_cell BK196.out 0).trans rfl,(blk_cell BK196.out 1).trans rfl,(blk_cell BK196.out 2).trans rfl,(blk_cell BK201.out 0).trans rfl,(blk_cell BK201.out 1).trans rfl⟩ (fun hHeld=>?_)
         clear hK K
         refine norm_ (a':=?_) ?_ ?_
         rotate_left
         ·show Act.put _ (some 37) _ = _
          simp only [Act.put,xa,xb,xc,i64_w,i32_w]
          rfl
         refine one_ (i:=13) (N:=some 38) #[true,true,true,true,true,true,true,true,true,true,true,true,true,true,false,false,false] rfl rfl (one_of HT_.out (by kernel_rfl)) (by decide) (fun K hK=>?_)
         refine value_ (w1:=?_) (v:=?_) (by rfl) rfl ?_ ?_
         rotate_left 2
         ·go_simp
          constructor
          ·rfl
          ·rfl
         refine hK.out _ _ ⟨(blk_cell (blk_alloc BK198.out _) 0).trans rfl,(blk_cell (blk_alloc BK198.out _) 1).trans rfl,(blk_cell (blk_alloc BK198.out _) 2).trans rfl,(blk_cell (blk_alloc BK196.out _) 0).trans rfl,(blk_cell (blk_alloc BK196.out _) 1).trans rfl,(blk_cell (blk_alloc BK196.out _) 2).trans rfl,(blk_cell (blk_alloc BK201.out _) 0).trans rfl,(blk_cell (blk_alloc BK201.out _) 1).trans rfl⟩ (fun hHeld=>?_)
         clear hK K
         refine norm_ (a':=?_) ?_ ?_
         rotate_left
         ·show Act.put _ (some 38) _ = _
          simp only [Act.put,xa,xb,xc,i64_w,i32_w]
          rfl
         refine one_ (i:=14) (N:=some 39) #[true,true,true,true,true,true,true,true,true,true,true,true,true,true,true,false,false] rfl rfl (one_of HT_.out (by kernel_rfl)) (by decide) (fun K hK=>?_)
         refine Kd.R_append_step k73 (w0:=w) w.heap.size (by rfl) (.tmp 26) (.tmp 38) 27 73 (.agg #[(.int .i64 0),(.int .i64 0)]) 16 rfl Try.underlying27 info73 rfl (by decide) (by omega) u199001 x199001_1 (⟨t204,t205⟩ : S73) [.int .i64 t204,.int .i64 t205] (fun k_=>k_ ≠ gb201) (fun _=>False) rfl rfl ?aP (fun _ hk=>hk.elim) ?aF ?aO ?aB ?aS ?aL ?_
         (case aP=>exact k73_mkM _ _ _ (⟨t204,t205⟩ : S73))
         (case aB=>exact bs)
         (case aF=>exact (fun k_ hk=>Kd.freshB (g:=gb201) (o:=.cells #[.int .i64 ((rd_T73 l0_1 (rd l1 x16_1)).f0),.int .i64 ((rd_T73 l0_1 (rd l1 x16_1)).f1)] 73 (0,0)) (kz BK201.out) k_ hk))
         (case aO=>exact (rz HO_199001.out))
         (case aS=>exact (below_size bs))
         (case aL=>have:=LMc19.out;omega)
         intro v207 w33 ho hb hg hat
         rw [← Ny206.out] at ho
         have n0_:=Aside0.mk (blk_grown (g:=gb196) (o:=.cells #[.int .i64 a0_0,.slice (some ad200) l0_1.length c0_1,.slice A0_2 l0_2.length c0_2] 29 (0,0)) (kz BK196.out) hg (Kd.R_ne HO_199001.out BK196.out (by decide)))
         have n1_:=Aside0.mk (blk_grown (g:=gb197) (o:=.cells #[.int .i64 0,.slice none 0 0,.slice none 0 0] 29 (0,0)) (kz BK197.out) hg (Kd.R_ne HO_199001.out BK197.out (by decide)))
         have n2_:=Aside0.mk (blk_grown (g:=gb198) (o:=.cells #[.int .i64 a0_0,u199001,.slice none 0 0] 29 (0,0)) (kz BK198.out) hg (Kd.R_ne HO_199001.out BK198.out (by decide)))
         have n3_:=Aside0.mk (blk_grown (g:=gb201) (o:=.cells #[.int .i64 ((rd_T73 l0_1 (rd l1 x16_1)).f0),.int .i64 ((rd_T73 l0_1 (rd l1 x16_1)).f1)] 73 (0,0)) (kz BK201.out) hg (Kd.R_away HO_199001.out (fun _ hk=>hk)))
         have n4_:=Aside0.mk (hb)
         have n5_:=Aside0.mk (ho)
         clear BK196
         clear BK197
         clear BK198
         clear BK201
         clear HB
         clear HO_199001
         have BK196:=n0_
         have BK197:=n1_
         have BK198:=n2_
         have BK201:=n3_
         have HB:=n4_
         have HO208:=n5_
         clear n0_ n1_ n2_ n3_ n4_ n5_
         clear ho hb hg hat
         obtain ⟨Ao34,co34,eo34⟩:=Kd.R_slice HO208.out
         (first|subst eo34|(injection eo34 with f1_ f2_ f3_;have f4_:=f1_.symm;have f5_:=f3_.symm;clear f1_ f2_ f3_;subst f4_;subst f5_))
         refine hK.out _ _ ⟨(blk_cell BK198.out 0).trans rfl,(blk_cell BK198.out 1).trans rfl,(blk_cell BK198.out 2).trans rfl,(blk_cell BK196.out 0).trans rfl,(blk_cell BK196.out 1).trans rfl,(blk_cell BK196.out 2).trans rfl,(blk_cell BK201.out 0).trans rfl,(blk_cell BK201.out 1).trans rfl⟩ (fun hHeld=>?_)
         clear hK K
         refine norm_ (a':=?_) ?_ ?_
         rotate_left
         ·show Act.put _ (some 39) _ = _
          simp only [Act.put,xa,xb,xc,i64_w,i32_w]
          rfl
         refine pure_ (i:=15) (N:=some 40) (v:=?_) (a':=?_) #[true,true,true,true,true,true,true,true,true,true,true,true,true,true,true,true,false] rfl rfl (any_of HT_.out (by kernel_rfl)) (fun _ _ _ h=>h) (Or.inl ⟨by rfl,?_⟩) ?_ ?_
         rotate_left
         ·intro w'
          go_simp
          with_reducible rfl
         rotate_left
         ·simp only [Act.put,xa,xb,xc,i64_w,i32_w]
          rfl
         refine last_ (i:=16) (N:=none) #[true,true,true,true,true,true,true,true,true,true,true,true,true,true,true,true,true] rfl rfl (one_of HT_.out (by kernel_rfl)) (by decide) (fun K hK=>?_)
         have hs35 : w33.cell? ⟨gb198,1,none⟩ = some (u199001):=(blk_cell BK198.out 1).trans rfl
         have hfs35:=blk_frozen BK198.out 1
         have hns35_0:=NB196_198.out
         have hns35_1:=NB197_198.out
         have hns35_3:=NB201_198.out
         have hms35_0:=NB198_196.out
         have hms35_1:=NB198_197.out
         have hms35_3:=NB198_201.out
         refine skip_ (w1:=?_) (by rfl) rfl ?_ ?_
         rotate_left
         ·go_simp
          rfl
         refine hK.out _ _ ?_
         clear hK K
         refine done_ (done_of HT_.out (by kernel_rfl)) ?_
         try go_wp2
         go_roundg k1
         case measure=>have:=HK1.out;omega
         case rel=>exact ⟨(wrap64 (x16_1 + 1)),(y206),(.slice Ao34 y206.length co34),fz,H',⟨by have:=HK1.out;omega⟩,⟨by (with_reducible repeat (first|apply Kd.R_alloc|apply Kd.R_drewN|apply Kd.R_drew));exact Kd.R_mono (Kd.R_far (p:=⟨gb198,1,none⟩) (Kd.R_types HO208.out BK198.out (by decide)) (fun _ hk=>hk.2) (.slice Ao34 y206.length co34)) (fun _ hk=>trivial)⟩,⟨by (with_reducible repeat (first|refine blk_drewN ?_ _|refine blk_drew ?_|refine blk_alloc ?_ _));refine blk_far ?_ NB196_198.out _;(with_reducible repeat (first|refine blk_drewN ?_ _|refine blk_drew ?_|refine blk_alloc ?_ _));exact BK196.out⟩,⟨by (with_reducible repeat (first|refine blk_drewN ?_ _|refine blk_drew ?_|refine blk_alloc ?_ _));refine blk_far ?_ NB197_198.out _;(with_reducible repeat (first|refine blk_drewN ?_ _|refine blk_drew ?_|refine blk_alloc ?_ _));exact BK197.out⟩,⟨by (with_reducible repeat (first|refine blk_drewN ?_ _|refine blk_drew ?_|refine blk_alloc ?_ _));refine blk_put (cs:=#[.int .i64 a0_0,u199001,.slice none 0 0]) ?_ 1 _ rfl;(with_reducible repeat (first|refine blk_drewN ?_ _|refine blk_drew ?_|refine blk_alloc ?_ _));exact BK198.out⟩,⟨by repeat (first|(with_reducible first|exact HB.out|apply below_alloc|apply pw_below_drewN|apply below_drew1|refine below_set ?_ GE196.out|refine below_set ?_ GE197.out|refine below_set ?_ GE198.out|refine below_set ?_ GE201.out)|exact HB.out)⟩⟩
        ·rw [if_neg c19] at H
         exact absurd H (by simp)
       ·rw [if_neg c15] at H
        exact absurd H (by simp)
      ·rw [if_neg c14] at H
       exact absurd H (by simp)
     ·rw [if_neg c13] at H
      exact absurd H (by simp)
    ·rw [if_neg c12] at H
     exact absurd H (by simp)
   ·rw [if_neg c11] at H
    have c11b0 : decide (x16_1 < (l1.length : Int)) = false:=decide_eq_false c11
    clear c11
    have H':=Aside0.mk H
    clear H
    have hnb36:=NB196_197.out
    have hnc36:=NB197_196.out
    have hnb37:=NB196_198.out
    have hnc37:=NB198_196.out
    have hcz38_0 : wr.cell? ⟨gb196,0,none⟩ = some (.int .i64 a0_0):=(blk_cell BK196.out 0).trans rfl
    have hcz38_1 : wr.cell? ⟨gb196,1,none⟩ = some (.slice A0_1 l0_1.length c0_1):=(blk_cell BK196.out 1).trans rfl
    have hcz38_2 : wr.cell? ⟨gb196,2,none⟩ = some (.slice A0_2 l0_2.length c0_2):=(blk_cell BK196.out 2).trans rfl
    have hfz38_0:=blk_frozen BK196.out 0
    have hfz38_1:=blk_frozen BK196.out 1
    have hfz38_2:=blk_frozen BK196.out 2
    go_wp2
    go_loopg [45] k1 (fun kq v45 w'=>∃ (x45_2 : Int) (x199002_2 : List Int) (u199002 : Value),v45 = .int .i64 x45_2 ∧ Aside0 (spec_plKeep.l1 kq l1 l0_2 (l0_2.length : Int) x45_2 a0_0 l0_1 l0_2 a0_0 x199001_1 x199002_2 = some (r1,r2,r3)) ∧ Aside0 (kq ≤ k1) ∧ Aside0 (Kd.R k73 73 w' w.heap.size (fun _=>True) u199001 x199001_1) ∧ Aside0 (Kd.R (Kd.int .i64) 3 w' w.heap.size (fun _=>True) u199002 x199002_2) ∧ Aside0 (w'.heap[gb196]? = some (.cells #[.int .i64 a0_0,(.slice A0_1 l0_1.length c0_1),(.slice A0_2 l0_2.length c0_2)] 29 (0,0))) ∧ Aside0 (w'.heap[gb197]? = some (.cells #[.int .i64 0,(.slice none 0 0),(.slice none 0 0)] 29 (0,0))) ∧ Aside0 (w'.heap[gb198]? = some (.cells #[.int .i64 a0_0,u199001,u199002] 29 (0,0))) ∧ Aside0 (Below w.heap.size w w'))
    case atStart=>exact ⟨(0),(([] : List Int)),(.slice none 0 0),fz,H',⟨Nat.le_refl _⟩,⟨by (with_reducible repeat (first|apply Kd.R_alloc|apply Kd.R_drewN|apply Kd.R_drew));exact HO_199001.out⟩,⟨by first|exact Kd.R_nil _ _ _ _ _|exact Kd.N_nil _ _ _ _ _|exact Kd.V_nil _ _ _ _ _|exact Kd.Q_nil _ _ _ _ _|exact Kd.S_nil _ _ _ _ _⟩,⟨by (with_reducible repeat (first|refine blk_drewN ?_ _|refine blk_drew ?_|refine blk_alloc ?_ _));exact BK196.out⟩,⟨by (with_reducible repeat (first|refine blk_drewN ?_ _|refine blk_drew ?_|refine blk_alloc ?_ _));exact BK197.out⟩,⟨by (with_reducible repeat (first|refine blk_drewN ?_ _|refine blk_drew ?_|refine blk_alloc ?_ _));exact BK198.out⟩,⟨by repeat (first|(with_reducible first|exact HB.out|apply below_alloc|apply pw_below_drewN|apply below_drew1|refine below_set ?_ GE196.out|refine below_set ?_ GE197.out|refine below_set ?_ GE198.out)|exact HB.out)⟩⟩
    case round=>
     clear H'
     try clear c1
     try clear p1
     try clear q1
     try clear hx1
     try clear c2
     try clear p2
     try clear q2
     try clear hx2
     try clear c3
     try clear c5
     try clear c6
     try clear p6
     try clear c8
     try clear c9
     try clear c11
     try clear c11b0
     try clear c12
     try clear c12b0
     try clear c13
     try clear c13b0
     try clear c14
     try clear c14b0
     try clear c15
     try clear c15b0
     try clear c19
     try clear p19
     try clear q19
     try clear hx19
     try clear c20
     try clear p20
     try clear q20
     try clear hx20
     try clear c21
     try clear c24
     try clear c25
     try clear c26
     try clear c36
     try clear c37
     try clear hcz10_0
     try clear hcz10_1
     try clear hcz10_2
     try clear hcz22_0
     try clear hcz22_1
     try clear hcz22_2
     try clear hcz27_0
     try clear hcz27_1
     try clear hcz38_0
     try clear hcz38_1
     try clear hcz38_2
     try clear hcz6_0
     try clear hcz6_1
     try clear hcz6_2
     try clear hfz10_0
     try clear hfz10_1
     try clear hfz10_2
     try clear hfz22_0
     try clear hfz22_1
     try clear hfz22_2
     try clear hfz27_0
     try clear hfz27_1
     try clear hfz38_0
     try clear hfz38_1
     try clear hfz38_2
     try clear hfz6_0
     try clear hfz6_1
     try clear hfz6_2
     try clear hx199_0
     try clear hx200_0
     try clear hx200_1
     try clear p199
     try clear p2
     try clear p200
     try clear q199
     try clear q200
     obtain ⟨x45_2,x199002_2,u199002,rfl,HA,HK2,HO_199001,HO_199002,BK196,BK197,BK198,HB⟩:=hrel
     cases gk with
     | zero=>exact absurd HA.out (by simp [spec_plKeep.l1])
     | succ k2=>
      have H:=HA.out
      clear HA
      simp only [spec_plKeep.l1] at H
      by_cases c39 : x45_2 < (l0_2.length : Int)
      ·rw [if_pos c39] at H
       have c39b0 : decide (x45_2 < (l0_2.length : Int)) = true:=decide_eq_true c39
       clear c39
       by_cases c40 : 0 ≤ x45_2
       ·rw [if_pos c40] at H
        have c40b0 : decide (0 ≤ x45_2) = true:=decide_eq_true c40
        clear c40
        by_cases c41 : x45_2 < (l0_2.length : Int)
        ·rw [if_pos c41] at H
         have c41b0 : decide (x45_2 < (l0_2.length : Int)) = true:=decide_eq_true c41
         clear c41
         obtain ⟨t210,A42,H⟩:=bd H
         by_cases c43 : x199002_2.length < 17592186044416
         ·rw [if_pos c43] at H
          have LMc43:=Aside0.mk c43
          clear c43
          obtain ⟨y211,hy211⟩ : ∃ y_ : List Int,y_ = (x199002_2 ++ [t210]):=⟨_,rfl⟩
          replace H : (spec_plKeep.l1 k2 l1 l0_2 (l0_2.length : Int) (wrap64 (x45_2 + 1)) a0_0 l0_1 l0_2 a0_0 x199001_1 y211) = some (r1,r2,r3):=by first|(rw [hy211];with_reducible exact H)|(have H2_:=(Option.bind_some _ _).symm.trans H;rw [hy211];with_reducible exact H2_)|(have H2_:=(Option.bind_some _ _).symm.trans H;with_reducible exact H2_)|with_reducible exact H|(rw [hy211];exact H)|exact H
          have Ny211:=Aside0.mk hy211
          clear hy211
          have H':=Aside0.mk H
          clear H
          have p209 : 0 ≤ (x45_2 : Int):=of_decide_eq_true az
          have q209 : x45_2 < (l0_2.length : Int):=of_decide_eq_true az
          obtain ⟨ad209,e209,hx209_0⟩:=Kd.at_int HR0_2.out x45_2 p209 q209
          cases e209
          replace hx209_0:=(HB.out.cell (World.block_lt_of_cell? w _ hx209_0)).trans hx209_0
          replace p209:=eq_true p209
          replace q209:=eq_true q209
          try go_wp2
          have n0_:=Aside0.mk (Kd.R_drew HO_199001.out)
          have n1_:=Aside0.mk (Kd.R_drew HO_199002.out)
          have n2_:=Aside0.mk (blk_drew BK196.out)
          have n3_:=Aside0.mk (blk_drew BK197.out)
          have n4_:=Aside0.mk (blk_drew BK198.out)
          have n5_:=Aside0.mk (below_drew1 HB.out)
          clear HO_199001
          clear HO_199002
          clear BK196
          clear BK197
          clear BK198
          clear HB
          have HO_199001:=n0_
          have HO_199002:=n1_
          have BK196:=n2_
          have BK197:=n3_
          have BK198:=n4_
          have HB:=n5_
          clear n0_ n1_ n2_ n3_ n4_ n5_
          refine start_ (n:=10) (S:=fun w'=>w'.cell? ⟨gb198,0,none⟩ = some (.int .i64 a0_0) ∧ w'.cell? ⟨gb198,1,none⟩ = some (u199001) ∧ w'.cell? ⟨gb198,2,none⟩ = some (u199002) ∧ w'.cell? ⟨gb196,0,none⟩ = some (.int .i64 a0_0) ∧ w'.cell? ⟨gb196,1,none⟩ = some (.slice A0_1 l0_1.length c0_1) ∧ w'.cell? ⟨gb196,2,none⟩ = some (.slice (some ad209) l0_2.length c0_2)) (ds:=[9]) #[false,false,false,false,false,false,false,false,false,false] (by kernel_rfl) rfl rfl ⟨(blk_cell BK198.out 0).trans rfl,(blk_cell BK198.out 1).trans rfl,(blk_cell BK198.out 2).trans rfl,(blk_cell BK196.out 0).trans rfl,(blk_cell BK196.out 1).trans rfl,(blk_cell BK196.out 2).trans rfl⟩ (fun hHeld=>?_);refine with_tabW spec_plKeep.tab11 spec_plKeep.bits11 (fun HT_ HW_=>?_)
          generalize wr.drew = w44 at HO_199001 HO_199002 BK196 BK197 BK198 HB hHeld ⊢
          refine pure_ (i:=0) (N:=some 49) (v:=?_) (a':=?_) #[true,false,false,false,false,false,false,false,false,false] rfl rfl (any_of HT_.out (by kernel_rfl)) (fun _ _ _ h=>h) (Or.inl ⟨by rfl,?_⟩) ?_ ?_
          rotate_left
          ·intro w'
           go_simp
           with_reducible rfl
          rotate_left
          ·simp only [Act.put,xa,xb,xc,i64_w,i32_w]
           rfl
          refine pure_ (i:=3) (N:=some 52) (v:=?_) (a':=?_) #[true,false,false,true,false,false,false,false,false,false] rfl rfl (any_of HT_.out (by kernel_rfl)) (fun _ _ _ h=>h) (Or.inl ⟨by rfl,?_⟩) ?_ ?_
          rotate_left
          ·intro w'
           go_simp
           with_reducible rfl
          rotate_left
          ·simp only [Act.put,xa,xb,xc,i64_w,i32_w]
           rfl
          refine pure_ (i:=4) (N:=some 53) (v:=?_) (a':=?_) #[true,false,false,true,true,false,false,false,false,false] rfl rfl (any_of HT_.out (by kernel_rfl)) (fun _ _ _ h=>h) (Or.inl ⟨by rfl,?_⟩) ?_ ?_
          rotate_left
          ·intro w'
           go_simp
           with_reducible rfl
          rotate_left
          ·simp only [Act.put,xa,xb,xc,i64_w,i32_w]
           rfl
          refine take_ (i:=1) (N:=some 50) (v:=?_) (a':=?_) #[true,true,false,true,true,false,false,false,false,false] rfl rfl (take_ofW HT_.out HW_.out (by kernel_rfl)) (fun _ _ _ h=>h) (Or.inl ⟨by rfl,?_⟩) hHeld ?_ ?_
          rotate_left
          ·rintro w' ⟨s0,s1,s2,s3,s4,s5⟩
           go_simp
           with_reducible rfl
          rotate_left
          ·simp only [Act.put,xa,xb,xc,i64_w,i32_w]
           rfl
          refine take_ (i:=2) (N:=some 51) (v:=?_) (a':=?_) #[true,true,true,true,true,false,false,false,false,false] rfl rfl (take_ofW HT_.out HW_.out (by kernel_rfl)) (fun _ _ _ h=>h) (Or.inl ⟨by rfl,?_⟩) hHeld ?_ ?_
          rotate_left
          ·rintro w' ⟨s0,s1,s2,s3,s4,s5⟩
           go_simp
           with_reducible rfl
          rotate_left
          ·simp only [Act.put,xa,xb,xc,i64_w,i32_w]
           rfl
          refine one_ (i:=5) (N:=some 54) #[true,true,true,true,true,true,false,false,false,false] rfl rfl (one_of HT_.out (by kernel_rfl)) (by decide) (fun K hK=>?_)
          refine goes_ Try.func97 (by kernel_rfl) rfl #[.agg #[.int .i64 a0_0,.slice A0_1 l0_1.length c0_1,.slice (some ad209) l0_2.length c0_2],.slice A1 l1.length c1,.int .i64 (rd l0_2 x45_2)] (by rfl) rfl rfl mz ?_
          with_reducible refine (spec_plNumber.calls k2 a0_0 _ _ l0_1 _ _ l0_2 _ _ l1 (rd l0_2 x45_2) t210 _ ?side1 ?side2 ?side3 ?side4 ?side5 ?side6 A42.out).mono ?_
          (case side1=>exact cz (Kd.C_below HR0_1.out HB.out))
          (case side2=>exact HC0_1.out)
          (case side3=>exact cz (Kd.C_below HR0_2.out HB.out))
          (case side4=>exact HC0_2.out)
          (case side5=>exact cz (Kd.C_below HR1.out HB.out))
          (case side6=>exact HC1.out)
          rintro e w45 ⟨rfl,hb⟩
          refine ⟨_,rfl,?_⟩
          have n0_:=Aside0.mk (Kd.R_below (rz HO_199001.out) hb)
          have n1_:=Aside0.mk (Kd.R_below (rz HO_199002.out) hb)
          have n2_:=Aside0.mk (kb BK196.out hb)
          have n3_:=Aside0.mk (kb BK197.out hb)
          have n4_:=Aside0.mk (kb BK198.out hb)
          have n5_:=Aside0.mk (below_step bs hb)
          clear HO_199001
          clear HO_199002
          clear BK196
          clear BK197
          clear BK198
          clear HB
          have HO_199001:=n0_
          have HO_199002:=n1_
          have BK196:=n2_
          have BK197:=n3_
          have BK198:=n4_
          have HB:=n5_
          clear n0_ n1_ n2_ n3_ n4_ n5_
          (try clear hb)
          refine hK.out _ _ ⟨(blk_cell BK198.out 0).trans rfl,(blk_cell BK198.out 1).trans rfl,(blk_cell BK198.out 2).trans rfl,(blk_cell BK196.out 0).trans rfl,(blk_cell BK196.out 1).trans rfl,(blk_cell BK196.out 2).trans rfl⟩ (fun hHeld=>?_)
          clear hK K
          refine norm_ (a':=?_) ?_ ?_
          rotate_left
          ·show Act.put _ (some 54) _ = _
           simp only [Act.put,xa,xb,xc,i64_w,i32_w]
           rfl
          refine one_ (i:=6) (N:=some 55) #[true,true,true,true,true,true,true,false,false,false] rfl rfl (one_of HT_.out (by kernel_rfl)) (by decide) (fun K hK=>?_)
          refine value_ (w1:=?_) (v:=?_) (by rfl) rfl ?_ ?_
          rotate_left 2
          ·go_simp
           constructor
           ·rfl
           ·rfl
          refine hK.out _ _ ⟨(blk_cell (blk_alloc BK198.out _) 0).trans rfl,(blk_cell (blk_alloc BK198.out _) 1).trans rfl,(blk_cell (blk_alloc BK198.out _) 2).trans rfl,(blk_cell (blk_alloc BK196.out _) 0).trans rfl,(blk_cell (blk_alloc BK196.out _) 1).trans rfl,(blk_cell (blk_alloc BK196.out _) 2).trans rfl⟩ (fun hHeld=>?_)
          clear hK K
          refine norm_ (a':=?_) ?_ ?_
          rotate_left
          ·show Act.put _ (some 55) _ = _
           simp only [Act.put,xa,xb,xc,i64_w,i32_w]
           rfl
          refine one_ (i:=7) (N:=some 56) #[true,true,true,true,true,true,true,true,false,false] rfl rfl (one_of HT_.out (by kernel_rfl)) (by decide) (fun K hK=>?_)
          refine Kd.R_append_step (Kd.int .i64) (w0:=w) w.heap.size (by rfl) (.tmp 50) (.tmp 55) 23 3 (.int .i64 0) 8 rfl Try.underlying23 info3 rfl (by decide) (by omega) u199002 x199002_2 t210 [.int .i64 t210] (fun _=>True) (fun _=>False) rfl rfl ?aP (fun _ hk=>hk.elim) ?aF ?aO ?aB ?aS ?aL ?_
          (case aP=>exact rfl)
          (case aB=>exact bs)
          (case aF=>exact (fun _ _=>trivial))
          (case aO=>exact (rz HO_199002.out))
          (case aS=>exact (below_size bs))
          (case aL=>have:=LMc43.out;omega)
          intro v212 w46 ho hb hg hat
          rw [← Ny211.out] at ho
          have n0_:=Aside0.mk (Kd.R_over' (rz HO_199001.out) (Kd.R_typed (rz HO_199002.out)) (by decide) hg)
          have n1_:=Aside0.mk (blk_grown (g:=gb196) (o:=.cells #[.int .i64 a0_0,.slice A0_1 l0_1.length c0_1,.slice (some ad209) l0_2.length c0_2] 29 (0,0)) (kz BK196.out) hg (Kd.R_ne HO_199002.out BK196.out (by decide)))
          have n2_:=Aside0.mk (blk_grown (g:=gb197) (o:=.cells #[.int .i64 0,.slice none 0 0,.slice none 0 0] 29 (0,0)) (kz BK197.out) hg (Kd.R_ne HO_199002.out BK197.out (by decide)))
          have n3_:=Aside0.mk (blk_grown (g:=gb198) (o:=.cells #[.int .i64 a0_0,u199001,u199002] 29 (0,0)) (kz BK198.out) hg (Kd.R_ne HO_199002.out BK198.out (by decide)))
          have n4_:=Aside0.mk (hb)
          have n5_:=Aside0.mk (ho)
          clear HO_199001
          clear BK196
          clear BK197
          clear BK198
          clear HB
          clear HO_199002
          have HO_199001:=n0_
          have BK196:=n1_
          have BK197:=n2_
          have BK198:=n3_
          have HB:=n4_
          have HO213:=n5_
          clear n0_ n1_ n2_ n3_ n4_ n5_
          clear ho hb hg hat
          obtain ⟨Ao47,co47,eo47⟩:=Kd.R_slice HO213.out
          (first|subst eo47|(injection eo47 with f1_ f2_ f3_;have f4_:=f1_.symm;have f5_:=f3_.symm;clear f1_ f2_ f3_;subst f4_;subst f5_))
          refine hK.out _ _ ⟨(blk_cell BK198.out 0).trans rfl,(blk_cell BK198.out 1).trans rfl,(blk_cell BK198.out 2).trans rfl,(blk_cell BK196.out 0).trans rfl,(blk_cell BK196.out 1).trans rfl,(blk_cell BK196.out 2).trans rfl⟩ (fun hHeld=>?_)
          clear hK K
          refine norm_ (a':=?_) ?_ ?_
          rotate_left
          ·show Act.put _ (some 56) _ = _
           simp only [Act.put,xa,xb,xc,i64_w,i32_w]
           rfl
          refine pure_ (i:=8) (N:=some 57) (v:=?_) (a':=?_) #[true,true,true,true,true,true,true,true,true,false] rfl rfl (any_of HT_.out (by kernel_rfl)) (fun _ _ _ h=>h) (Or.inl ⟨by rfl,?_⟩) ?_ ?_
          rotate_left
          ·intro w'
           go_simp
           with_reducible rfl
          rotate_left
          ·simp only [Act.put,xa,xb,xc,i64_w,i32_w]
           rfl
          refine last_ (i:=9) (N:=none) #[true,true,true,true,true,true,true,true,true,true] rfl rfl (one_of HT_.out (by kernel_rfl)) (by decide) (fun K hK=>?_)
          have hs48 : w46.cell? ⟨gb198,2,none⟩ = some (u199002):=(blk_cell BK198.out 2).trans rfl
          have hfs48:=blk_frozen BK198.out 2
          have hns48_0:=NB196_198.out
          have hns48_1:=NB197_198.out
          have hms48_0:=NB198_196.out
          have hms48_1:=NB198_197.out
          refine skip_ (w1:=?_) (by rfl) rfl ?_ ?_
          rotate_left
          ·go_simp
           rfl
          refine hK.out _ _ ?_
          clear hK K
          refine done_ (done_of HT_.out (by kernel_rfl)) ?_
          try go_wp2
          go_roundg k2
          case measure=>have:=HK1.out;have:=HK2.out;omega
          case rel=>exact ⟨(wrap64 (x45_2 + 1)),(y211),(.slice Ao47 y211.length co47),fz,H',⟨by have:=HK1.out;have:=HK2.out;omega⟩,⟨by (with_reducible repeat (first|apply Kd.R_alloc|apply Kd.R_drewN|apply Kd.R_drew));exact Kd.R_mono (Kd.R_far (p:=⟨gb198,2,none⟩) (Kd.R_types HO_199001.out BK198.out (by decide)) (fun _ hk=>hk.2) (.slice Ao47 y211.length co47)) (fun _ hk=>trivial)⟩,⟨by (with_reducible repeat (first|apply Kd.R_alloc|apply Kd.R_drewN|apply Kd.R_drew));exact Kd.R_mono (Kd.R_far (p:=⟨gb198,2,none⟩) (Kd.R_types HO213.out BK198.out (by decide)) (fun _ hk=>hk.2) (.slice Ao47 y211.length co47)) (fun _ hk=>trivial)⟩,⟨by (with_reducible repeat (first|refine blk_drewN ?_ _|refine blk_drew ?_|refine blk_alloc ?_ _));refine blk_far ?_ NB196_198.out _;(with_reducible repeat (first|refine blk_drewN ?_ _|refine blk_drew ?_|refine blk_alloc ?_ _));exact BK196.out⟩,⟨by (with_reducible repeat (first|refine blk_drewN ?_ _|refine blk_drew ?_|refine blk_alloc ?_ _));refine blk_far ?_ NB197_198.out _;(with_reducible repeat (first|refine blk_drewN ?_ _|refine blk_drew ?_|refine blk_alloc ?_ _));exact BK197.out⟩,⟨by (with_reducible repeat (first|refine blk_drewN ?_ _|refine blk_drew ?_|refine blk_alloc ?_ _));refine blk_put (cs:=#[.int .i64 a0_0,u199001,u199002]) ?_ 2 _ rfl;(with_reducible repeat (first|refine blk_drewN ?_ _|refine blk_drew ?_|refine blk_alloc ?_ _));exact BK198.out⟩,⟨by repeat (first|(with_reducible first|exact HB.out|apply below_alloc|apply pw_below_drewN|apply below_drew1|refine below_set ?_ GE196.out|refine below_set ?_ GE197.out|refine below_set ?_ GE198.out)|exact HB.out)⟩⟩
         ·rw [if_neg c43] at H
          exact absurd H (by simp)
        ·rw [if_neg c41] at H
         exact absurd H (by simp)
       ·rw [if_neg c40] at H
        exact absurd H (by simp)
      ·rw [if_neg c39] at H
       have c39b0 : decide (x45_2 < (l0_2.length : Int)) = false:=decide_eq_false c39
       clear c39
       simp only [Option.some.injEq,Prod.mk.injEq] at H
       obtain ⟨rfl,rfl,rfl⟩:=H
       have hnb49:=NB198_196.out
       have hnc49:=NB196_198.out
       have hnb50:=NB198_197.out
       have hnc50:=NB197_198.out
       have hcz51_0 : wr.cell? ⟨gb198,0,none⟩ = some (.int .i64 a0_0):=(blk_cell BK198.out 0).trans rfl
       have hcz51_1 : wr.cell? ⟨gb198,1,none⟩ = some (u199001):=(blk_cell BK198.out 1).trans rfl
       have hcz51_2 : wr.cell? ⟨gb198,2,none⟩ = some (u199002):=(blk_cell BK198.out 2).trans rfl
       have hfz51_0:=blk_frozen BK198.out 0
       have hfz51_1:=blk_frozen BK198.out 1
       have hfz51_2:=blk_frozen BK198.out 2
       have hnb52:=NB197_196.out
       have hnc52:=NB196_197.out
       have hcz53_0 : wr.cell? ⟨gb197,0,none⟩ = some (.int .i64 0):=(blk_cell BK197.out 0).trans rfl
       have hcz53_1 : wr.cell? ⟨gb197,1,none⟩ = some (.slice none 0 0):=(blk_cell BK197.out 1).trans rfl
       have hcz53_2 : wr.cell? ⟨gb197,2,none⟩ = some (.slice none 0 0):=(blk_cell BK197.out 2).trans rfl
       have hfz53_0:=blk_frozen BK197.out 0
       have hfz53_1:=blk_frozen BK197.out 1
       have hfz53_2:=blk_frozen BK197.out 2
       obtain ⟨Ao54,co54,eo54⟩:=Kd.R_slice HO_199001.out
       subst eo54
       obtain ⟨Ao55,co55,eo55⟩:=Kd.R_slice HO_199002.out
       subst eo55
       go_wp2
       refine bodyPost_ret (results_cell_row rfl _ _ gb197 29 #[.int .i64 a0_0,.slice Ao54 x199001_1.length co54,.slice Ao55 x199002_2.length co55] (0,0) _ rfl (by (with_reducible repeat (first|refine blk_drewN ?_ _|refine blk_drew ?_|refine blk_alloc ?_ _));refine blk_put (cs:=#[.int .i64 a0_0,.slice Ao54 x199001_1.length co54,.slice none 0 0]) ?_ 2 _ rfl;(with_reducible repeat (first|refine blk_drewN ?_ _|refine blk_drew ?_|refine blk_alloc ?_ _));refine blk_put (cs:=#[.int .i64 a0_0,.slice none 0 0,.slice none 0 0]) ?_ 1 _ rfl;(with_reducible repeat (first|refine blk_drewN ?_ _|refine blk_drew ?_|refine blk_alloc ?_ _));refine blk_put (cs:=#[.int .i64 0,.slice none 0 0,.slice none 0 0]) ?_ 0 _ rfl;(with_reducible repeat (first|refine blk_drewN ?_ _|refine blk_drew ?_|refine blk_alloc ?_ _));exact BK197.out) Try.underlying29 rfl (by kernel_rfl)) rfl ?_
       exact ⟨_,_,by first|rfl|(simp [errW_none,errW_some] <;> rfl)|(simp [*,errW_none,errW_some] <;> rfl),by (with_reducible repeat (first|apply Kd.R_alloc|apply Kd.R_drewN|apply Kd.R_drew));exact Kd.R_mono (Kd.R_far (p:=⟨gb197,2,none⟩) (Kd.R_far (p:=⟨gb197,1,none⟩) (Kd.R_far (p:=⟨gb197,0,none⟩) (Kd.R_types HO_199001.out BK197.out (by decide)) (fun _ hk=>hk.2) (.int .i64 a0_0)) (fun _ hk=>hk.2) (.slice Ao54 x199001_1.length co54)) (fun _ hk=>hk.2) (.slice Ao55 x199002_2.length co55)) (fun _ hk=>trivial),by (with_reducible repeat (first|apply Kd.R_alloc|apply Kd.R_drewN|apply Kd.R_drew));exact Kd.R_mono (Kd.R_far (p:=⟨gb197,2,none⟩) (Kd.R_far (p:=⟨gb197,1,none⟩) (Kd.R_far (p:=⟨gb197,0,none⟩) (Kd.R_types HO_199002.out BK197.out (by decide)) (fun _ hk=>hk.2) (.int .i64 a0_0)) (fun _ hk=>hk.2) (.slice Ao54 x199001_1.length co54)) (fun _ hk=>hk.2) (.slice Ao55 x199002_2.length co55)) (fun _ hk=>trivial),by repeat (first|(with_reducible first|exact HB.out|apply below_alloc|apply pw_below_drewN|apply below_drew1|refine below_set ?_ GE196.out|refine below_set ?_ GE197.out|refine below_set ?_ GE198.out)|exact HB.out)⟩
end Go.Proofs.Ytdcdaoancmpbeaa.MFnExactReorderSteps
--sq
