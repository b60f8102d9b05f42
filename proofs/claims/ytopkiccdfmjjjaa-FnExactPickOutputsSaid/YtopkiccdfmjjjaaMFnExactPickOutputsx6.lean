import Derived.Test.YtopkiccdfmjjjaaMFnExactPickOutputsx0
import Derived.Test.YtopkiccdfmjjjaaMFnExactPickOutputsx4
import Derived.Test.YtopkiccdfmjjjaaMFnExactPickOutputsx5
namespace Go.Proofs.Ytopkiccdfmjjjaa.MFnExactPickOutputs
open Go.RowKit Go.Proofs.YtopkiccdfmjjjaaW.PrintWords Go.Proofs.YtopkiccdfmjjjaaW.PrintLast Go.Proofs.YtopkiccdfmjjjaaW.PrintMore Go.Proofs.YtopkiccdfmjjjaaV Go.Proofs.YtopkiccdfmjjjaaZ
attribute [local go_sem] max2_int min2_int max_two min_two max_three min_three max_four min_four   -- for this text's walks alone
set_option linter.unusedVariables false
set_option linter.unusedSimpArgs false
/-! ### spec_PickOutputs: function 47 -/
mutual
def spec_PickOutputs.j0 : Nat → List Int → Bool → Int → List (S69) → List Int → Option (Int × (List (S69)) × List Int × Bool)
 | 0,_,_,_,_,_=>none
 | k + 1,x1,x20,x211000,x211001,x211002=>if x20 = true then (some (0,([] : List (S69)),([] : List Int),false)) else ((spec_plOwn.f x211000 x211001 x211002).bind fun bt214=>(spec_PickOutputs.l0 k x1 (x1.length : Int) 0 x211000 x211001 x211002 bt214.1 bt214.2.1 ([] : List Int)))
def spec_PickOutputs.l0 : Nat → List Int → Int → Int → Int → List (S69) → List Int → Int → List (S69) → List Int → Option (Int × (List (S69)) × List Int × Bool)
 | 0,_,_,_,_,_,_,_,_,_=>none
 | k + 1,x25,x26,x27,x211000,x211001,x211002,x222000,x222001,x222002=>if x27 < x26 then (if 0 ≤ x27 then (if x27 < (x25.length : Int) then (if 0 ≤ (rd x25 x27) then (if (rd x25 x27) < (x211002.length : Int) then (if x222002.length < 17592186044416 then (spec_PickOutputs.l0 k x25 x26 (wrap64 (x27 + 1)) x211000 x211001 x211002 x222000 x222001 (x222002 ++ [rd x211002 (rd x25 x27)])) else (none)) else (none)) else (none)) else (none)) else (none)) else ((spec_plIf.f k x222000 x222001 x222002).bind fun bt227=>(some (bt227.1,bt227.2.1,bt227.2.2.1,bt227.2.2.2)))
end
def spec_PickOutputs.f (k : Nat) (a0_0 : Int) (l0_1 : List (S69)) (l0_2 : List Int) (l1 : List Int) : Option (Int × (List (S69)) × List Int × Bool):=(spec_plGood.f k a0_0 l0_1 l0_2).bind fun t212=>(if t212 = true then ((spec_l1All.f k l1 0 (wrap64 ((l0_2.length : Int) - 1))).bind fun t213=>(spec_PickOutputs.j0 k l1 (!t213) a0_0 l0_1 l0_2)) else (spec_PickOutputs.j0 k l1 true a0_0 l0_1 l0_2))
theorem spec_PickOutputs.mono_l : ∀ k,(∀ y0 y1 y2 y3 y4,LeO (spec_PickOutputs.j0 k y0 y1 y2 y3 y4) (spec_PickOutputs.j0 (k + 1) y0 y1 y2 y3 y4)) ∧ (∀ y0 y1 y2 y3 y4 y5 y6 y7 y8,LeO (spec_PickOutputs.l0 k y0 y1 y2 y3 y4 y5 y6 y7 y8) (spec_PickOutputs.l0 (k + 1) y0 y1 y2 y3 y4 y5 y6 y7 y8))
 | 0=>⟨fun _ _ _ _ _ r h=>by simp [spec_PickOutputs.j0] at h,fun _ _ _ _ _ _ _ _ _ r h=>by simp [spec_PickOutputs.l0] at h⟩
 | k + 1=>by
  obtain ⟨ih0,ih1⟩:=spec_PickOutputs.mono_l k
  refine ⟨?_,?_⟩
  ·intro y0 y1 y2 y3 y4
   unfold spec_PickOutputs.j0
   repeat' first
   | (with_reducible exact ih0 _ _ _ _ _)
   | (with_reducible exact ih1 _ _ _ _ _ _ _ _ _)
   | (with_reducible exact spec_l1All.mono _ _ _ _)
   | (with_reducible exact spec_plGood.mono _ _ _ _)
   | (with_reducible exact spec_plIf.mono _ _ _ _)
   | (with_reducible exact LeO.refl _)
   | (with_reducible exact LeO.none _)
   | (with_reducible refine LeO.ite ?_ ?_)
   | (with_reducible refine LeO.bind ?_ (fun _=>?_))
   | exact ih0 _ _ _ _ _
   | exact ih1 _ _ _ _ _ _ _ _ _
   | exact spec_l1All.mono _ _ _ _
   | exact spec_plGood.mono _ _ _ _
   | exact spec_plIf.mono _ _ _ _
   | exact LeO.none _
   | refine LeO.ite ?_ ?_
   | refine LeO.bind ?_ (fun _=>?_)
  ·intro y0 y1 y2 y3 y4 y5 y6 y7 y8
   unfold spec_PickOutputs.l0
   repeat' first
   | (with_reducible exact ih0 _ _ _ _ _)
   | (with_reducible exact ih1 _ _ _ _ _ _ _ _ _)
   | (with_reducible exact spec_l1All.mono _ _ _ _)
   | (with_reducible exact spec_plGood.mono _ _ _ _)
   | (with_reducible exact spec_plIf.mono _ _ _ _)
   | (with_reducible exact LeO.refl _)
   | (with_reducible exact LeO.none _)
   | (with_reducible refine LeO.ite ?_ ?_)
   | (with_reducible refine LeO.bind ?_ (fun _=>?_))
   | exact ih0 _ _ _ _ _
   | exact ih1 _ _ _ _ _ _ _ _ _
   | exact spec_l1All.mono _ _ _ _
   | exact spec_plGood.mono _ _ _ _
   | exact spec_plIf.mono _ _ _ _
   | exact LeO.none _
   | refine LeO.ite ?_ ?_
   | refine LeO.bind ?_ (fun _=>?_)
theorem spec_PickOutputs.mono : ∀ a0 a1 a2 a3 k,LeO (spec_PickOutputs.f k a0 a1 a2 a3) (spec_PickOutputs.f (k + 1) a0 a1 a2 a3):=by
 intro a0 a1 a2 a3 k
 obtain ⟨ih0,ih1⟩:=spec_PickOutputs.mono_l k
 unfold spec_PickOutputs.f
 repeat' first
   | (with_reducible exact ih0 _ _ _ _ _)
   | (with_reducible exact ih1 _ _ _ _ _ _ _ _ _)
   | (with_reducible exact spec_l1All.mono _ _ _ _)
   | (with_reducible exact spec_plGood.mono _ _ _ _)
   | (with_reducible exact spec_plIf.mono _ _ _ _)
   | (with_reducible exact LeO.refl _)
   | (with_reducible exact LeO.none _)
   | (with_reducible refine LeO.ite ?_ ?_)
   | (with_reducible refine LeO.bind ?_ (fun _=>?_))
   | exact ih0 _ _ _ _ _
   | exact ih1 _ _ _ _ _ _ _ _ _
   | exact spec_l1All.mono _ _ _ _
   | exact spec_plGood.mono _ _ _ _
   | exact spec_plIf.mono _ _ _ _
   | exact LeO.none _
   | refine LeO.ite ?_ ?_
   | refine LeO.bind ?_ (fun _=>?_)
def spec_PickOutputs.T8 : Bool × List (List Nat × List Nat):=(true,[([],[]),([0],[0]),([],[]),([2],[2]),([],[]),([3,4],[3,4]),([5],[5]),([6],[6]),([1,7],[1,7]),([0,1,2,3,4,5,6,7,8],[]),([9,8,8,0,1,2,3,4,5,6,7,8],[8,9])])
def spec_PickOutputs.B8 : List Nat:=[0,1,0,4,0,28,60,124,255,511,1023]
theorem spec_PickOutputs.tab8 : rtab .any (opsOf Try.f47 8) = spec_PickOutputs.T8:=by kernel_rfl
theorem spec_PickOutputs.bits8 : waitsOk spec_PickOutputs.T8.2 spec_PickOutputs.B8 = true:=by kernel_rfl
set_option maxHeartbeats 8000000 in
set_option maxRecDepth 100000 in
theorem spec_PickOutputs.calls (k : Nat) (a0_0 : Int) (A0_1 : Option Addr) (c0_1 : Nat) (l0_1 : List (S69)) (A0_2 : Option Addr) (c0_2 : Nat) (l0_2 : List Int) (A1 : Option Addr) (c1 : Nat) (l1 : List Int) (r1 : Int) (r2 : List (S69)) (r3 : List Int) (r4 : Bool) (w : World) (hr0_1 : Kd.C k69 w A0_1 l0_1.length l0_1) (hc0_1 : l0_1.length ≤ c0_1) (hr0_2 : Kd.C (Kd.int .i64) w A0_2 l0_2.length l0_2) (hc0_2 : l0_2.length ≤ c0_2) (hr1 : Kd.C (Kd.int .i64) w A1 l1.length l1) (hc1 : l1.length ≤ c1) (h : spec_PickOutputs.f k a0_0 l0_1 l0_2 l1 = some (r1,r2,r3,r4)) :
  Calls Try.prog 47 #[.agg #[.int .i64 a0_0,.slice A0_1 l0_1.length c0_1,.slice A0_2 l0_2.length c0_2],.slice A1 l1.length c1] w fun e w'=>∃ v1_ v2_ : Value,e = .returned (.tuple #[.agg #[.int .i64 r1,v1_,v2_],.bool r4]) ∧ Kd.R k69 69 w' w.heap.size (fun _=>True) v1_ r2 ∧ Kd.R (Kd.int .i64) 3 w' w.heap.size (fun _=>True) v2_ r3 ∧ Below w.heap.size w w':=by
 have hu30:=Try.underlying30
 have HR0_1:=Aside0.mk hr0_1
 have HC0_1:=Aside0.mk hc0_1
 clear hr0_1 hc0_1
 have HR0_2:=Aside0.mk hr0_2
 have HC0_2:=Aside0.mk hc0_2
 clear hr0_2 hc0_2
 have HR1:=Aside0.mk hr1
 have HC1:=Aside0.mk hc1
 clear hr1 hc1
 have HB:=Aside0.mk (Below.refl w.heap.size w)
 have H : ((spec_plGood.f k a0_0 l0_1 l0_2).bind fun t212=>(if t212 = true then ((spec_l1All.f k l1 0 (wrap64 ((l0_2.length : Int) - 1))).bind fun t213=>(spec_PickOutputs.j0 k l1 (!t213) a0_0 l0_1 l0_2)) else (spec_PickOutputs.j0 k l1 true a0_0 l0_1 l0_2))) = some (r1,r2,r3,r4):=h
 clear h
 have HC3:=Aside0.mk H
 clear H
 go_enter Try.func47,Try.ntmps47
 go_upto_region 1 with (first|((with_reducible refine gate_dst (N:=2) rfl ?_);(try (refine gate_guard (by rfl) ?_;dsimp only));refine box_event ?hg (N:=2) ?hd (cs:=#[.int .i64 a0_0,.slice A0_1 l0_1.length c0_1,.slice A0_2 l0_2.length c0_2]) (t:=30) ?hr ?_;(case hd=>rfl);(case hg=>rfl);(case hr=>first|(go_simp;done)|(go_simp;rfl));intro gb210 hg w4 hbox hb;have n0_:=Aside0.mk (below_step bz hb);have n1_:=Aside0.mk (hbox);have n2_:=Aside0.mk ((by rw [hg];exact (below_size bz) : w.heap.size ≤ gb210));have n3_:=Aside0.mk ((by rw [hg];exact (below_size bz) : w.heap.size ≤ gb210));clear HB;have HB:=n0_;have BK210:=n1_;have GW210:=n2_;have GE210:=n3_;clear n0_ n1_ n2_ n3_;clear hb hbox hg)|((with_reducible refine gate_dst (N:=4) rfl ?_);(try (refine gate_guard (by rfl) ?_;dsimp only));refine box_event ?hg (N:=4) ?hd (cs:=#[.int .i64 0,.slice none 0 0,.slice none 0 0]) (t:=30) ?hr ?_;(case hd=>rfl);(case hg=>rfl);(case hr=>first|(go_simp;done)|(go_simp;rfl));intro gb211 hg w5 hbox hb;have n0_:=Aside0.mk (kb BK210.out hb);have n1_:=Aside0.mk (below_step bs hb);have n2_:=Aside0.mk (hbox);have n3_:=Aside0.mk ((by rw [hg];exact (below_size bs) : w.heap.size ≤ gb211));have n4_:=Aside0.mk ((by rw [hg];exact (below_size bs) : w.heap.size ≤ gb211));have n5_:=Aside0.mk (kn hg BK210.out);have n6_:=Aside0.mk (km hg BK210.out);clear BK210 HB;have BK210:=n0_;have HB:=n1_;have BK211:=n2_;have GW211:=n3_;have GE211:=n4_;have NB210_211:=n5_;have NB211_210:=n6_;clear n0_ n1_ n2_ n3_ n4_ n5_ n6_;clear hb hbox hg))
 (try simp only [Act.put,xa,xb,xc])
 go_cut [20] (fun v20 wc=>∃ (kq : Nat) (x20_2 : Bool),v20 = .bool x20_2 ∧ Aside0 (spec_PickOutputs.j0 kq l1 x20_2 a0_0 l0_1 l0_2 = some (r1,r2,r3,r4)) ∧ Aside0 (kq ≤ k) ∧ Aside0 (wc.heap[gb210]? = some (.cells #[.int .i64 a0_0,(.slice A0_1 l0_1.length c0_1),(.slice A0_2 l0_2.length c0_2)] 30 (0,0))) ∧ Aside0 (wc.heap[gb211]? = some (.cells #[.int .i64 0,(.slice none 0 0),(.slice none 0 0)] 30 (0,0))) ∧ Aside0 (Below w.heap.size w wc))
 case first=>
  have H:=HC3.out
  clear HC3
  obtain ⟨t212,A6,H⟩:=bd H
  by_cases c7 : t212 = true
  ·subst c7
   rw [if_pos rfl] at H
   obtain ⟨t213,A8,H⟩:=bd H
   have H':=Aside0.mk H
   clear H
   have hnb9:=NB210_211.out
   have hnc9:=NB211_210.out
   have hcz10_0 : w5.cell? ⟨gb210,0,none⟩ = some (.int .i64 a0_0):=(blk_cell BK210.out 0).trans rfl
   have hcz10_1 : w5.cell? ⟨gb210,1,none⟩ = some (.slice A0_1 l0_1.length c0_1):=(blk_cell BK210.out 1).trans rfl
   have hcz10_2 : w5.cell? ⟨gb210,2,none⟩ = some (.slice A0_2 l0_2.length c0_2):=(blk_cell BK210.out 2).trans rfl
   have hfz10_0:=blk_frozen BK210.out 0
   have hfz10_1:=blk_frozen BK210.out 1
   have hfz10_2:=blk_frozen BK210.out 2
   go_wp2_with (first|((with_reducible refine gate_callee (f:=53) rfl ?_);refine goesL_ (some 10) rfl rfl Try.func53 (by kernel_rfl) rfl #[.agg #[.int .i64 a0_0,.slice A0_1 l0_1.length c0_1,.slice A0_2 l0_2.length c0_2]] rfl mz ?_;(with_reducible refine (spec_plGood.calls k a0_0 _ _ l0_1 _ _ l0_2 true _ ?side1 ?side2 ?side3 ?side4 A6.out).mono ?_);(case side1=>exact cz (Kd.C_below HR0_1.out HB.out));(case side2=>exact HC0_1.out);(case side3=>exact cz (Kd.C_below HR0_2.out HB.out));(case side4=>exact HC0_2.out);rintro e w11 ⟨rfl,hb⟩;refine ⟨_,rfl,?_⟩;have n0_:=Aside0.mk (kb BK210.out hb);have n1_:=Aside0.mk (kb BK211.out hb);have n2_:=Aside0.mk (below_step bs hb);clear BK210 BK211 HB;have BK210:=n0_;have BK211:=n1_;have HB:=n2_;clear n0_ n1_ n2_;(try clear hb);have hcz12_0 : w11.cell? ⟨gb210,0,none⟩ = some (.int .i64 a0_0):=(blk_cell BK210.out 0).trans rfl;have hcz12_1 : w11.cell? ⟨gb210,1,none⟩ = some (.slice A0_1 l0_1.length c0_1):=(blk_cell BK210.out 1).trans rfl;have hcz12_2 : w11.cell? ⟨gb210,2,none⟩ = some (.slice A0_2 l0_2.length c0_2):=(blk_cell BK210.out 2).trans rfl;have hfz12_0:=blk_frozen BK210.out 0;have hfz12_1:=blk_frozen BK210.out 1;have hfz12_2:=blk_frozen BK210.out 2)|(go_at_call 81;(with_reducible refine (spec_l1All.calls k _ _ l1 0 (wrap64 ((l0_2.length : Int) - 1)) t213 _ ?side1 ?side2 A8.out).mono ?_);(case side1=>exact cz (Kd.C_below HR1.out HB.out));(case side2=>exact HC1.out);rintro e w' ⟨rfl,⟨nd,rfl⟩⟩))
   go_meet
   case rel=>exact ⟨_,(!t213),fz,H',⟨by first|omega|exact Nat.le_refl _⟩,⟨by (with_reducible repeat (first|refine blk_drewN ?_ _|refine blk_drew ?_|refine blk_alloc ?_ _));exact BK210.out⟩,⟨by (with_reducible repeat (first|refine blk_drewN ?_ _|refine blk_drew ?_|refine blk_alloc ?_ _));exact BK211.out⟩,⟨by repeat (first|(with_reducible first|exact HB.out|apply below_alloc|apply pw_below_drewN|apply below_drew1|refine below_set ?_ GE210.out|refine below_set ?_ GE211.out)|exact HB.out)⟩⟩
  ·replace c7:=Bool.eq_false_iff.mpr c7
   subst c7
   rw [if_neg (show ¬ (false = true) by decide)] at H
   have H':=Aside0.mk H
   clear H
   have hnb13:=NB210_211.out
   have hnc13:=NB211_210.out
   have hcz14_0 : w5.cell? ⟨gb210,0,none⟩ = some (.int .i64 a0_0):=(blk_cell BK210.out 0).trans rfl
   have hcz14_1 : w5.cell? ⟨gb210,1,none⟩ = some (.slice A0_1 l0_1.length c0_1):=(blk_cell BK210.out 1).trans rfl
   have hcz14_2 : w5.cell? ⟨gb210,2,none⟩ = some (.slice A0_2 l0_2.length c0_2):=(blk_cell BK210.out 2).trans rfl
   have hfz14_0:=blk_frozen BK210.out 0
   have hfz14_1:=blk_frozen BK210.out 1
   have hfz14_2:=blk_frozen BK210.out 2
   go_wp2_with (first|((with_reducible refine gate_callee (f:=53) rfl ?_);refine goesL_ (some 10) rfl rfl Try.func53 (by kernel_rfl) rfl #[.agg #[.int .i64 a0_0,.slice A0_1 l0_1.length c0_1,.slice A0_2 l0_2.length c0_2]] rfl mz ?_;(with_reducible refine (spec_plGood.calls k a0_0 _ _ l0_1 _ _ l0_2 false _ ?side1 ?side2 ?side3 ?side4 A6.out).mono ?_);(case side1=>exact cz (Kd.C_below HR0_1.out HB.out));(case side2=>exact HC0_1.out);(case side3=>exact cz (Kd.C_below HR0_2.out HB.out));(case side4=>exact HC0_2.out);rintro e w15 ⟨rfl,hb⟩;refine ⟨_,rfl,?_⟩;have n0_:=Aside0.mk (kb BK210.out hb);have n1_:=Aside0.mk (kb BK211.out hb);have n2_:=Aside0.mk (below_step bs hb);clear BK210 BK211 HB;have BK210:=n0_;have BK211:=n1_;have HB:=n2_;clear n0_ n1_ n2_;(try clear hb)))
   go_meet
   case rel=>exact ⟨_,(true),fz,H',⟨by first|omega|exact Nat.le_refl _⟩,⟨by (with_reducible repeat (first|refine blk_drewN ?_ _|refine blk_drew ?_|refine blk_alloc ?_ _));exact BK210.out⟩,⟨by (with_reducible repeat (first|refine blk_drewN ?_ _|refine blk_drew ?_|refine blk_alloc ?_ _));exact BK211.out⟩,⟨by repeat (first|(with_reducible first|exact HB.out|apply below_alloc|apply pw_below_drewN|apply below_drew1|refine below_set ?_ GE210.out|refine below_set ?_ GE211.out)|exact HB.out)⟩⟩
 case rest=>
  clear HC3
  try clear c1
  try clear p2
  try clear c4
  try clear c5
  try clear p6
  try clear c7
  try clear c9
  try clear c13
  try clear hcz10_0
  try clear hcz10_1
  try clear hcz10_2
  try clear hcz12_0
  try clear hcz12_1
  try clear hcz12_2
  try clear hcz14_0
  try clear hcz14_1
  try clear hcz14_2
  try clear hfz10_0
  try clear hfz10_1
  try clear hfz10_2
  try clear hfz12_0
  try clear hfz12_1
  try clear hfz12_2
  try clear hfz14_0
  try clear hfz14_1
  try clear hfz14_2
  obtain ⟨kq,x20_2,rfl,HA,HJ2,BK210,BK211,HB⟩:=hcut
  cases kq with
  | zero=>exact absurd HA.out (by simp [spec_PickOutputs.j0])
  | succ kj2=>
   have H:=HA.out
   clear HA
   simp only [spec_PickOutputs.j0] at H
   by_cases c16 : x20_2 = true
   ·subst c16
    rw [if_pos rfl] at H
    simp only [Option.some.injEq,Prod.mk.injEq] at H
    obtain ⟨rfl,rfl,rfl,rfl⟩:=H
    have hnb17:=NB211_210.out
    have hnc17:=NB210_211.out
    have hcz18_0 : wc.cell? ⟨gb211,0,none⟩ = some (.int .i64 0):=(blk_cell BK211.out 0).trans rfl
    have hcz18_1 : wc.cell? ⟨gb211,1,none⟩ = some (.slice none 0 0):=(blk_cell BK211.out 1).trans rfl
    have hcz18_2 : wc.cell? ⟨gb211,2,none⟩ = some (.slice none 0 0):=(blk_cell BK211.out 2).trans rfl
    have hfz18_0:=blk_frozen BK211.out 0
    have hfz18_1:=blk_frozen BK211.out 1
    have hfz18_2:=blk_frozen BK211.out 2
    go_wp2
    refine bodyPost_ret (results_ct rfl _ _ gb211 30 #[.int .i64 0,.slice none 0 0,.slice none 0 0] (0,0) _ rfl (by (with_reducible repeat (first|refine blk_drewN ?_ _|refine blk_drew ?_|refine blk_alloc ?_ _));refine blk_put (cs:=#[.int .i64 0,.slice none 0 0,.slice none 0 0]) ?_ 2 _ rfl;(with_reducible repeat (first|refine blk_drewN ?_ _|refine blk_drew ?_|refine blk_alloc ?_ _));refine blk_put (cs:=#[.int .i64 0,.slice none 0 0,.slice none 0 0]) ?_ 1 _ rfl;(with_reducible repeat (first|refine blk_drewN ?_ _|refine blk_drew ?_|refine blk_alloc ?_ _));refine blk_put (cs:=#[.int .i64 0,.slice none 0 0,.slice none 0 0]) ?_ 0 _ rfl;(with_reducible repeat (first|refine blk_drewN ?_ _|refine blk_drew ?_|refine blk_alloc ?_ _));exact BK211.out) Try.underlying30 rfl (by kernel_rfl)) rfl ?_
    exact ⟨_,_,by first|rfl|(simp [errW_none,errW_some] <;> rfl)|(simp [*,errW_none,errW_some] <;> rfl),by first|exact Kd.R_nil _ _ _ _ _|exact Kd.N_nil _ _ _ _ _|exact Kd.V_nil _ _ _ _ _|exact Kd.Q_nil _ _ _ _ _|exact Kd.S_nil _ _ _ _ _,by first|exact Kd.R_nil _ _ _ _ _|exact Kd.N_nil _ _ _ _ _|exact Kd.V_nil _ _ _ _ _|exact Kd.Q_nil _ _ _ _ _|exact Kd.S_nil _ _ _ _ _,by repeat (first|(with_reducible first|exact HB.out|apply below_alloc|apply pw_below_drewN|apply below_drew1|refine below_set ?_ GE210.out|refine below_set ?_ GE211.out)|exact HB.out)⟩
   ·replace c16:=Bool.eq_false_iff.mpr c16
    subst c16
    rw [if_neg (show ¬ (false = true) by decide)] at H
    obtain ⟨⟨t214,t215,t218⟩,A19,H⟩:=bd H
    try dsimp only at H
    have H':=Aside0.mk H
    clear H
    have hnb20:=NB210_211.out
    have hnc20:=NB211_210.out
    have hcz21_0 : wc.cell? ⟨gb210,0,none⟩ = some (.int .i64 a0_0):=(blk_cell BK210.out 0).trans rfl
    have hcz21_1 : wc.cell? ⟨gb210,1,none⟩ = some (.slice A0_1 l0_1.length c0_1):=(blk_cell BK210.out 1).trans rfl
    have hcz21_2 : wc.cell? ⟨gb210,2,none⟩ = some (.slice A0_2 l0_2.length c0_2):=(blk_cell BK210.out 2).trans rfl
    have hfz21_0:=blk_frozen BK210.out 0
    have hfz21_1:=blk_frozen BK210.out 1
    have hfz21_2:=blk_frozen BK210.out 2
    go_wp2_with (first|((with_reducible refine gate_callee (f:=82) rfl ?_);refine goesL_ (some 23) rfl rfl Try.func82 (by kernel_rfl) rfl #[.agg #[.int .i64 a0_0,.slice A0_1 l0_1.length c0_1,.slice A0_2 l0_2.length c0_2]] rfl mz ?_;(with_reducible refine (spec_plOwn.calls a0_0 _ _ l0_1 _ _ l0_2 t214 t215 t218 _ ?side1 ?side2 ?side3 ?side4 A19.out).mono ?_);(case side1=>exact cz (Kd.C_below HR0_1.out HB.out));(case side2=>exact HC0_1.out);(case side3=>exact cz (Kd.C_below HR0_2.out HB.out));(case side4=>exact HC0_2.out);rintro e w22 ⟨v216,v219,rfl,ho0,ho1,hb⟩;refine ⟨_,rfl,?_⟩;have n0_:=Aside0.mk (Kd.R_lower ho0 (below_size bs));have n1_:=Aside0.mk (Kd.R_lower ho1 (below_size bs));have n2_:=Aside0.mk (kb BK210.out hb);have n3_:=Aside0.mk (kb BK211.out hb);have n4_:=Aside0.mk (below_step bs hb);clear BK210 BK211 HB;have HO217:=n0_;have HO220:=n1_;have BK210:=n2_;have BK211:=n3_;have HB:=n4_;clear n0_ n1_ n2_ n3_ n4_;(try clear hb);(try clear ho0);(try clear ho1))|((with_reducible refine gate_dst (N:=6) rfl ?_);(try (refine gate_guard (by rfl) ?_;dsimp only));refine box_event ?hg (N:=6) ?hd (cs:=#[.int .i64 0,.slice none 0 0,.slice none 0 0]) (t:=30) ?hr ?_;(case hd=>rfl);(case hg=>rfl);(case hr=>first|(go_simp;done)|(go_simp;rfl));intro gb221 hg w23 hbox hb;have n0_:=Aside0.mk (Kd.R_below (rz HO217.out) hb);have n1_:=Aside0.mk (Kd.R_below (rz HO220.out) hb);have n2_:=Aside0.mk (kb BK210.out hb);have n3_:=Aside0.mk (kb BK211.out hb);have n4_:=Aside0.mk (below_step bs hb);have n5_:=Aside0.mk (hbox);have n6_:=Aside0.mk ((by rw [hg];exact (below_size bs) : w.heap.size ≤ gb221));have n7_:=Aside0.mk ((by rw [hg];exact (below_size bs) : w.heap.size ≤ gb221));have n8_:=Aside0.mk (kn hg BK210.out);have n9_:=Aside0.mk (km hg BK210.out);have n10_:=Aside0.mk (kn hg BK211.out);have n11_:=Aside0.mk (km hg BK211.out);clear HO217 HO220 BK210 BK211 HB;have HO217:=n0_;have HO220:=n1_;have BK210:=n2_;have BK211:=n3_;have HB:=n4_;have BK221:=n5_;have GW221:=n6_;have GE221:=n7_;have NB210_221:=n8_;have NB221_210:=n9_;have NB211_221:=n10_;have NB221_211:=n11_;clear n0_ n1_ n2_ n3_ n4_ n5_ n6_ n7_ n8_ n9_ n10_ n11_;clear hb hbox hg;have hnb24:=NB221_210.out;have hnc24:=NB210_221.out;have hnb25:=NB221_211.out;have hnc25:=NB211_221.out;have hcz26_0 : w23.cell? ⟨gb221,0,none⟩ = some (.int .i64 0):=(blk_cell BK221.out 0).trans rfl;have hcz26_1 : w23.cell? ⟨gb221,1,none⟩ = some (.slice none 0 0):=(blk_cell BK221.out 1).trans rfl;have hcz26_2 : w23.cell? ⟨gb221,2,none⟩ = some (.slice none 0 0):=(blk_cell BK221.out 2).trans rfl;have hfz26_0:=blk_frozen BK221.out 0;have hfz26_1:=blk_frozen BK221.out 1;have hfz26_2:=blk_frozen BK221.out 2;obtain ⟨Ao27,co27,eo27⟩:=Kd.R_slice HO217.out;subst eo27;obtain ⟨Ao28,co28,eo28⟩:=Kd.R_slice HO220.out;subst eo28))
    go_loopg [27] kj2 (fun kq v27 w'=>∃ (x27_2 : Int) (x222002_2 : List Int) (u222002 : Value),v27 = .int .i64 x27_2 ∧ Aside0 (spec_PickOutputs.l0 kq l1 (l1.length : Int) x27_2 a0_0 l0_1 l0_2 t214 t215 x222002_2 = some (r1,r2,r3,r4)) ∧ Aside0 (kq ≤ kj2) ∧ Aside0 (Kd.R k69 69 w' w.heap.size (fun _=>True) (.slice Ao27 t215.length co27) t215) ∧ Aside0 (Kd.R (Kd.int .i64) 3 w' w.heap.size (fun _=>True) u222002 x222002_2) ∧ Aside0 (w'.heap[gb210]? = some (.cells #[.int .i64 a0_0,(.slice A0_1 l0_1.length c0_1),(.slice A0_2 l0_2.length c0_2)] 30 (0,0))) ∧ Aside0 (w'.heap[gb211]? = some (.cells #[.int .i64 0,(.slice none 0 0),(.slice none 0 0)] 30 (0,0))) ∧ Aside0 (w'.heap[gb221]? = some (.cells #[.int .i64 t214,(.slice Ao27 t215.length co27),u222002] 30 (0,0))) ∧ Aside0 (Below w.heap.size w w'))
    case atStart=>exact ⟨(0),(([] : List Int)),(.slice none 0 0),fz,H',⟨Nat.le_refl _⟩,⟨by (with_reducible repeat (first|apply Kd.R_alloc|apply Kd.R_drewN|apply Kd.R_drew));exact Kd.R_mono (Kd.R_far (p:=⟨gb221,2,none⟩) (Kd.R_far (p:=⟨gb221,2,none⟩) (Kd.R_far (p:=⟨gb221,1,none⟩) (Kd.R_far (p:=⟨gb221,0,none⟩) (Kd.R_types HO217.out BK221.out (by decide)) (fun _ hk=>hk.2) (.int .i64 t214)) (fun _ hk=>hk.2) (.slice Ao27 t215.length co27)) (fun _ hk=>hk.2) (.slice Ao28 t218.length co28)) (fun _ hk=>hk.2) (.slice none 0 0)) (fun _ hk=>trivial)⟩,⟨by first|exact Kd.R_nil _ _ _ _ _|exact Kd.N_nil _ _ _ _ _|exact Kd.V_nil _ _ _ _ _|exact Kd.Q_nil _ _ _ _ _|exact Kd.S_nil _ _ _ _ _⟩,⟨by (with_reducible repeat (first|refine blk_drewN ?_ _|refine blk_drew ?_|refine blk_alloc ?_ _));refine blk_far ?_ NB210_221.out _;(with_reducible repeat (first|refine blk_drewN ?_ _|refine blk_drew ?_|refine blk_alloc ?_ _));refine blk_far ?_ NB210_221.out _;(with_reducible repeat (first|refine blk_drewN ?_ _|refine blk_drew ?_|refine blk_alloc ?_ _));refine blk_far ?_ NB210_221.out _;(with_reducible repeat (first|refine blk_drewN ?_ _|refine blk_drew ?_|refine blk_alloc ?_ _));refine blk_far ?_ NB210_221.out _;(with_reducible repeat (first|refine blk_drewN ?_ _|refine blk_drew ?_|refine blk_alloc ?_ _));exact BK210.out⟩,⟨by (with_reducible repeat (first|refine blk_drewN ?_ _|refine blk_drew ?_|refine blk_alloc ?_ _));refine blk_far ?_ NB211_221.out _;(with_reducible repeat (first|refine blk_drewN ?_ _|refine blk_drew ?_|refine blk_alloc ?_ _));refine blk_far ?_ NB211_221.out _;(with_reducible repeat (first|refine blk_drewN ?_ _|refine blk_drew ?_|refine blk_alloc ?_ _));refine blk_far ?_ NB211_221.out _;(with_reducible repeat (first|refine blk_drewN ?_ _|refine blk_drew ?_|refine blk_alloc ?_ _));refine blk_far ?_ NB211_221.out _;(with_reducible repeat (first|refine blk_drewN ?_ _|refine blk_drew ?_|refine blk_alloc ?_ _));exact BK211.out⟩,⟨by (with_reducible repeat (first|refine blk_drewN ?_ _|refine blk_drew ?_|refine blk_alloc ?_ _));refine blk_put (cs:=#[.int .i64 t214,.slice Ao27 t215.length co27,.slice Ao28 t218.length co28]) ?_ 2 _ rfl;(with_reducible repeat (first|refine blk_drewN ?_ _|refine blk_drew ?_|refine blk_alloc ?_ _));refine blk_put (cs:=#[.int .i64 t214,.slice Ao27 t215.length co27,.slice none 0 0]) ?_ 2 _ rfl;(with_reducible repeat (first|refine blk_drewN ?_ _|refine blk_drew ?_|refine blk_alloc ?_ _));refine blk_put (cs:=#[.int .i64 t214,.slice none 0 0,.slice none 0 0]) ?_ 1 _ rfl;(with_reducible repeat (first|refine blk_drewN ?_ _|refine blk_drew ?_|refine blk_alloc ?_ _));refine blk_put (cs:=#[.int .i64 0,.slice none 0 0,.slice none 0 0]) ?_ 0 _ rfl;(with_reducible repeat (first|refine blk_drewN ?_ _|refine blk_drew ?_|refine blk_alloc ?_ _));exact BK221.out⟩,⟨by repeat (first|(with_reducible first|exact HB.out|apply below_alloc|apply pw_below_drewN|apply below_drew1|refine below_set ?_ GE210.out|refine below_set ?_ GE211.out|refine below_set ?_ GE221.out)|exact HB.out)⟩⟩
    case round=>
     clear H'
     try clear c1
     try clear c2
     try clear p2
     try clear c4
     try clear c5
     try clear p6
     try clear c7
     try clear c8
     try clear c9
     try clear c13
     try clear c16
     try clear c17
     try clear c20
     try clear c24
     try clear c25
     try clear hcz10_0
     try clear hcz10_1
     try clear hcz10_2
     try clear hcz12_0
     try clear hcz12_1
     try clear hcz12_2
     try clear hcz14_0
     try clear hcz14_1
     try clear hcz14_2
     try clear hcz18_0
     try clear hcz18_1
     try clear hcz18_2
     try clear hcz21_0
     try clear hcz21_1
     try clear hcz21_2
     try clear hcz26_0
     try clear hcz26_1
     try clear hcz26_2
     try clear hfz10_0
     try clear hfz10_1
     try clear hfz10_2
     try clear hfz12_0
     try clear hfz12_1
     try clear hfz12_2
     try clear hfz14_0
     try clear hfz14_1
     try clear hfz14_2
     try clear hfz18_0
     try clear hfz18_1
     try clear hfz18_2
     try clear hfz21_0
     try clear hfz21_1
     try clear hfz21_2
     try clear hfz26_0
     try clear hfz26_1
     try clear hfz26_2
     try clear p2
     try clear p6
     obtain ⟨x27_2,x222002_2,u222002,rfl,HA,HK2,HO_222001,HO_222002,BK210,BK211,BK221,HB⟩:=hrel
     cases gk with
     | zero=>exact absurd HA.out (by simp [spec_PickOutputs.l0])
     | succ k2=>
      have H:=HA.out
      clear HA
      simp only [spec_PickOutputs.l0] at H
      by_cases c29 : x27_2 < (l1.length : Int)
      ·rw [if_pos c29] at H
       have c29b0 : decide (x27_2 < (l1.length : Int)) = true:=decide_eq_true c29
       clear c29
       by_cases c30 : 0 ≤ x27_2
       ·rw [if_pos c30] at H
        have c30b0 : decide (0 ≤ x27_2) = true:=decide_eq_true c30
        clear c30
        by_cases c31 : x27_2 < (l1.length : Int)
        ·rw [if_pos c31] at H
         have c31b0 : decide (x27_2 < (l1.length : Int)) = true:=decide_eq_true c31
         clear c31
         by_cases c32 : 0 ≤ (rd l1 x27_2)
         ·rw [if_pos c32] at H
          have c32b0 : decide (0 ≤ (rd l1 x27_2)) = true:=decide_eq_true c32
          clear c32
          by_cases c33 : (rd l1 x27_2) < (l0_2.length : Int)
          ·rw [if_pos c33] at H
           have c33b0 : decide ((rd l1 x27_2) < (l0_2.length : Int)) = true:=decide_eq_true c33
           clear c33
           by_cases c34 : x222002_2.length < 17592186044416
           ·rw [if_pos c34] at H
            have LMc34:=Aside0.mk c34
            clear c34
            obtain ⟨y224,hy224⟩ : ∃ y_ : List Int,y_ = (x222002_2 ++ [rd l0_2 (rd l1 x27_2)]):=⟨_,rfl⟩
            replace H : (spec_PickOutputs.l0 k2 l1 (l1.length : Int) (wrap64 (x27_2 + 1)) a0_0 l0_1 l0_2 t214 t215 y224) = some (r1,r2,r3,r4):=by first|(rw [hy224];with_reducible exact H)|(have H2_:=(Option.bind_some _ _).symm.trans H;rw [hy224];with_reducible exact H2_)|(have H2_:=(Option.bind_some _ _).symm.trans H;with_reducible exact H2_)|with_reducible exact H|(rw [hy224];exact H)|exact H
            have Ny224:=Aside0.mk hy224
            clear hy224
            have H':=Aside0.mk H
            clear H
            have p222 : 0 ≤ (x27_2 : Int):=of_decide_eq_true az
            have q222 : x27_2 < (l1.length : Int):=of_decide_eq_true az
            obtain ⟨ad222,e222,hx222_0⟩:=Kd.at_int HR1.out x27_2 p222 q222
            cases e222
            replace hx222_0:=(HB.out.cell (World.block_lt_of_cell? w _ hx222_0)).trans hx222_0
            replace p222:=eq_true p222
            replace q222:=eq_true q222
            try go_wp2
            have n0_:=Aside0.mk (Kd.R_drew HO_222001.out)
            have n1_:=Aside0.mk (Kd.R_drew HO_222002.out)
            have n2_:=Aside0.mk (blk_drew BK210.out)
            have n3_:=Aside0.mk (blk_drew BK211.out)
            have n4_:=Aside0.mk (blk_drew BK221.out)
            have n5_:=Aside0.mk (below_drew1 HB.out)
            clear HO_222001
            clear HO_222002
            clear BK210
            clear BK211
            clear BK221
            clear HB
            have HO_222001:=n0_
            have HO_222002:=n1_
            have BK210:=n2_
            have BK211:=n3_
            have BK221:=n4_
            have HB:=n5_
            clear n0_ n1_ n2_ n3_ n4_ n5_
            have p223 : 0 ≤ ((rd l1 x27_2) : Int):=of_decide_eq_true az
            have q223 : (rd l1 x27_2) < (l0_2.length : Int):=of_decide_eq_true az
            obtain ⟨ad223,e223,hx223_0⟩:=Kd.at_int HR0_2.out (rd l1 x27_2) p223 q223
            have hw223_0:=hx223_0
            cases e223
            replace hx223_0:=(HB.out.cell (World.block_lt_of_cell? w _ hx223_0)).trans hx223_0
            replace p223:=eq_true p223
            replace q223:=eq_true q223
            refine start_ (n:=11) (S:=fun w'=>w'.cell? ⟨gb221,0,none⟩ = some (.int .i64 t214) ∧ w'.cell? ⟨gb221,1,none⟩ = some (.slice Ao27 t215.length co27) ∧ w'.cell? ⟨gb221,2,none⟩ = some (u222002) ∧ w'.cell? ⟨gb210,0,none⟩ = some (.int .i64 a0_0) ∧ w'.cell? ⟨gb210,1,none⟩ = some (.slice A0_1 l0_1.length c0_1) ∧ w'.cell? ⟨gb210,2,none⟩ = some (.slice (some ad223) l0_2.length c0_2) ∧ w'.cell? (ad223.add ((rd l1 x27_2)).toNat) = some (.int .i64 (rd l0_2 (rd l1 x27_2)))) (ds:=[10]) #[false,false,false,false,false,false,false,false,false,false,false] (by kernel_rfl) rfl rfl ⟨(blk_cell BK221.out 0).trans rfl,(blk_cell BK221.out 1).trans rfl,(blk_cell BK221.out 2).trans rfl,(blk_cell BK210.out 0).trans rfl,(blk_cell BK210.out 1).trans rfl,(blk_cell BK210.out 2).trans rfl,((HB.out.cell (World.block_lt_of_cell? w _ hw223_0)).trans hw223_0)⟩ (fun hHeld=>?_);refine with_tabW spec_PickOutputs.tab8 spec_PickOutputs.bits8 (fun HT_ HW_=>?_)
            generalize wr.drew = w35 at HO_222001 HO_222002 BK210 BK211 BK221 HB hx223_0 hHeld ⊢
            refine pure_ (i:=0) (N:=some 31) (v:=?_) (a':=?_) #[true,false,false,false,false,false,false,false,false,false,false] rfl rfl (any_of HT_.out (by kernel_rfl)) (fun _ _ _ h=>h) (Or.inl ⟨by rfl,?_⟩) ?_ ?_
            rotate_left
            ·intro w'
             go_simp
             with_reducible rfl
            rotate_left
            ·simp only [Act.put,xa,xb,xc,i64_w,i32_w]
             rfl
            refine pure_ (i:=2) (N:=some 33) (v:=?_) (a':=?_) #[true,false,true,false,false,false,false,false,false,false,false] rfl rfl (any_of HT_.out (by kernel_rfl)) (fun _ _ _ h=>h) (Or.inl ⟨by rfl,?_⟩) ?_ ?_
            rotate_left
            ·intro w'
             go_simp
             with_reducible rfl
            rotate_left
            ·simp only [Act.put,xa,xb,xc,i64_w,i32_w]
             rfl
            refine pure_ (i:=4) (N:=some 35) (v:=?_) (a':=?_) #[true,false,true,false,true,false,false,false,false,false,false] rfl rfl (any_of HT_.out (by kernel_rfl)) (fun _ _ _ h=>h) (Or.inl ⟨by rfl,?_⟩) ?_ ?_
            rotate_left
            ·intro w'
             go_simp
             with_reducible rfl
            rotate_left
            ·simp only [Act.put,xa,xb,xc,i64_w,i32_w]
             rfl
            refine take_ (i:=1) (N:=some 32) (v:=?_) (a':=?_) #[true,true,true,false,true,false,false,false,false,false,false] rfl rfl (take_ofW HT_.out HW_.out (by kernel_rfl)) (fun _ _ _ h=>h) (Or.inl ⟨by rfl,?_⟩) hHeld ?_ ?_
            rotate_left
            ·rintro w' ⟨s0,s1,s2,s3,s4,s5,s6⟩
             go_simp
             with_reducible rfl
            rotate_left
            ·simp only [Act.put,xa,xb,xc,i64_w,i32_w]
             rfl
            refine take_ (i:=3) (N:=some 34) (v:=?_) (a':=?_) #[true,true,true,true,true,false,false,false,false,false,false] rfl rfl (take_ofW HT_.out HW_.out (by kernel_rfl)) (fun _ _ _ h=>h) (Or.inl ⟨by rfl,?_⟩) hHeld ?_ ?_
            rotate_left
            ·rintro w' ⟨s0,s1,s2,s3,s4,s5,s6⟩
             go_simp
             with_reducible rfl
            rotate_left
            ·simp only [Act.put,xa,xb,xc,i64_w,i32_w]
             rfl
            refine pure_ (i:=5) (N:=some 36) (v:=?_) (a':=?_) #[true,true,true,true,true,true,false,false,false,false,false] rfl rfl (any_of HT_.out (by kernel_rfl)) (fun _ _ _ h=>h) (Or.inl ⟨by rfl,?_⟩) ?_ ?_
            rotate_left
            ·intro w'
             go_simp
             with_reducible rfl
            rotate_left
            ·simp only [Act.put,xa,xb,xc,i64_w,i32_w]
             rfl
            refine take_ (i:=6) (N:=some 37) (v:=?_) (a':=?_) #[true,true,true,true,true,true,true,false,false,false,false] rfl rfl (take_ofW HT_.out HW_.out (by kernel_rfl)) (fun _ _ _ h=>h) (Or.inl ⟨by rfl,?_⟩) hHeld ?_ ?_
            rotate_left
            ·rintro w' ⟨s0,s1,s2,s3,s4,s5,s6⟩
             go_simp
             with_reducible rfl
            rotate_left
            ·simp only [Act.put,xa,xb,xc,i64_w,i32_w]
             rfl
            refine one_ (i:=7) (N:=some 38) #[true,true,true,true,true,true,true,true,false,false,false] rfl rfl (one_of HT_.out (by kernel_rfl)) (by decide) (fun K hK=>?_)
            refine value_ (w1:=?_) (v:=?_) (by rfl) rfl ?_ ?_
            rotate_left 2
            ·go_simp
             constructor
             ·rfl
             ·rfl
            refine hK.out _ _ ⟨(blk_cell (blk_alloc BK221.out _) 0).trans rfl,(blk_cell (blk_alloc BK221.out _) 1).trans rfl,(blk_cell (blk_alloc BK221.out _) 2).trans rfl,(blk_cell (blk_alloc BK210.out _) 0).trans rfl,(blk_cell (blk_alloc BK210.out _) 1).trans rfl,(blk_cell (blk_alloc BK210.out _) 2).trans rfl,(World.cell?_alloc_lt _ _ _ (World.block_lt_of_cell? _ _ (((HB.out.cell (World.block_lt_of_cell? w _ hw223_0)).trans hw223_0)))).trans (((HB.out.cell (World.block_lt_of_cell? w _ hw223_0)).trans hw223_0))⟩ (fun hHeld=>?_)
            clear hK K
            refine norm_ (a':=?_) ?_ ?_
            rotate_left
            ·show Act.put _ (some 38) _ = _
             simp only [Act.put,xa,xb,xc,i64_w,i32_w]
             rfl
            refine one_ (i:=8) (N:=some 39) #[true,true,true,true,true,true,true,true,true,false,false] rfl rfl (one_of HT_.out (by kernel_rfl)) (by decide) (fun K hK=>?_)
            refine Kd.R_append_step (Kd.int .i64) (w0:=w) w.heap.size (by rfl) (.tmp 32) (.tmp 38) 23 3 (.int .i64 0) 8 rfl Try.underlying23 info3 rfl (by decide) (by omega) u222002 x222002_2 (rd l0_2 (rd l1 x27_2)) [.int .i64 (rd l0_2 (rd l1 x27_2))] (fun _=>True) (fun _=>False) rfl rfl ?aP (fun _ hk=>hk.elim) ?aF ?aO ?aB ?aS ?aL ?_
            (case aP=>exact rfl)
            (case aB=>exact bs)
            (case aF=>exact (fun _ _=>trivial))
            (case aO=>exact (rz HO_222002.out))
            (case aS=>exact (below_size bs))
            (case aL=>have:=LMc34.out;omega)
            intro v225 w36 ho hb hg hat
            rw [← Ny224.out] at ho
            have n0_:=Aside0.mk (Kd.R_over' (rz HO_222001.out) (Kd.R_typed (rz HO_222002.out)) (by decide) hg)
            have n1_:=Aside0.mk (blk_grown (g:=gb210) (o:=.cells #[.int .i64 a0_0,.slice A0_1 l0_1.length c0_1,.slice (some ad223) l0_2.length c0_2] 30 (0,0)) (kz BK210.out) hg (Kd.R_ne HO_222002.out BK210.out (by decide)))
            have n2_:=Aside0.mk (blk_grown (g:=gb211) (o:=.cells #[.int .i64 0,.slice none 0 0,.slice none 0 0] 30 (0,0)) (kz BK211.out) hg (Kd.R_ne HO_222002.out BK211.out (by decide)))
            have n3_:=Aside0.mk (blk_grown (g:=gb221) (o:=.cells #[.int .i64 t214,.slice Ao27 t215.length co27,u222002] 30 (0,0)) (kz BK221.out) hg (Kd.R_ne HO_222002.out BK221.out (by decide)))
            have n4_:=Aside0.mk (hb)
            have n5_:=Aside0.mk (ho)
            clear HO_222001
            clear BK210
            clear BK211
            clear BK221
            clear HB
            clear HO_222002
            have HO_222001:=n0_
            have BK210:=n1_
            have BK211:=n2_
            have BK221:=n3_
            have HB:=n4_
            have HO226:=n5_
            clear n0_ n1_ n2_ n3_ n4_ n5_
            clear ho hb hg hat
            obtain ⟨Ao37,co37,eo37⟩:=Kd.R_slice HO226.out
            (first|subst eo37|(injection eo37 with f1_ f2_ f3_;have f4_:=f1_.symm;have f5_:=f3_.symm;clear f1_ f2_ f3_;subst f4_;subst f5_))
            refine hK.out _ _ ⟨(blk_cell BK221.out 0).trans rfl,(blk_cell BK221.out 1).trans rfl,(blk_cell BK221.out 2).trans rfl,(blk_cell BK210.out 0).trans rfl,(blk_cell BK210.out 1).trans rfl,(blk_cell BK210.out 2).trans rfl,((HB.out.cell (World.block_lt_of_cell? w _ hw223_0)).trans hw223_0)⟩ (fun hHeld=>?_)
            clear hK K
            refine norm_ (a':=?_) ?_ ?_
            rotate_left
            ·show Act.put _ (some 39) _ = _
             simp only [Act.put,xa,xb,xc,i64_w,i32_w]
             rfl
            refine pure_ (i:=9) (N:=some 40) (v:=?_) (a':=?_) #[true,true,true,true,true,true,true,true,true,true,false] rfl rfl (any_of HT_.out (by kernel_rfl)) (fun _ _ _ h=>h) (Or.inl ⟨by rfl,?_⟩) ?_ ?_
            rotate_left
            ·intro w'
             go_simp
             with_reducible rfl
            rotate_left
            ·simp only [Act.put,xa,xb,xc,i64_w,i32_w]
             rfl
            refine last_ (i:=10) (N:=none) #[true,true,true,true,true,true,true,true,true,true,true] rfl rfl (one_of HT_.out (by kernel_rfl)) (by decide) (fun K hK=>?_)
            have hs38 : w36.cell? ⟨gb221,2,none⟩ = some (u222002):=(blk_cell BK221.out 2).trans rfl
            have hfs38:=blk_frozen BK221.out 2
            have hns38_0:=NB210_221.out
            have hns38_1:=NB211_221.out
            have hms38_0:=NB221_210.out
            have hms38_1:=NB221_211.out
            refine skip_ (w1:=?_) (by rfl) rfl ?_ ?_
            rotate_left
            ·go_simp
             rfl
            refine hK.out _ _ ?_
            clear hK K
            refine done_ (done_of HT_.out (by kernel_rfl)) ?_
            try go_wp2
            go_roundg k2
            case measure=>have:=HJ2.out;have:=HK2.out;omega
            case rel=>exact ⟨(wrap64 (x27_2 + 1)),(y224),(.slice Ao37 y224.length co37),fz,H',⟨by have:=HJ2.out;have:=HK2.out;omega⟩,⟨by (with_reducible repeat (first|apply Kd.R_alloc|apply Kd.R_drewN|apply Kd.R_drew));exact Kd.R_mono (Kd.R_far (p:=⟨gb221,2,none⟩) (Kd.R_types HO_222001.out BK221.out (by decide)) (fun _ hk=>hk.2) (.slice Ao37 y224.length co37)) (fun _ hk=>trivial)⟩,⟨by (with_reducible repeat (first|apply Kd.R_alloc|apply Kd.R_drewN|apply Kd.R_drew));exact Kd.R_mono (Kd.R_far (p:=⟨gb221,2,none⟩) (Kd.R_types HO226.out BK221.out (by decide)) (fun _ hk=>hk.2) (.slice Ao37 y224.length co37)) (fun _ hk=>trivial)⟩,⟨by (with_reducible repeat (first|refine blk_drewN ?_ _|refine blk_drew ?_|refine blk_alloc ?_ _));refine blk_far ?_ NB210_221.out _;(with_reducible repeat (first|refine blk_drewN ?_ _|refine blk_drew ?_|refine blk_alloc ?_ _));exact BK210.out⟩,⟨by (with_reducible repeat (first|refine blk_drewN ?_ _|refine blk_drew ?_|refine blk_alloc ?_ _));refine blk_far ?_ NB211_221.out _;(with_reducible repeat (first|refine blk_drewN ?_ _|refine blk_drew ?_|refine blk_alloc ?_ _));exact BK211.out⟩,⟨by (with_reducible repeat (first|refine blk_drewN ?_ _|refine blk_drew ?_|refine blk_alloc ?_ _));refine blk_put (cs:=#[.int .i64 t214,.slice Ao27 t215.length co27,u222002]) ?_ 2 _ rfl;(with_reducible repeat (first|refine blk_drewN ?_ _|refine blk_drew ?_|refine blk_alloc ?_ _));exact BK221.out⟩,⟨by repeat (first|(with_reducible first|exact HB.out|apply below_alloc|apply pw_below_drewN|apply below_drew1|refine below_set ?_ GE210.out|refine below_set ?_ GE211.out|refine below_set ?_ GE221.out)|exact HB.out)⟩⟩
           ·rw [if_neg c34] at H
            exact absurd H (by simp)
          ·rw [if_neg c33] at H
           exact absurd H (by simp)
         ·rw [if_neg c32] at H
          exact absurd H (by simp)
        ·rw [if_neg c31] at H
         exact absurd H (by simp)
       ·rw [if_neg c30] at H
        exact absurd H (by simp)
      ·rw [if_neg c29] at H
       have c29b0 : decide (x27_2 < (l1.length : Int)) = false:=decide_eq_false c29
       clear c29
       obtain ⟨⟨t227,t228,t231,t234⟩,A39,H⟩:=bd H
       try dsimp only at H
       simp only [Option.some.injEq,Prod.mk.injEq] at H
       obtain ⟨rfl,rfl,rfl,rfl⟩:=H
       have hnb40:=NB221_210.out
       have hnc40:=NB210_221.out
       have hnb41:=NB221_211.out
       have hnc41:=NB211_221.out
       have hcz42_0 : wr.cell? ⟨gb221,0,none⟩ = some (.int .i64 t214):=(blk_cell BK221.out 0).trans rfl
       have hcz42_1 : wr.cell? ⟨gb221,1,none⟩ = some (.slice Ao27 t215.length co27):=(blk_cell BK221.out 1).trans rfl
       have hcz42_2 : wr.cell? ⟨gb221,2,none⟩ = some (u222002):=(blk_cell BK221.out 2).trans rfl
       have hfz42_0:=blk_frozen BK221.out 0
       have hfz42_1:=blk_frozen BK221.out 1
       have hfz42_2:=blk_frozen BK221.out 2
       obtain ⟨Ao43,co43,eo43⟩:=Kd.R_slice HO_222002.out
       subst eo43
       go_wp2_with (first|((with_reducible refine gate_callee (f:=83) rfl ?_);refine goesL_ (some 43) rfl rfl Try.func83 (by kernel_rfl) rfl #[.agg #[.int .i64 t214,.slice Ao27 t215.length co27,.slice Ao43 x222002_2.length co43]] rfl mz ?_;(with_reducible refine (spec_plIf.calls k2 t214 (fun k_=>some k_ = (.slice Ao27 t215.length co27 : Value).ownBlock) (.slice Ao27 t215.length co27) t215 (fun k_=>some k_ = (.slice Ao43 x222002_2.length co43 : Value).ownBlock) (.slice Ao43 x222002_2.length co43) x222002_2 t227 t228 t231 t234 w _ ?side1 ?side2 ?side3 A39.out).mono ?_);(case side1=>repeat (first|(with_reducible first|exact HB.out|apply below_alloc|apply pw_below_drewN|apply below_drew1|refine below_set ?_ GE210.out|refine below_set ?_ GE211.out|refine below_set ?_ GE221.out)|exact HB.out));(case side2=>exact Kd.R_tight rfl HO_222001.out);(case side3=>exact Kd.R_tight rfl HO_222002.out);rintro e w44 ⟨v229,v232,rfl,ho0,ho1,hb,hkp⟩;refine ⟨_,rfl,?_⟩;have n0_:=Aside0.mk (blk_kept (kz BK210.out) hkp (fun hs_=>Or.elim hs_ (fun e_=>(fun e_=>(Kd.R_ne HO_222001.out BK210.out (by decide)) e_) e_) (fun e_=>(fun e_=>(Kd.R_ne HO_222002.out BK210.out (by decide)) e_) e_)));have n1_:=Aside0.mk (blk_kept (kz BK211.out) hkp (fun hs_=>Or.elim hs_ (fun e_=>(fun e_=>(Kd.R_ne HO_222001.out BK211.out (by decide)) e_) e_) (fun e_=>(fun e_=>(Kd.R_ne HO_222002.out BK211.out (by decide)) e_) e_)));have n2_:=Aside0.mk (blk_kept (kz BK221.out) hkp (fun hs_=>Or.elim hs_ (fun e_=>(fun e_=>(Kd.R_ne HO_222001.out BK221.out (by decide)) e_) e_) (fun e_=>(fun e_=>(Kd.R_ne HO_222002.out BK221.out (by decide)) e_) e_)));have n3_:=Aside0.mk (Kd.R_mono (ok':=fun k_=>True) ho0 (fun k_ hk_=>trivial));have n4_:=Aside0.mk (Kd.R_mono (ok':=fun k_=>True) ho1 (fun k_ hk_=>trivial));have n5_:=Aside0.mk (hb);clear BK210 BK211 BK221 HB HO_222001 HO_222002;have BK210:=n0_;have BK211:=n1_;have BK221:=n2_;have HO230:=n3_;have HO233:=n4_;have HB:=n5_;clear n0_ n1_ n2_ n3_ n4_ n5_;(try clear hb);(try clear hkp);(try clear ho0);(try clear ho1);have hnb45:=NB211_210.out;have hnc45:=NB210_211.out;have hcz46_0 : w44.cell? ⟨gb211,0,none⟩ = some (.int .i64 0):=(blk_cell BK211.out 0).trans rfl;have hcz46_1 : w44.cell? ⟨gb211,1,none⟩ = some (.slice none 0 0):=(blk_cell BK211.out 1).trans rfl;have hcz46_2 : w44.cell? ⟨gb211,2,none⟩ = some (.slice none 0 0):=(blk_cell BK211.out 2).trans rfl;have hfz46_0:=blk_frozen BK211.out 0;have hfz46_1:=blk_frozen BK211.out 1;have hfz46_2:=blk_frozen BK211.out 2;obtain ⟨Ao47,co47,eo47⟩:=Kd.R_slice HO230.out;subst eo47;obtain ⟨Ao48,co48,eo48⟩:=Kd.R_slice HO233.out;subst eo48))
       refine bodyPost_ret (results_ct rfl _ _ gb211 30 #[.int .i64 t227,.slice Ao47 t228.length co47,.slice Ao48 t231.length co48] (0,0) _ rfl (by (with_reducible repeat (first|refine blk_drewN ?_ _|refine blk_drew ?_|refine blk_alloc ?_ _));refine blk_put (cs:=#[.int .i64 t227,.slice Ao47 t228.length co47,.slice none 0 0]) ?_ 2 _ rfl;(with_reducible repeat (first|refine blk_drewN ?_ _|refine blk_drew ?_|refine blk_alloc ?_ _));refine blk_put (cs:=#[.int .i64 t227,.slice none 0 0,.slice none 0 0]) ?_ 1 _ rfl;(with_reducible repeat (first|refine blk_drewN ?_ _|refine blk_drew ?_|refine blk_alloc ?_ _));refine blk_put (cs:=#[.int .i64 0,.slice none 0 0,.slice none 0 0]) ?_ 0 _ rfl;(with_reducible repeat (first|refine blk_drewN ?_ _|refine blk_drew ?_|refine blk_alloc ?_ _));exact BK211.out) Try.underlying30 rfl (by kernel_rfl)) rfl ?_
       exact ⟨_,_,by first|rfl|(simp [errW_none,errW_some] <;> rfl)|(simp [*,errW_none,errW_some] <;> rfl),by (with_reducible repeat (first|apply Kd.R_alloc|apply Kd.R_drewN|apply Kd.R_drew));exact Kd.R_mono (Kd.R_far (p:=⟨gb211,2,none⟩) (Kd.R_far (p:=⟨gb211,1,none⟩) (Kd.R_far (p:=⟨gb211,0,none⟩) (Kd.R_types HO230.out BK211.out (by decide)) (fun _ hk=>hk.2) (.int .i64 t227)) (fun _ hk=>hk.2) (.slice Ao47 t228.length co47)) (fun _ hk=>hk.2) (.slice Ao48 t231.length co48)) (fun _ hk=>trivial),by (with_reducible repeat (first|apply Kd.R_alloc|apply Kd.R_drewN|apply Kd.R_drew));exact Kd.R_mono (Kd.R_far (p:=⟨gb211,2,none⟩) (Kd.R_far (p:=⟨gb211,1,none⟩) (Kd.R_far (p:=⟨gb211,0,none⟩) (Kd.R_types HO233.out BK211.out (by decide)) (fun _ hk=>hk.2) (.int .i64 t227)) (fun _ hk=>hk.2) (.slice Ao47 t228.length co47)) (fun _ hk=>hk.2) (.slice Ao48 t231.length co48)) (fun _ hk=>trivial),by repeat (first|(with_reducible first|exact HB.out|apply below_alloc|apply pw_below_drewN|apply below_drew1|refine below_set ?_ GE210.out|refine below_set ?_ GE211.out|refine below_set ?_ GE221.out)|exact HB.out)⟩
end Go.Proofs.Ytopkiccdfmjjjaa.MFnExactPickOutputs
--sq
