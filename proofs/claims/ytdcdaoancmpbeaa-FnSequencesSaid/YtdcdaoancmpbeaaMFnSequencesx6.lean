import Derived.Test.YtdcdaoancmpbeaaMFnSequencesx0
import Derived.Test.YtdcdaoancmpbeaaMFnSequencesx2
import Derived.Test.YtdcdaoancmpbeaaMFnSequencesx3
import Derived.Test.YtdcdaoancmpbeaaMFnSequencesx4
import Derived.Test.YtdcdaoancmpbeaaMFnSequencesx5
namespace Go.Proofs.Ytdcdaoancmpbeaa.MFnSequences
open Go.RowKit Go.Proofs.YtdcdaoancmpbeaaW.PrintWords Go.Proofs.YtdcdaoancmpbeaaW.PrintLast Go.Proofs.YtdcdaoancmpbeaaW.PrintMore Go.Proofs.YtdcdaoancmpbeaaV Go.Proofs.YtdcdaoancmpbeaaZ
attribute [local go_sem] max2_int min2_int max_two min_two max_three min_three max_four min_four   -- for this text's walks alone
set_option linter.unusedVariables false
set_option linter.unusedSimpArgs false
/-! ### spec_SequencePlan: function 17 -/
mutual
def spec_SequencePlan.j0 : Nat → List Int → List Int → Bool → Option (Int × (List (S73)) × List Int × Bool)
 | 0,_,_,_=>none
 | k + 1,x0,x1,x16=>if x16 = true then (some (0,([] : List (S73)),([] : List Int),false)) else ((spec_chPlan.f k x0).bind fun bt221=>(spec_SequencePlan.l0 k x0 x1 (x1.length : Int) 0 bt221.1 bt221.2.1 ([] : List Int)))
def spec_SequencePlan.l0 : Nat → List Int → List Int → Int → Int → Int → List (S73) → List Int → Option (Int × (List (S73)) × List Int × Bool)
 | 0,_,_,_,_,_,_,_=>none
 | k + 1,x0,x21,x22,x23,x229000,x229001,x229002=>if x23 < x22 then (if 0 ≤ x23 then (if x23 < (x21.length : Int) then ((spec_plPlace.f k x0 (rd x21 x23)).bind fun t240=>(if t240 < 0 then (some (0,([] : List (S73)),([] : List Int),false)) else ((spec_plPlace.f k x0 (rd x21 x23)).bind fun t241=>(if x229002.length < 17592186044416 then (spec_SequencePlan.l0 k x0 x21 x22 (wrap64 (x23 + 1)) x229000 x229001 (x229002 ++ [t241])) else (none))))) else (none)) else (none)) else ((spec_plUsed.f k x229000 x229001 x229002).bind fun t229=>((spec_plKeep.f k x229000 x229001 x229002 t229).bind fun bt232=>(some (bt232.1,bt232.2.1,bt232.2.2,true))))
end
def spec_SequencePlan.f (k : Nat) (l0 : List Int) (l1 : List Int) : Option (Int × (List (S73)) × List Int × Bool):=(spec_chGood.f k l0).bind fun t220=>(if t220 = true then (spec_SequencePlan.j0 k l0 l1 (decide ((l1.length : Int) > 6))) else (spec_SequencePlan.j0 k l0 l1 true))
theorem spec_SequencePlan.mono_l : ∀ k,(∀ y0 y1 y2,LeO (spec_SequencePlan.j0 k y0 y1 y2) (spec_SequencePlan.j0 (k + 1) y0 y1 y2)) ∧ (∀ y0 y1 y2 y3 y4 y5 y6,LeO (spec_SequencePlan.l0 k y0 y1 y2 y3 y4 y5 y6) (spec_SequencePlan.l0 (k + 1) y0 y1 y2 y3 y4 y5 y6))
 | 0=>⟨fun _ _ _ r h=>by simp [spec_SequencePlan.j0] at h,fun _ _ _ _ _ _ _ r h=>by simp [spec_SequencePlan.l0] at h⟩
 | k + 1=>by
  obtain ⟨ih0,ih1⟩:=spec_SequencePlan.mono_l k
  refine ⟨?_,?_⟩
  ·intro y0 y1 y2
   unfold spec_SequencePlan.j0
   repeat' first
   | (with_reducible exact ih0 _ _ _)
   | (with_reducible exact ih1 _ _ _ _ _ _ _)
   | (with_reducible exact spec_chGood.mono _ _)
   | (with_reducible exact spec_chPlan.mono _ _)
   | (with_reducible exact spec_plKeep.mono _ _ _ _ _)
   | (with_reducible exact spec_plPlace.mono _ _ _)
   | (with_reducible exact spec_plUsed.mono _ _ _ _)
   | (with_reducible exact LeO.refl _)
   | (with_reducible exact LeO.none _)
   | (with_reducible refine LeO.ite ?_ ?_)
   | (with_reducible refine LeO.bind ?_ (fun _=>?_))
   | exact ih0 _ _ _
   | exact ih1 _ _ _ _ _ _ _
   | exact spec_chGood.mono _ _
   | exact spec_chPlan.mono _ _
   | exact spec_plKeep.mono _ _ _ _ _
   | exact spec_plPlace.mono _ _ _
   | exact spec_plUsed.mono _ _ _ _
   | exact LeO.none _
   | refine LeO.ite ?_ ?_
   | refine LeO.bind ?_ (fun _=>?_)
  ·intro y0 y1 y2 y3 y4 y5 y6
   unfold spec_SequencePlan.l0
   repeat' first
   | (with_reducible exact ih0 _ _ _)
   | (with_reducible exact ih1 _ _ _ _ _ _ _)
   | (with_reducible exact spec_chGood.mono _ _)
   | (with_reducible exact spec_chPlan.mono _ _)
   | (with_reducible exact spec_plKeep.mono _ _ _ _ _)
   | (with_reducible exact spec_plPlace.mono _ _ _)
   | (with_reducible exact spec_plUsed.mono _ _ _ _)
   | (with_reducible exact LeO.refl _)
   | (with_reducible exact LeO.none _)
   | (with_reducible refine LeO.ite ?_ ?_)
   | (with_reducible refine LeO.bind ?_ (fun _=>?_))
   | exact ih0 _ _ _
   | exact ih1 _ _ _ _ _ _ _
   | exact spec_chGood.mono _ _
   | exact spec_chPlan.mono _ _
   | exact spec_plKeep.mono _ _ _ _ _
   | exact spec_plPlace.mono _ _ _
   | exact spec_plUsed.mono _ _ _ _
   | exact LeO.none _
   | refine LeO.ite ?_ ?_
   | refine LeO.bind ?_ (fun _=>?_)
theorem spec_SequencePlan.mono : ∀ a0 a1 k,LeO (spec_SequencePlan.f k a0 a1) (spec_SequencePlan.f (k + 1) a0 a1):=by
 intro a0 a1 k
 obtain ⟨ih0,ih1⟩:=spec_SequencePlan.mono_l k
 unfold spec_SequencePlan.f
 repeat' first
   | (with_reducible exact ih0 _ _ _)
   | (with_reducible exact ih1 _ _ _ _ _ _ _)
   | (with_reducible exact spec_chGood.mono _ _)
   | (with_reducible exact spec_chPlan.mono _ _)
   | (with_reducible exact spec_plKeep.mono _ _ _ _ _)
   | (with_reducible exact spec_plPlace.mono _ _ _)
   | (with_reducible exact spec_plUsed.mono _ _ _ _)
   | (with_reducible exact LeO.refl _)
   | (with_reducible exact LeO.none _)
   | (with_reducible refine LeO.ite ?_ ?_)
   | (with_reducible refine LeO.bind ?_ (fun _=>?_))
   | exact ih0 _ _ _
   | exact ih1 _ _ _ _ _ _ _
   | exact spec_chGood.mono _ _
   | exact spec_chPlan.mono _ _
   | exact spec_plKeep.mono _ _ _ _ _
   | exact spec_plPlace.mono _ _ _
   | exact spec_plUsed.mono _ _ _ _
   | exact LeO.none _
   | refine LeO.ite ?_ ?_
   | refine LeO.bind ?_ (fun _=>?_)
def spec_SequencePlan.T10 : Bool × List (List Nat × List Nat):=(true,[([],[]),([0],[0]),([],[]),([],[]),([2,3],[2,3]),([4],[4]),([1,5,4],[1,5]),([0,1,2,3,4,5,6],[]),([7,6,6,0,1,2,3,4,5,6],[6,7])])
def spec_SequencePlan.B10 : List Nat:=[0,1,0,0,12,28,63,127,255]
theorem spec_SequencePlan.tab10 : rtab .any (opsOf Try.f17 10) = spec_SequencePlan.T10:=by kernel_rfl
theorem spec_SequencePlan.bits10 : waitsOk spec_SequencePlan.T10.2 spec_SequencePlan.B10 = true:=by kernel_rfl
set_option maxHeartbeats 8000000 in
set_option maxRecDepth 100000 in
theorem spec_SequencePlan.calls (k : Nat) (A0 : Option Addr) (c0 : Nat) (l0 : List Int) (A1 : Option Addr) (c1 : Nat) (l1 : List Int) (r1 : Int) (r2 : List (S73)) (r3 : List Int) (r4 : Bool) (w : World) (hr0 : Kd.C (Kd.int .i64) w A0 l0.length l0) (hc0 : l0.length ≤ c0) (hr1 : Kd.C (Kd.int .i64) w A1 l1.length l1) (hc1 : l1.length ≤ c1) (h : spec_SequencePlan.f k l0 l1 = some (r1,r2,r3,r4)) :
  Calls Try.prog 17 #[.slice A0 l0.length c0,.slice A1 l1.length c1] w fun e w'=>∃ v1_ v2_ : Value,e = .returned (.tuple #[.agg #[.int .i64 r1,v1_,v2_],.bool r4]) ∧ Kd.R k73 73 w' w.heap.size (fun _=>True) v1_ r2 ∧ Kd.R (Kd.int .i64) 3 w' w.heap.size (fun _=>True) v2_ r3 ∧ Below w.heap.size w w':=by
 have hu29:=Try.underlying29
 have HR0:=Aside0.mk hr0
 have HC0:=Aside0.mk hc0
 clear hr0 hc0
 have HR1:=Aside0.mk hr1
 have HC1:=Aside0.mk hc1
 clear hr1 hc1
 have HB:=Aside0.mk (Below.refl w.heap.size w)
 have H : ((spec_chGood.f k l0).bind fun t220=>(if t220 = true then (spec_SequencePlan.j0 k l0 l1 (decide ((l1.length : Int) > 6))) else (spec_SequencePlan.j0 k l0 l1 true))) = some (r1,r2,r3,r4):=h
 clear h
 have HC3:=Aside0.mk H
 clear H
 go_enter Try.func17,Try.ntmps17
 go_upto_region 1 with (first|((with_reducible refine gate_dst (N:=4) rfl ?_);(try (refine gate_guard (by rfl) ?_;dsimp only));refine box_event ?hg (N:=4) ?hd (cs:=#[.int .i64 0,.slice none 0 0,.slice none 0 0]) (t:=29) ?hr ?_;(case hd=>rfl);(case hg=>rfl);(case hr=>first|(go_simp;done)|(go_simp;rfl));intro gb219 hg w4 hbox hb;have n0_:=Aside0.mk (below_step bz hb);have n1_:=Aside0.mk (hbox);have n2_:=Aside0.mk ((by rw [hg];exact (below_size bz) : w.heap.size ≤ gb219));have n3_:=Aside0.mk ((by rw [hg];exact (below_size bz) : w.heap.size ≤ gb219));clear HB;have HB:=n0_;have BK219:=n1_;have GW219:=n2_;have GE219:=n3_;clear n0_ n1_ n2_ n3_;clear hb hbox hg))
 (try simp only [Act.put,List.setIfInBounds_toArray,List.set_cons_zero,List.set_cons_succ])
 go_cut [16] (fun v16 wc=>∃ (kq : Nat) (x16_2 : Bool),v16 = .bool x16_2 ∧ Aside0 (spec_SequencePlan.j0 kq l0 l1 x16_2 = some (r1,r2,r3,r4)) ∧ Aside0 (kq ≤ k) ∧ Aside0 (wc.heap[gb219]? = some (.cells #[.int .i64 0,(.slice none 0 0),(.slice none 0 0)] 29 (0,0))) ∧ Aside0 (Below w.heap.size w wc))
 case first=>
  have H:=HC3.out
  clear HC3
  replace H:=Option.bind_eq_some_iff.mp H
  obtain ⟨t220,A50,H⟩:=H
  replace H : (if t220 = true then (spec_SequencePlan.j0 k l0 l1 (decide ((l1.length : Int) > 6))) else (spec_SequencePlan.j0 k l0 l1 true)) = some (r1,r2,r3,r4):=H
  have A5:=Aside0.mk A50
  clear A50
  by_cases c6 : t220 = true
  ·subst c6
   have H1 : (spec_SequencePlan.j0 k l0 l1 (decide ((l1.length : Int) > 6))) = some (r1,r2,r3,r4):=by rw [if_pos rfl] at H;exact H
   clear H
   have H:=H1
   clear H1
   have H':=Aside0.mk H
   clear H
   go_wp2_with (first|((with_reducible refine gate_callee (f:=53) rfl ?_);refine goesL_ (some 10) rfl rfl Try.func53 (by kernel_rfl) rfl #[.slice A0 l0.length c0] rfl mz ?_;(with_reducible refine (spec_chGood.calls k _ _ l0 true _ ?side1 ?side2 A5.out).mono ?_);(case side1=>exact cz (Kd.C_below HR0.out HB.out));(case side2=>exact HC0.out);rintro e w7 ⟨rfl,hb⟩;refine ⟨_,rfl,?_⟩;have n0_:=Aside0.mk (blk_below (g:=gb219) (o:=.cells #[.int .i64 0,.slice none 0 0,.slice none 0 0] 29 (0,0)) (kz BK219.out) hb);have n1_:=Aside0.mk (below_step bs hb);clear BK219 HB;have BK219:=n0_;have HB:=n1_;clear n0_ n1_;(try clear hb)))
   go_meet
   case rel=>exact ⟨_,(decide ((l1.length : Int) > 6)),fz,H',⟨by first|omega|exact Nat.le_refl _⟩,⟨by (with_reducible repeat (first|refine blk_drewN ?_ _|refine blk_drew ?_|refine blk_alloc ?_ _));exact BK219.out⟩,⟨by repeat (first|(with_reducible first|exact HB.out|apply below_alloc|apply pw_below_drewN|apply below_drew1|refine below_set ?_ GE219.out)|exact HB.out)⟩⟩
  ·replace c6:=Bool.eq_false_iff.mpr c6
   subst c6
   have H1 : (spec_SequencePlan.j0 k l0 l1 true) = some (r1,r2,r3,r4):=by rw [if_neg (show ¬ (false = true) by decide)] at H;exact H
   clear H
   have H:=H1
   clear H1
   have H':=Aside0.mk H
   clear H
   go_wp2_with (first|((with_reducible refine gate_callee (f:=53) rfl ?_);refine goesL_ (some 10) rfl rfl Try.func53 (by kernel_rfl) rfl #[.slice A0 l0.length c0] rfl mz ?_;(with_reducible refine (spec_chGood.calls k _ _ l0 false _ ?side1 ?side2 A5.out).mono ?_);(case side1=>exact cz (Kd.C_below HR0.out HB.out));(case side2=>exact HC0.out);rintro e w8 ⟨rfl,hb⟩;refine ⟨_,rfl,?_⟩;have n0_:=Aside0.mk (blk_below (g:=gb219) (o:=.cells #[.int .i64 0,.slice none 0 0,.slice none 0 0] 29 (0,0)) (kz BK219.out) hb);have n1_:=Aside0.mk (below_step bs hb);clear BK219 HB;have BK219:=n0_;have HB:=n1_;clear n0_ n1_;(try clear hb)))
   go_meet
   case rel=>exact ⟨_,(true),fz,H',⟨by first|omega|exact Nat.le_refl _⟩,⟨by (with_reducible repeat (first|refine blk_drewN ?_ _|refine blk_drew ?_|refine blk_alloc ?_ _));exact BK219.out⟩,⟨by repeat (first|(with_reducible first|exact HB.out|apply below_alloc|apply pw_below_drewN|apply below_drew1|refine below_set ?_ GE219.out)|exact HB.out)⟩⟩
 case rest=>
  clear HC3
  try clear c1
  try clear p2
  try clear c5
  try clear c6
  obtain ⟨kq,x16_2,rfl,HA,HJ2,BK219,HB⟩:=hcut
  cases kq with
  | zero=>exact absurd HA.out (by simp [spec_SequencePlan.j0])
  | succ kj2=>
   have H:=HA.out
   clear HA
   simp only [spec_SequencePlan.j0] at H
   by_cases c9 : x16_2 = true
   ·subst c9
    have H1 : (some (0,([] : List (S73)),([] : List Int),false)) = some (r1,r2,r3,r4):=by rw [if_pos rfl] at H;exact H
    clear H
    have H:=H1
    clear H1
    simp only [Option.some.injEq,Prod.mk.injEq] at H
    obtain ⟨rfl,rfl,rfl,rfl⟩:=H
    have hcz10_0 : wc.cell? ⟨gb219,0,none⟩ = some (.int .i64 0):=(blk_cell BK219.out 0).trans rfl
    have hcz10_1 : wc.cell? ⟨gb219,1,none⟩ = some (.slice none 0 0):=(blk_cell BK219.out 1).trans rfl
    have hcz10_2 : wc.cell? ⟨gb219,2,none⟩ = some (.slice none 0 0):=(blk_cell BK219.out 2).trans rfl
    have hfz10_0:=blk_frozen BK219.out 0
    have hfz10_1:=blk_frozen BK219.out 1
    have hfz10_2:=blk_frozen BK219.out 2
    go_wp2
    refine bodyPost_ret (results_ct rfl _ _ gb219 29 #[.int .i64 0,.slice none 0 0,.slice none 0 0] (0,0) _ rfl (by (with_reducible repeat (first|refine blk_drewN ?_ _|refine blk_drew ?_|refine blk_alloc ?_ _));refine blk_put (cs:=#[.int .i64 0,.slice none 0 0,.slice none 0 0]) ?_ 2 _ rfl;(with_reducible repeat (first|refine blk_drewN ?_ _|refine blk_drew ?_|refine blk_alloc ?_ _));refine blk_put (cs:=#[.int .i64 0,.slice none 0 0,.slice none 0 0]) ?_ 1 _ rfl;(with_reducible repeat (first|refine blk_drewN ?_ _|refine blk_drew ?_|refine blk_alloc ?_ _));refine blk_put (cs:=#[.int .i64 0,.slice none 0 0,.slice none 0 0]) ?_ 0 _ rfl;(with_reducible repeat (first|refine blk_drewN ?_ _|refine blk_drew ?_|refine blk_alloc ?_ _));exact BK219.out) Try.underlying29 rfl (by kernel_rfl)) rfl ?_
    exact ⟨_,_,by first|rfl|(simp [errW_none,errW_some] <;> rfl)|(simp [*,errW_none,errW_some] <;> rfl),by first|exact Kd.R_nil _ _ _ _ _|exact Kd.N_nil _ _ _ _ _|exact Kd.V_nil _ _ _ _ _|exact Kd.Q_nil _ _ _ _ _|exact Kd.S_nil _ _ _ _ _,by first|exact Kd.R_nil _ _ _ _ _|exact Kd.N_nil _ _ _ _ _|exact Kd.V_nil _ _ _ _ _|exact Kd.Q_nil _ _ _ _ _|exact Kd.S_nil _ _ _ _ _,by repeat (first|(with_reducible first|exact HB.out|apply below_alloc|apply pw_below_drewN|apply below_drew1|refine below_set ?_ GE219.out)|exact HB.out)⟩
   ·replace c9:=Bool.eq_false_iff.mpr c9
    subst c9
    have H1 : ((spec_chPlan.f kj2 l0).bind fun bt221=>(spec_SequencePlan.l0 kj2 l0 l1 (l1.length : Int) 0 bt221.1 bt221.2.1 ([] : List Int))) = some (r1,r2,r3,r4):=by rw [if_neg (show ¬ (false = true) by decide)] at H;exact H
    clear H
    have H:=H1
    clear H1
    replace H:=Option.bind_eq_some_iff.mp H
    obtain ⟨⟨t221,t222,t225⟩,A110,H⟩:=H
    replace H : (spec_SequencePlan.l0 kj2 l0 l1 (l1.length : Int) 0 t221 t222 ([] : List Int)) = some (r1,r2,r3,r4):=H
    have A11:=Aside0.mk A110
    clear A110
    have H':=Aside0.mk H
    clear H
    go_wp2_with (first|((with_reducible refine gate_callee (f:=54) rfl ?_);refine goesL_ (some 19) rfl rfl Try.func54 (by kernel_rfl) rfl #[.slice A0 l0.length c0] rfl mz ?_;(with_reducible refine (spec_chPlan.calls kj2 _ _ l0 t221 t222 t225 _ ?side1 ?side2 A11.out).mono ?_);(case side1=>exact cz (Kd.C_below HR0.out HB.out));(case side2=>exact HC0.out);rintro e w12 ⟨v223,v226,rfl,ho0,ho1,hb⟩;refine ⟨_,rfl,?_⟩;have n0_:=Aside0.mk (Kd.R_lower ho0 (below_size bs));have n1_:=Aside0.mk (Kd.R_lower ho1 (below_size bs));have n2_:=Aside0.mk (blk_below (g:=gb219) (o:=.cells #[.int .i64 0,.slice none 0 0,.slice none 0 0] 29 (0,0)) (kz BK219.out) hb);have n3_:=Aside0.mk (below_step bs hb);clear BK219 HB;have HO224:=n0_;have HO227:=n1_;have BK219:=n2_;have HB:=n3_;clear n0_ n1_ n2_ n3_;(try clear hb);(try clear ho0);(try clear ho1))|((with_reducible refine gate_dst (N:=6) rfl ?_);(try (refine gate_guard (by rfl) ?_;dsimp only));refine box_event ?hg (N:=6) ?hd (cs:=#[.int .i64 0,.slice none 0 0,.slice none 0 0]) (t:=29) ?hr ?_;(case hd=>rfl);(case hg=>rfl);(case hr=>first|(go_simp;done)|(go_simp;rfl));intro gb228 hg w13 hbox hb;have n0_:=Aside0.mk (Kd.R_below (rz HO224.out) hb);have n1_:=Aside0.mk (Kd.R_below (rz HO227.out) hb);have n2_:=Aside0.mk (blk_below (g:=gb219) (o:=.cells #[.int .i64 0,.slice none 0 0,.slice none 0 0] 29 (0,0)) (kz BK219.out) hb);have n3_:=Aside0.mk (below_step bs hb);have n4_:=Aside0.mk (hbox);have n5_:=Aside0.mk ((by rw [hg];exact (below_size bs) : w.heap.size ≤ gb228));have n6_:=Aside0.mk ((by rw [hg];exact (below_size bs) : w.heap.size ≤ gb228));have n7_:=Aside0.mk ((by rw [hg];exact Nat.ne_of_lt (blk_lt (g:=gb219) (o:=.cells #[.int .i64 0,.slice none 0 0,.slice none 0 0] 29 (0,0)) (kz BK219.out)) : gb219 ≠ gb228));have n8_:=Aside0.mk ((by rw [hg];exact Nat.ne_of_gt (blk_lt (g:=gb219) (o:=.cells #[.int .i64 0,.slice none 0 0,.slice none 0 0] 29 (0,0)) (kz BK219.out)) : gb228 ≠ gb219));clear HO224 HO227 BK219 HB;have HO224:=n0_;have HO227:=n1_;have BK219:=n2_;have HB:=n3_;have BK228:=n4_;have GW228:=n5_;have GE228:=n6_;have NB219_228:=n7_;have NB228_219:=n8_;clear n0_ n1_ n2_ n3_ n4_ n5_ n6_ n7_ n8_;clear hb hbox hg;have hnb14:=NB228_219.out;have hnc14:=NB219_228.out;have hcz15_0 : w13.cell? ⟨gb228,0,none⟩ = some (.int .i64 0):=(blk_cell BK228.out 0).trans rfl;have hcz15_1 : w13.cell? ⟨gb228,1,none⟩ = some (.slice none 0 0):=(blk_cell BK228.out 1).trans rfl;have hcz15_2 : w13.cell? ⟨gb228,2,none⟩ = some (.slice none 0 0):=(blk_cell BK228.out 2).trans rfl;have hfz15_0:=blk_frozen BK228.out 0;have hfz15_1:=blk_frozen BK228.out 1;have hfz15_2:=blk_frozen BK228.out 2;obtain ⟨Ao16,co16,eo16⟩:=Kd.R_slice HO224.out;subst eo16;obtain ⟨Ao17,co17,eo17⟩:=Kd.R_slice HO227.out;subst eo17))
    go_loopg [23] kj2 (fun kq v23 w'=>∃ (x23_2 : Int) (x220000_2 : Int) (x229002_2 : List Int) (u229002 : Value),v23 = .int .i64 x23_2 ∧ Aside0 (spec_SequencePlan.l0 kq l0 l1 (l1.length : Int) x23_2 t221 t222 x229002_2 = some (r1,r2,r3,r4)) ∧ Aside0 (kq ≤ kj2) ∧ Aside0 (Kd.R k73 73 w' w.heap.size (fun _=>True) (.slice Ao16 t222.length co16) t222) ∧ Aside0 (Kd.R (Kd.int .i64) 3 w' w.heap.size (fun _=>True) u229002 x229002_2) ∧ Aside0 (w'.heap[gb219]? = some (.cells #[.int .i64 x220000_2,(.slice none 0 0),(.slice none 0 0)] 29 (0,0))) ∧ Aside0 (w'.heap[gb228]? = some (.cells #[.int .i64 t221,(.slice Ao16 t222.length co16),u229002] 29 (0,0))) ∧ Aside0 (Below w.heap.size w w'))
    case atStart=>exact ⟨(0),(0),(([] : List Int)),(.slice none 0 0),fz,H',⟨Nat.le_refl _⟩,⟨by (with_reducible repeat (first|apply Kd.R_alloc|apply Kd.R_drewN|apply Kd.R_drew));exact Kd.R_mono (Kd.R_far (p:=⟨gb228,2,none⟩) (Kd.R_far (p:=⟨gb228,2,none⟩) (Kd.R_far (p:=⟨gb228,1,none⟩) (Kd.R_far (p:=⟨gb228,0,none⟩) (Kd.R_types HO224.out BK228.out (by decide)) (fun _ hk=>hk.2) (.int .i64 t221)) (fun _ hk=>hk.2) (.slice Ao16 t222.length co16)) (fun _ hk=>hk.2) (.slice Ao17 t225.length co17)) (fun _ hk=>hk.2) (.slice none 0 0)) (fun _ hk=>trivial)⟩,⟨by first|exact Kd.R_nil _ _ _ _ _|exact Kd.N_nil _ _ _ _ _|exact Kd.V_nil _ _ _ _ _|exact Kd.Q_nil _ _ _ _ _|exact Kd.S_nil _ _ _ _ _⟩,⟨by (with_reducible repeat (first|refine blk_drewN ?_ _|refine blk_drew ?_|refine blk_alloc ?_ _));refine blk_far ?_ NB219_228.out _;(with_reducible repeat (first|refine blk_drewN ?_ _|refine blk_drew ?_|refine blk_alloc ?_ _));refine blk_far ?_ NB219_228.out _;(with_reducible repeat (first|refine blk_drewN ?_ _|refine blk_drew ?_|refine blk_alloc ?_ _));refine blk_far ?_ NB219_228.out _;(with_reducible repeat (first|refine blk_drewN ?_ _|refine blk_drew ?_|refine blk_alloc ?_ _));refine blk_far ?_ NB219_228.out _;(with_reducible repeat (first|refine blk_drewN ?_ _|refine blk_drew ?_|refine blk_alloc ?_ _));exact BK219.out⟩,⟨by (with_reducible repeat (first|refine blk_drewN ?_ _|refine blk_drew ?_|refine blk_alloc ?_ _));refine blk_put (cs:=#[.int .i64 t221,.slice Ao16 t222.length co16,.slice Ao17 t225.length co17]) ?_ 2 _ rfl;(with_reducible repeat (first|refine blk_drewN ?_ _|refine blk_drew ?_|refine blk_alloc ?_ _));refine blk_put (cs:=#[.int .i64 t221,.slice Ao16 t222.length co16,.slice none 0 0]) ?_ 2 _ rfl;(with_reducible repeat (first|refine blk_drewN ?_ _|refine blk_drew ?_|refine blk_alloc ?_ _));refine blk_put (cs:=#[.int .i64 t221,.slice none 0 0,.slice none 0 0]) ?_ 1 _ rfl;(with_reducible repeat (first|refine blk_drewN ?_ _|refine blk_drew ?_|refine blk_alloc ?_ _));refine blk_put (cs:=#[.int .i64 0,.slice none 0 0,.slice none 0 0]) ?_ 0 _ rfl;(with_reducible repeat (first|refine blk_drewN ?_ _|refine blk_drew ?_|refine blk_alloc ?_ _));exact BK228.out⟩,⟨by repeat (first|(with_reducible first|exact HB.out|apply below_alloc|apply pw_below_drewN|apply below_drew1|refine below_set ?_ GE219.out|refine below_set ?_ GE228.out)|exact HB.out)⟩⟩
    case round=>
     clear H'
     try clear c1
     try clear p2
     try clear c5
     try clear c6
     try clear c9
     try clear c14
     try clear c17
     try clear hcz10_0
     try clear hcz10_1
     try clear hcz10_2
     try clear hcz15_0
     try clear hcz15_1
     try clear hcz15_2
     try clear hfz10_0
     try clear hfz10_1
     try clear hfz10_2
     try clear hfz15_0
     try clear hfz15_1
     try clear hfz15_2
     try clear p2
     obtain ⟨x23_2,x220000_2,x229002_2,u229002,rfl,HA,HK2,HO_229001,HO_229002,BK219,BK228,HB⟩:=hrel
     cases gk with
     | zero=>exact absurd HA.out (by simp [spec_SequencePlan.l0])
     | succ k2=>
      have H:=HA.out
      clear HA
      simp only [spec_SequencePlan.l0] at H
      by_cases c18 : x23_2 < (l1.length : Int)
      ·rw [if_pos c18] at H
       have c18b0 : decide (x23_2 < (l1.length : Int)) = true:=decide_eq_true c18
       clear c18
       by_cases c19 : 0 ≤ x23_2
       ·rw [if_pos c19] at H
        have c19b0 : decide (0 ≤ x23_2) = true:=decide_eq_true c19
        clear c19
        by_cases c20 : x23_2 < (l1.length : Int)
        ·rw [if_pos c20] at H
         have c20b0 : decide (x23_2 < (l1.length : Int)) = true:=decide_eq_true c20
         clear c20
         replace H:=Option.bind_eq_some_iff.mp H
         obtain ⟨t240,A210,H⟩:=H
         replace H : (if t240 < 0 then (some (0,([] : List (S73)),([] : List Int),false)) else ((spec_plPlace.f k2 l0 (rd l1 x23_2)).bind fun t241=>(if x229002_2.length < 17592186044416 then (spec_SequencePlan.l0 k2 l0 l1 (l1.length : Int) (wrap64 (x23_2 + 1)) t221 t222 (x229002_2 ++ [t241])) else (none)))) = some (r1,r2,r3,r4):=H
         have A21:=Aside0.mk A210
         clear A210
         by_cases c22 : t240 < 0
         ·rw [if_pos c22] at H
          have c22b0 : decide (t240 < 0) = true:=decide_eq_true c22
          clear c22
          simp only [Option.some.injEq,Prod.mk.injEq] at H
          obtain ⟨rfl,rfl,rfl,rfl⟩:=H
          have p239 : 0 ≤ (x23_2 : Int):=of_decide_eq_true az
          have q239 : x23_2 < (l1.length : Int):=of_decide_eq_true az
          obtain ⟨ad239,e239,hx239_0⟩:=Kd.at_int HR1.out x23_2 p239 q239
          cases e239
          replace hx239_0:=(HB.out.cell (World.block_lt_of_cell? w _ hx239_0)).trans hx239_0
          replace p239:=eq_true p239
          replace q239:=eq_true q239
          go_wp2_with (first|((with_reducible refine gate_callee (f:=55) rfl ?_);refine goesL_ (some 29) rfl rfl Try.func55 (by kernel_rfl) rfl #[.slice A0 l0.length c0,.int .i64 (rd l1 x23_2)] rfl mz ?_;(with_reducible refine (spec_plPlace.calls k2 _ _ l0 (rd l1 x23_2) t240 _ ?side1 ?side2 A21.out).mono ?_);(case side1=>exact cz (Kd.C_below HR0.out HB.out));(case side2=>exact HC0.out);rintro e w' ⟨rfl,⟨nd,rfl⟩⟩;refine ⟨_,rfl,?_⟩;(try (rw [drewN_self wr];generalize hq_ : World.drewN wr _ = wr;have n0_ : Aside0 (Kd.R k73 73 wr w.heap.size (fun _=>True) (.slice Ao16 t222.length co16) t222):=⟨by rw [← hq_];exact (rz HO_229001.out)⟩;have n1_ : Aside0 (Kd.R (Kd.int .i64) 3 wr w.heap.size (fun _=>True) u229002 x229002_2):=⟨by rw [← hq_];exact (rz HO_229002.out)⟩;have n2_ : Aside0 (wr.heap[gb219]? = some (.cells #[.int .i64 x220000_2,.slice none 0 0,.slice none 0 0] 29 (0,0))):=⟨by rw [← hq_];exact (kz BK219.out)⟩;have n3_ : Aside0 (wr.heap[gb228]? = some (.cells #[.int .i64 t221,.slice Ao16 t222.length co16,u229002] 29 (0,0))):=⟨by rw [← hq_];exact (kz BK228.out)⟩;have n4_ : Aside0 (Below w.heap.size w wr):=⟨by rw [← hq_];exact bs⟩;clear HO_229001 HO_229002 BK219 BK228 HB hq_;have HO_229001:=n0_;have HO_229002:=n1_;have BK219:=n2_;have BK228:=n3_;have HB:=n4_;clear n0_ n1_ n2_ n3_ n4_));have hnb23:=NB219_228.out;have hnc23:=NB228_219.out;have hcz24_0 : wr.cell? ⟨gb219,0,none⟩ = some (.int .i64 x220000_2):=(blk_cell BK219.out 0).trans rfl;have hcz24_1 : wr.cell? ⟨gb219,1,none⟩ = some (.slice none 0 0):=(blk_cell BK219.out 1).trans rfl;have hcz24_2 : wr.cell? ⟨gb219,2,none⟩ = some (.slice none 0 0):=(blk_cell BK219.out 2).trans rfl;have hfz24_0:=blk_frozen BK219.out 0;have hfz24_1:=blk_frozen BK219.out 1;have hfz24_2:=blk_frozen BK219.out 2))
          refine bodyPost_ret (results_ct rfl _ _ gb219 29 #[.int .i64 0,.slice none 0 0,.slice none 0 0] (0,0) _ rfl (by (with_reducible repeat (first|refine blk_drewN ?_ _|refine blk_drew ?_|refine blk_alloc ?_ _));refine blk_put (cs:=#[.int .i64 0,.slice none 0 0,.slice none 0 0]) ?_ 2 _ rfl;(with_reducible repeat (first|refine blk_drewN ?_ _|refine blk_drew ?_|refine blk_alloc ?_ _));refine blk_put (cs:=#[.int .i64 0,.slice none 0 0,.slice none 0 0]) ?_ 1 _ rfl;(with_reducible repeat (first|refine blk_drewN ?_ _|refine blk_drew ?_|refine blk_alloc ?_ _));refine blk_put (cs:=#[.int .i64 x220000_2,.slice none 0 0,.slice none 0 0]) ?_ 0 _ rfl;(with_reducible repeat (first|refine blk_drewN ?_ _|refine blk_drew ?_|refine blk_alloc ?_ _));exact BK219.out) Try.underlying29 rfl (by kernel_rfl)) rfl ?_
          exact ⟨_,_,by first|rfl|(simp [errW_none,errW_some] <;> rfl)|(simp [*,errW_none,errW_some] <;> rfl),by first|exact Kd.R_nil _ _ _ _ _|exact Kd.N_nil _ _ _ _ _|exact Kd.V_nil _ _ _ _ _|exact Kd.Q_nil _ _ _ _ _|exact Kd.S_nil _ _ _ _ _,by first|exact Kd.R_nil _ _ _ _ _|exact Kd.N_nil _ _ _ _ _|exact Kd.V_nil _ _ _ _ _|exact Kd.Q_nil _ _ _ _ _|exact Kd.S_nil _ _ _ _ _,by repeat (first|(with_reducible first|exact HB.out|apply below_alloc|apply pw_below_drewN|apply below_drew1|refine below_set ?_ GE219.out|refine below_set ?_ GE228.out)|exact HB.out)⟩
         ·rw [if_neg c22] at H
          have c22b0 : decide (t240 < 0) = false:=decide_eq_false c22
          clear c22
          replace H:=Option.bind_eq_some_iff.mp H
          obtain ⟨t241,A250,H⟩:=H
          replace H : (if x229002_2.length < 17592186044416 then (spec_SequencePlan.l0 k2 l0 l1 (l1.length : Int) (wrap64 (x23_2 + 1)) t221 t222 (x229002_2 ++ [t241])) else (none)) = some (r1,r2,r3,r4):=H
          have A25:=Aside0.mk A250
          clear A250
          by_cases c26 : x229002_2.length < 17592186044416
          ·rw [if_pos c26] at H
           have LMc26:=Aside0.mk c26
           clear c26
           obtain ⟨y242,hy242⟩ : ∃ y_ : List Int,y_ = (x229002_2 ++ [t241]):=⟨_,rfl⟩
           replace H : (spec_SequencePlan.l0 k2 l0 l1 (l1.length : Int) (wrap64 (x23_2 + 1)) t221 t222 y242) = some (r1,r2,r3,r4):=by first|(rw [hy242];with_reducible exact H)|(have H2_:=(Option.bind_some _ _).symm.trans H;rw [hy242];with_reducible exact H2_)|(have H2_:=(Option.bind_some _ _).symm.trans H;with_reducible exact H2_)|with_reducible exact H|(rw [hy242];exact H)|exact H
           have Ny242:=Aside0.mk hy242
           clear hy242
           have H':=Aside0.mk H
           clear H
           have p239 : 0 ≤ (x23_2 : Int):=of_decide_eq_true az
           have q239 : x23_2 < (l1.length : Int):=of_decide_eq_true az
           obtain ⟨ad239,e239,hx239_0⟩:=Kd.at_int HR1.out x23_2 p239 q239
           cases e239
           replace hx239_0:=(HB.out.cell (World.block_lt_of_cell? w _ hx239_0)).trans hx239_0
           replace p239:=eq_true p239
           replace q239:=eq_true q239
           try go_wp2_with (first|((with_reducible refine gate_callee (f:=55) rfl ?_);refine goesL_ (some 29) rfl rfl Try.func55 (by kernel_rfl) rfl #[.slice A0 l0.length c0,.int .i64 (rd l1 x23_2)] rfl mz ?_;(with_reducible refine (spec_plPlace.calls k2 _ _ l0 (rd l1 x23_2) t240 _ ?side1 ?side2 A21.out).mono ?_);(case side1=>exact cz (Kd.C_below HR0.out HB.out));(case side2=>exact HC0.out);rintro e w' ⟨rfl,⟨nd,rfl⟩⟩;refine ⟨_,rfl,?_⟩;(try (rw [drewN_self wr];generalize hq_ : World.drewN wr _ = wr;have n0_ : Aside0 (Kd.R k73 73 wr w.heap.size (fun _=>True) (.slice Ao16 t222.length co16) t222):=⟨by rw [← hq_];exact (rz HO_229001.out)⟩;have n1_ : Aside0 (Kd.R (Kd.int .i64) 3 wr w.heap.size (fun _=>True) u229002 x229002_2):=⟨by rw [← hq_];exact (rz HO_229002.out)⟩;have n2_ : Aside0 (wr.heap[gb219]? = some (.cells #[.int .i64 x220000_2,.slice none 0 0,.slice none 0 0] 29 (0,0))):=⟨by rw [← hq_];exact (kz BK219.out)⟩;have n3_ : Aside0 (wr.heap[gb228]? = some (.cells #[.int .i64 t221,.slice Ao16 t222.length co16,u229002] 29 (0,0))):=⟨by rw [← hq_];exact (kz BK228.out)⟩;have n4_ : Aside0 (Below w.heap.size w wr):=⟨by rw [← hq_];exact bs⟩;clear HO_229001 HO_229002 BK219 BK228 HB hq_;have HO_229001:=n0_;have HO_229002:=n1_;have BK219:=n2_;have BK228:=n3_;have HB:=n4_;clear n0_ n1_ n2_ n3_ n4_))))
           have n0_:=Aside0.mk (Kd.R_drew HO_229001.out)
           have n1_:=Aside0.mk (Kd.R_drew HO_229002.out)
           have n2_:=Aside0.mk (blk_drew BK219.out)
           have n3_:=Aside0.mk (blk_drew BK228.out)
           have n4_:=Aside0.mk (below_drew1 HB.out)
           clear HO_229001
           clear HO_229002
           clear BK219
           clear BK228
           clear HB
           have HO_229001:=n0_
           have HO_229002:=n1_
           have BK219:=n2_
           have BK228:=n3_
           have HB:=n4_
           clear n0_ n1_ n2_ n3_ n4_
           refine start_ (n:=9) (S:=fun w'=>w'.cell? ⟨gb228,0,none⟩ = some (.int .i64 t221) ∧ w'.cell? ⟨gb228,1,none⟩ = some (.slice Ao16 t222.length co16) ∧ w'.cell? ⟨gb228,2,none⟩ = some (u229002)) (ds:=[8]) #[false,false,false,false,false,false,false,false,false] (by kernel_rfl) rfl rfl ⟨(blk_cell BK228.out 0).trans rfl,(blk_cell BK228.out 1).trans rfl,(blk_cell BK228.out 2).trans rfl⟩ (fun hHeld=>?_);refine with_tabW spec_SequencePlan.tab10 spec_SequencePlan.bits10 (fun HT_ HW_=>?_)
           generalize wr.drew = w27 at HO_229001 HO_229002 BK219 BK228 HB hHeld ⊢
           refine pure_ (i:=0) (N:=some 32) (v:=?_) (a':=?_) #[true,false,false,false,false,false,false,false,false] rfl rfl (any_of HT_.out (by kernel_rfl)) (fun _ _ _ h=>h) (Or.inl ⟨by rfl,?_⟩) ?_ ?_
           rotate_left
           ·intro w'
            go_simp
            with_reducible rfl
           rotate_left
           ·simp only [Act.put,List.setIfInBounds_toArray,List.set_cons_zero,List.set_cons_succ,i64_w,i32_w]
            rfl
           refine pure_ (i:=2) (N:=some 34) (v:=?_) (a':=?_) #[true,false,true,false,false,false,false,false,false] rfl rfl (any_of HT_.out (by kernel_rfl)) (fun _ _ _ h=>h) (Or.inl ⟨by rfl,?_⟩) ?_ ?_
           rotate_left
           ·intro w'
            go_simp
            with_reducible rfl
           rotate_left
           ·simp only [Act.put,List.setIfInBounds_toArray,List.set_cons_zero,List.set_cons_succ,i64_w,i32_w]
            rfl
           refine pure_ (i:=3) (N:=some 35) (v:=?_) (a':=?_) #[true,false,true,true,false,false,false,false,false] rfl rfl (any_of HT_.out (by kernel_rfl)) (fun _ _ _ h=>h) (Or.inl ⟨by rfl,?_⟩) ?_ ?_
           rotate_left
           ·intro w'
            go_simp
            with_reducible rfl
           rotate_left
           ·simp only [Act.put,List.setIfInBounds_toArray,List.set_cons_zero,List.set_cons_succ,i64_w,i32_w]
            rfl
           refine take_ (i:=1) (N:=some 33) (v:=?_) (a':=?_) #[true,true,true,true,false,false,false,false,false] rfl rfl (take_ofW HT_.out HW_.out (by kernel_rfl)) (fun _ _ _ h=>h) (Or.inl ⟨by rfl,?_⟩) hHeld ?_ ?_
           rotate_left
           ·rintro w' ⟨s0,s1,s2⟩
            go_simp
            with_reducible rfl
           rotate_left
           ·simp only [Act.put,List.setIfInBounds_toArray,List.set_cons_zero,List.set_cons_succ,i64_w,i32_w]
            rfl
           refine one_ (i:=4) (N:=some 36) #[true,true,true,true,true,false,false,false,false] rfl rfl (one_of HT_.out (by kernel_rfl)) (by decide) (fun K hK=>?_)
           refine goes_ Try.func55 (by kernel_rfl) rfl #[.slice A0 l0.length c0,.int .i64 (rd l1 x23_2)] (by rfl) rfl rfl mz ?_
           with_reducible refine (spec_plPlace.calls k2 _ _ l0 (rd l1 x23_2) t241 _ ?side1 ?side2 A25.out).mono ?_
           (case side1=>exact cz (Kd.C_below HR0.out HB.out))
           (case side2=>exact HC0.out)
           rintro e w' ⟨rfl,⟨nd,rfl⟩⟩
           refine ⟨_,rfl,?_⟩
           refine hK.out _ _ ⟨(blk_cell BK228.out 0).trans rfl,(blk_cell BK228.out 1).trans rfl,(blk_cell BK228.out 2).trans rfl⟩ (fun hHeld=>?_)
           clear hK K
           refine norm_ (a':=?_) ?_ ?_
           rotate_left
           ·show Act.put _ (some 36) _ = _
            simp only [Act.put,List.setIfInBounds_toArray,List.set_cons_zero,List.set_cons_succ,i64_w,i32_w]
            rfl
           refine one_ (i:=5) (N:=some 37) #[true,true,true,true,true,true,false,false,false] rfl rfl (one_of HT_.out (by kernel_rfl)) (by decide) (fun K hK=>?_)
           refine value_ (w1:=?_) (v:=?_) (by rfl) rfl ?_ ?_
           rotate_left 2
           ·go_simp
            constructor
            ·rfl
            ·rfl
           refine hK.out _ _ ⟨(blk_cell (blk_alloc BK228.out _) 0).trans rfl,(blk_cell (blk_alloc BK228.out _) 1).trans rfl,(blk_cell (blk_alloc BK228.out _) 2).trans rfl⟩ (fun hHeld=>?_)
           clear hK K
           refine norm_ (a':=?_) ?_ ?_
           rotate_left
           ·show Act.put _ (some 37) _ = _
            simp only [Act.put,List.setIfInBounds_toArray,List.set_cons_zero,List.set_cons_succ,i64_w,i32_w]
            rfl
           refine one_ (i:=6) (N:=some 38) #[true,true,true,true,true,true,true,false,false] rfl rfl (one_of HT_.out (by kernel_rfl)) (by decide) (fun K hK=>?_)
           refine Kd.R_append_step (Kd.int .i64) (w0:=w) w.heap.size (by rfl) (.tmp 33) (.tmp 37) 23 3 (.int .i64 0) 8 rfl Try.underlying23 info3 rfl (by decide) (by omega) u229002 x229002_2 t241 [.int .i64 t241] (fun _=>True) (fun _=>False) rfl rfl ?aP (fun _ hk=>hk.elim) ?aF ?aO ?aB ?aS ?aL ?_
           (case aP=>exact rfl)
           (case aB=>exact bs)
           (case aF=>exact (fun _ _=>trivial))
           (case aO=>exact (rz HO_229002.out))
           (case aS=>exact (below_size bs))
           (case aL=>have:=LMc26.out;omega)
           intro v243 w28 ho hb hg hat
           rw [← Ny242.out] at ho
           have n0_:=Aside0.mk (Kd.R_over' (rz HO_229001.out) (Kd.R_typed (rz HO_229002.out)) (by decide) hg)
           have n1_:=Aside0.mk (blk_grown (g:=gb219) (o:=.cells #[.int .i64 x220000_2,.slice none 0 0,.slice none 0 0] 29 (0,0)) (kz BK219.out) hg (Kd.R_ne HO_229002.out BK219.out (by decide)))
           have n2_:=Aside0.mk (blk_grown (g:=gb228) (o:=.cells #[.int .i64 t221,.slice Ao16 t222.length co16,u229002] 29 (0,0)) (kz BK228.out) hg (Kd.R_ne HO_229002.out BK228.out (by decide)))
           have n3_:=Aside0.mk (hb)
           have n4_:=Aside0.mk (ho)
           clear HO_229001
           clear BK219
           clear BK228
           clear HB
           clear HO_229002
           have HO_229001:=n0_
           have BK219:=n1_
           have BK228:=n2_
           have HB:=n3_
           have HO244:=n4_
           clear n0_ n1_ n2_ n3_ n4_
           clear ho hb hg hat
           obtain ⟨Ao29,co29,eo29⟩:=Kd.R_slice HO244.out
           (first|subst eo29|(injection eo29 with f1_ f2_ f3_;have f4_:=f1_.symm;have f5_:=f3_.symm;clear f1_ f2_ f3_;subst f4_;subst f5_))
           refine hK.out _ _ ⟨(blk_cell BK228.out 0).trans rfl,(blk_cell BK228.out 1).trans rfl,(blk_cell BK228.out 2).trans rfl⟩ (fun hHeld=>?_)
           clear hK K
           refine norm_ (a':=?_) ?_ ?_
           rotate_left
           ·show Act.put _ (some 38) _ = _
            simp only [Act.put,List.setIfInBounds_toArray,List.set_cons_zero,List.set_cons_succ,i64_w,i32_w]
            rfl
           refine pure_ (i:=7) (N:=some 39) (v:=?_) (a':=?_) #[true,true,true,true,true,true,true,true,false] rfl rfl (any_of HT_.out (by kernel_rfl)) (fun _ _ _ h=>h) (Or.inl ⟨by rfl,?_⟩) ?_ ?_
           rotate_left
           ·intro w'
            go_simp
            with_reducible rfl
           rotate_left
           ·simp only [Act.put,List.setIfInBounds_toArray,List.set_cons_zero,List.set_cons_succ,i64_w,i32_w]
            rfl
           refine last_ (i:=8) (N:=none) #[true,true,true,true,true,true,true,true,true] rfl rfl (one_of HT_.out (by kernel_rfl)) (by decide) (fun K hK=>?_)
           have hs30 : w28.cell? ⟨gb228,2,none⟩ = some (u229002):=(blk_cell BK228.out 2).trans rfl
           have hfs30:=blk_frozen BK228.out 2
           have hns30_0:=NB219_228.out
           have hms30_0:=NB228_219.out
           refine skip_ (w1:=?_) (by rfl) rfl ?_ ?_
           rotate_left
           ·go_simp
            rfl
           refine hK.out _ _ ?_
           clear hK K
           refine done_ (done_of HT_.out (by kernel_rfl)) ?_
           try go_wp2
           go_roundg k2
           case measure=>have:=HJ2.out;have:=HK2.out;omega
           case rel=>exact ⟨(wrap64 (x23_2 + 1)),(x220000_2),(y242),(.slice Ao29 y242.length co29),fz,H',⟨by have:=HJ2.out;have:=HK2.out;omega⟩,⟨by (with_reducible repeat (first|apply Kd.R_alloc|apply Kd.R_drewN|apply Kd.R_drew));exact Kd.R_mono (Kd.R_far (p:=⟨gb228,2,none⟩) (Kd.R_types HO_229001.out BK228.out (by decide)) (fun _ hk=>hk.2) (.slice Ao29 y242.length co29)) (fun _ hk=>trivial)⟩,⟨by (with_reducible repeat (first|apply Kd.R_alloc|apply Kd.R_drewN|apply Kd.R_drew));exact Kd.R_mono (Kd.R_far (p:=⟨gb228,2,none⟩) (Kd.R_types HO244.out BK228.out (by decide)) (fun _ hk=>hk.2) (.slice Ao29 y242.length co29)) (fun _ hk=>trivial)⟩,⟨by (with_reducible repeat (first|refine blk_drewN ?_ _|refine blk_drew ?_|refine blk_alloc ?_ _));refine blk_far ?_ NB219_228.out _;(with_reducible repeat (first|refine blk_drewN ?_ _|refine blk_drew ?_|refine blk_alloc ?_ _));exact BK219.out⟩,⟨by (with_reducible repeat (first|refine blk_drewN ?_ _|refine blk_drew ?_|refine blk_alloc ?_ _));refine blk_put (cs:=#[.int .i64 t221,.slice Ao16 t222.length co16,u229002]) ?_ 2 _ rfl;(with_reducible repeat (first|refine blk_drewN ?_ _|refine blk_drew ?_|refine blk_alloc ?_ _));exact BK228.out⟩,⟨by repeat (first|(with_reducible first|exact HB.out|apply below_alloc|apply pw_below_drewN|apply below_drew1|refine below_set ?_ GE219.out|refine below_set ?_ GE228.out)|exact HB.out)⟩⟩
          ·rw [if_neg c26] at H
           exact absurd H (by simp)
        ·rw [if_neg c20] at H
         exact absurd H (by simp)
       ·rw [if_neg c19] at H
        exact absurd H (by simp)
      ·rw [if_neg c18] at H
       have c18b0 : decide (x23_2 < (l1.length : Int)) = false:=decide_eq_false c18
       clear c18
       replace H:=Option.bind_eq_some_iff.mp H
       obtain ⟨t229,A310,H⟩:=H
       replace H : ((spec_plKeep.f k2 t221 t222 x229002_2 t229).bind fun bt232=>(some (bt232.1,bt232.2.1,bt232.2.2,true))) = some (r1,r2,r3,r4):=H
       have A31:=Aside0.mk A310
       clear A310
       replace H:=Option.bind_eq_some_iff.mp H
       obtain ⟨⟨t232,t233,t236⟩,A320,H⟩:=H
       replace H : (some (t232,t233,t236,true)) = some (r1,r2,r3,r4):=H
       have A32:=Aside0.mk A320
       clear A320
       simp only [Option.some.injEq,Prod.mk.injEq] at H
       obtain ⟨rfl,rfl,rfl,rfl⟩:=H
       try go_wp2
       have n0_:=Aside0.mk (Kd.R_drew HO_229001.out)
       have n1_:=Aside0.mk (Kd.R_drew HO_229002.out)
       have n2_:=Aside0.mk (blk_drew BK219.out)
       have n3_:=Aside0.mk (blk_drew BK228.out)
       have n4_:=Aside0.mk (below_drew1 HB.out)
       clear HO_229001
       clear HO_229002
       clear BK219
       clear BK228
       clear HB
       have HO_229001:=n0_
       have HO_229002:=n1_
       have BK219:=n2_
       have BK228:=n3_
       have HB:=n4_
       clear n0_ n1_ n2_ n3_ n4_
       obtain ⟨Ao34,co34,eo34⟩:=Kd.R_slice HO_229002.out
       (first|subst eo34|(injection eo34 with f1_ f2_ f3_;have f4_:=f1_.symm;have f5_:=f3_.symm;clear f1_ f2_ f3_;subst f4_;subst f5_))
       refine start_ (n:=6) (S:=fun w'=>w'.cell? ⟨gb228,0,none⟩ = some (.int .i64 t221) ∧ w'.cell? ⟨gb228,1,none⟩ = some (.slice Ao16 t222.length co16) ∧ w'.cell? ⟨gb228,2,none⟩ = some (.slice Ao34 x229002_2.length co34)) (ds:=[]) #[false,false,false,false,false,false] (by kernel_rfl) rfl rfl ⟨(blk_cell BK228.out 0).trans rfl,(blk_cell BK228.out 1).trans rfl,(blk_cell BK228.out 2).trans rfl⟩ (fun hHeld=>?_)
       generalize wr.drew = w33 at HO_229001 HO_229002 BK219 BK228 HB hHeld ⊢
       refine take_ (i:=0) (N:=some 41) (v:=?_) (a':=?_) #[true,false,false,false,false,false] rfl rfl (by kernel_rfl) (fun _ _ _ h=>h) (Or.inl ⟨by rfl,?_⟩) hHeld ?_ ?_
       rotate_left
       ·rintro w' ⟨s0,s1,s2⟩
        go_simp
        with_reducible rfl
       rotate_left
       ·simp only [Act.put,List.setIfInBounds_toArray,List.set_cons_zero,List.set_cons_succ,i64_w,i32_w]
        rfl
       refine take_ (i:=1) (N:=some 42) (v:=?_) (a':=?_) #[true,true,false,false,false,false] rfl rfl (by kernel_rfl) (fun _ _ _ h=>h) (Or.inl ⟨by rfl,?_⟩) hHeld ?_ ?_
       rotate_left
       ·rintro w' ⟨s0,s1,s2⟩
        go_simp
        with_reducible rfl
       rotate_left
       ·simp only [Act.put,List.setIfInBounds_toArray,List.set_cons_zero,List.set_cons_succ,i64_w,i32_w]
        rfl
       refine one_ (i:=2) (N:=some 43) #[true,true,true,false,false,false] rfl rfl (by kernel_rfl) (by decide) (fun K hK=>?_)
       refine goes_ Try.func57 (by kernel_rfl) rfl #[.agg #[.int .i64 t221,.slice Ao16 t222.length co16,.slice Ao34 x229002_2.length co34]] (by rfl) rfl rfl mz ?_
       with_reducible refine (spec_plUsed.calls k2 t221 _ _ t222 _ _ x229002_2 t229 _ ?side1 ?side2 ?side3 ?side4 A31.out).mono ?_
       (case side1=>exact cz (Kd.R_reads' HO_229001.out).2.2)
       (case side2=>exact (Kd.R_reads' HO_229001.out).2.1)
       (case side3=>exact cz (Kd.R_reads' HO_229002.out).2.2)
       (case side4=>exact (Kd.R_reads' HO_229002.out).2.1)
       rintro e w35 ⟨v230,rfl,ho0,hb⟩
       refine ⟨_,rfl,?_⟩
       have n0_:=Aside0.mk (Kd.R_below (rz HO_229001.out) hb)
       have n1_:=Aside0.mk (Kd.R_elder' (rz HO_229002.out) (Kd.R_base ho0) hb)
       have n2_:=Aside0.mk (Kd.R_lower (Kd.R_new' ho0 (Kd.R_lt (rz HO_229002.out))) (below_size bs))
       have n3_:=Aside0.mk (blk_below (g:=gb219) (o:=.cells #[.int .i64 x220000_2,.slice none 0 0,.slice none 0 0] 29 (0,0)) (kz BK219.out) hb)
       have n4_:=Aside0.mk (blk_below (g:=gb228) (o:=.cells #[.int .i64 t221,.slice Ao16 t222.length co16,.slice Ao34 x229002_2.length co34] 29 (0,0)) (kz BK228.out) hb)
       have n5_:=Aside0.mk (below_step bs hb)
       clear HO_229001
       clear HO_229002
       clear BK219
       clear BK228
       clear HB
       have HO_229001:=n0_
       have HO_229002:=n1_
       have HO231:=n2_
       have BK219:=n3_
       have BK228:=n4_
       have HB:=n5_
       clear n0_ n1_ n2_ n3_ n4_ n5_
       (try clear hb)
       (try clear ho0)
       obtain ⟨Ao36,co36,eo36⟩:=Kd.R_slice HO231.out
       (first|subst eo36|(injection eo36 with f1_ f2_ f3_;have f4_:=f1_.symm;have f5_:=f3_.symm;clear f1_ f2_ f3_;subst f4_;subst f5_))
       refine hK.out _ _ ⟨(blk_cell BK228.out 0).trans rfl,(blk_cell BK228.out 1).trans rfl,(blk_cell BK228.out 2).trans rfl⟩ (fun hHeld=>?_)
       clear hK K
       refine norm_ (a':=?_) ?_ ?_
       rotate_left
       ·show Act.put _ (some 43) _ = _
        simp only [Act.put,List.setIfInBounds_toArray,List.set_cons_zero,List.set_cons_succ,i64_w,i32_w]
        rfl
       refine one_ (i:=3) (N:=some 44) #[true,true,true,true,false,false] rfl rfl (by kernel_rfl) (by decide) (fun K hK=>?_)
       refine goes_ Try.func56 (by kernel_rfl) rfl #[.agg #[.int .i64 t221,.slice Ao16 t222.length co16,.slice Ao34 x229002_2.length co34],.slice Ao36 t229.length co36] (by rfl) rfl rfl mz ?_
       with_reducible refine (spec_plKeep.calls k2 t221 _ _ t222 _ _ x229002_2 _ _ t229 t232 t233 t236 _ ?side1 ?side2 ?side3 ?side4 ?side5 ?side6 A32.out).mono ?_
       (case side1=>exact cz (Kd.R_reads' HO_229001.out).2.2)
       (case side2=>exact (Kd.R_reads' HO_229001.out).2.1)
       (case side3=>exact cz (Kd.R_reads' HO_229002.out).2.2)
       (case side4=>exact (Kd.R_reads' HO_229002.out).2.1)
       (case side5=>exact cz (Kd.R_reads' HO231.out).2.2)
       (case side6=>exact (Kd.R_reads' HO231.out).2.1)
       rintro e w37 ⟨v234,v237,rfl,ho0,ho1,hb⟩
       refine ⟨_,rfl,?_⟩
       have n0_:=Aside0.mk (Kd.R_elder' (rz HO_229001.out) (Kd.R_base ho0) hb)
       have n1_:=Aside0.mk (Kd.R_elder' (rz HO_229002.out) (Kd.R_base ho1) hb)
       have n2_:=Aside0.mk (Kd.R_elder' (rz HO231.out) (Kd.R_base ho1) hb)
       have n3_:=Aside0.mk (Kd.R_lower (Kd.R_new' ho0 (Kd.R_lt (rz HO_229001.out))) (below_size bs))
       have n4_:=Aside0.mk (Kd.R_lower (Kd.R_new' (Kd.R_new' ho1 (Kd.R_lt (rz HO_229002.out))) (Kd.R_lt (rz HO231.out))) (below_size bs))
       have n5_:=Aside0.mk (blk_below (g:=gb219) (o:=.cells #[.int .i64 x220000_2,.slice none 0 0,.slice none 0 0] 29 (0,0)) (kz BK219.out) hb)
       have n6_:=Aside0.mk (blk_below (g:=gb228) (o:=.cells #[.int .i64 t221,.slice Ao16 t222.length co16,.slice Ao34 x229002_2.length co34] 29 (0,0)) (kz BK228.out) hb)
       have n7_:=Aside0.mk (below_step bs hb)
       clear HO_229001
       clear HO_229002
       clear HO231
       clear BK219
       clear BK228
       clear HB
       have HO_229001:=n0_
       have HO_229002:=n1_
       have HO231:=n2_
       have HO235:=n3_
       have HO238:=n4_
       have BK219:=n5_
       have BK228:=n6_
       have HB:=n7_
       clear n0_ n1_ n2_ n3_ n4_ n5_ n6_ n7_
       (try clear hb)
       (try clear ho0)
       (try clear ho1)
       obtain ⟨Ao39,co39,eo39⟩:=Kd.R_slice HO235.out
       (first|subst eo39|(injection eo39 with f1_ f2_ f3_;have f4_:=f1_.symm;have f5_:=f3_.symm;clear f1_ f2_ f3_;subst f4_;subst f5_))
       obtain ⟨Ao41,co41,eo41⟩:=Kd.R_slice HO238.out
       (first|subst eo41|(injection eo41 with f1_ f2_ f3_;have f4_:=f1_.symm;have f5_:=f3_.symm;clear f1_ f2_ f3_;subst f4_;subst f5_))
       refine hK.out _ _ ⟨(blk_cell BK228.out 0).trans rfl,(blk_cell BK228.out 1).trans rfl,(blk_cell BK228.out 2).trans rfl⟩ (fun hHeld=>?_)
       clear hK K
       refine norm_ (a':=?_) ?_ ?_
       rotate_left
       ·show Act.put _ (some 44) _ = _
        simp only [Act.put,List.setIfInBounds_toArray,List.set_cons_zero,List.set_cons_succ,i64_w,i32_w]
        rfl
       refine one_ (i:=4) (N:=none) #[true,true,true,true,true,false] rfl rfl (by kernel_rfl) (by decide) (fun K hK=>?_)
       have hs38 : w37.cell? ⟨gb219,0,none⟩ = some (.int .i64 x220000_2):=(blk_cell BK219.out 0).trans rfl
       have hfs38:=blk_frozen BK219.out 0
       have hns38_1:=NB228_219.out
       have hms38_1:=NB219_228.out
       have hs40 : w37.cell? ⟨gb219,1,none⟩ = some (.slice none 0 0):=(blk_cell BK219.out 1).trans rfl
       have hfs40:=blk_frozen BK219.out 1
       have hns40_1:=NB228_219.out
       have hms40_1:=NB219_228.out
       have hs42 : w37.cell? ⟨gb219,2,none⟩ = some (.slice none 0 0):=(blk_cell BK219.out 2).trans rfl
       have hfs42:=blk_frozen BK219.out 2
       have hns42_1:=NB228_219.out
       have hms42_1:=NB219_228.out
       refine skip_ (w1:=?_) (by rfl) rfl ?_ ?_
       rotate_left
       ·go_simp
        rfl
       refine hK.out _ _ ⟨((cell_far (p:=⟨gb219,_,none⟩) NB228_219.out _).trans (((cell_far (p:=⟨gb219,_,none⟩) NB228_219.out _).trans (((cell_far (p:=⟨gb219,_,none⟩) NB228_219.out _).trans (hHeld.1)))))),((cell_far (p:=⟨gb219,_,none⟩) NB228_219.out _).trans (((cell_far (p:=⟨gb219,_,none⟩) NB228_219.out _).trans (((cell_far (p:=⟨gb219,_,none⟩) NB228_219.out _).trans (hHeld.2.1)))))),((cell_far (p:=⟨gb219,_,none⟩) NB228_219.out _).trans (((cell_far (p:=⟨gb219,_,none⟩) NB228_219.out _).trans (((cell_far (p:=⟨gb219,_,none⟩) NB228_219.out _).trans (hHeld.2.2))))))⟩ (fun hHeld=>?_)
       clear hK K
       refine pure_ (i:=5) (N:=some 5) (v:=?_) (a':=?_) #[true,true,true,true,true,true] rfl rfl (by kernel_rfl) (fun _ _ _ h=>h) (Or.inl ⟨by rfl,?_⟩) ?_ ?_
       rotate_left
       ·intro w'
        go_simp
        with_reducible rfl
       rotate_left
       ·simp only [Act.put,List.setIfInBounds_toArray,List.set_cons_zero,List.set_cons_succ,i64_w,i32_w]
        rfl
       refine done_ (by kernel_rfl) ?_
       try go_wp2
       refine bodyPost_ret (results_ct rfl _ _ gb219 29 #[.int .i64 t232,.slice Ao39 t233.length co39,.slice Ao41 t236.length co41] (0,0) _ rfl (by (with_reducible repeat (first|refine blk_drewN ?_ _|refine blk_drew ?_|refine blk_alloc ?_ _));refine blk_put (cs:=#[.int .i64 t232,.slice Ao39 t233.length co39,.slice none 0 0]) ?_ 2 _ rfl;(with_reducible repeat (first|refine blk_drewN ?_ _|refine blk_drew ?_|refine blk_alloc ?_ _));refine blk_put (cs:=#[.int .i64 t232,.slice none 0 0,.slice none 0 0]) ?_ 1 _ rfl;(with_reducible repeat (first|refine blk_drewN ?_ _|refine blk_drew ?_|refine blk_alloc ?_ _));refine blk_put (cs:=#[.int .i64 x220000_2,.slice none 0 0,.slice none 0 0]) ?_ 0 _ rfl;(with_reducible repeat (first|refine blk_drewN ?_ _|refine blk_drew ?_|refine blk_alloc ?_ _));exact BK219.out) Try.underlying29 rfl (by kernel_rfl)) rfl ?_
       exact ⟨_,_,by first|rfl|(simp [errW_none,errW_some] <;> rfl)|(simp [*,errW_none,errW_some] <;> rfl),by (with_reducible repeat (first|apply Kd.R_alloc|apply Kd.R_drewN|apply Kd.R_drew));exact Kd.R_mono (Kd.R_far (p:=⟨gb219,2,none⟩) (Kd.R_far (p:=⟨gb219,1,none⟩) (Kd.R_far (p:=⟨gb219,0,none⟩) (Kd.R_types HO235.out BK219.out (by decide)) (fun _ hk=>hk.2) (.int .i64 t232)) (fun _ hk=>hk.2) (.slice Ao39 t233.length co39)) (fun _ hk=>hk.2) (.slice Ao41 t236.length co41)) (fun _ hk=>trivial),by (with_reducible repeat (first|apply Kd.R_alloc|apply Kd.R_drewN|apply Kd.R_drew));exact Kd.R_mono (Kd.R_far (p:=⟨gb219,2,none⟩) (Kd.R_far (p:=⟨gb219,1,none⟩) (Kd.R_far (p:=⟨gb219,0,none⟩) (Kd.R_types HO238.out BK219.out (by decide)) (fun _ hk=>hk.2) (.int .i64 t232)) (fun _ hk=>hk.2) (.slice Ao39 t233.length co39)) (fun _ hk=>hk.2) (.slice Ao41 t236.length co41)) (fun _ hk=>trivial),by repeat (first|(with_reducible first|exact HB.out|apply below_alloc|apply pw_below_drewN|apply below_drew1|refine below_set ?_ GE219.out|refine below_set ?_ GE228.out)|exact HB.out)⟩
/-! ### impl_in: function 100 -/
def impl_in.f (a0 : Int) (a1 : Int) (a2 : Int) : Option (Bool):=if a0 ≥ a1 then (some (decide (a0 ≤ a2))) else (some false)
set_option maxHeartbeats 8000000 in
set_option maxRecDepth 100000 in
theorem impl_in.calls (a0 : Int) (a1 : Int) (a2 : Int) (r : Bool) (w : World) (h : impl_in.f a0 a1 a2 = some r) :
  Calls Try.prog 100 #[.int .i64 a0,.int .i64 a1,.int .i64 a2] w fun e w'=>e = .returned (.bool r) ∧ Drawn0 w w':=by
 have H : (if a0 ≥ a1 then (some (decide (a0 ≤ a2))) else (some false)) = some r:=h
 clear h
 by_cases c4 : a0 ≥ a1
 ·rw [if_pos c4] at H
  have c4b0 : decide (a1 ≤ a0) = true:=decide_eq_true c4
  clear c4
  obtain rfl:=Option.some.inj H
  go_enter Try.func100,Try.ntmps100
  go_wp2
  go_ret
  exact ⟨by first|rfl|(simp;done)|(simp [*];done),by repeat (first|exact Drawn0.refl _|apply Drawn0.step)⟩
 ·rw [if_neg c4] at H
  have c4b0 : decide (a1 ≤ a0) = false:=decide_eq_false c4
  clear c4
  obtain rfl:=Option.some.inj H
  go_enter Try.func100,Try.ntmps100
  go_wp2
  go_ret
  exact ⟨by first|rfl|(simp;done)|(simp [*];done),by repeat (first|exact Drawn0.refl _|apply Drawn0.step)⟩
/-! ### impl_sums: function 101 -/
mutual
def impl_sums.l0 : Nat → List Int → Int → List (S73) → Int → Int → Option ((List (S73)))
 | 0,_,_,_,_,_=>none
 | k + 1,x0,x1,x5,x9,x10=>if x10 < x9 then (impl_sums.l1 k x0 x1 x5 x10 x9 x10 (wrap64 (x10 + 1)) 0) else (some x5)
def impl_sums.l1 : Nat → List Int → Int → List (S73) → Int → Int → Int → Int → Int → Option ((List (S73)))
 | 0,_,_,_,_,_,_,_,_=>none
 | k + 1,x0,x1,x5,x6,x9,x10,x14,x15=>if x15 < x14 then (if 0 ≤ x15 then (if x15 < (x0.length : Int) then (if 0 ≤ x6 then (if x6 < (x0.length : Int) then (if 0 ≤ x1 then (if x1 < (x0.length : Int) then (if (wrap64 ((rd x0 x15) + (rd x0 x6))) = (rd x0 x1) then (if x5.length < 8796093022208 then (impl_sums.l1 k x0 x1 (x5 ++ [(⟨x15,x6⟩ : S73)]) x6 x9 x10 x14 (wrap64 (x15 + 1))) else (none)) else (impl_sums.l1 k x0 x1 x5 x6 x9 x10 x14 (wrap64 (x15 + 1)))) else (none)) else (none)) else (none)) else (none)) else (none)) else (none)) else (impl_sums.l0 k x0 x1 x5 x9 (wrap64 (x10 + 1)))
end
def impl_sums.f (k : Nat) (l0 : List Int) (a1 : Int) : Option ((List (S73))):=impl_sums.l0 k l0 a1 (([] : List (S73))) a1 0
theorem impl_sums.mono_l : ∀ k,(∀ y0 y1 y2 y3 y4,LeO (impl_sums.l0 k y0 y1 y2 y3 y4) (impl_sums.l0 (k + 1) y0 y1 y2 y3 y4)) ∧ (∀ y0 y1 y2 y3 y4 y5 y6 y7,LeO (impl_sums.l1 k y0 y1 y2 y3 y4 y5 y6 y7) (impl_sums.l1 (k + 1) y0 y1 y2 y3 y4 y5 y6 y7))
 | 0=>⟨fun _ _ _ _ _ r h=>by simp [impl_sums.l0] at h,fun _ _ _ _ _ _ _ _ r h=>by simp [impl_sums.l1] at h⟩
 | k + 1=>by
  obtain ⟨ih0,ih1⟩:=impl_sums.mono_l k
  refine ⟨?_,?_⟩
  ·intro y0 y1 y2 y3 y4
   unfold impl_sums.l0
   repeat' first
   | (with_reducible exact ih0 _ _ _ _ _)
   | (with_reducible exact ih1 _ _ _ _ _ _ _ _)
   | (with_reducible exact LeO.refl _)
   | (with_reducible exact LeO.none _)
   | (with_reducible refine LeO.ite ?_ ?_)
   | (with_reducible refine LeO.bind ?_ (fun _=>?_))
   | exact ih0 _ _ _ _ _
   | exact ih1 _ _ _ _ _ _ _ _
   | exact LeO.none _
   | refine LeO.ite ?_ ?_
   | refine LeO.bind ?_ (fun _=>?_)
  ·intro y0 y1 y2 y3 y4 y5 y6 y7
   unfold impl_sums.l1
   repeat' first
   | (with_reducible exact ih0 _ _ _ _ _)
   | (with_reducible exact ih1 _ _ _ _ _ _ _ _)
   | (with_reducible exact LeO.refl _)
   | (with_reducible exact LeO.none _)
   | (with_reducible refine LeO.ite ?_ ?_)
   | (with_reducible refine LeO.bind ?_ (fun _=>?_))
   | exact ih0 _ _ _ _ _
   | exact ih1 _ _ _ _ _ _ _ _
   | exact LeO.none _
   | refine LeO.ite ?_ ?_
   | refine LeO.bind ?_ (fun _=>?_)
theorem impl_sums.mono : ∀ a0 a1 k,LeO (impl_sums.f k a0 a1) (impl_sums.f (k + 1) a0 a1):=by
 intro a0 a1 k
 obtain ⟨ih0,ih1⟩:=impl_sums.mono_l k
 unfold impl_sums.f
 repeat' first
   | (with_reducible exact ih0 _ _ _ _ _)
   | (with_reducible exact ih1 _ _ _ _ _ _ _ _)
   | (with_reducible exact LeO.refl _)
   | (with_reducible exact LeO.none _)
   | (with_reducible refine LeO.ite ?_ ?_)
   | (with_reducible refine LeO.bind ?_ (fun _=>?_))
   | exact ih0 _ _ _ _ _
   | exact ih1 _ _ _ _ _ _ _ _
   | exact LeO.none _
   | refine LeO.ite ?_ ?_
   | refine LeO.bind ?_ (fun _=>?_)
set_option maxHeartbeats 8000000 in
set_option maxRecDepth 100000 in
theorem impl_sums.calls (k : Nat) (A0 : Option Addr) (c0 : Nat) (l0 : List Int) (a1 : Int) (r : List (S73)) (w : World) (hr0 : Kd.C (Kd.int .i64) w A0 l0.length l0) (hc0 : l0.length ≤ c0) (h : impl_sums.f k l0 a1 = some r) :
  Calls Try.prog 101 #[.slice A0 l0.length c0,.int .i64 a1] w fun e w'=>∃ v0_ : Value,e = .returned (v0_) ∧ Kd.R k73 73 w' w.heap.size (fun _=>True) v0_ r ∧ Below w.heap.size w w':=by
 have hu73:=Try.underlying73
 have HR0:=Aside0.mk hr0
 have HC0:=Aside0.mk hc0
 clear hr0 hc0
 have HB:=Aside0.mk (Below.refl w.heap.size w)
 have H : (impl_sums.l0 k l0 a1 (([] : List (S73))) a1 0) = some r:=h
 clear h
 obtain ⟨y245,hy245⟩ : ∃ y_ : List (S73),y_ = (([] : List (S73))):=⟨_,rfl⟩
 replace H : (impl_sums.l0 k l0 a1 y245 a1 0) = some r:=by first|(rw [hy245];with_reducible exact H)|(have H2_:=(Option.bind_some _ _).symm.trans H;rw [hy245];with_reducible exact H2_)|(have H2_:=(Option.bind_some _ _).symm.trans H;with_reducible exact H2_)|with_reducible exact H|(rw [hy245];exact H)|exact H
 have Ny245:=Aside0.mk hy245
 clear hy245
 have H':=Aside0.mk H
 clear H
 go_enter Try.func101,Try.ntmps101
 go_wp2_with (first|((with_reducible refine gate_dst (N:=8) rfl ?_);refine Kd.R_lit k73 _ 73 ?hg (N:=8) ?hd (xs:=([] : List (S73))) (inner:=[]) (ok:=fun _=>True) (okp:=fun _=>True) ?hr ?hp (fun _ hk=>hk) trivial (Below.refl _ _) (Nat.le_refl _) (by simp) ?_;(case hd=>rfl);(case hg=>rfl);(case hr=>first|(go_simp;done)|(go_simp;rfl));(case hp=>exact (Reps.none _ _));intro v246 w3 ho4 hb hg_ hnew_;clear hg_ hnew_;(first|rw [← Ny245.out] at ho4|(simp only [Int.reduceToNat] at ho4;rw [← Ny245.out] at ho4));have n0_:=Aside0.mk (Kd.R_lower ho4 (below_size bz));have n1_:=Aside0.mk (below_step bz hb);clear HB;have HO247:=n0_;have HB:=n1_;clear n0_ n1_;clear hb ho4))
 repeat (go_quiet (first|((with_reducible refine gate_dst (N:=8) rfl ?_);refine Kd.R_lit k73 _ 73 ?hg (N:=8) ?hd (xs:=([] : List (S73))) (inner:=[]) (ok:=fun _=>True) (okp:=fun _=>True) ?hr ?hp (fun _ hk=>hk) trivial (Below.refl _ _) (Nat.le_refl _) (by simp) ?_;(case hd=>rfl);(case hg=>rfl);(case hr=>first|(go_simp;done)|(go_simp;rfl));(case hp=>exact (Reps.none _ _));intro v246 w3 ho4 hb hg_ hnew_;clear hg_ hnew_;(first|rw [← Ny245.out] at ho4|(simp only [Int.reduceToNat] at ho4;rw [← Ny245.out] at ho4));have n0_:=Aside0.mk (Kd.R_lower ho4 (below_size bz));have n1_:=Aside0.mk (below_step bz hb);clear HB;have HO247:=n0_;have HB:=n1_;clear n0_ n1_;clear hb ho4));try go_wp2_with (first|((with_reducible refine gate_dst (N:=8) rfl ?_);refine Kd.R_lit k73 _ 73 ?hg (N:=8) ?hd (xs:=([] : List (S73))) (inner:=[]) (ok:=fun _=>True) (okp:=fun _=>True) ?hr ?hp (fun _ hk=>hk) trivial (Below.refl _ _) (Nat.le_refl _) (by simp) ?_;(case hd=>rfl);(case hg=>rfl);(case hr=>first|(go_simp;done)|(go_simp;rfl));(case hp=>exact (Reps.none _ _));intro v246 w3 ho4 hb hg_ hnew_;clear hg_ hnew_;(first|rw [← Ny245.out] at ho4|(simp only [Int.reduceToNat] at ho4;rw [← Ny245.out] at ho4));have n0_:=Aside0.mk (Kd.R_lower ho4 (below_size bz));have n1_:=Aside0.mk (below_step bz hb);clear HB;have HO247:=n0_;have HB:=n1_;clear n0_ n1_;clear hb ho4)))
 go_loopg [5,10] k (fun kq v5 v10 w'=>∃ (x5_1 : List (S73)) (x10_1 : Int),v10 = .int .i64 x10_1 ∧ Aside0 (impl_sums.l0 kq l0 a1 x5_1 a1 x10_1 = some r) ∧ Aside0 (kq ≤ k) ∧ Aside0 (Kd.R k73 73 w' w.heap.size (fun _=>True) v5 x5_1) ∧ Aside0 (Below w.heap.size w w'))
 case atStart=>exact ⟨(y245),(0),fz,H',⟨Nat.le_refl _⟩,⟨by (with_reducible repeat (first|apply Kd.R_alloc|apply Kd.R_drewN|apply Kd.R_drew));exact HO247.out⟩,⟨by repeat (first|(with_reducible first|exact HB.out|apply below_alloc|apply pw_below_drewN|apply below_drew1)|exact HB.out)⟩⟩
 case round=>
  clear H'
  try clear c1
  try clear p2
  obtain ⟨x5_1,x10_1,rfl,HA,HK1,HO_5,HB⟩:=hrel
  cases gk with
  | zero=>exact absurd HA.out (by simp [impl_sums.l0])
  | succ k1=>
   have H:=HA.out
   clear HA
   simp only [impl_sums.l0] at H
   by_cases c5 : x10_1 < a1
   ·rw [if_pos c5] at H
    have c5b0 : decide (x10_1 < a1) = true:=decide_eq_true c5
    clear c5
    have H':=Aside0.mk H
    clear H
    go_wp2
    repeat (go_quiet (fail);try go_wp2)
    go_loopg [5,15] k1 (fun kq v5 v15 w'=>∃ (x5_2 : List (S73)) (x15_2 : Int),v15 = .int .i64 x15_2 ∧ Aside0 (impl_sums.l1 kq l0 a1 x5_2 x10_1 a1 x10_1 (wrap64 (x10_1 + 1)) x15_2 = some r) ∧ Aside0 (kq ≤ k1) ∧ Aside0 (Kd.R k73 73 w' w.heap.size (fun _=>True) v5 x5_2) ∧ Aside0 (Below w.heap.size w w'))
    case atStart=>exact ⟨(x5_1),(0),fz,H',⟨Nat.le_refl _⟩,⟨by (with_reducible repeat (first|apply Kd.R_alloc|apply Kd.R_drewN|apply Kd.R_drew));exact HO_5.out⟩,⟨by repeat (first|(with_reducible first|exact HB.out|apply below_alloc|apply pw_below_drewN|apply below_drew1)|exact HB.out)⟩⟩
    case round=>
     clear H'
     try clear c1
     try clear p2
     try clear c5
     try clear c5b0
     try clear p2
     obtain ⟨x5_2,x15_2,rfl,HA,HK2,HO_5,HB⟩:=hrel
     cases gk with
     | zero=>exact absurd HA.out (by simp [impl_sums.l1])
     | succ k2=>
      have H:=HA.out
      clear HA
      simp only [impl_sums.l1] at H
      by_cases c6 : x15_2 < (wrap64 (x10_1 + 1))
      ·rw [if_pos c6] at H
       have c6b0 : decide (x15_2 < (wrap64 (x10_1 + 1))) = true:=decide_eq_true c6
       clear c6
       by_cases c7 : 0 ≤ x15_2
       ·rw [if_pos c7] at H
        have c7b0 : decide (0 ≤ x15_2) = true:=decide_eq_true c7
        clear c7
        by_cases c8 : x15_2 < (l0.length : Int)
        ·rw [if_pos c8] at H
         have c8b0 : decide (x15_2 < (l0.length : Int)) = true:=decide_eq_true c8
         clear c8
         by_cases c9 : 0 ≤ x10_1
         ·rw [if_pos c9] at H
          have c9b0 : decide (0 ≤ x10_1) = true:=decide_eq_true c9
          clear c9
          by_cases c10 : x10_1 < (l0.length : Int)
          ·rw [if_pos c10] at H
           have c10b0 : decide (x10_1 < (l0.length : Int)) = true:=decide_eq_true c10
           clear c10
           by_cases c11 : 0 ≤ a1
           ·rw [if_pos c11] at H
            have c11b0 : decide (0 ≤ a1) = true:=decide_eq_true c11
            clear c11
            by_cases c12 : a1 < (l0.length : Int)
            ·rw [if_pos c12] at H
             have c12b0 : decide (a1 < (l0.length : Int)) = true:=decide_eq_true c12
             clear c12
             by_cases c13 : (wrap64 ((rd l0 x15_2) + (rd l0 x10_1))) = (rd l0 a1)
             ·rw [if_pos c13] at H
              have c13b0 : ((wrap64 ((rd l0 x15_2) + (rd l0 x10_1))) == (rd l0 a1)) = true:=beq_iff_eq.mpr c13
              have c13b1 : ((wrap64 ((rd l0 x15_2) + (rd l0 x10_1))) != (rd l0 a1)) = false:=bne_eq_false_iff_eq.mpr c13
              clear c13
              by_cases c14 : x5_2.length < 8796093022208
              ·rw [if_pos c14] at H
               have LMc14:=Aside0.mk c14
               clear c14
               obtain ⟨y251,hy251⟩ : ∃ y_ : List (S73),y_ = (x5_2 ++ [(⟨x15_2,x10_1⟩ : S73)]):=⟨_,rfl⟩
               replace H : (impl_sums.l1 k2 l0 a1 y251 x10_1 a1 x10_1 (wrap64 (x10_1 + 1)) (wrap64 (x15_2 + 1))) = some r:=by first|(rw [hy251];with_reducible exact H)|(have H2_:=(Option.bind_some _ _).symm.trans H;rw [hy251];with_reducible exact H2_)|(have H2_:=(Option.bind_some _ _).symm.trans H;with_reducible exact H2_)|with_reducible exact H|(rw [hy251];exact H)|exact H
               have Ny251:=Aside0.mk hy251
               clear hy251
               have H':=Aside0.mk H
               clear H
               have p248 : 0 ≤ (x15_2 : Int):=of_decide_eq_true az
               have q248 : x15_2 < (l0.length : Int):=of_decide_eq_true az
               obtain ⟨ad248,e248,hx248_0⟩:=Kd.at_int HR0.out x15_2 p248 q248
               cases e248
               replace hx248_0:=(HB.out.cell (World.block_lt_of_cell? w _ hx248_0)).trans hx248_0
               replace p248:=eq_true p248
               replace q248:=eq_true q248
               have p249 : 0 ≤ (x10_1 : Int):=of_decide_eq_true az
               have q249 : x10_1 < (l0.length : Int):=of_decide_eq_true az
               obtain ⟨ad249,e249,hx249_0⟩:=Kd.at_int HR0.out x10_1 p249 q249
               obtain rfl : ad248 = ad249:=(by injection e249)
               replace hx249_0:=(HB.out.cell (World.block_lt_of_cell? w _ hx249_0)).trans hx249_0
               replace p249:=eq_true p249
               replace q249:=eq_true q249
               have p250 : 0 ≤ (a1 : Int):=of_decide_eq_true az
               have q250 : a1 < (l0.length : Int):=of_decide_eq_true az
               obtain ⟨ad250,e250,hx250_0⟩:=Kd.at_int HR0.out a1 p250 q250
               obtain rfl : ad248 = ad250:=(by injection e250)
               replace hx250_0:=(HB.out.cell (World.block_lt_of_cell? w _ hx250_0)).trans hx250_0
               replace p250:=eq_true p250
               replace q250:=eq_true q250
               go_wp2_with (first|((with_reducible refine gate_builtin (b:=.append) (xs:=#[.tmp 32,.tmp 36]) rfl ?_);at_builtin;refine Kd.R_append k73 (w0:=w) w.heap.size rfl (.tmp 32) (.tmp 36) 27 73 (.agg #[(.int .i64 0),(.int .i64 0)]) 16 rfl Try.underlying27 info73 rfl (by decide) (by omega) u5 x5_2 (⟨x15_2,x10_1⟩ : S73) [.int .i64 x15_2,.int .i64 x10_1] (fun _=>True) (fun _=>False) rfl rfl ?aP (fun _ hk=>hk.elim) ?aF ?aO ?aB ?aS ?aL ?_;(case aP=>exact k73_mkM _ _ _ (⟨x15_2,x10_1⟩ : S73));(case aB=>exact bz);(case aF=>exact (fun _ _=>trivial));(case aO=>exact (rz HO_5.out));(case aS=>exact (below_size bz));(case aL=>have:=LMc14.out;omega);intro v252 w15 ho hb hg hat;rw [← Ny251.out] at ho;have n0_:=Aside0.mk (hb);have n1_:=Aside0.mk (ho);clear HB HO_5;have HB:=n0_;have HO253:=n1_;clear n0_ n1_;clear ho hb hg hat))
               repeat (go_quiet (first|((with_reducible refine gate_builtin (b:=.append) (xs:=#[.tmp 32,.tmp 36]) rfl ?_);at_builtin;refine Kd.R_append k73 (w0:=w) w.heap.size rfl (.tmp 32) (.tmp 36) 27 73 (.agg #[(.int .i64 0),(.int .i64 0)]) 16 rfl Try.underlying27 info73 rfl (by decide) (by omega) u5 x5_2 (⟨x15_2,x10_1⟩ : S73) [.int .i64 x15_2,.int .i64 x10_1] (fun _=>True) (fun _=>False) rfl rfl ?aP (fun _ hk=>hk.elim) ?aF ?aO ?aB ?aS ?aL ?_;(case aP=>exact k73_mkM _ _ _ (⟨x15_2,x10_1⟩ : S73));(case aB=>exact bz);(case aF=>exact (fun _ _=>trivial));(case aO=>exact (rz HO_5.out));(case aS=>exact (below_size bz));(case aL=>have:=LMc14.out;omega);intro v252 w15 ho hb hg hat;rw [← Ny251.out] at ho;have n0_:=Aside0.mk (hb);have n1_:=Aside0.mk (ho);clear HB HO_5;have HB:=n0_;have HO253:=n1_;clear n0_ n1_;clear ho hb hg hat));try go_wp2_with (first|((with_reducible refine gate_builtin (b:=.append) (xs:=#[.tmp 32,.tmp 36]) rfl ?_);at_builtin;refine Kd.R_append k73 (w0:=w) w.heap.size rfl (.tmp 32) (.tmp 36) 27 73 (.agg #[(.int .i64 0),(.int .i64 0)]) 16 rfl Try.underlying27 info73 rfl (by decide) (by omega) u5 x5_2 (⟨x15_2,x10_1⟩ : S73) [.int .i64 x15_2,.int .i64 x10_1] (fun _=>True) (fun _=>False) rfl rfl ?aP (fun _ hk=>hk.elim) ?aF ?aO ?aB ?aS ?aL ?_;(case aP=>exact k73_mkM _ _ _ (⟨x15_2,x10_1⟩ : S73));(case aB=>exact bz);(case aF=>exact (fun _ _=>trivial));(case aO=>exact (rz HO_5.out));(case aS=>exact (below_size bz));(case aL=>have:=LMc14.out;omega);intro v252 w15 ho hb hg hat;rw [← Ny251.out] at ho;have n0_:=Aside0.mk (hb);have n1_:=Aside0.mk (ho);clear HB HO_5;have HB:=n0_;have HO253:=n1_;clear n0_ n1_;clear ho hb hg hat)))
               go_roundg k2
               case measure=>have:=HK1.out;have:=HK2.out;omega
               case rel=>exact ⟨(y251),(wrap64 (x15_2 + 1)),fz,H',⟨by have:=HK1.out;have:=HK2.out;omega⟩,⟨by (with_reducible repeat (first|apply Kd.R_alloc|apply Kd.R_drewN|apply Kd.R_drew));exact HO253.out⟩,⟨by repeat (first|(with_reducible first|exact HB.out|apply below_alloc|apply pw_below_drewN|apply below_drew1)|exact HB.out)⟩⟩
              ·rw [if_neg c14] at H
               exact absurd H (by simp)
             ·rw [if_neg c13] at H
              have c13b0 : ((wrap64 ((rd l0 x15_2) + (rd l0 x10_1))) == (rd l0 a1)) = false:=beq_eq_false_iff_ne.mpr c13
              have c13b1 : ((wrap64 ((rd l0 x15_2) + (rd l0 x10_1))) != (rd l0 a1)) = true:=bne_iff_ne.mpr c13
              have H':=Aside0.mk H
              clear H
              have p248 : 0 ≤ (x15_2 : Int):=of_decide_eq_true az
              have q248 : x15_2 < (l0.length : Int):=of_decide_eq_true az
              obtain ⟨ad248,e248,hx248_0⟩:=Kd.at_int HR0.out x15_2 p248 q248
              cases e248
              replace hx248_0:=(HB.out.cell (World.block_lt_of_cell? w _ hx248_0)).trans hx248_0
              replace p248:=eq_true p248
              replace q248:=eq_true q248
              have p249 : 0 ≤ (x10_1 : Int):=of_decide_eq_true az
              have q249 : x10_1 < (l0.length : Int):=of_decide_eq_true az
              obtain ⟨ad249,e249,hx249_0⟩:=Kd.at_int HR0.out x10_1 p249 q249
              obtain rfl : ad248 = ad249:=(by injection e249)
              replace hx249_0:=(HB.out.cell (World.block_lt_of_cell? w _ hx249_0)).trans hx249_0
              replace p249:=eq_true p249
              replace q249:=eq_true q249
              have p250 : 0 ≤ (a1 : Int):=of_decide_eq_true az
              have q250 : a1 < (l0.length : Int):=of_decide_eq_true az
              obtain ⟨ad250,e250,hx250_0⟩:=Kd.at_int HR0.out a1 p250 q250
              obtain rfl : ad248 = ad250:=(by injection e250)
              replace hx250_0:=(HB.out.cell (World.block_lt_of_cell? w _ hx250_0)).trans hx250_0
              replace p250:=eq_true p250
              replace q250:=eq_true q250
              go_wp2
              repeat (go_quiet (fail);try go_wp2)
              go_roundg k2
              case measure=>have:=HK1.out;have:=HK2.out;omega
              case rel=>exact ⟨(x5_2),(wrap64 (x15_2 + 1)),fz,H',⟨by have:=HK1.out;have:=HK2.out;omega⟩,⟨by (with_reducible repeat (first|apply Kd.R_alloc|apply Kd.R_drewN|apply Kd.R_drew));exact HO_5.out⟩,⟨by repeat (first|(with_reducible first|exact HB.out|apply below_alloc|apply pw_below_drewN|apply below_drew1)|exact HB.out)⟩⟩
            ·rw [if_neg c12] at H
             exact absurd H (by simp)
           ·rw [if_neg c11] at H
            exact absurd H (by simp)
          ·rw [if_neg c10] at H
           exact absurd H (by simp)
         ·rw [if_neg c9] at H
          exact absurd H (by simp)
        ·rw [if_neg c8] at H
         exact absurd H (by simp)
       ·rw [if_neg c7] at H
        exact absurd H (by simp)
      ·rw [if_neg c6] at H
       have c6b0 : decide (x15_2 < (wrap64 (x10_1 + 1))) = false:=decide_eq_false c6
       clear c6
       have H':=Aside0.mk H
       clear H
       go_wp2
       repeat (go_quiet (fail);try go_wp2)
       go_roundg k2
       case measure=>have:=HK1.out;have:=HK2.out;omega
       case rel=>exact ⟨(x5_2),(wrap64 (x10_1 + 1)),fz,H',⟨by have:=HK1.out;have:=HK2.out;omega⟩,⟨by (with_reducible repeat (first|apply Kd.R_alloc|apply Kd.R_drewN|apply Kd.R_drew));exact HO_5.out⟩,⟨by repeat (first|(with_reducible first|exact HB.out|apply below_alloc|apply pw_below_drewN|apply below_drew1)|exact HB.out)⟩⟩
   ·rw [if_neg c5] at H
    have c5b0 : decide (x10_1 < a1) = false:=decide_eq_false c5
    clear c5
    obtain rfl:=Option.some.inj H
    go_wp2
    repeat (go_quiet (fail);try go_wp2)
    go_ret
    exact ⟨_,by first|rfl|(simp [errW_none,errW_some] <;> rfl)|(simp [*,errW_none,errW_some] <;> rfl),by (with_reducible repeat (first|apply Kd.R_alloc|apply Kd.R_drewN|apply Kd.R_drew));exact HO_5.out,by repeat (first|(with_reducible first|exact HB.out|apply below_alloc|apply pw_below_drewN|apply below_drew1)|exact HB.out)⟩
end Go.Proofs.Ytdcdaoancmpbeaa.MFnSequences
--sq
