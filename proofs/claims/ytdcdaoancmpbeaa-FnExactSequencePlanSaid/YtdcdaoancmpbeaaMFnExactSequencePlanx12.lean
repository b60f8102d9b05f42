import Derived.Test.YtdcdaoancmpbeaaMFnExactSequencePlanx0
import Derived.Test.YtdcdaoancmpbeaaMFnExactSequencePlanx8
import Derived.Test.YtdcdaoancmpbeaaMFnExactSequencePlanx9
import Derived.Test.YtdcdaoancmpbeaaMFnExactSequencePlanx11
namespace Go.Proofs.Ytdcdaoancmpbeaa.MFnExactSequencePlan
open Go.RowKit Go.Proofs.YtdcdaoancmpbeaaW.PrintWords Go.Proofs.YtdcdaoancmpbeaaW.PrintLast Go.Proofs.YtdcdaoancmpbeaaW.PrintMore Go.Proofs.YtdcdaoancmpbeaaV
attribute [local go_sem] max2_int min2_int max_two min_two max_three min_three max_four min_four   -- for this text's walks alone
set_option linter.unusedVariables false
set_option linter.unusedSimpArgs false
/-! ### impl_SequencePlan: function 19 -/
mutual
def impl_SequencePlan.j0 : Nat → List Int → List Int → Bool → Option (Int × (List (S73)) × List Int × Bool)
 | 0,_,_,_=>none
 | k + 1,x0,x1,x17=>if x17 = true then (some (0,([] : List (S73)),([] : List Int),false)) else ((impl_chainPlan.f k x0).bind fun bt352=>(impl_SequencePlan.l0 k x0 x1 (x1.length : Int) 0 bt352.1 bt352.2.1 ([] : List Int)))
def impl_SequencePlan.l0 : Nat → List Int → List Int → Int → Int → Int → List (S73) → List Int → Option (Int × (List (S73)) × List Int × Bool)
 | 0,_,_,_,_,_,_,_=>none
 | k + 1,x0,x22,x23,x24,x360000,x360001,x360002=>if x24 < x23 then (if 0 ≤ x24 then (if x24 < (x22.length : Int) then ((slices_Index_int_int.f k x0 (rd x22 x24)).bind fun t361=>(if t361 < 0 then (some (0,([] : List (S73)),([] : List Int),false)) else (if x360002.length < 17592186044416 then (impl_SequencePlan.l0 k x0 x22 x23 (wrap64 (x24 + 1)) x360000 x360001 (x360002 ++ [t361])) else (none)))) else (none)) else (none)) else ((impl_Plan_trimmed.f k x360000 x360001 x360002).bind fun bt365=>(some (bt365.1,bt365.2.1,bt365.2.2,true)))
end
def impl_SequencePlan.f (k : Nat) (l0 : List Int) (l1 : List Int) : Option (Int × (List (S73)) × List Int × Bool):=(impl_IsChain.f k l0).bind fun t351=>(if t351 = true then (impl_SequencePlan.j0 k l0 l1 (decide ((l1.length : Int) > 6))) else (impl_SequencePlan.j0 k l0 l1 true))
theorem impl_SequencePlan.mono_l : ∀ k,(∀ y0 y1 y2,LeO (impl_SequencePlan.j0 k y0 y1 y2) (impl_SequencePlan.j0 (k + 1) y0 y1 y2)) ∧ (∀ y0 y1 y2 y3 y4 y5 y6,LeO (impl_SequencePlan.l0 k y0 y1 y2 y3 y4 y5 y6) (impl_SequencePlan.l0 (k + 1) y0 y1 y2 y3 y4 y5 y6))
 | 0=>⟨fun _ _ _ r h=>by simp [impl_SequencePlan.j0] at h,fun _ _ _ _ _ _ _ r h=>by simp [impl_SequencePlan.l0] at h⟩
 | k + 1=>by
  obtain ⟨ih0,ih1⟩:=impl_SequencePlan.mono_l k
  refine ⟨?_,?_⟩
  ·intro y0 y1 y2
   unfold impl_SequencePlan.j0
   repeat' first
   | (with_reducible exact ih0 _ _ _)
   | (with_reducible exact ih1 _ _ _ _ _ _ _)
   | (with_reducible exact impl_IsChain.mono _ _)
   | (with_reducible exact impl_Plan_trimmed.mono _ _ _ _)
   | (with_reducible exact impl_chainPlan.mono _ _)
   | (with_reducible exact slices_Index_int_int.mono _ _ _)
   | (with_reducible exact LeO.refl _)
   | (with_reducible exact LeO.none _)
   | (with_reducible refine LeO.ite ?_ ?_)
   | (with_reducible refine LeO.bind ?_ (fun _=>?_))
   | exact ih0 _ _ _
   | exact ih1 _ _ _ _ _ _ _
   | exact impl_IsChain.mono _ _
   | exact impl_Plan_trimmed.mono _ _ _ _
   | exact impl_chainPlan.mono _ _
   | exact slices_Index_int_int.mono _ _ _
   | exact LeO.none _
   | refine LeO.ite ?_ ?_
   | refine LeO.bind ?_ (fun _=>?_)
  ·intro y0 y1 y2 y3 y4 y5 y6
   unfold impl_SequencePlan.l0
   repeat' first
   | (with_reducible exact ih0 _ _ _)
   | (with_reducible exact ih1 _ _ _ _ _ _ _)
   | (with_reducible exact impl_IsChain.mono _ _)
   | (with_reducible exact impl_Plan_trimmed.mono _ _ _ _)
   | (with_reducible exact impl_chainPlan.mono _ _)
   | (with_reducible exact slices_Index_int_int.mono _ _ _)
   | (with_reducible exact LeO.refl _)
   | (with_reducible exact LeO.none _)
   | (with_reducible refine LeO.ite ?_ ?_)
   | (with_reducible refine LeO.bind ?_ (fun _=>?_))
   | exact ih0 _ _ _
   | exact ih1 _ _ _ _ _ _ _
   | exact impl_IsChain.mono _ _
   | exact impl_Plan_trimmed.mono _ _ _ _
   | exact impl_chainPlan.mono _ _
   | exact slices_Index_int_int.mono _ _ _
   | exact LeO.none _
   | refine LeO.ite ?_ ?_
   | refine LeO.bind ?_ (fun _=>?_)
theorem impl_SequencePlan.mono : ∀ a0 a1 k,LeO (impl_SequencePlan.f k a0 a1) (impl_SequencePlan.f (k + 1) a0 a1):=by
 intro a0 a1 k
 obtain ⟨ih0,ih1⟩:=impl_SequencePlan.mono_l k
 unfold impl_SequencePlan.f
 repeat' first
   | (with_reducible exact ih0 _ _ _)
   | (with_reducible exact ih1 _ _ _ _ _ _ _)
   | (with_reducible exact impl_IsChain.mono _ _)
   | (with_reducible exact impl_Plan_trimmed.mono _ _ _ _)
   | (with_reducible exact impl_chainPlan.mono _ _)
   | (with_reducible exact slices_Index_int_int.mono _ _ _)
   | (with_reducible exact LeO.refl _)
   | (with_reducible exact LeO.none _)
   | (with_reducible refine LeO.ite ?_ ?_)
   | (with_reducible refine LeO.bind ?_ (fun _=>?_))
   | exact ih0 _ _ _
   | exact ih1 _ _ _ _ _ _ _
   | exact impl_IsChain.mono _ _
   | exact impl_Plan_trimmed.mono _ _ _ _
   | exact impl_chainPlan.mono _ _
   | exact slices_Index_int_int.mono _ _ _
   | exact LeO.none _
   | refine LeO.ite ?_ ?_
   | refine LeO.bind ?_ (fun _=>?_)
set_option maxHeartbeats 8000000 in
set_option maxRecDepth 100000 in
theorem impl_SequencePlan.calls (k : Nat) (A0 : Option Addr) (c0 : Nat) (l0 : List Int) (A1 : Option Addr) (c1 : Nat) (l1 : List Int) (r1 : Int) (r2 : List (S73)) (r3 : List Int) (r4 : Bool) (w : World) (hr0 : Kd.C (Kd.int .i64) w A0 l0.length l0) (hc0 : l0.length ≤ c0) (hr1 : Kd.C (Kd.int .i64) w A1 l1.length l1) (hc1 : l1.length ≤ c1) (h : impl_SequencePlan.f k l0 l1 = some (r1,r2,r3,r4)) :
  Calls Try.prog 19 #[.slice A0 l0.length c0,.slice A1 l1.length c1] w fun e w'=>∃ v1_ v2_ : Value,e = .returned (.tuple #[.agg #[.int .i64 r1,v1_,v2_],.bool r4]) ∧ Kd.R k73 73 w' w.heap.size (fun _=>True) v1_ r2 ∧ Kd.R (Kd.int .i64) 3 w' w.heap.size (fun _=>True) v2_ r3 ∧ Below w.heap.size w w':=by
 have hu29:=Try.underlying29
 have HR0:=Aside0.mk hr0
 have HC0:=Aside0.mk hc0
 clear hr0 hc0
 have HR1:=Aside0.mk hr1
 have HC1:=Aside0.mk hc1
 clear hr1 hc1
 have HB:=Aside0.mk (Below.refl w.heap.size w)
 have H : ((impl_IsChain.f k l0).bind fun t351=>(if t351 = true then (impl_SequencePlan.j0 k l0 l1 (decide ((l1.length : Int) > 6))) else (impl_SequencePlan.j0 k l0 l1 true))) = some (r1,r2,r3,r4):=h
 clear h
 have HC3:=Aside0.mk H
 clear H
 go_enter Try.func19,Try.ntmps19
 go_upto_region 1 with (first|((with_reducible refine gate_dst (N:=4) rfl ?_);(try (refine gate_guard (by rfl) ?_;dsimp only));refine box_event ?hg (N:=4) ?hd (cs:=#[.int .i64 0,.slice none 0 0,.slice none 0 0]) (t:=29) ?hr ?_;(case hd=>rfl);(case hg=>rfl);(case hr=>first|(go_simp;done)|(go_simp;rfl));intro gb350 hg w4 hbox hb;have n0_:=Aside0.mk (below_step (by repeat (first|(with_reducible first|exact HB.out|apply below_alloc|apply pw_below_drewN|apply below_drew1)|exact HB.out)) hb);have n1_:=Aside0.mk (hbox);have n2_:=Aside0.mk ((by rw [hg];exact (below_size (by repeat (first|(with_reducible first|exact HB.out|apply below_alloc|apply pw_below_drewN|apply below_drew1)|exact HB.out))) : w.heap.size ≤ gb350));have n3_:=Aside0.mk ((by rw [hg];exact (below_size (by repeat (first|(with_reducible first|exact HB.out|apply below_alloc|apply pw_below_drewN|apply below_drew1)|exact HB.out))) : w.heap.size ≤ gb350));clear HB;have HB:=n0_;have BK350:=n1_;have GW350:=n2_;have GE350:=n3_;clear n0_ n1_ n2_ n3_;clear hb hbox hg))
 (try simp only [Act.put,List.setIfInBounds_toArray,List.set_cons_zero,List.set_cons_succ])
 go_cut [17] (fun v17 wc=>∃ (kq : Nat) (x17_2 : Bool),v17 = .bool x17_2 ∧ Aside0 (impl_SequencePlan.j0 kq l0 l1 x17_2 = some (r1,r2,r3,r4)) ∧ Aside0 (kq ≤ k) ∧ Aside0 (wc.heap[gb350]? = some (.cells #[.int .i64 0,(.slice none 0 0),(.slice none 0 0)] 29 (0,0))) ∧ Aside0 (Below w.heap.size w wc))
 case first=>
  have H:=HC3.out
  clear HC3
  replace H:=Option.bind_eq_some_iff.mp H
  obtain ⟨t351,A50,H⟩:=H
  replace H : (if t351 = true then (impl_SequencePlan.j0 k l0 l1 (decide ((l1.length : Int) > 6))) else (impl_SequencePlan.j0 k l0 l1 true)) = some (r1,r2,r3,r4):=H
  have A5:=Aside0.mk A50
  clear A50
  by_cases c6 : t351 = true
  ·subst c6
   have H1 : (impl_SequencePlan.j0 k l0 l1 (decide ((l1.length : Int) > 6))) = some (r1,r2,r3,r4):=by rw [if_pos rfl] at H;exact H
   clear H
   have H:=H1
   clear H1
   have H':=Aside0.mk H
   clear H
   go_wp2_with (first|((with_reducible refine gate_callee (f:=58) rfl ?_);refine goesL_ (some 11) rfl rfl Try.func58 (by kernel_rfl) rfl #[.slice A0 l0.length c0] rfl (by (try simp only [List.map_toArray,List.map_cons,List.map_nil]);first|done|rfl|(simp only [List.length_drop,List.length_take];rfl)) ?_;(with_reducible refine (impl_IsChain.calls k _ _ l0 true _ ?side1 ?side2 A5.out).mono ?_);(case side1=>repeat (first|exact (Kd.C_below HR0.out HB.out)|(with_reducible refine Kd.C_alloc ?_ _)|(with_reducible refine Kd.C_drewN ?_ _)|(with_reducible refine Kd.C_drew ?_)));(case side2=>exact HC0.out);rintro e w7 ⟨rfl,hb⟩;refine ⟨_,rfl,?_⟩;have n0_:=Aside0.mk (blk_below (g:=gb350) (o:=.cells #[.int .i64 0,.slice none 0 0,.slice none 0 0] 29 (0,0)) (by (with_reducible repeat (first|refine blk_drewN ?_ _|refine blk_drew ?_|refine blk_alloc ?_ _));exact BK350.out) hb);have n1_:=Aside0.mk (below_step (by repeat (first|(with_reducible first|exact HB.out|apply below_alloc|apply pw_below_drewN|apply below_drew1|refine below_set ?_ GE350.out)|exact HB.out)) hb);clear BK350;clear HB;have BK350:=n0_;have HB:=n1_;clear n0_ n1_;(try clear hb)))
   go_meet
   case rel=>exact ⟨_,(decide ((l1.length : Int) > 6)),(by first|rfl|(simp;done)|(simp [*];done)),H',⟨by first|omega|exact Nat.le_refl _⟩,⟨by (with_reducible repeat (first|refine blk_drewN ?_ _|refine blk_drew ?_|refine blk_alloc ?_ _));exact BK350.out⟩,⟨by repeat (first|(with_reducible first|exact HB.out|apply below_alloc|apply pw_below_drewN|apply below_drew1|refine below_set ?_ GE350.out)|exact HB.out)⟩⟩
  ·replace c6:=Bool.eq_false_iff.mpr c6
   subst c6
   have H1 : (impl_SequencePlan.j0 k l0 l1 true) = some (r1,r2,r3,r4):=by rw [if_neg (show ¬ (false = true) by decide)] at H;exact H
   clear H
   have H:=H1
   clear H1
   have H':=Aside0.mk H
   clear H
   go_wp2_with (first|((with_reducible refine gate_callee (f:=58) rfl ?_);refine goesL_ (some 11) rfl rfl Try.func58 (by kernel_rfl) rfl #[.slice A0 l0.length c0] rfl (by (try simp only [List.map_toArray,List.map_cons,List.map_nil]);first|done|rfl|(simp only [List.length_drop,List.length_take];rfl)) ?_;(with_reducible refine (impl_IsChain.calls k _ _ l0 false _ ?side1 ?side2 A5.out).mono ?_);(case side1=>repeat (first|exact (Kd.C_below HR0.out HB.out)|(with_reducible refine Kd.C_alloc ?_ _)|(with_reducible refine Kd.C_drewN ?_ _)|(with_reducible refine Kd.C_drew ?_)));(case side2=>exact HC0.out);rintro e w8 ⟨rfl,hb⟩;refine ⟨_,rfl,?_⟩;have n0_:=Aside0.mk (blk_below (g:=gb350) (o:=.cells #[.int .i64 0,.slice none 0 0,.slice none 0 0] 29 (0,0)) (by (with_reducible repeat (first|refine blk_drewN ?_ _|refine blk_drew ?_|refine blk_alloc ?_ _));exact BK350.out) hb);have n1_:=Aside0.mk (below_step (by repeat (first|(with_reducible first|exact HB.out|apply below_alloc|apply pw_below_drewN|apply below_drew1|refine below_set ?_ GE350.out)|exact HB.out)) hb);clear BK350;clear HB;have BK350:=n0_;have HB:=n1_;clear n0_ n1_;(try clear hb)))
   go_meet
   case rel=>exact ⟨_,(true),(by first|rfl|(simp;done)|(simp [*];done)),H',⟨by first|omega|exact Nat.le_refl _⟩,⟨by (with_reducible repeat (first|refine blk_drewN ?_ _|refine blk_drew ?_|refine blk_alloc ?_ _));exact BK350.out⟩,⟨by repeat (first|(with_reducible first|exact HB.out|apply below_alloc|apply pw_below_drewN|apply below_drew1|refine below_set ?_ GE350.out)|exact HB.out)⟩⟩
 case rest=>
  clear HC3
  try clear c1
  try clear p2
  try clear c5
  try clear c6
  obtain ⟨kq,x17_2,rfl,HA,HJ2,BK350,HB⟩:=hcut
  cases kq with
  | zero=>exact absurd HA.out (by simp [impl_SequencePlan.j0])
  | succ kj2=>
   have H:=HA.out
   clear HA
   simp only [impl_SequencePlan.j0] at H
   by_cases c9 : x17_2 = true
   ·subst c9
    have H1 : (some (0,([] : List (S73)),([] : List Int),false)) = some (r1,r2,r3,r4):=by rw [if_pos rfl] at H;exact H
    clear H
    have H:=H1
    clear H1
    simp only [Option.some.injEq,Prod.mk.injEq] at H
    obtain ⟨rfl,rfl,rfl,rfl⟩:=H
    have hcz10_0 : wc.cell? ⟨gb350,0,none⟩ = some (.int .i64 0):=(blk_cell BK350.out 0).trans rfl
    have hcz10_1 : wc.cell? ⟨gb350,1,none⟩ = some (.slice none 0 0):=(blk_cell BK350.out 1).trans rfl
    have hcz10_2 : wc.cell? ⟨gb350,2,none⟩ = some (.slice none 0 0):=(blk_cell BK350.out 2).trans rfl
    have hfz10_0:=blk_frozen BK350.out 0
    have hfz10_1:=blk_frozen BK350.out 1
    have hfz10_2:=blk_frozen BK350.out 2
    go_wp2
    refine bodyPost_ret (results_ct rfl _ _ gb350 29 #[.int .i64 0,.slice none 0 0,.slice none 0 0] (0,0) _ rfl (by (with_reducible repeat (first|refine blk_drewN ?_ _|refine blk_drew ?_|refine blk_alloc ?_ _));refine blk_put (cs:=#[.int .i64 0,.slice none 0 0,.slice none 0 0]) ?_ 2 _ rfl;(with_reducible repeat (first|refine blk_drewN ?_ _|refine blk_drew ?_|refine blk_alloc ?_ _));refine blk_put (cs:=#[.int .i64 0,.slice none 0 0,.slice none 0 0]) ?_ 1 _ rfl;(with_reducible repeat (first|refine blk_drewN ?_ _|refine blk_drew ?_|refine blk_alloc ?_ _));refine blk_put (cs:=#[.int .i64 0,.slice none 0 0,.slice none 0 0]) ?_ 0 _ rfl;(with_reducible repeat (first|refine blk_drewN ?_ _|refine blk_drew ?_|refine blk_alloc ?_ _));exact BK350.out) Try.underlying29 rfl (by kernel_rfl)) rfl ?_
    exact ⟨_,_,by first|rfl|(simp [errW_none,errW_some] <;> rfl)|(simp [*,errW_none,errW_some] <;> rfl),by first|exact Kd.R_nil _ _ _ _ _|exact Kd.N_nil _ _ _ _ _|exact Kd.V_nil _ _ _ _ _|exact Kd.Q_nil _ _ _ _ _|exact Kd.S_nil _ _ _ _ _,by first|exact Kd.R_nil _ _ _ _ _|exact Kd.N_nil _ _ _ _ _|exact Kd.V_nil _ _ _ _ _|exact Kd.Q_nil _ _ _ _ _|exact Kd.S_nil _ _ _ _ _,by repeat (first|(with_reducible first|exact HB.out|apply below_alloc|apply pw_below_drewN|apply below_drew1|refine below_set ?_ GE350.out)|exact HB.out)⟩
   ·replace c9:=Bool.eq_false_iff.mpr c9
    subst c9
    have H1 : ((impl_chainPlan.f kj2 l0).bind fun bt352=>(impl_SequencePlan.l0 kj2 l0 l1 (l1.length : Int) 0 bt352.1 bt352.2.1 ([] : List Int))) = some (r1,r2,r3,r4):=by rw [if_neg (show ¬ (false = true) by decide)] at H;exact H
    clear H
    have H:=H1
    clear H1
    replace H:=Option.bind_eq_some_iff.mp H
    obtain ⟨⟨t352,t353,t356⟩,A110,H⟩:=H
    replace H : (impl_SequencePlan.l0 kj2 l0 l1 (l1.length : Int) 0 t352 t353 ([] : List Int)) = some (r1,r2,r3,r4):=H
    have A11:=Aside0.mk A110
    clear A110
    have H':=Aside0.mk H
    clear H
    go_wp2_with (first|((with_reducible refine gate_callee (f:=59) rfl ?_);refine goesL_ (some 20) rfl rfl Try.func59 (by kernel_rfl) rfl #[.slice A0 l0.length c0] rfl (by (try simp only [List.map_toArray,List.map_cons,List.map_nil]);first|done|rfl|(simp only [List.length_drop,List.length_take];rfl)) ?_;(with_reducible refine (impl_chainPlan.calls kj2 _ _ l0 t352 t353 t356 _ ?side1 ?side2 A11.out).mono ?_);(case side1=>repeat (first|exact (Kd.C_below HR0.out HB.out)|(with_reducible refine Kd.C_alloc ?_ _)|(with_reducible refine Kd.C_drewN ?_ _)|(with_reducible refine Kd.C_drew ?_)));(case side2=>exact HC0.out);rintro e w12 ⟨v354,v357,rfl,ho0,ho1,hb⟩;refine ⟨_,rfl,?_⟩;have n0_:=Aside0.mk (Kd.R_lower ho0 (below_size (by repeat (first|(with_reducible first|exact HB.out|apply below_alloc|apply pw_below_drewN|apply below_drew1|refine below_set ?_ GE350.out)|exact HB.out))));have n1_:=Aside0.mk (Kd.R_lower ho1 (below_size (by repeat (first|(with_reducible first|exact HB.out|apply below_alloc|apply pw_below_drewN|apply below_drew1|refine below_set ?_ GE350.out)|exact HB.out))));have n2_:=Aside0.mk (blk_below (g:=gb350) (o:=.cells #[.int .i64 0,.slice none 0 0,.slice none 0 0] 29 (0,0)) (by (with_reducible repeat (first|refine blk_drewN ?_ _|refine blk_drew ?_|refine blk_alloc ?_ _));exact BK350.out) hb);have n3_:=Aside0.mk (below_step (by repeat (first|(with_reducible first|exact HB.out|apply below_alloc|apply pw_below_drewN|apply below_drew1|refine below_set ?_ GE350.out)|exact HB.out)) hb);clear BK350;clear HB;have HO355:=n0_;have HO358:=n1_;have BK350:=n2_;have HB:=n3_;clear n0_ n1_ n2_ n3_;(try clear hb);(try clear ho0);(try clear ho1))|((with_reducible refine gate_dst (N:=6) rfl ?_);(try (refine gate_guard (by rfl) ?_;dsimp only));refine box_event ?hg (N:=6) ?hd (cs:=#[.int .i64 0,.slice none 0 0,.slice none 0 0]) (t:=29) ?hr ?_;(case hd=>rfl);(case hg=>rfl);(case hr=>first|(go_simp;done)|(go_simp;rfl));intro gb359 hg w13 hbox hb;have n0_:=Aside0.mk (Kd.R_below (by (with_reducible repeat (first|apply Kd.R_alloc|apply Kd.R_drewN|apply Kd.R_drew));exact HO355.out) hb);have n1_:=Aside0.mk (Kd.R_below (by (with_reducible repeat (first|apply Kd.R_alloc|apply Kd.R_drewN|apply Kd.R_drew));exact HO358.out) hb);have n2_:=Aside0.mk (blk_below (g:=gb350) (o:=.cells #[.int .i64 0,.slice none 0 0,.slice none 0 0] 29 (0,0)) (by (with_reducible repeat (first|refine blk_drewN ?_ _|refine blk_drew ?_|refine blk_alloc ?_ _));exact BK350.out) hb);have n3_:=Aside0.mk (below_step (by repeat (first|(with_reducible first|exact HB.out|apply below_alloc|apply pw_below_drewN|apply below_drew1|refine below_set ?_ GE350.out)|exact HB.out)) hb);have n4_:=Aside0.mk (hbox);have n5_:=Aside0.mk ((by rw [hg];exact (below_size (by repeat (first|(with_reducible first|exact HB.out|apply below_alloc|apply pw_below_drewN|apply below_drew1|refine below_set ?_ GE350.out)|exact HB.out))) : w.heap.size ≤ gb359));have n6_:=Aside0.mk ((by rw [hg];exact (below_size (by repeat (first|(with_reducible first|exact HB.out|apply below_alloc|apply pw_below_drewN|apply below_drew1|refine below_set ?_ GE350.out)|exact HB.out))) : w.heap.size ≤ gb359));have n7_:=Aside0.mk ((by rw [hg];exact Nat.ne_of_lt (blk_lt (g:=gb350) (o:=.cells #[.int .i64 0,.slice none 0 0,.slice none 0 0] 29 (0,0)) (by (with_reducible repeat (first|refine blk_drewN ?_ _|refine blk_drew ?_|refine blk_alloc ?_ _));exact BK350.out)) : gb350 ≠ gb359));have n8_:=Aside0.mk ((by rw [hg];exact Nat.ne_of_gt (blk_lt (g:=gb350) (o:=.cells #[.int .i64 0,.slice none 0 0,.slice none 0 0] 29 (0,0)) (by (with_reducible repeat (first|refine blk_drewN ?_ _|refine blk_drew ?_|refine blk_alloc ?_ _));exact BK350.out)) : gb359 ≠ gb350));clear HO355;clear HO358;clear BK350;clear HB;have HO355:=n0_;have HO358:=n1_;have BK350:=n2_;have HB:=n3_;have BK359:=n4_;have GW359:=n5_;have GE359:=n6_;have NB350_359:=n7_;have NB359_350:=n8_;clear n0_ n1_ n2_ n3_ n4_ n5_ n6_ n7_ n8_;clear hb hbox hg;have hnb14:=NB359_350.out;have hnc14:=NB350_359.out;have hcz15_0 : w13.cell? ⟨gb359,0,none⟩ = some (.int .i64 0):=(blk_cell BK359.out 0).trans rfl;have hcz15_1 : w13.cell? ⟨gb359,1,none⟩ = some (.slice none 0 0):=(blk_cell BK359.out 1).trans rfl;have hcz15_2 : w13.cell? ⟨gb359,2,none⟩ = some (.slice none 0 0):=(blk_cell BK359.out 2).trans rfl;have hfz15_0:=blk_frozen BK359.out 0;have hfz15_1:=blk_frozen BK359.out 1;have hfz15_2:=blk_frozen BK359.out 2;obtain ⟨Ao16,co16,eo16⟩:=Kd.R_slice HO355.out;subst eo16;obtain ⟨Ao17,co17,eo17⟩:=Kd.R_slice HO358.out;subst eo17))
    go_loopg [24] kj2 (fun kq v24 w'=>∃ (x24_2 : Int) (x351000_2 : Int) (x360002_2 : List Int) (u360002 : Value),v24 = .int .i64 x24_2 ∧ Aside0 (impl_SequencePlan.l0 kq l0 l1 (l1.length : Int) x24_2 t352 t353 x360002_2 = some (r1,r2,r3,r4)) ∧ Aside0 (kq ≤ kj2) ∧ Aside0 (Kd.R k73 73 w' w.heap.size (fun _=>True) (.slice Ao16 t353.length co16) t353) ∧ Aside0 (Kd.R (Kd.int .i64) 3 w' w.heap.size (fun _=>True) u360002 x360002_2) ∧ Aside0 (w'.heap[gb350]? = some (.cells #[.int .i64 x351000_2,(.slice none 0 0),(.slice none 0 0)] 29 (0,0))) ∧ Aside0 (w'.heap[gb359]? = some (.cells #[.int .i64 t352,(.slice Ao16 t353.length co16),u360002] 29 (0,0))) ∧ Aside0 (Below w.heap.size w w'))
    case atStart=>exact ⟨(0),(0),(([] : List Int)),(.slice none 0 0),(by first|rfl|(simp;done)|(simp [*];done)),H',⟨Nat.le_refl _⟩,⟨by (with_reducible repeat (first|apply Kd.R_alloc|apply Kd.R_drewN|apply Kd.R_drew));exact Kd.R_mono (Kd.R_far (p:=⟨gb359,2,none⟩) (Kd.R_far (p:=⟨gb359,2,none⟩) (Kd.R_far (p:=⟨gb359,1,none⟩) (Kd.R_far (p:=⟨gb359,0,none⟩) (Kd.R_types HO355.out BK359.out (by decide)) (fun _ hk=>hk.2) (.int .i64 t352)) (fun _ hk=>hk.2) (.slice Ao16 t353.length co16)) (fun _ hk=>hk.2) (.slice Ao17 t356.length co17)) (fun _ hk=>hk.2) (.slice none 0 0)) (fun _ hk=>trivial)⟩,⟨by first|exact Kd.R_nil _ _ _ _ _|exact Kd.N_nil _ _ _ _ _|exact Kd.V_nil _ _ _ _ _|exact Kd.Q_nil _ _ _ _ _|exact Kd.S_nil _ _ _ _ _⟩,⟨by (with_reducible repeat (first|refine blk_drewN ?_ _|refine blk_drew ?_|refine blk_alloc ?_ _));refine blk_far ?_ NB350_359.out _;(with_reducible repeat (first|refine blk_drewN ?_ _|refine blk_drew ?_|refine blk_alloc ?_ _));refine blk_far ?_ NB350_359.out _;(with_reducible repeat (first|refine blk_drewN ?_ _|refine blk_drew ?_|refine blk_alloc ?_ _));refine blk_far ?_ NB350_359.out _;(with_reducible repeat (first|refine blk_drewN ?_ _|refine blk_drew ?_|refine blk_alloc ?_ _));refine blk_far ?_ NB350_359.out _;(with_reducible repeat (first|refine blk_drewN ?_ _|refine blk_drew ?_|refine blk_alloc ?_ _));exact BK350.out⟩,⟨by (with_reducible repeat (first|refine blk_drewN ?_ _|refine blk_drew ?_|refine blk_alloc ?_ _));refine blk_put (cs:=#[.int .i64 t352,.slice Ao16 t353.length co16,.slice Ao17 t356.length co17]) ?_ 2 _ rfl;(with_reducible repeat (first|refine blk_drewN ?_ _|refine blk_drew ?_|refine blk_alloc ?_ _));refine blk_put (cs:=#[.int .i64 t352,.slice Ao16 t353.length co16,.slice none 0 0]) ?_ 2 _ rfl;(with_reducible repeat (first|refine blk_drewN ?_ _|refine blk_drew ?_|refine blk_alloc ?_ _));refine blk_put (cs:=#[.int .i64 t352,.slice none 0 0,.slice none 0 0]) ?_ 1 _ rfl;(with_reducible repeat (first|refine blk_drewN ?_ _|refine blk_drew ?_|refine blk_alloc ?_ _));refine blk_put (cs:=#[.int .i64 0,.slice none 0 0,.slice none 0 0]) ?_ 0 _ rfl;(with_reducible repeat (first|refine blk_drewN ?_ _|refine blk_drew ?_|refine blk_alloc ?_ _));exact BK359.out⟩,⟨by repeat (first|(with_reducible first|exact HB.out|apply below_alloc|apply pw_below_drewN|apply below_drew1|refine below_set ?_ GE350.out|refine below_set ?_ GE359.out)|exact HB.out)⟩⟩
    case round=>
     clear H'
     try clear c1
     try clear p2
     try clear c5
     try clear c6
     try clear c9
     try clear c14
     try clear hcz10_0
     try clear hcz10_1
     try clear hcz10_2
     try clear hcz15_0
     try clear hcz15_1
     try clear hcz15_2
     try clear hfz10_0
     try clear hfz10_1
     try clear hfz10_2
     try clear hfz15_0
     try clear hfz15_1
     try clear hfz15_2
     try clear p2
     obtain ⟨x24_2,x351000_2,x360002_2,u360002,rfl,HA,HK2,HO_360001,HO_360002,BK350,BK359,HB⟩:=hrel
     cases gk with
     | zero=>exact absurd HA.out (by simp [impl_SequencePlan.l0])
     | succ k2=>
      have H:=HA.out
      clear HA
      simp only [impl_SequencePlan.l0] at H
      by_cases c18 : x24_2 < (l1.length : Int)
      ·rw [if_pos c18] at H
       have c18b0 : decide (x24_2 < (l1.length : Int)) = true:=decide_eq_true c18
       clear c18
       by_cases c19 : 0 ≤ x24_2
       ·rw [if_pos c19] at H
        have c19b0 : decide (0 ≤ x24_2) = true:=decide_eq_true c19
        clear c19
        by_cases c20 : x24_2 < (l1.length : Int)
        ·rw [if_pos c20] at H
         have c20b0 : decide (x24_2 < (l1.length : Int)) = true:=decide_eq_true c20
         clear c20
         replace H:=Option.bind_eq_some_iff.mp H
         obtain ⟨t361,A210,H⟩:=H
         replace H : (if t361 < 0 then (some (0,([] : List (S73)),([] : List Int),false)) else (if x360002_2.length < 17592186044416 then (impl_SequencePlan.l0 k2 l0 l1 (l1.length : Int) (wrap64 (x24_2 + 1)) t352 t353 (x360002_2 ++ [t361])) else (none))) = some (r1,r2,r3,r4):=H
         have A21:=Aside0.mk A210
         clear A210
         by_cases c22 : t361 < 0
         ·rw [if_pos c22] at H
          have c22b0 : decide (t361 < 0) = true:=decide_eq_true c22
          clear c22
          simp only [Option.some.injEq,Prod.mk.injEq] at H
          obtain ⟨rfl,rfl,rfl,rfl⟩:=H
          have p360 : 0 ≤ (x24_2 : Int):=of_decide_eq_true (by first|(with_reducible assumption)|assumption)
          have q360 : x24_2 < (l1.length : Int):=of_decide_eq_true (by first|(with_reducible assumption)|assumption)
          obtain ⟨ad360,e360,hx360_0⟩:=Kd.at_int HR1.out x24_2 p360 q360
          cases e360
          replace hx360_0:=(HB.out.cell (World.block_lt_of_cell? w _ hx360_0)).trans hx360_0
          replace p360:=eq_true p360
          replace q360:=eq_true q360
          go_wp2_with (first|((with_reducible refine gate_callee (f:=60) rfl ?_);refine goesL_ (some 30) rfl rfl Try.func60 (by kernel_rfl) rfl #[.slice A0 l0.length c0,.int .i64 (rd l1 x24_2)] rfl (by (try simp only [List.map_toArray,List.map_cons,List.map_nil]);first|done|rfl|(simp only [List.length_drop,List.length_take];rfl)) ?_;(with_reducible refine (slices_Index_int_int.calls k2 _ _ l0 (rd l1 x24_2) t361 _ ?side1 ?side2 A21.out).mono ?_);(case side1=>repeat (first|exact (Kd.C_below HR0.out HB.out)|(with_reducible refine Kd.C_alloc ?_ _)|(with_reducible refine Kd.C_drewN ?_ _)|(with_reducible refine Kd.C_drew ?_)));(case side2=>exact HC0.out);rintro e w' ⟨rfl,⟨nd,rfl⟩⟩;refine ⟨_,rfl,?_⟩;(try (rw [drewN_self wr];generalize hq_ : World.drewN wr _ = wr;have n0_ : Aside0 (Kd.R k73 73 wr w.heap.size (fun _=>True) (.slice Ao16 t353.length co16) t353):=⟨by rw [← hq_];exact (by (with_reducible repeat (first|apply Kd.R_alloc|apply Kd.R_drewN|apply Kd.R_drew));exact HO_360001.out)⟩;have n1_ : Aside0 (Kd.R (Kd.int .i64) 3 wr w.heap.size (fun _=>True) u360002 x360002_2):=⟨by rw [← hq_];exact (by (with_reducible repeat (first|apply Kd.R_alloc|apply Kd.R_drewN|apply Kd.R_drew));exact HO_360002.out)⟩;have n2_ : Aside0 (wr.heap[gb350]? = some (.cells #[.int .i64 x351000_2,.slice none 0 0,.slice none 0 0] 29 (0,0))):=⟨by rw [← hq_];exact (by (with_reducible repeat (first|refine blk_drewN ?_ _|refine blk_drew ?_|refine blk_alloc ?_ _));exact BK350.out)⟩;have n3_ : Aside0 (wr.heap[gb359]? = some (.cells #[.int .i64 t352,.slice Ao16 t353.length co16,u360002] 29 (0,0))):=⟨by rw [← hq_];exact (by (with_reducible repeat (first|refine blk_drewN ?_ _|refine blk_drew ?_|refine blk_alloc ?_ _));exact BK359.out)⟩;have n4_ : Aside0 (Below w.heap.size w wr):=⟨by rw [← hq_];exact (by repeat (first|(with_reducible first|exact HB.out|apply below_alloc|apply pw_below_drewN|apply below_drew1|refine below_set ?_ GE350.out|refine below_set ?_ GE359.out)|exact HB.out))⟩;clear HO_360001 HO_360002 BK350 BK359 HB hq_;have HO_360001:=n0_;have HO_360002:=n1_;have BK350:=n2_;have BK359:=n3_;have HB:=n4_;clear n0_ n1_ n2_ n3_ n4_));have hnb23:=NB350_359.out;have hnc23:=NB359_350.out;have hcz24_0 : wr.cell? ⟨gb350,0,none⟩ = some (.int .i64 x351000_2):=(blk_cell BK350.out 0).trans rfl;have hcz24_1 : wr.cell? ⟨gb350,1,none⟩ = some (.slice none 0 0):=(blk_cell BK350.out 1).trans rfl;have hcz24_2 : wr.cell? ⟨gb350,2,none⟩ = some (.slice none 0 0):=(blk_cell BK350.out 2).trans rfl;have hfz24_0:=blk_frozen BK350.out 0;have hfz24_1:=blk_frozen BK350.out 1;have hfz24_2:=blk_frozen BK350.out 2))
          refine bodyPost_ret (results_ct rfl _ _ gb350 29 #[.int .i64 0,.slice none 0 0,.slice none 0 0] (0,0) _ rfl (by (with_reducible repeat (first|refine blk_drewN ?_ _|refine blk_drew ?_|refine blk_alloc ?_ _));refine blk_put (cs:=#[.int .i64 0,.slice none 0 0,.slice none 0 0]) ?_ 2 _ rfl;(with_reducible repeat (first|refine blk_drewN ?_ _|refine blk_drew ?_|refine blk_alloc ?_ _));refine blk_put (cs:=#[.int .i64 0,.slice none 0 0,.slice none 0 0]) ?_ 1 _ rfl;(with_reducible repeat (first|refine blk_drewN ?_ _|refine blk_drew ?_|refine blk_alloc ?_ _));refine blk_put (cs:=#[.int .i64 x351000_2,.slice none 0 0,.slice none 0 0]) ?_ 0 _ rfl;(with_reducible repeat (first|refine blk_drewN ?_ _|refine blk_drew ?_|refine blk_alloc ?_ _));exact BK350.out) Try.underlying29 rfl (by kernel_rfl)) rfl ?_
          exact ⟨_,_,by first|rfl|(simp [errW_none,errW_some] <;> rfl)|(simp [*,errW_none,errW_some] <;> rfl),by first|exact Kd.R_nil _ _ _ _ _|exact Kd.N_nil _ _ _ _ _|exact Kd.V_nil _ _ _ _ _|exact Kd.Q_nil _ _ _ _ _|exact Kd.S_nil _ _ _ _ _,by first|exact Kd.R_nil _ _ _ _ _|exact Kd.N_nil _ _ _ _ _|exact Kd.V_nil _ _ _ _ _|exact Kd.Q_nil _ _ _ _ _|exact Kd.S_nil _ _ _ _ _,by repeat (first|(with_reducible first|exact HB.out|apply below_alloc|apply pw_below_drewN|apply below_drew1|refine below_set ?_ GE350.out|refine below_set ?_ GE359.out)|exact HB.out)⟩
         ·rw [if_neg c22] at H
          have c22b0 : decide (t361 < 0) = false:=decide_eq_false c22
          clear c22
          by_cases c25 : x360002_2.length < 17592186044416
          ·rw [if_pos c25] at H
           have LMc25:=Aside0.mk c25
           clear c25
           obtain ⟨y362,hy362⟩ : ∃ y_ : List Int,y_ = (x360002_2 ++ [t361]):=⟨_,rfl⟩
           replace H : (impl_SequencePlan.l0 k2 l0 l1 (l1.length : Int) (wrap64 (x24_2 + 1)) t352 t353 y362) = some (r1,r2,r3,r4):=by first|(rw [hy362];with_reducible exact H)|(have H2_:=(Option.bind_some _ _).symm.trans H;rw [hy362];with_reducible exact H2_)|(have H2_:=(Option.bind_some _ _).symm.trans H;with_reducible exact H2_)|with_reducible exact H|(rw [hy362];exact H)|exact H
           have Ny362:=Aside0.mk hy362
           clear hy362
           have H':=Aside0.mk H
           clear H
           have p360 : 0 ≤ (x24_2 : Int):=of_decide_eq_true (by first|(with_reducible assumption)|assumption)
           have q360 : x24_2 < (l1.length : Int):=of_decide_eq_true (by first|(with_reducible assumption)|assumption)
           obtain ⟨ad360,e360,hx360_0⟩:=Kd.at_int HR1.out x24_2 p360 q360
           cases e360
           replace hx360_0:=(HB.out.cell (World.block_lt_of_cell? w _ hx360_0)).trans hx360_0
           replace p360:=eq_true p360
           replace q360:=eq_true q360
           go_wp2_with (first|((with_reducible refine gate_callee (f:=60) rfl ?_);refine goesL_ (some 30) rfl rfl Try.func60 (by kernel_rfl) rfl #[.slice A0 l0.length c0,.int .i64 (rd l1 x24_2)] rfl (by (try simp only [List.map_toArray,List.map_cons,List.map_nil]);first|done|rfl|(simp only [List.length_drop,List.length_take];rfl)) ?_;(with_reducible refine (slices_Index_int_int.calls k2 _ _ l0 (rd l1 x24_2) t361 _ ?side1 ?side2 A21.out).mono ?_);(case side1=>repeat (first|exact (Kd.C_below HR0.out HB.out)|(with_reducible refine Kd.C_alloc ?_ _)|(with_reducible refine Kd.C_drewN ?_ _)|(with_reducible refine Kd.C_drew ?_)));(case side2=>exact HC0.out);rintro e w' ⟨rfl,⟨nd,rfl⟩⟩;refine ⟨_,rfl,?_⟩;(try (rw [drewN_self wr];generalize hq_ : World.drewN wr _ = wr;have n0_ : Aside0 (Kd.R k73 73 wr w.heap.size (fun _=>True) (.slice Ao16 t353.length co16) t353):=⟨by rw [← hq_];exact (by (with_reducible repeat (first|apply Kd.R_alloc|apply Kd.R_drewN|apply Kd.R_drew));exact HO_360001.out)⟩;have n1_ : Aside0 (Kd.R (Kd.int .i64) 3 wr w.heap.size (fun _=>True) u360002 x360002_2):=⟨by rw [← hq_];exact (by (with_reducible repeat (first|apply Kd.R_alloc|apply Kd.R_drewN|apply Kd.R_drew));exact HO_360002.out)⟩;have n2_ : Aside0 (wr.heap[gb350]? = some (.cells #[.int .i64 x351000_2,.slice none 0 0,.slice none 0 0] 29 (0,0))):=⟨by rw [← hq_];exact (by (with_reducible repeat (first|refine blk_drewN ?_ _|refine blk_drew ?_|refine blk_alloc ?_ _));exact BK350.out)⟩;have n3_ : Aside0 (wr.heap[gb359]? = some (.cells #[.int .i64 t352,.slice Ao16 t353.length co16,u360002] 29 (0,0))):=⟨by rw [← hq_];exact (by (with_reducible repeat (first|refine blk_drewN ?_ _|refine blk_drew ?_|refine blk_alloc ?_ _));exact BK359.out)⟩;have n4_ : Aside0 (Below w.heap.size w wr):=⟨by rw [← hq_];exact (by repeat (first|(with_reducible first|exact HB.out|apply below_alloc|apply pw_below_drewN|apply below_drew1|refine below_set ?_ GE350.out|refine below_set ?_ GE359.out)|exact HB.out))⟩;clear HO_360001 HO_360002 BK350 BK359 HB hq_;have HO_360001:=n0_;have HO_360002:=n1_;have BK350:=n2_;have BK359:=n3_;have HB:=n4_;clear n0_ n1_ n2_ n3_ n4_));have hnb26:=NB359_350.out;have hnc26:=NB350_359.out;have hcz27_0 : wr.cell? ⟨gb359,0,none⟩ = some (.int .i64 t352):=(blk_cell BK359.out 0).trans rfl;have hcz27_1 : wr.cell? ⟨gb359,1,none⟩ = some (.slice Ao16 t353.length co16):=(blk_cell BK359.out 1).trans rfl;have hcz27_2 : wr.cell? ⟨gb359,2,none⟩ = some (u360002):=(blk_cell BK359.out 2).trans rfl;have hfz27_0:=blk_frozen BK359.out 0;have hfz27_1:=blk_frozen BK359.out 1;have hfz27_2:=blk_frozen BK359.out 2)|((with_reducible refine gate_builtin (b:=.append) (xs:=#[.tmp 35,.tmp 37]) rfl ?_);(try (refine gate_guard (by rfl) ?_;dsimp only));at_builtin;refine Kd.R_append (Kd.int .i64) (w0:=w) w.heap.size rfl (.tmp 35) (.tmp 37) 23 3 (.int .i64 0) 8 rfl Try.underlying23 info3 rfl (by decide) (by omega) u360002 x360002_2 t361 [.int .i64 t361] (fun _=>True) (fun _=>False) rfl rfl ?aP (fun _ hk=>hk.elim) ?aF ?aO ?aB ?aS ?aL ?_;(case aP=>exact rfl);(case aB=>exact (by repeat (first|(with_reducible first|exact HB.out|apply below_alloc|apply pw_below_drewN|apply below_drew1|refine below_set ?_ GE350.out|refine below_set ?_ GE359.out)|exact HB.out)));(case aF=>exact (fun _ _=>trivial));(case aO=>exact (by (with_reducible repeat (first|apply Kd.R_alloc|apply Kd.R_drewN|apply Kd.R_drew));exact HO_360002.out));(case aS=>exact (below_size (by repeat (first|(with_reducible first|exact HB.out|apply below_alloc|apply pw_below_drewN|apply below_drew1|refine below_set ?_ GE350.out|refine below_set ?_ GE359.out)|exact HB.out))));(case aL=>have:=LMc25.out;omega);intro v363 w28 ho hb hg hat;rw [← Ny362.out] at ho;have n0_:=Aside0.mk (Kd.R_over' (by (with_reducible repeat (first|apply Kd.R_alloc|apply Kd.R_drewN|apply Kd.R_drew));exact HO_360001.out) (Kd.R_typed (by (with_reducible repeat (first|apply Kd.R_alloc|apply Kd.R_drewN|apply Kd.R_drew));exact HO_360002.out)) (by decide) hg);have n1_:=Aside0.mk (blk_grown (g:=gb350) (o:=.cells #[.int .i64 x351000_2,.slice none 0 0,.slice none 0 0] 29 (0,0)) (by (with_reducible repeat (first|refine blk_drewN ?_ _|refine blk_drew ?_|refine blk_alloc ?_ _));exact BK350.out) hg (Kd.R_ne HO_360002.out BK350.out (by decide)));have n2_:=Aside0.mk (blk_grown (g:=gb359) (o:=.cells #[.int .i64 t352,.slice Ao16 t353.length co16,u360002] 29 (0,0)) (by (with_reducible repeat (first|refine blk_drewN ?_ _|refine blk_drew ?_|refine blk_alloc ?_ _));exact BK359.out) hg (Kd.R_ne HO_360002.out BK359.out (by decide)));have n3_:=Aside0.mk (hb);have n4_:=Aside0.mk (ho);clear HO_360001;clear BK350;clear BK359;clear HB;clear HO_360002;have HO_360001:=n0_;have BK350:=n1_;have BK359:=n2_;have HB:=n3_;have HO364:=n4_;clear n0_ n1_ n2_ n3_ n4_;clear ho hb hg hat;obtain ⟨Ao29,co29,eo29⟩:=Kd.R_slice HO364.out;subst eo29;have hcz30_0 : w28.cell? ⟨gb359,0,none⟩ = some (.int .i64 t352):=(blk_cell BK359.out 0).trans rfl;have hcz30_1 : w28.cell? ⟨gb359,1,none⟩ = some (.slice Ao16 t353.length co16):=(blk_cell BK359.out 1).trans rfl;have hcz30_2 : w28.cell? ⟨gb359,2,none⟩ = some (u360002):=(blk_cell BK359.out 2).trans rfl;have hfz30_0:=blk_frozen BK359.out 0;have hfz30_1:=blk_frozen BK359.out 1;have hfz30_2:=blk_frozen BK359.out 2))
           go_roundg k2
           case measure=>have:=HJ2.out;have:=HK2.out;omega
           case rel=>exact ⟨(wrap64 (x24_2 + 1)),(x351000_2),(y362),(.slice Ao29 y362.length co29),(by first|rfl|(simp;done)|(simp [*];done)),H',⟨by have:=HJ2.out;have:=HK2.out;omega⟩,⟨by (with_reducible repeat (first|apply Kd.R_alloc|apply Kd.R_drewN|apply Kd.R_drew));exact Kd.R_mono (Kd.R_far (p:=⟨gb359,2,none⟩) (Kd.R_types HO_360001.out BK359.out (by decide)) (fun _ hk=>hk.2) (.slice Ao29 y362.length co29)) (fun _ hk=>trivial)⟩,⟨by (with_reducible repeat (first|apply Kd.R_alloc|apply Kd.R_drewN|apply Kd.R_drew));exact Kd.R_mono (Kd.R_far (p:=⟨gb359,2,none⟩) (Kd.R_types HO364.out BK359.out (by decide)) (fun _ hk=>hk.2) (.slice Ao29 y362.length co29)) (fun _ hk=>trivial)⟩,⟨by (with_reducible repeat (first|refine blk_drewN ?_ _|refine blk_drew ?_|refine blk_alloc ?_ _));refine blk_far ?_ NB350_359.out _;(with_reducible repeat (first|refine blk_drewN ?_ _|refine blk_drew ?_|refine blk_alloc ?_ _));exact BK350.out⟩,⟨by (with_reducible repeat (first|refine blk_drewN ?_ _|refine blk_drew ?_|refine blk_alloc ?_ _));refine blk_put (cs:=#[.int .i64 t352,.slice Ao16 t353.length co16,u360002]) ?_ 2 _ rfl;(with_reducible repeat (first|refine blk_drewN ?_ _|refine blk_drew ?_|refine blk_alloc ?_ _));exact BK359.out⟩,⟨by repeat (first|(with_reducible first|exact HB.out|apply below_alloc|apply pw_below_drewN|apply below_drew1|refine below_set ?_ GE350.out|refine below_set ?_ GE359.out)|exact HB.out)⟩⟩
          ·rw [if_neg c25] at H
           exact absurd H (by simp)
        ·rw [if_neg c20] at H
         exact absurd H (by simp)
       ·rw [if_neg c19] at H
        exact absurd H (by simp)
      ·rw [if_neg c18] at H
       have c18b0 : decide (x24_2 < (l1.length : Int)) = false:=decide_eq_false c18
       clear c18
       replace H:=Option.bind_eq_some_iff.mp H
       obtain ⟨⟨t365,t366,t369⟩,A310,H⟩:=H
       replace H : (some (t365,t366,t369,true)) = some (r1,r2,r3,r4):=H
       have A31:=Aside0.mk A310
       clear A310
       simp only [Option.some.injEq,Prod.mk.injEq] at H
       obtain ⟨rfl,rfl,rfl,rfl⟩:=H
       obtain ⟨Ao32,co32,eo32⟩:=Kd.R_slice HO_360002.out
       subst eo32
       go_wp2_with (first|((with_reducible refine gate_callee (f:=61) rfl ?_);refine goesL_ (some 41) rfl rfl Try.func61 (by kernel_rfl) rfl #[.pointer (some ⟨gb359,0,none⟩)] rfl (by (try simp only [List.map_toArray,List.map_cons,List.map_nil]);first|done|rfl|(simp only [List.length_drop,List.length_take];rfl)) ?_;(with_reducible refine (impl_Plan_trimmed.calls k2 gb359 t352 Ao16 co16 t353 Ao32 co32 x360002_2 t365 t366 t369 _ ?side1 ?side2 ?side3 ?side4 ?side5 A31.out).mono ?_);(case side1=>exact by (with_reducible repeat (first|refine blk_drewN ?_ _|refine blk_drew ?_|refine blk_alloc ?_ _));exact BK359.out);(case side2=>repeat (first|exact (Kd.R_reads' HO_360001.out).2.2|(with_reducible refine Kd.C_alloc ?_ _)|(with_reducible refine Kd.C_drewN ?_ _)|(with_reducible refine Kd.C_drew ?_)));(case side3=>exact (Kd.R_reads' HO_360001.out).2.1);(case side4=>repeat (first|exact (Kd.R_reads' HO_360002.out).2.2|(with_reducible refine Kd.C_alloc ?_ _)|(with_reducible refine Kd.C_drewN ?_ _)|(with_reducible refine Kd.C_drew ?_)));(case side5=>exact (Kd.R_reads' HO_360002.out).2.1);rintro e w33 ⟨v367,v370,rfl,ho0,ho1,hb⟩;refine ⟨_,rfl,?_⟩;have n0_:=Aside0.mk (Kd.R_elder' (by (with_reducible repeat (first|apply Kd.R_alloc|apply Kd.R_drewN|apply Kd.R_drew));exact HO_360001.out) (Kd.R_base ho0) hb);have n1_:=Aside0.mk (Kd.R_elder' (by (with_reducible repeat (first|apply Kd.R_alloc|apply Kd.R_drewN|apply Kd.R_drew));exact HO_360002.out) (Kd.R_base ho1) hb);have n2_:=Aside0.mk (Kd.R_lower (Kd.R_new' ho0 (Kd.R_lt (by (with_reducible repeat (first|apply Kd.R_alloc|apply Kd.R_drewN|apply Kd.R_drew));exact HO_360001.out))) (below_size (by repeat (first|(with_reducible first|exact HB.out|apply below_alloc|apply pw_below_drewN|apply below_drew1|refine below_set ?_ GE350.out|refine below_set ?_ GE359.out)|exact HB.out))));have n3_:=Aside0.mk (Kd.R_lower (Kd.R_new' ho1 (Kd.R_lt (by (with_reducible repeat (first|apply Kd.R_alloc|apply Kd.R_drewN|apply Kd.R_drew));exact HO_360002.out))) (below_size (by repeat (first|(with_reducible first|exact HB.out|apply below_alloc|apply pw_below_drewN|apply below_drew1|refine below_set ?_ GE350.out|refine below_set ?_ GE359.out)|exact HB.out))));have n4_:=Aside0.mk (blk_below (g:=gb350) (o:=.cells #[.int .i64 x351000_2,.slice none 0 0,.slice none 0 0] 29 (0,0)) (by (with_reducible repeat (first|refine blk_drewN ?_ _|refine blk_drew ?_|refine blk_alloc ?_ _));exact BK350.out) hb);have n5_:=Aside0.mk (blk_below (g:=gb359) (o:=.cells #[.int .i64 t352,.slice Ao16 t353.length co16,.slice Ao32 x360002_2.length co32] 29 (0,0)) (by (with_reducible repeat (first|refine blk_drewN ?_ _|refine blk_drew ?_|refine blk_alloc ?_ _));exact BK359.out) hb);have n6_:=Aside0.mk (below_step (by repeat (first|(with_reducible first|exact HB.out|apply below_alloc|apply pw_below_drewN|apply below_drew1|refine below_set ?_ GE350.out|refine below_set ?_ GE359.out)|exact HB.out)) hb);clear HO_360001;clear HO_360002;clear BK350;clear BK359;clear HB;have HO_360001:=n0_;have HO_360002:=n1_;have HO368:=n2_;have HO371:=n3_;have BK350:=n4_;have BK359:=n5_;have HB:=n6_;clear n0_ n1_ n2_ n3_ n4_ n5_ n6_;(try clear hb);(try clear ho0);(try clear ho1);have hnb34:=NB350_359.out;have hnc34:=NB359_350.out;have hcz35_0 : w33.cell? ⟨gb350,0,none⟩ = some (.int .i64 x351000_2):=(blk_cell BK350.out 0).trans rfl;have hcz35_1 : w33.cell? ⟨gb350,1,none⟩ = some (.slice none 0 0):=(blk_cell BK350.out 1).trans rfl;have hcz35_2 : w33.cell? ⟨gb350,2,none⟩ = some (.slice none 0 0):=(blk_cell BK350.out 2).trans rfl;have hfz35_0:=blk_frozen BK350.out 0;have hfz35_1:=blk_frozen BK350.out 1;have hfz35_2:=blk_frozen BK350.out 2;obtain ⟨Ao36,co36,eo36⟩:=Kd.R_slice HO368.out;subst eo36;obtain ⟨Ao37,co37,eo37⟩:=Kd.R_slice HO371.out;subst eo37))
       refine bodyPost_ret (results_ct rfl _ _ gb350 29 #[.int .i64 t365,.slice Ao36 t366.length co36,.slice Ao37 t369.length co37] (0,0) _ rfl (by (with_reducible repeat (first|refine blk_drewN ?_ _|refine blk_drew ?_|refine blk_alloc ?_ _));refine blk_put (cs:=#[.int .i64 t365,.slice Ao36 t366.length co36,.slice none 0 0]) ?_ 2 _ rfl;(with_reducible repeat (first|refine blk_drewN ?_ _|refine blk_drew ?_|refine blk_alloc ?_ _));refine blk_put (cs:=#[.int .i64 t365,.slice none 0 0,.slice none 0 0]) ?_ 1 _ rfl;(with_reducible repeat (first|refine blk_drewN ?_ _|refine blk_drew ?_|refine blk_alloc ?_ _));refine blk_put (cs:=#[.int .i64 x351000_2,.slice none 0 0,.slice none 0 0]) ?_ 0 _ rfl;(with_reducible repeat (first|refine blk_drewN ?_ _|refine blk_drew ?_|refine blk_alloc ?_ _));exact BK350.out) Try.underlying29 rfl (by kernel_rfl)) rfl ?_
       exact ⟨_,_,by first|rfl|(simp [errW_none,errW_some] <;> rfl)|(simp [*,errW_none,errW_some] <;> rfl),by (with_reducible repeat (first|apply Kd.R_alloc|apply Kd.R_drewN|apply Kd.R_drew));exact Kd.R_mono (Kd.R_far (p:=⟨gb350,2,none⟩) (Kd.R_far (p:=⟨gb350,1,none⟩) (Kd.R_far (p:=⟨gb350,0,none⟩) (Kd.R_types HO368.out BK350.out (by decide)) (fun _ hk=>hk.2) (.int .i64 t365)) (fun _ hk=>hk.2) (.slice Ao36 t366.length co36)) (fun _ hk=>hk.2) (.slice Ao37 t369.length co37)) (fun _ hk=>trivial),by (with_reducible repeat (first|apply Kd.R_alloc|apply Kd.R_drewN|apply Kd.R_drew));exact Kd.R_mono (Kd.R_far (p:=⟨gb350,2,none⟩) (Kd.R_far (p:=⟨gb350,1,none⟩) (Kd.R_far (p:=⟨gb350,0,none⟩) (Kd.R_types HO371.out BK350.out (by decide)) (fun _ hk=>hk.2) (.int .i64 t365)) (fun _ hk=>hk.2) (.slice Ao36 t366.length co36)) (fun _ hk=>hk.2) (.slice Ao37 t369.length co37)) (fun _ hk=>trivial),by repeat (first|(with_reducible first|exact HB.out|apply below_alloc|apply pw_below_drewN|apply below_drew1|refine below_set ?_ GE350.out|refine below_set ?_ GE359.out)|exact HB.out)⟩
end Go.Proofs.Ytdcdaoancmpbeaa.MFnExactSequencePlan
--sq
