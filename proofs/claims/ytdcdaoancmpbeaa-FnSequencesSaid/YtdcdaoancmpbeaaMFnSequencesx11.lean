import Derived.Test.YtdcdaoancmpbeaaMFnSequencesx0
import Derived.Test.YtdcdaoancmpbeaaMFnSequencesx5
import Derived.Test.YtdcdaoancmpbeaaMFnSequencesx7
import Derived.Test.YtdcdaoancmpbeaaMFnSequencesx8
import Derived.Test.YtdcdaoancmpbeaaMFnSequencesx10
namespace Go.Proofs.Ytdcdaoancmpbeaa.MFnSequences
open Go.RowKit Go.Proofs.YtdcdaoancmpbeaaW.PrintWords Go.Proofs.YtdcdaoancmpbeaaW.PrintLast Go.Proofs.YtdcdaoancmpbeaaW.PrintMore Go.Proofs.YtdcdaoancmpbeaaV Go.Proofs.YtdcdaoancmpbeaaZ
attribute [local go_sem] max2_int min2_int max_two min_two max_three min_three max_four min_four   -- for this text's walks alone
set_option linter.unusedVariables false
set_option linter.unusedSimpArgs false
/-! ### impl_SequencePlan: function 19 -/
mutual
def impl_SequencePlan.j0 : Nat → List Int → List Int → Bool → Option (Int × (List (S73)) × List Int × Bool)
 | 0,_,_,_=>none
 | k + 1,x0,x1,x17=>if x17 = true then (some (0,([] : List (S73)),([] : List Int),false)) else ((impl_chainPlan.f k x0).bind fun bt322=>(impl_SequencePlan.l0 k x0 x1 (x1.length : Int) 0 bt322.1 bt322.2.1 ([] : List Int)))
def impl_SequencePlan.l0 : Nat → List Int → List Int → Int → Int → Int → List (S73) → List Int → Option (Int × (List (S73)) × List Int × Bool)
 | 0,_,_,_,_,_,_,_=>none
 | k + 1,x0,x22,x23,x24,x330000,x330001,x330002=>if x24 < x23 then (if 0 ≤ x24 then (if x24 < (x22.length : Int) then ((slices_Index_int_int.f k x0 (rd x22 x24)).bind fun t331=>(if t331 < 0 then (some (0,([] : List (S73)),([] : List Int),false)) else (if x330002.length < 17592186044416 then (impl_SequencePlan.l0 k x0 x22 x23 (wrap64 (x24 + 1)) x330000 x330001 (x330002 ++ [t331])) else (none)))) else (none)) else (none)) else ((impl_Plan_trimmed.f k x330000 x330001 x330002).bind fun bt335=>(some (bt335.1,bt335.2.1,bt335.2.2,true)))
end
def impl_SequencePlan.f (k : Nat) (l0 : List Int) (l1 : List Int) : Option (Int × (List (S73)) × List Int × Bool):=(impl_IsChain.f k l0).bind fun t321=>(if t321 = true then (impl_SequencePlan.j0 k l0 l1 (decide ((l1.length : Int) > 6))) else (impl_SequencePlan.j0 k l0 l1 true))
theorem impl_SequencePlan.mono_l : ∀ k,(∀ y0 y1 y2,LeO (impl_SequencePlan.j0 k y0 y1 y2) (impl_SequencePlan.j0 (k + 1) y0 y1 y2)) ∧ (∀ y0 y1 y2 y3 y4 y5 y6,LeO (impl_SequencePlan.l0 k y0 y1 y2 y3 y4 y5 y6) (impl_SequencePlan.l0 (k + 1) y0 y1 y2 y3 y4 y5 y6))
 | 0=>⟨fun _ _ _ r h=>by simp [impl_SequencePlan.j0] at h,fun _ _ _ _ _ _ _ r h=>by simp [impl_SequencePlan.l0] at h⟩
 | k + 1=>by
  obtain ⟨ih0,ih1⟩:=impl_SequencePlan.mono_l k
  refine ⟨?_,?_⟩
  ·intro y0 y1 y2
   unfold impl_SequencePlan.j0
   repeat' first
   | (with_reducible exact ih0 _ _ _)
   | (with_reducible exact ih1 _ _ _ _ _ _ _)
   | (with_reducible exact impl_IsChain.mono _ _)
   | (with_reducible exact impl_Plan_trimmed.mono _ _ _ _)
   | (with_reducible exact impl_chainPlan.mono _ _)
   | (with_reducible exact slices_Index_int_int.mono _ _ _)
   | (with_reducible exact LeO.refl _)
   | (with_reducible exact LeO.none _)
   | (with_reducible refine LeO.ite ?_ ?_)
   | (with_reducible refine LeO.bind ?_ (fun _=>?_))
   | exact ih0 _ _ _
   | exact ih1 _ _ _ _ _ _ _
   | exact impl_IsChain.mono _ _
   | exact impl_Plan_trimmed.mono _ _ _ _
   | exact impl_chainPlan.mono _ _
   | exact slices_Index_int_int.mono _ _ _
   | exact LeO.none _
   | refine LeO.ite ?_ ?_
   | refine LeO.bind ?_ (fun _=>?_)
  ·intro y0 y1 y2 y3 y4 y5 y6
   unfold impl_SequencePlan.l0
   repeat' first
   | (with_reducible exact ih0 _ _ _)
   | (with_reducible exact ih1 _ _ _ _ _ _ _)
   | (with_reducible exact impl_IsChain.mono _ _)
   | (with_reducible exact impl_Plan_trimmed.mono _ _ _ _)
   | (with_reducible exact impl_chainPlan.mono _ _)
   | (with_reducible exact slices_Index_int_int.mono _ _ _)
   | (with_reducible exact LeO.refl _)
   | (with_reducible exact LeO.none _)
   | (with_reducible refine LeO.ite ?_ ?_)
   | (with_reducible refine LeO.bind ?_ (fun _=>?_))
   | exact ih0 _ _ _
   | exact ih1 _ _ _ _ _ _ _
   | exact impl_IsChain.mono _ _
   | exact impl_Plan_trimmed.mono _ _ _ _
   | exact impl_chainPlan.mono _ _
   | exact slices_Index_int_int.mono _ _ _
   | exact LeO.none _
   | refine LeO.ite ?_ ?_
   | refine LeO.bind ?_ (fun _=>?_)
theorem impl_SequencePlan.mono : ∀ a0 a1 k,LeO (impl_SequencePlan.f k a0 a1) (impl_SequencePlan.f (k + 1) a0 a1):=by
 intro a0 a1 k
 obtain ⟨ih0,ih1⟩:=impl_SequencePlan.mono_l k
 unfold impl_SequencePlan.f
 repeat' first
   | (with_reducible exact ih0 _ _ _)
   | (with_reducible exact ih1 _ _ _ _ _ _ _)
   | (with_reducible exact impl_IsChain.mono _ _)
   | (with_reducible exact impl_Plan_trimmed.mono _ _ _ _)
   | (with_reducible exact impl_chainPlan.mono _ _)
   | (with_reducible exact slices_Index_int_int.mono _ _ _)
   | (with_reducible exact LeO.refl _)
   | (with_reducible exact LeO.none _)
   | (with_reducible refine LeO.ite ?_ ?_)
   | (with_reducible refine LeO.bind ?_ (fun _=>?_))
   | exact ih0 _ _ _
   | exact ih1 _ _ _ _ _ _ _
   | exact impl_IsChain.mono _ _
   | exact impl_Plan_trimmed.mono _ _ _ _
   | exact impl_chainPlan.mono _ _
   | exact slices_Index_int_int.mono _ _ _
   | exact LeO.none _
   | refine LeO.ite ?_ ?_
   | refine LeO.bind ?_ (fun _=>?_)
set_option maxHeartbeats 8000000 in
set_option maxRecDepth 100000 in
theorem impl_SequencePlan.calls (k : Nat) (A0 : Option Addr) (c0 : Nat) (l0 : List Int) (A1 : Option Addr) (c1 : Nat) (l1 : List Int) (r1 : Int) (r2 : List (S73)) (r3 : List Int) (r4 : Bool) (w : World) (hr0 : Kd.C (Kd.int .i64) w A0 l0.length l0) (hc0 : l0.length ≤ c0) (hr1 : Kd.C (Kd.int .i64) w A1 l1.length l1) (hc1 : l1.length ≤ c1) (h : impl_SequencePlan.f k l0 l1 = some (r1,r2,r3,r4)) :
  Calls Try.prog 19 #[.slice A0 l0.length c0,.slice A1 l1.length c1] w fun e w'=>∃ v1_ v2_ : Value,e = .returned (.tuple #[.agg #[.int .i64 r1,v1_,v2_],.bool r4]) ∧ Kd.R k73 73 w' w.heap.size (fun _=>True) v1_ r2 ∧ Kd.R (Kd.int .i64) 3 w' w.heap.size (fun _=>True) v2_ r3 ∧ Below w.heap.size w w':=by
 have hu29:=Try.underlying29
 have HR0:=Aside0.mk hr0
 have HC0:=Aside0.mk hc0
 clear hr0 hc0
 have HR1:=Aside0.mk hr1
 have HC1:=Aside0.mk hc1
 clear hr1 hc1
 have HB:=Aside0.mk (Below.refl w.heap.size w)
 have H : ((impl_IsChain.f k l0).bind fun t321=>(if t321 = true then (impl_SequencePlan.j0 k l0 l1 (decide ((l1.length : Int) > 6))) else (impl_SequencePlan.j0 k l0 l1 true))) = some (r1,r2,r3,r4):=h
 clear h
 have HC3:=Aside0.mk H
 clear H
 go_enter Try.func19,Try.ntmps19
 go_upto_region 1 with (first|((with_reducible refine gate_dst (N:=4) rfl ?_);(try (refine gate_guard (by rfl) ?_;dsimp only));refine box_event ?hg (N:=4) ?hd (cs:=#[.int .i64 0,.slice none 0 0,.slice none 0 0]) (t:=29) ?hr ?_;(case hd=>rfl);(case hg=>rfl);(case hr=>first|(go_simp;done)|(go_simp;rfl));intro gb320 hg w4 hbox hb;have n0_:=Aside0.mk (below_step bz hb);have n1_:=Aside0.mk (hbox);have n2_:=Aside0.mk ((by rw [hg];exact (below_size bz) : w.heap.size ≤ gb320));have n3_:=Aside0.mk ((by rw [hg];exact (below_size bz) : w.heap.size ≤ gb320));clear HB;have HB:=n0_;have BK320:=n1_;have GW320:=n2_;have GE320:=n3_;clear n0_ n1_ n2_ n3_;clear hb hbox hg))
 (try simp only [Act.put,List.setIfInBounds_toArray,List.set_cons_zero,List.set_cons_succ])
 go_cut [17] (fun v17 wc=>∃ (kq : Nat) (x17_2 : Bool),v17 = .bool x17_2 ∧ Aside0 (impl_SequencePlan.j0 kq l0 l1 x17_2 = some (r1,r2,r3,r4)) ∧ Aside0 (kq ≤ k) ∧ Aside0 (wc.heap[gb320]? = some (.cells #[.int .i64 0,(.slice none 0 0),(.slice none 0 0)] 29 (0,0))) ∧ Aside0 (Below w.heap.size w wc))
 case first=>
  have H:=HC3.out
  clear HC3
  replace H:=Option.bind_eq_some_iff.mp H
  obtain ⟨t321,A50,H⟩:=H
  replace H : (if t321 = true then (impl_SequencePlan.j0 k l0 l1 (decide ((l1.length : Int) > 6))) else (impl_SequencePlan.j0 k l0 l1 true)) = some (r1,r2,r3,r4):=H
  have A5:=Aside0.mk A50
  clear A50
  by_cases c6 : t321 = true
  ·subst c6
   have H1 : (impl_SequencePlan.j0 k l0 l1 (decide ((l1.length : Int) > 6))) = some (r1,r2,r3,r4):=by rw [if_pos rfl] at H;exact H
   clear H
   have H:=H1
   clear H1
   have H':=Aside0.mk H
   clear H
   go_wp2_with (first|((with_reducible refine gate_callee (f:=58) rfl ?_);refine goesL_ (some 11) rfl rfl Try.func58 (by kernel_rfl) rfl #[.slice A0 l0.length c0] rfl mz ?_;(with_reducible refine (impl_IsChain.calls k _ _ l0 true _ ?side1 ?side2 A5.out).mono ?_);(case side1=>exact cz (Kd.C_below HR0.out HB.out));(case side2=>exact HC0.out);rintro e w7 ⟨rfl,hb⟩;refine ⟨_,rfl,?_⟩;have n0_:=Aside0.mk (blk_below (g:=gb320) (o:=.cells #[.int .i64 0,.slice none 0 0,.slice none 0 0] 29 (0,0)) (kz BK320.out) hb);have n1_:=Aside0.mk (below_step bs hb);clear BK320 HB;have BK320:=n0_;have HB:=n1_;clear n0_ n1_;(try clear hb)))
   go_meet
   case rel=>exact ⟨_,(decide ((l1.length : Int) > 6)),fz,H',⟨by first|omega|exact Nat.le_refl _⟩,⟨by (with_reducible repeat (first|refine blk_drewN ?_ _|refine blk_drew ?_|refine blk_alloc ?_ _));exact BK320.out⟩,⟨by repeat (first|(with_reducible first|exact HB.out|apply below_alloc|apply pw_below_drewN|apply below_drew1|refine below_set ?_ GE320.out)|exact HB.out)⟩⟩
  ·replace c6:=Bool.eq_false_iff.mpr c6
   subst c6
   have H1 : (impl_SequencePlan.j0 k l0 l1 true) = some (r1,r2,r3,r4):=by rw [if_neg (show ¬ (false = true) by decide)] at H;exact H
   clear H
   have H:=H1
   clear H1
   have H':=Aside0.mk H
   clear H
   go_wp2_with (first|((with_reducible refine gate_callee (f:=58) rfl ?_);refine goesL_ (some 11) rfl rfl Try.func58 (by kernel_rfl) rfl #[.slice A0 l0.length c0] rfl mz ?_;(with_reducible refine (impl_IsChain.calls k _ _ l0 false _ ?side1 ?side2 A5.out).mono ?_);(case side1=>exact cz (Kd.C_below HR0.out HB.out));(case side2=>exact HC0.out);rintro e w8 ⟨rfl,hb⟩;refine ⟨_,rfl,?_⟩;have n0_:=Aside0.mk (blk_below (g:=gb320) (o:=.cells #[.int .i64 0,.slice none 0 0,.slice none 0 0] 29 (0,0)) (kz BK320.out) hb);have n1_:=Aside0.mk (below_step bs hb);clear BK320 HB;have BK320:=n0_;have HB:=n1_;clear n0_ n1_;(try clear hb)))
   go_meet
   case rel=>exact ⟨_,(true),fz,H',⟨by first|omega|exact Nat.le_refl _⟩,⟨by (with_reducible repeat (first|refine blk_drewN ?_ _|refine blk_drew ?_|refine blk_alloc ?_ _));exact BK320.out⟩,⟨by repeat (first|(with_reducible first|exact HB.out|apply below_alloc|apply pw_below_drewN|apply below_drew1|refine below_set ?_ GE320.out)|exact HB.out)⟩⟩
 case rest=>
  clear HC3
  try clear c1
  try clear p2
  try clear c5
  try clear c6
  obtain ⟨kq,x17_2,rfl,HA,HJ2,BK320,HB⟩:=hcut
  cases kq with
  | zero=>exact absurd HA.out (by simp [impl_SequencePlan.j0])
  | succ kj2=>
   have H:=HA.out
   clear HA
   simp only [impl_SequencePlan.j0] at H
   by_cases c9 : x17_2 = true
   ·subst c9
    have H1 : (some (0,([] : List (S73)),([] : List Int),false)) = some (r1,r2,r3,r4):=by rw [if_pos rfl] at H;exact H
    clear H
    have H:=H1
    clear H1
    simp only [Option.some.injEq,Prod.mk.injEq] at H
    obtain ⟨rfl,rfl,rfl,rfl⟩:=H
    have hcz10_0 : wc.cell? ⟨gb320,0,none⟩ = some (.int .i64 0):=(blk_cell BK320.out 0).trans rfl
    have hcz10_1 : wc.cell? ⟨gb320,1,none⟩ = some (.slice none 0 0):=(blk_cell BK320.out 1).trans rfl
    have hcz10_2 : wc.cell? ⟨gb320,2,none⟩ = some (.slice none 0 0):=(blk_cell BK320.out 2).trans rfl
    have hfz10_0:=blk_frozen BK320.out 0
    have hfz10_1:=blk_frozen BK320.out 1
    have hfz10_2:=blk_frozen BK320.out 2
    go_wp2
    refine bodyPost_ret (results_ct rfl _ _ gb320 29 #[.int .i64 0,.slice none 0 0,.slice none 0 0] (0,0) _ rfl (by (with_reducible repeat (first|refine blk_drewN ?_ _|refine blk_drew ?_|refine blk_alloc ?_ _));refine blk_put (cs:=#[.int .i64 0,.slice none 0 0,.slice none 0 0]) ?_ 2 _ rfl;(with_reducible repeat (first|refine blk_drewN ?_ _|refine blk_drew ?_|refine blk_alloc ?_ _));refine blk_put (cs:=#[.int .i64 0,.slice none 0 0,.slice none 0 0]) ?_ 1 _ rfl;(with_reducible repeat (first|refine blk_drewN ?_ _|refine blk_drew ?_|refine blk_alloc ?_ _));refine blk_put (cs:=#[.int .i64 0,.slice none 0 0,.slice none 0 0]) ?_ 0 _ rfl;(with_reducible repeat (first|refine blk_drewN ?_ _|refine blk_drew ?_|refine blk_alloc ?_ _));exact BK320.out) Try.underlying29 rfl (by kernel_rfl)) rfl ?_
    exact ⟨_,_,by first|rfl|(simp [errW_none,errW_some] <;> rfl)|(simp [*,errW_none,errW_some] <;> rfl),by first|exact Kd.R_nil _ _ _ _ _|exact Kd.N_nil _ _ _ _ _|exact Kd.V_nil _ _ _ _ _|exact Kd.Q_nil _ _ _ _ _|exact Kd.S_nil _ _ _ _ _,by first|exact Kd.R_nil _ _ _ _ _|exact Kd.N_nil _ _ _ _ _|exact Kd.V_nil _ _ _ _ _|exact Kd.Q_nil _ _ _ _ _|exact Kd.S_nil _ _ _ _ _,by repeat (first|(with_reducible first|exact HB.out|apply below_alloc|apply pw_below_drewN|apply below_drew1|refine below_set ?_ GE320.out)|exact HB.out)⟩
   ·replace c9:=Bool.eq_false_iff.mpr c9
    subst c9
    have H1 : ((impl_chainPlan.f kj2 l0).bind fun bt322=>(impl_SequencePlan.l0 kj2 l0 l1 (l1.length : Int) 0 bt322.1 bt322.2.1 ([] : List Int))) = some (r1,r2,r3,r4):=by rw [if_neg (show ¬ (false = true) by decide)] at H;exact H
    clear H
    have H:=H1
    clear H1
    replace H:=Option.bind_eq_some_iff.mp H
    obtain ⟨⟨t322,t323,t326⟩,A110,H⟩:=H
    replace H : (impl_SequencePlan.l0 kj2 l0 l1 (l1.length : Int) 0 t322 t323 ([] : List Int)) = some (r1,r2,r3,r4):=H
    have A11:=Aside0.mk A110
    clear A110
    have H':=Aside0.mk H
    clear H
    go_wp2_with (first|((with_reducible refine gate_callee (f:=59) rfl ?_);refine goesL_ (some 20) rfl rfl Try.func59 (by kernel_rfl) rfl #[.slice A0 l0.length c0] rfl mz ?_;(with_reducible refine (impl_chainPlan.calls kj2 _ _ l0 t322 t323 t326 _ ?side1 ?side2 A11.out).mono ?_);(case side1=>exact cz (Kd.C_below HR0.out HB.out));(case side2=>exact HC0.out);rintro e w12 ⟨v324,v327,rfl,ho0,ho1,hb⟩;refine ⟨_,rfl,?_⟩;have n0_:=Aside0.mk (Kd.R_lower ho0 (below_size bs));have n1_:=Aside0.mk (Kd.R_lower ho1 (below_size bs));have n2_:=Aside0.mk (blk_below (g:=gb320) (o:=.cells #[.int .i64 0,.slice none 0 0,.slice none 0 0] 29 (0,0)) (kz BK320.out) hb);have n3_:=Aside0.mk (below_step bs hb);clear BK320 HB;have HO325:=n0_;have HO328:=n1_;have BK320:=n2_;have HB:=n3_;clear n0_ n1_ n2_ n3_;(try clear hb);(try clear ho0);(try clear ho1))|((with_reducible refine gate_dst (N:=6) rfl ?_);(try (refine gate_guard (by rfl) ?_;dsimp only));refine box_event ?hg (N:=6) ?hd (cs:=#[.int .i64 0,.slice none 0 0,.slice none 0 0]) (t:=29) ?hr ?_;(case hd=>rfl);(case hg=>rfl);(case hr=>first|(go_simp;done)|(go_simp;rfl));intro gb329 hg w13 hbox hb;have n0_:=Aside0.mk (Kd.R_below (rz HO325.out) hb);have n1_:=Aside0.mk (Kd.R_below (rz HO328.out) hb);have n2_:=Aside0.mk (blk_below (g:=gb320) (o:=.cells #[.int .i64 0,.slice none 0 0,.slice none 0 0] 29 (0,0)) (kz BK320.out) hb);have n3_:=Aside0.mk (below_step bs hb);have n4_:=Aside0.mk (hbox);have n5_:=Aside0.mk ((by rw [hg];exact (below_size bs) : w.heap.size ≤ gb329));have n6_:=Aside0.mk ((by rw [hg];exact (below_size bs) : w.heap.size ≤ gb329));have n7_:=Aside0.mk ((by rw [hg];exact Nat.ne_of_lt (blk_lt (g:=gb320) (o:=.cells #[.int .i64 0,.slice none 0 0,.slice none 0 0] 29 (0,0)) (kz BK320.out)) : gb320 ≠ gb329));have n8_:=Aside0.mk ((by rw [hg];exact Nat.ne_of_gt (blk_lt (g:=gb320) (o:=.cells #[.int .i64 0,.slice none 0 0,.slice none 0 0] 29 (0,0)) (kz BK320.out)) : gb329 ≠ gb320));clear HO325 HO328 BK320 HB;have HO325:=n0_;have HO328:=n1_;have BK320:=n2_;have HB:=n3_;have BK329:=n4_;have GW329:=n5_;have GE329:=n6_;have NB320_329:=n7_;have NB329_320:=n8_;clear n0_ n1_ n2_ n3_ n4_ n5_ n6_ n7_ n8_;clear hb hbox hg;have hnb14:=NB329_320.out;have hnc14:=NB320_329.out;have hcz15_0 : w13.cell? ⟨gb329,0,none⟩ = some (.int .i64 0):=(blk_cell BK329.out 0).trans rfl;have hcz15_1 : w13.cell? ⟨gb329,1,none⟩ = some (.slice none 0 0):=(blk_cell BK329.out 1).trans rfl;have hcz15_2 : w13.cell? ⟨gb329,2,none⟩ = some (.slice none 0 0):=(blk_cell BK329.out 2).trans rfl;have hfz15_0:=blk_frozen BK329.out 0;have hfz15_1:=blk_frozen BK329.out 1;have hfz15_2:=blk_frozen BK329.out 2;obtain ⟨Ao16,co16,eo16⟩:=Kd.R_slice HO325.out;subst eo16;obtain ⟨Ao17,co17,eo17⟩:=Kd.R_slice HO328.out;subst eo17))
    go_loopg [24] kj2 (fun kq v24 w'=>∃ (x24_2 : Int) (x321000_2 : Int) (x330002_2 : List Int) (u330002 : Value),v24 = .int .i64 x24_2 ∧ Aside0 (impl_SequencePlan.l0 kq l0 l1 (l1.length : Int) x24_2 t322 t323 x330002_2 = some (r1,r2,r3,r4)) ∧ Aside0 (kq ≤ kj2) ∧ Aside0 (Kd.R k73 73 w' w.heap.size (fun _=>True) (.slice Ao16 t323.length co16) t323) ∧ Aside0 (Kd.R (Kd.int .i64) 3 w' w.heap.size (fun _=>True) u330002 x330002_2) ∧ Aside0 (w'.heap[gb320]? = some (.cells #[.int .i64 x321000_2,(.slice none 0 0),(.slice none 0 0)] 29 (0,0))) ∧ Aside0 (w'.heap[gb329]? = some (.cells #[.int .i64 t322,(.slice Ao16 t323.length co16),u330002] 29 (0,0))) ∧ Aside0 (Below w.heap.size w w'))
    case atStart=>exact ⟨(0),(0),(([] : List Int)),(.slice none 0 0),fz,H',⟨Nat.le_refl _⟩,⟨by (with_reducible repeat (first|apply Kd.R_alloc|apply Kd.R_drewN|apply Kd.R_drew));exact Kd.R_mono (Kd.R_far (p:=⟨gb329,2,none⟩) (Kd.R_far (p:=⟨gb329,2,none⟩) (Kd.R_far (p:=⟨gb329,1,none⟩) (Kd.R_far (p:=⟨gb329,0,none⟩) (Kd.R_types HO325.out BK329.out (by decide)) (fun _ hk=>hk.2) (.int .i64 t322)) (fun _ hk=>hk.2) (.slice Ao16 t323.length co16)) (fun _ hk=>hk.2) (.slice Ao17 t326.length co17)) (fun _ hk=>hk.2) (.slice none 0 0)) (fun _ hk=>trivial)⟩,⟨by first|exact Kd.R_nil _ _ _ _ _|exact Kd.N_nil _ _ _ _ _|exact Kd.V_nil _ _ _ _ _|exact Kd.Q_nil _ _ _ _ _|exact Kd.S_nil _ _ _ _ _⟩,⟨by (with_reducible repeat (first|refine blk_drewN ?_ _|refine blk_drew ?_|refine blk_alloc ?_ _));refine blk_far ?_ NB320_329.out _;(with_reducible repeat (first|refine blk_drewN ?_ _|refine blk_drew ?_|refine blk_alloc ?_ _));refine blk_far ?_ NB320_329.out _;(with_reducible repeat (first|refine blk_drewN ?_ _|refine blk_drew ?_|refine blk_alloc ?_ _));refine blk_far ?_ NB320_329.out _;(with_reducible repeat (first|refine blk_drewN ?_ _|refine blk_drew ?_|refine blk_alloc ?_ _));refine blk_far ?_ NB320_329.out _;(with_reducible repeat (first|refine blk_drewN ?_ _|refine blk_drew ?_|refine blk_alloc ?_ _));exact BK320.out⟩,⟨by (with_reducible repeat (first|refine blk_drewN ?_ _|refine blk_drew ?_|refine blk_alloc ?_ _));refine blk_put (cs:=#[.int .i64 t322,.slice Ao16 t323.length co16,.slice Ao17 t326.length co17]) ?_ 2 _ rfl;(with_reducible repeat (first|refine blk_drewN ?_ _|refine blk_drew ?_|refine blk_alloc ?_ _));refine blk_put (cs:=#[.int .i64 t322,.slice Ao16 t323.length co16,.slice none 0 0]) ?_ 2 _ rfl;(with_reducible repeat (first|refine blk_drewN ?_ _|refine blk_drew ?_|refine blk_alloc ?_ _));refine blk_put (cs:=#[.int .i64 t322,.slice none 0 0,.slice none 0 0]) ?_ 1 _ rfl;(with_reducible repeat (first|refine blk_drewN ?_ _|refine blk_drew ?_|refine blk_alloc ?_ _));refine blk_put (cs:=#[.int .i64 0,.slice none 0 0,.slice none 0 0]) ?_ 0 _ rfl;(with_reducible repeat (first|refine blk_drewN ?_ _|refine blk_drew ?_|refine blk_alloc ?_ _));exact BK329.out⟩,⟨by repeat (first|(with_reducible first|exact HB.out|apply below_alloc|apply pw_below_drewN|apply below_drew1|refine below_set ?_ GE320.out|refine below_set ?_ GE329.out)|exact HB.out)⟩⟩
    case round=>
     clear H'
     try clear c1
     try clear p2
     try clear c5
     try clear c6
     try clear c9
     try clear c14
     try clear hcz10_0
     try clear hcz10_1
     try clear hcz10_2
     try clear hcz15_0
     try clear hcz15_1
     try clear hcz15_2
     try clear hfz10_0
     try clear hfz10_1
     try clear hfz10_2
     try clear hfz15_0
     try clear hfz15_1
     try clear hfz15_2
     try clear p2
     obtain ⟨x24_2,x321000_2,x330002_2,u330002,rfl,HA,HK2,HO_330001,HO_330002,BK320,BK329,HB⟩:=hrel
     cases gk with
     | zero=>exact absurd HA.out (by simp [impl_SequencePlan.l0])
     | succ k2=>
      have H:=HA.out
      clear HA
      simp only [impl_SequencePlan.l0] at H
      by_cases c18 : x24_2 < (l1.length : Int)
      ·rw [if_pos c18] at H
       have c18b0 : decide (x24_2 < (l1.length : Int)) = true:=decide_eq_true c18
       clear c18
       by_cases c19 : 0 ≤ x24_2
       ·rw [if_pos c19] at H
        have c19b0 : decide (0 ≤ x24_2) = true:=decide_eq_true c19
        clear c19
        by_cases c20 : x24_2 < (l1.length : Int)
        ·rw [if_pos c20] at H
         have c20b0 : decide (x24_2 < (l1.length : Int)) = true:=decide_eq_true c20
         clear c20
         replace H:=Option.bind_eq_some_iff.mp H
         obtain ⟨t331,A210,H⟩:=H
         replace H : (if t331 < 0 then (some (0,([] : List (S73)),([] : List Int),false)) else (if x330002_2.length < 17592186044416 then (impl_SequencePlan.l0 k2 l0 l1 (l1.length : Int) (wrap64 (x24_2 + 1)) t322 t323 (x330002_2 ++ [t331])) else (none))) = some (r1,r2,r3,r4):=H
         have A21:=Aside0.mk A210
         clear A210
         by_cases c22 : t331 < 0
         ·rw [if_pos c22] at H
          have c22b0 : decide (t331 < 0) = true:=decide_eq_true c22
          clear c22
          simp only [Option.some.injEq,Prod.mk.injEq] at H
          obtain ⟨rfl,rfl,rfl,rfl⟩:=H
          have p330 : 0 ≤ (x24_2 : Int):=of_decide_eq_true az
          have q330 : x24_2 < (l1.length : Int):=of_decide_eq_true az
          obtain ⟨ad330,e330,hx330_0⟩:=Kd.at_int HR1.out x24_2 p330 q330
          cases e330
          replace hx330_0:=(HB.out.cell (World.block_lt_of_cell? w _ hx330_0)).trans hx330_0
          replace p330:=eq_true p330
          replace q330:=eq_true q330
          go_wp2_with (first|((with_reducible refine gate_callee (f:=60) rfl ?_);refine goesL_ (some 30) rfl rfl Try.func60 (by kernel_rfl) rfl #[.slice A0 l0.length c0,.int .i64 (rd l1 x24_2)] rfl mz ?_;(with_reducible refine (slices_Index_int_int.calls k2 _ _ l0 (rd l1 x24_2) t331 _ ?side1 ?side2 A21.out).mono ?_);(case side1=>exact cz (Kd.C_below HR0.out HB.out));(case side2=>exact HC0.out);rintro e w' ⟨rfl,⟨nd,rfl⟩⟩;refine ⟨_,rfl,?_⟩;(try (rw [drewN_self wr];generalize hq_ : World.drewN wr _ = wr;have n0_ : Aside0 (Kd.R k73 73 wr w.heap.size (fun _=>True) (.slice Ao16 t323.length co16) t323):=⟨by rw [← hq_];exact (rz HO_330001.out)⟩;have n1_ : Aside0 (Kd.R (Kd.int .i64) 3 wr w.heap.size (fun _=>True) u330002 x330002_2):=⟨by rw [← hq_];exact (rz HO_330002.out)⟩;have n2_ : Aside0 (wr.heap[gb320]? = some (.cells #[.int .i64 x321000_2,.slice none 0 0,.slice none 0 0] 29 (0,0))):=⟨by rw [← hq_];exact (kz BK320.out)⟩;have n3_ : Aside0 (wr.heap[gb329]? = some (.cells #[.int .i64 t322,.slice Ao16 t323.length co16,u330002] 29 (0,0))):=⟨by rw [← hq_];exact (kz BK329.out)⟩;have n4_ : Aside0 (Below w.heap.size w wr):=⟨by rw [← hq_];exact bs⟩;clear HO_330001 HO_330002 BK320 BK329 HB hq_;have HO_330001:=n0_;have HO_330002:=n1_;have BK320:=n2_;have BK329:=n3_;have HB:=n4_;clear n0_ n1_ n2_ n3_ n4_));have hnb23:=NB320_329.out;have hnc23:=NB329_320.out;have hcz24_0 : wr.cell? ⟨gb320,0,none⟩ = some (.int .i64 x321000_2):=(blk_cell BK320.out 0).trans rfl;have hcz24_1 : wr.cell? ⟨gb320,1,none⟩ = some (.slice none 0 0):=(blk_cell BK320.out 1).trans rfl;have hcz24_2 : wr.cell? ⟨gb320,2,none⟩ = some (.slice none 0 0):=(blk_cell BK320.out 2).trans rfl;have hfz24_0:=blk_frozen BK320.out 0;have hfz24_1:=blk_frozen BK320.out 1;have hfz24_2:=blk_frozen BK320.out 2))
          refine bodyPost_ret (results_ct rfl _ _ gb320 29 #[.int .i64 0,.slice none 0 0,.slice none 0 0] (0,0) _ rfl (by (with_reducible repeat (first|refine blk_drewN ?_ _|refine blk_drew ?_|refine blk_alloc ?_ _));refine blk_put (cs:=#[.int .i64 0,.slice none 0 0,.slice none 0 0]) ?_ 2 _ rfl;(with_reducible repeat (first|refine blk_drewN ?_ _|refine blk_drew ?_|refine blk_alloc ?_ _));refine blk_put (cs:=#[.int .i64 0,.slice none 0 0,.slice none 0 0]) ?_ 1 _ rfl;(with_reducible repeat (first|refine blk_drewN ?_ _|refine blk_drew ?_|refine blk_alloc ?_ _));refine blk_put (cs:=#[.int .i64 x321000_2,.slice none 0 0,.slice none 0 0]) ?_ 0 _ rfl;(with_reducible repeat (first|refine blk_drewN ?_ _|refine blk_drew ?_|refine blk_alloc ?_ _));exact BK320.out) Try.underlying29 rfl (by kernel_rfl)) rfl ?_
          exact ⟨_,_,by first|rfl|(simp [errW_none,errW_some] <;> rfl)|(simp [*,errW_none,errW_some] <;> rfl),by first|exact Kd.R_nil _ _ _ _ _|exact Kd.N_nil _ _ _ _ _|exact Kd.V_nil _ _ _ _ _|exact Kd.Q_nil _ _ _ _ _|exact Kd.S_nil _ _ _ _ _,by first|exact Kd.R_nil _ _ _ _ _|exact Kd.N_nil _ _ _ _ _|exact Kd.V_nil _ _ _ _ _|exact Kd.Q_nil _ _ _ _ _|exact Kd.S_nil _ _ _ _ _,by repeat (first|(with_reducible first|exact HB.out|apply below_alloc|apply pw_below_drewN|apply below_drew1|refine below_set ?_ GE320.out|refine below_set ?_ GE329.out)|exact HB.out)⟩
         ·rw [if_neg c22] at H
          have c22b0 : decide (t331 < 0) = false:=decide_eq_false c22
          clear c22
          by_cases c25 : x330002_2.length < 17592186044416
          ·rw [if_pos c25] at H
           have LMc25:=Aside0.mk c25
           clear c25
           obtain ⟨y332,hy332⟩ : ∃ y_ : List Int,y_ = (x330002_2 ++ [t331]):=⟨_,rfl⟩
           replace H : (impl_SequencePlan.l0 k2 l0 l1 (l1.length : Int) (wrap64 (x24_2 + 1)) t322 t323 y332) = some (r1,r2,r3,r4):=by first|(rw [hy332];with_reducible exact H)|(have H2_:=(Option.bind_some _ _).symm.trans H;rw [hy332];with_reducible exact H2_)|(have H2_:=(Option.bind_some _ _).symm.trans H;with_reducible exact H2_)|with_reducible exact H|(rw [hy332];exact H)|exact H
           have Ny332:=Aside0.mk hy332
           clear hy332
           have H':=Aside0.mk H
           clear H
           have p330 : 0 ≤ (x24_2 : Int):=of_decide_eq_true az
           have q330 : x24_2 < (l1.length : Int):=of_decide_eq_true az
           obtain ⟨ad330,e330,hx330_0⟩:=Kd.at_int HR1.out x24_2 p330 q330
           cases e330
           replace hx330_0:=(HB.out.cell (World.block_lt_of_cell? w _ hx330_0)).trans hx330_0
           replace p330:=eq_true p330
           replace q330:=eq_true q330
           go_wp2_with (first|((with_reducible refine gate_callee (f:=60) rfl ?_);refine goesL_ (some 30) rfl rfl Try.func60 (by kernel_rfl) rfl #[.slice A0 l0.length c0,.int .i64 (rd l1 x24_2)] rfl mz ?_;(with_reducible refine (slices_Index_int_int.calls k2 _ _ l0 (rd l1 x24_2) t331 _ ?side1 ?side2 A21.out).mono ?_);(case side1=>exact cz (Kd.C_below HR0.out HB.out));(case side2=>exact HC0.out);rintro e w' ⟨rfl,⟨nd,rfl⟩⟩;refine ⟨_,rfl,?_⟩;(try (rw [drewN_self wr];generalize hq_ : World.drewN wr _ = wr;have n0_ : Aside0 (Kd.R k73 73 wr w.heap.size (fun _=>True) (.slice Ao16 t323.length co16) t323):=⟨by rw [← hq_];exact (rz HO_330001.out)⟩;have n1_ : Aside0 (Kd.R (Kd.int .i64) 3 wr w.heap.size (fun _=>True) u330002 x330002_2):=⟨by rw [← hq_];exact (rz HO_330002.out)⟩;have n2_ : Aside0 (wr.heap[gb320]? = some (.cells #[.int .i64 x321000_2,.slice none 0 0,.slice none 0 0] 29 (0,0))):=⟨by rw [← hq_];exact (kz BK320.out)⟩;have n3_ : Aside0 (wr.heap[gb329]? = some (.cells #[.int .i64 t322,.slice Ao16 t323.length co16,u330002] 29 (0,0))):=⟨by rw [← hq_];exact (kz BK329.out)⟩;have n4_ : Aside0 (Below w.heap.size w wr):=⟨by rw [← hq_];exact bs⟩;clear HO_330001 HO_330002 BK320 BK329 HB hq_;have HO_330001:=n0_;have HO_330002:=n1_;have BK320:=n2_;have BK329:=n3_;have HB:=n4_;clear n0_ n1_ n2_ n3_ n4_));have hnb26:=NB329_320.out;have hnc26:=NB320_329.out;have hcz27_0 : wr.cell? ⟨gb329,0,none⟩ = some (.int .i64 t322):=(blk_cell BK329.out 0).trans rfl;have hcz27_1 : wr.cell? ⟨gb329,1,none⟩ = some (.slice Ao16 t323.length co16):=(blk_cell BK329.out 1).trans rfl;have hcz27_2 : wr.cell? ⟨gb329,2,none⟩ = some (u330002):=(blk_cell BK329.out 2).trans rfl;have hfz27_0:=blk_frozen BK329.out 0;have hfz27_1:=blk_frozen BK329.out 1;have hfz27_2:=blk_frozen BK329.out 2)|((with_reducible refine gate_builtin (b:=.append) (xs:=#[.tmp 35,.tmp 37]) rfl ?_);(try (refine gate_guard (by rfl) ?_;dsimp only));at_builtin;refine Kd.R_append (Kd.int .i64) (w0:=w) w.heap.size rfl (.tmp 35) (.tmp 37) 23 3 (.int .i64 0) 8 rfl Try.underlying23 info3 rfl (by decide) (by omega) u330002 x330002_2 t331 [.int .i64 t331] (fun _=>True) (fun _=>False) rfl rfl ?aP (fun _ hk=>hk.elim) ?aF ?aO ?aB ?aS ?aL ?_;(case aP=>exact rfl);(case aB=>exact bs);(case aF=>exact (fun _ _=>trivial));(case aO=>exact (rz HO_330002.out));(case aS=>exact (below_size bs));(case aL=>have:=LMc25.out;omega);intro v333 w28 ho hb hg hat;rw [← Ny332.out] at ho;have n0_:=Aside0.mk (Kd.R_over' (rz HO_330001.out) (Kd.R_typed (rz HO_330002.out)) (by decide) hg);have n1_:=Aside0.mk (blk_grown (g:=gb320) (o:=.cells #[.int .i64 x321000_2,.slice none 0 0,.slice none 0 0] 29 (0,0)) (kz BK320.out) hg (Kd.R_ne HO_330002.out BK320.out (by decide)));have n2_:=Aside0.mk (blk_grown (g:=gb329) (o:=.cells #[.int .i64 t322,.slice Ao16 t323.length co16,u330002] 29 (0,0)) (kz BK329.out) hg (Kd.R_ne HO_330002.out BK329.out (by decide)));have n3_:=Aside0.mk (hb);have n4_:=Aside0.mk (ho);clear HO_330001 BK320 BK329 HB HO_330002;have HO_330001:=n0_;have BK320:=n1_;have BK329:=n2_;have HB:=n3_;have HO334:=n4_;clear n0_ n1_ n2_ n3_ n4_;clear ho hb hg hat;obtain ⟨Ao29,co29,eo29⟩:=Kd.R_slice HO334.out;subst eo29;have hcz30_0 : w28.cell? ⟨gb329,0,none⟩ = some (.int .i64 t322):=(blk_cell BK329.out 0).trans rfl;have hcz30_1 : w28.cell? ⟨gb329,1,none⟩ = some (.slice Ao16 t323.length co16):=(blk_cell BK329.out 1).trans rfl;have hcz30_2 : w28.cell? ⟨gb329,2,none⟩ = some (u330002):=(blk_cell BK329.out 2).trans rfl;have hfz30_0:=blk_frozen BK329.out 0;have hfz30_1:=blk_frozen BK329.out 1;have hfz30_2:=blk_frozen BK329.out 2))
           go_roundg k2
           case measure=>have:=HJ2.out;have:=HK2.out;omega
           case rel=>exact ⟨(wrap64 (x24_2 + 1)),(x321000_2),(y332),(.slice Ao29 y332.length co29),fz,H',⟨by have:=HJ2.out;have:=HK2.out;omega⟩,⟨by (with_reducible repeat (first|apply Kd.R_alloc|apply Kd.R_drewN|apply Kd.R_drew));exact Kd.R_mono (Kd.R_far (p:=⟨gb329,2,none⟩) (Kd.R_types HO_330001.out BK329.out (by decide)) (fun _ hk=>hk.2) (.slice Ao29 y332.length co29)) (fun _ hk=>trivial)⟩,⟨by (with_reducible repeat (first|apply Kd.R_alloc|apply Kd.R_drewN|apply Kd.R_drew));exact Kd.R_mono (Kd.R_far (p:=⟨gb329,2,none⟩) (Kd.R_types HO334.out BK329.out (by decide)) (fun _ hk=>hk.2) (.slice Ao29 y332.length co29)) (fun _ hk=>trivial)⟩,⟨by (with_reducible repeat (first|refine blk_drewN ?_ _|refine blk_drew ?_|refine blk_alloc ?_ _));refine blk_far ?_ NB320_329.out _;(with_reducible repeat (first|refine blk_drewN ?_ _|refine blk_drew ?_|refine blk_alloc ?_ _));exact BK320.out⟩,⟨by (with_reducible repeat (first|refine blk_drewN ?_ _|refine blk_drew ?_|refine blk_alloc ?_ _));refine blk_put (cs:=#[.int .i64 t322,.slice Ao16 t323.length co16,u330002]) ?_ 2 _ rfl;(with_reducible repeat (first|refine blk_drewN ?_ _|refine blk_drew ?_|refine blk_alloc ?_ _));exact BK329.out⟩,⟨by repeat (first|(with_reducible first|exact HB.out|apply below_alloc|apply pw_below_drewN|apply below_drew1|refine below_set ?_ GE320.out|refine below_set ?_ GE329.out)|exact HB.out)⟩⟩
          ·rw [if_neg c25] at H
           exact absurd H (by simp)
        ·rw [if_neg c20] at H
         exact absurd H (by simp)
       ·rw [if_neg c19] at H
        exact absurd H (by simp)
      ·rw [if_neg c18] at H
       have c18b0 : decide (x24_2 < (l1.length : Int)) = false:=decide_eq_false c18
       clear c18
       replace H:=Option.bind_eq_some_iff.mp H
       obtain ⟨⟨t335,t336,t339⟩,A310,H⟩:=H
       replace H : (some (t335,t336,t339,true)) = some (r1,r2,r3,r4):=H
       have A31:=Aside0.mk A310
       clear A310
       simp only [Option.some.injEq,Prod.mk.injEq] at H
       obtain ⟨rfl,rfl,rfl,rfl⟩:=H
       obtain ⟨Ao32,co32,eo32⟩:=Kd.R_slice HO_330002.out
       subst eo32
       go_wp2_with (first|((with_reducible refine gate_callee (f:=61) rfl ?_);refine goesL_ (some 41) rfl rfl Try.func61 (by kernel_rfl) rfl #[.pointer (some ⟨gb329,0,none⟩)] rfl mz ?_;(with_reducible refine (impl_Plan_trimmed.calls k2 gb329 t322 Ao16 co16 t323 Ao32 co32 x330002_2 t335 t336 t339 _ ?side1 ?side2 ?side3 ?side4 ?side5 A31.out).mono ?_);(case side1=>exact by (with_reducible repeat (first|refine blk_drewN ?_ _|refine blk_drew ?_|refine blk_alloc ?_ _));exact BK329.out);(case side2=>exact cz (Kd.R_reads' HO_330001.out).2.2);(case side3=>exact (Kd.R_reads' HO_330001.out).2.1);(case side4=>exact cz (Kd.R_reads' HO_330002.out).2.2);(case side5=>exact (Kd.R_reads' HO_330002.out).2.1);rintro e w33 ⟨v337,v340,rfl,ho0,ho1,hb⟩;refine ⟨_,rfl,?_⟩;have n0_:=Aside0.mk (Kd.R_elder' (rz HO_330001.out) (Kd.R_base ho0) hb);have n1_:=Aside0.mk (Kd.R_elder' (rz HO_330002.out) (Kd.R_base ho1) hb);have n2_:=Aside0.mk (Kd.R_lower (Kd.R_new' ho0 (Kd.R_lt (rz HO_330001.out))) (below_size bs));have n3_:=Aside0.mk (Kd.R_lower (Kd.R_new' ho1 (Kd.R_lt (rz HO_330002.out))) (below_size bs));have n4_:=Aside0.mk (blk_below (g:=gb320) (o:=.cells #[.int .i64 x321000_2,.slice none 0 0,.slice none 0 0] 29 (0,0)) (kz BK320.out) hb);have n5_:=Aside0.mk (blk_below (g:=gb329) (o:=.cells #[.int .i64 t322,.slice Ao16 t323.length co16,.slice Ao32 x330002_2.length co32] 29 (0,0)) (kz BK329.out) hb);have n6_:=Aside0.mk (below_step bs hb);clear HO_330001 HO_330002 BK320 BK329 HB;have HO_330001:=n0_;have HO_330002:=n1_;have HO338:=n2_;have HO341:=n3_;have BK320:=n4_;have BK329:=n5_;have HB:=n6_;clear n0_ n1_ n2_ n3_ n4_ n5_ n6_;(try clear hb);(try clear ho0);(try clear ho1);have hnb34:=NB320_329.out;have hnc34:=NB329_320.out;have hcz35_0 : w33.cell? ⟨gb320,0,none⟩ = some (.int .i64 x321000_2):=(blk_cell BK320.out 0).trans rfl;have hcz35_1 : w33.cell? ⟨gb320,1,none⟩ = some (.slice none 0 0):=(blk_cell BK320.out 1).trans rfl;have hcz35_2 : w33.cell? ⟨gb320,2,none⟩ = some (.slice none 0 0):=(blk_cell BK320.out 2).trans rfl;have hfz35_0:=blk_frozen BK320.out 0;have hfz35_1:=blk_frozen BK320.out 1;have hfz35_2:=blk_frozen BK320.out 2;obtain ⟨Ao36,co36,eo36⟩:=Kd.R_slice HO338.out;subst eo36;obtain ⟨Ao37,co37,eo37⟩:=Kd.R_slice HO341.out;subst eo37))
       refine bodyPost_ret (results_ct rfl _ _ gb320 29 #[.int .i64 t335,.slice Ao36 t336.length co36,.slice Ao37 t339.length co37] (0,0) _ rfl (by (with_reducible repeat (first|refine blk_drewN ?_ _|refine blk_drew ?_|refine blk_alloc ?_ _));refine blk_put (cs:=#[.int .i64 t335,.slice Ao36 t336.length co36,.slice none 0 0]) ?_ 2 _ rfl;(with_reducible repeat (first|refine blk_drewN ?_ _|refine blk_drew ?_|refine blk_alloc ?_ _));refine blk_put (cs:=#[.int .i64 t335,.slice none 0 0,.slice none 0 0]) ?_ 1 _ rfl;(with_reducible repeat (first|refine blk_drewN ?_ _|refine blk_drew ?_|refine blk_alloc ?_ _));refine blk_put (cs:=#[.int .i64 x321000_2,.slice none 0 0,.slice none 0 0]) ?_ 0 _ rfl;(with_reducible repeat (first|refine blk_drewN ?_ _|refine blk_drew ?_|refine blk_alloc ?_ _));exact BK320.out) Try.underlying29 rfl (by kernel_rfl)) rfl ?_
       exact ⟨_,_,by first|rfl|(simp [errW_none,errW_some] <;> rfl)|(simp [*,errW_none,errW_some] <;> rfl),by (with_reducible repeat (first|apply Kd.R_alloc|apply Kd.R_drewN|apply Kd.R_drew));exact Kd.R_mono (Kd.R_far (p:=⟨gb320,2,none⟩) (Kd.R_far (p:=⟨gb320,1,none⟩) (Kd.R_far (p:=⟨gb320,0,none⟩) (Kd.R_types HO338.out BK320.out (by decide)) (fun _ hk=>hk.2) (.int .i64 t335)) (fun _ hk=>hk.2) (.slice Ao36 t336.length co36)) (fun _ hk=>hk.2) (.slice Ao37 t339.length co37)) (fun _ hk=>trivial),by (with_reducible repeat (first|apply Kd.R_alloc|apply Kd.R_drewN|apply Kd.R_drew));exact Kd.R_mono (Kd.R_far (p:=⟨gb320,2,none⟩) (Kd.R_far (p:=⟨gb320,1,none⟩) (Kd.R_far (p:=⟨gb320,0,none⟩) (Kd.R_types HO341.out BK320.out (by decide)) (fun _ hk=>hk.2) (.int .i64 t335)) (fun _ hk=>hk.2) (.slice Ao36 t336.length co36)) (fun _ hk=>hk.2) (.slice Ao37 t339.length co37)) (fun _ hk=>trivial),by repeat (first|(with_reducible first|exact HB.out|apply below_alloc|apply pw_below_drewN|apply below_drew1|refine below_set ?_ GE320.out|refine below_set ?_ GE329.out)|exact HB.out)⟩
/-! ### laws_big: function 31 -/
def laws_big.f (l0 : List Int) (l1 : List Int) : Option (Bool):=if (l0.length : Int) > 1048576 then (some true) else (some (decide ((l1.length : Int) > (wrap64 (1048576 - (l0.length : Int))))))
set_option maxHeartbeats 8000000 in
set_option maxRecDepth 100000 in
theorem laws_big.calls (A0 : Option Addr) (c0 : Nat) (l0 : List Int) (A1 : Option Addr) (c1 : Nat) (l1 : List Int) (r : Bool) (w : World) (hr0 : Kd.C (Kd.int .u8) w A0 l0.length l0) (hc0 : l0.length ≤ c0) (hr1 : Kd.C (Kd.int .u8) w A1 l1.length l1) (hc1 : l1.length ≤ c1) (h : laws_big.f l0 l1 = some r) :
  Calls Try.prog 31 #[.slice A0 l0.length c0,.slice A1 l1.length c1] w fun e w'=>e = .returned (.bool r) ∧ Drawn0 w w':=by
 have HR0:=Aside0.mk hr0
 have HC0:=Aside0.mk hc0
 clear hr0 hc0
 have HR1:=Aside0.mk hr1
 have HC1:=Aside0.mk hc1
 clear hr1 hc1
 have H : (if (l0.length : Int) > 1048576 then (some true) else (some (decide ((l1.length : Int) > (wrap64 (1048576 - (l0.length : Int))))))) = some r:=h
 clear h
 by_cases c3 : (l0.length : Int) > 1048576
 ·rw [if_pos c3] at H
  have c3b0 : decide (1048576 < (l0.length : Int)) = true:=decide_eq_true c3
  have c3b1 : decide (1048576 < l0.length) = true:=decide_eq_true (by omega)
  clear c3
  obtain rfl:=Option.some.inj H
  go_enter Try.func31,Try.ntmps31
  go_wp2
  go_ret
  exact ⟨by first|rfl|(simp;done)|(simp [*];done),by repeat (first|exact Drawn0.refl _|apply Drawn0.step)⟩
 ·rw [if_neg c3] at H
  have c3b0 : decide (1048576 < (l0.length : Int)) = false:=decide_eq_false c3
  have c3b1 : decide (1048576 < l0.length) = false:=decide_eq_false (by omega)
  clear c3
  obtain rfl:=Option.some.inj H
  go_enter Try.func31,Try.ntmps31
  go_wp2
  go_ret
  exact ⟨by first|rfl|(simp;done)|(simp [*];done),by repeat (first|exact Drawn0.refl _|apply Drawn0.step)⟩
/-- A state of type 84 at block g of W;what its slices lead to came in by w0. -/
def IsS84 (w0 W : World) (g : Nat) (f0 : List Int) (f1 : Int) (f2 : Int) : Prop:=∃ A0 c0,W.heap[g]? = some (.cells #[.slice A0 f0.length c0,.int .i64 f1,.int .u64 f2] 84 (0,0)) ∧ w0.heap.size ≤ g ∧ Kd.C (Kd.int .u8) w0 A0 f0.length f0
theorem IsS84.grown {w0 W : World} {g : Nat} {f0 : List Int} {f1 : Int} {f2 : Int} {W1 : World} {row : Option Nat} (h : IsS84 w0 W g f0 f1 f2) (hw : W.grownBy W1 row) (hne : some g ≠ row) : IsS84 w0 W1 g f0 f1 f2:=by
 obtain ⟨A0,c0,hb,hg,hr0⟩:=h
 exact ⟨A0,c0,blk_grown hb hw hne,hg,hr0⟩
theorem IsS84.own_neN {w0 W : World} {g : Nat} {f0 : List Int} {f1 : Int} {f2 : Int} {α : Type} {d : Kd α} {e : Nat} {base : Nat} {ok : Nat → Prop} {v : Value} {xs : List α} (h : IsS84 w0 W g f0 f1 f2) (ho : Kd.N d e W base ok v xs) (ht : e ≠ 84) : some g ≠ v.ownBlock:=by
 obtain ⟨A0,c0,hb,hg,hr0⟩:=h
 exact Kd.N_ne ho hb ht
theorem IsS84.fresh {w0 W : World} {g : Nat} {f0 : List Int} {f1 : Int} {f2 : Int} (h : IsS84 w0 W g f0 f1 f2) : ∀ k,W.heap.size ≤ k → k ≠ g:=by
 obtain ⟨A0,c0,hb,hg,hr0⟩:=h
 exact Kd.freshB hb
theorem IsS84.kept {w0 W : World} {g : Nat} {f0 : List Int} {f1 : Int} {f2 : Int} {W1 : World} {S : Nat → Prop} (h : IsS84 w0 W g f0 f1 f2) (hk : Kept W W1 S) (hne : ¬ S g) : IsS84 w0 W1 g f0 f1 f2:=by
 obtain ⟨A0,c0,hb,hg,hr0⟩:=h
 exact ⟨A0,c0,blk_kept hb hk hne,hg,hr0⟩
theorem IsS84.below {w0 W : World} {g : Nat} {f0 : List Int} {f1 : Int} {f2 : Int} {W1 : World} (h : IsS84 w0 W g f0 f1 f2) (hw : Below W.heap.size W W1) : IsS84 w0 W1 g f0 f1 f2:=h.grown (grown_of_below hw none) (by simp)
theorem IsS84.alloc {w0 W : World} {g : Nat} {f0 : List Int} {f1 : Int} {f2 : Int} (h : IsS84 w0 W g f0 f1 f2) (o : Obj) : IsS84 w0 (W.alloc o) g f0 f1 f2:=h.below (below_alloc (Below.refl _ _) o)
theorem IsS84.drewN {w0 W : World} {g : Nat} {f0 : List Int} {f1 : Int} {f2 : Int} (h : IsS84 w0 W g f0 f1 f2) (m : Nat) : IsS84 w0 (W.drewN m) g f0 f1 f2:=h
theorem IsS84.drew {w0 W : World} {g : Nat} {f0 : List Int} {f1 : Int} {f2 : Int} (h : IsS84 w0 W g f0 f1 f2) : IsS84 w0 W.drew g f0 f1 f2:=h
theorem IsS84.at_ {w0 W : World} {g : Nat} {f0 : List Int} {f1 : Int} {f2 : Int} {w' : World} {m : Nat} (hq : W.drewN m = w') (h : IsS84 w0 W g f0 f1 f2) : IsS84 w0 w' g f0 f1 f2:=by subst hq;exact IsS84.drewN h m
theorem IsS84.apart {w0 W : World} {g : Nat} {f0 : List Int} {f1 : Int} {f2 : Int} {α : Type} {d : Kd α} {e : Nat} {base : Nat} {ok : Nat → Prop} {v : Value} {xs : List α} (h : IsS84 w0 W g f0 f1 f2) (ho : d.R e W base ok v xs) (ht : ∀ q,q ∈ e :: d.E → q ≠ 84) : d.R e W base (fun k=>ok k ∧ k ≠ g) v xs:=by
 obtain ⟨A0,c0,hb,hg,hr0⟩:=h
 exact Kd.R_types ho hb ht
theorem IsS84.own_ne {w0 W : World} {g : Nat} {f0 : List Int} {f1 : Int} {f2 : Int} {α : Type} {d : Kd α} {e : Nat} {base : Nat} {ok : Nat → Prop} {v : Value} {xs : List α} (h : IsS84 w0 W g f0 f1 f2) (ho : d.R e W base ok v xs) (ht : e ≠ 84) : some g ≠ v.ownBlock:=by
 obtain ⟨A0,c0,hb,hg,hr0⟩:=h
 exact Kd.R_ne ho hb ht
theorem IsS84.apartQ {w0 W : World} {g : Nat} {f0 : List Int} {f1 : Int} {f2 : Int} {α : Type} {d : Kd α} {e : Nat} {base : Nat} {ok : Nat → Prop} {v : Value} {xs : List α} (h : IsS84 w0 W g f0 f1 f2) (ho : d.Q e W base ok v xs) (ht : ∀ q,q ∈ e :: d.E → q ≠ 84) : d.Q e W base (fun k=>ok k ∧ k ≠ g) v xs:=by
 obtain ⟨A0,c0,hb,hg,hr0⟩:=h
 exact Kd.Q_types ho hb ht
theorem IsS84.own_neQ {w0 W : World} {g : Nat} {f0 : List Int} {f1 : Int} {f2 : Int} {α : Type} {d : Kd α} {e : Nat} {base : Nat} {ok : Nat → Prop} {v : Value} {xs : List α} (h : IsS84 w0 W g f0 f1 f2) (ho : d.Q e W base ok v xs) (ht : e ≠ 84) : some g ≠ v.ownBlock:=by
 obtain ⟨A0,c0,hb,hg,hr0⟩:=h
 exact Kd.Q_ne ho hb ht
theorem IsS84.apartS {w0 W : World} {g : Nat} {f0 : List Int} {f1 : Int} {f2 : Int} {α : Type} {d : Kd α} {e : Nat} {base : Nat} {ok : Nat → Prop} {v : Value} {xs : List α} (h : IsS84 w0 W g f0 f1 f2) (ho : d.S e W base ok v xs) (ht : ∀ q,q ∈ e :: d.E → q ≠ 84) : d.S e W base (fun k=>ok k ∧ k ≠ g) v xs:=by
 obtain ⟨A0,c0,hb,hg,hr0⟩:=h
 exact Kd.S_types ho hb ht
theorem IsS84.own_neS {w0 W : World} {g : Nat} {f0 : List Int} {f1 : Int} {f2 : Int} {α : Type} {d : Kd α} {e : Nat} {base : Nat} {ok : Nat → Prop} {v : Value} {xs : List α} (h : IsS84 w0 W g f0 f1 f2) (ho : d.S e W base ok v xs) (ht : e ≠ 84) : some g ≠ v.ownBlock:=by
 obtain ⟨A0,c0,hb,hg,hr0⟩:=h
 exact Kd.S_ne ho hb ht
theorem IsS84.lt {w0 W : World} {g : Nat} {f0 : List Int} {f1 : Int} {f2 : Int} (h : IsS84 w0 W g f0 f1 f2) : g < W.heap.size:=by
 obtain ⟨A0,c0,hb,hg,hr0⟩:=h
 exact blk_lt hb
theorem IsS84.ge {w0 W : World} {g : Nat} {f0 : List Int} {f1 : Int} {f2 : Int} (h : IsS84 w0 W g f0 f1 f2) : w0.heap.size ≤ g:=by
 obtain ⟨A0,c0,hb,hg,hr0⟩:=h
 exact hg
theorem IsS84.ne_blk {w0 W : World} {g : Nat} {f0 : List Int} {f1 : Int} {f2 : Int} {a : Nat} {cs : Array Value} {t : TypeId} {fr : Nat × Nat} (h : IsS84 w0 W g f0 f1 f2) (hb2 : W.heap[a]? = some (.cells cs t fr)) (ht : t ≠ 84) : g ≠ a:=by
 obtain ⟨A0,c0,hb,hg,hr0⟩:=h
 rintro rfl
 rw [hb] at hb2
 injection hb2 with hb2
 injection hb2 with _ ht2
 exact ht ht2.symm
theorem IsS84.far {w0 W : World} {g : Nat} {f0 : List Int} {f1 : Int} {f2 : Int} {p : Addr} (h : IsS84 w0 W g f0 f1 f2) (hne : g ≠ p.block) (u : Value) : IsS84 w0 (W.setCell p u) g f0 f1 f2:=by
 obtain ⟨A0,c0,hb,hg,hr0⟩:=h
 exact ⟨A0,c0,blk_far hb hne u,hg,hr0⟩
theorem cellS84_0 {W : World} {g : Nat} {A0 : Option Addr} {c0 : Nat} {f0 : List Int} {f1 : Int} {f2 : Int} (h : W.heap[g]? = some (.cells #[.slice A0 f0.length c0,.int .i64 f1,.int .u64 f2] 84 (0,0))) : W.cell? ⟨g,0,none⟩ = some (.slice A0 f0.length c0):=(blk_cell h 0).trans rfl
theorem cellS84_1 {W : World} {g : Nat} {A0 : Option Addr} {c0 : Nat} {f0 : List Int} {f1 : Int} {f2 : Int} (h : W.heap[g]? = some (.cells #[.slice A0 f0.length c0,.int .i64 f1,.int .u64 f2] 84 (0,0))) : W.cell? ⟨g,1,none⟩ = some (.int .i64 f1):=(blk_cell h 1).trans rfl
theorem IsS84.set_1 {w0 W : World} {g : Nat} {f0 : List Int} {f1 : Int} {f2 : Int} (h : IsS84 w0 W g f0 f1 f2) (x : Int) : IsS84 w0 (W.setCell ⟨g,1,none⟩ (.int .i64 x)) g f0 x f2:=by
 obtain ⟨A0,c0,hb,hg,hr0⟩:=h
 exact ⟨A0,c0,by simpa using blk_set hb 1 (.int .i64 x),hg,hr0⟩
theorem cellS84_2 {W : World} {g : Nat} {A0 : Option Addr} {c0 : Nat} {f0 : List Int} {f1 : Int} {f2 : Int} (h : W.heap[g]? = some (.cells #[.slice A0 f0.length c0,.int .i64 f1,.int .u64 f2] 84 (0,0))) : W.cell? ⟨g,2,none⟩ = some (.int .u64 f2):=(blk_cell h 2).trans rfl
theorem IsS84.set_2 {w0 W : World} {g : Nat} {f0 : List Int} {f1 : Int} {f2 : Int} (h : IsS84 w0 W g f0 f1 f2) (x : Int) : IsS84 w0 (W.setCell ⟨g,2,none⟩ (.int .u64 x)) g f0 f1 x:=by
 obtain ⟨A0,c0,hb,hg,hr0⟩:=h
 exact ⟨A0,c0,by simpa using blk_set hb 2 (.int .u64 x),hg,hr0⟩
theorem IsS84.new (w0 W : World) (A0 : Option Addr) (c0 : Nat) (f0 : List Int) (f1 : Int) (f2 : Int) (hB : Below w0.heap.size w0 W) (hr0 : Kd.C (Kd.int .u8) w0 A0 f0.length f0) : IsS84 w0 (W.alloc (.cells #[.slice A0 f0.length c0,.int .i64 f1,.int .u64 f2] 84)) W.heap.size f0 f1 f2:=⟨A0,c0,by simpa using heap_alloc_new W _,hB.size,hr0⟩
/-! ### spec_l1Cur_next: function 116 -/
def spec_l1Cur_next.f (s0_0 : List Int) (s0_1 : Int) (s0_2 : Int) : Option (Int × Int × Int):=if s0_1 < (s0_0.length : Int) then (if 0 ≤ s0_1 then (if (wrap64 (s0_1 + 1)) ≤ (s0_0.length : Int) then (some (wrap64 (rd s0_0 s0_1),wrap64 (s0_1 + 1),IntKind.u64.wrap ((IntKind.u64.wrap ((IntKind.u64.wrap (s0_2 * 6364136223846793005)) + (IntKind.u64.wrap (wrap64 (rd s0_0 s0_1))))) + 1442695040888963407))) else (some (wrap64 (Go.bits .and .u64 ((IntKind.u64.wrap ((IntKind.u64.wrap ((IntKind.u64.wrap (s0_2 * 6364136223846793005)) + (IntKind.u64.wrap (wrap64 (rd s0_0 s0_1))))) + 1442695040888963407)) / 1099511627776) 255),wrap64 (s0_1 + 1),IntKind.u64.wrap ((IntKind.u64.wrap ((IntKind.u64.wrap (s0_2 * 6364136223846793005)) + (IntKind.u64.wrap (wrap64 (rd s0_0 s0_1))))) + 1442695040888963407)))) else (none)) else (if (wrap64 (s0_1 + 1)) ≤ (s0_0.length : Int) then (some (0,wrap64 (s0_1 + 1),IntKind.u64.wrap ((IntKind.u64.wrap ((IntKind.u64.wrap (s0_2 * 6364136223846793005)))) + 1442695040888963407))) else (some (wrap64 (Go.bits .and .u64 ((IntKind.u64.wrap ((IntKind.u64.wrap ((IntKind.u64.wrap (s0_2 * 6364136223846793005)))) + 1442695040888963407)) / 1099511627776) 255),wrap64 (s0_1 + 1),IntKind.u64.wrap ((IntKind.u64.wrap ((IntKind.u64.wrap (s0_2 * 6364136223846793005)))) + 1442695040888963407))))
set_option maxHeartbeats 8000000 in
set_option maxRecDepth 100000 in
theorem spec_l1Cur_next.calls (g : Nat) (s0_0 : List Int) (s0_1 : Int) (s0_2 : Int) (r1 : Int) (r2 : Int) (r3 : Int) (w0 w : World) (hI : IsS84 w0 w g s0_0 s0_1 s0_2) (hB : Below w0.heap.size w0 w) (h : spec_l1Cur_next.f s0_0 s0_1 s0_2 = some (r1,r2,r3)) :
  Calls Try.prog 116 #[.pointer (some ⟨g,0,none⟩)] w fun e w'=>e = .returned (.int .i64 r1) ∧ IsS84 w0 w' g s0_0 r2 r3 ∧ Below w0.heap.size w0 w' ∧ KeepBut w w' g none:=by
 have HI0:=Aside0.mk hI
 have HK:=Aside0.mk (KeepBut.refl w g none)
 have HL:=Aside0.mk hB.size
 clear hI
 have HW0:=Aside0.mk hB.size
 have HB:=Aside0.mk hB
 clear hB
 have H : (if s0_1 < (s0_0.length : Int) then (if 0 ≤ s0_1 then (if (wrap64 (s0_1 + 1)) ≤ (s0_0.length : Int) then (some (wrap64 (rd s0_0 s0_1),wrap64 (s0_1 + 1),IntKind.u64.wrap ((IntKind.u64.wrap ((IntKind.u64.wrap (s0_2 * 6364136223846793005)) + (IntKind.u64.wrap (wrap64 (rd s0_0 s0_1))))) + 1442695040888963407))) else (some (wrap64 (Go.bits .and .u64 ((IntKind.u64.wrap ((IntKind.u64.wrap ((IntKind.u64.wrap (s0_2 * 6364136223846793005)) + (IntKind.u64.wrap (wrap64 (rd s0_0 s0_1))))) + 1442695040888963407)) / 1099511627776) 255),wrap64 (s0_1 + 1),IntKind.u64.wrap ((IntKind.u64.wrap ((IntKind.u64.wrap (s0_2 * 6364136223846793005)) + (IntKind.u64.wrap (wrap64 (rd s0_0 s0_1))))) + 1442695040888963407)))) else (none)) else (if (wrap64 (s0_1 + 1)) ≤ (s0_0.length : Int) then (some (0,wrap64 (s0_1 + 1),IntKind.u64.wrap ((IntKind.u64.wrap ((IntKind.u64.wrap (s0_2 * 6364136223846793005)))) + 1442695040888963407))) else (some (wrap64 (Go.bits .and .u64 ((IntKind.u64.wrap ((IntKind.u64.wrap ((IntKind.u64.wrap (s0_2 * 6364136223846793005)))) + 1442695040888963407)) / 1099511627776) 255),wrap64 (s0_1 + 1),IntKind.u64.wrap ((IntKind.u64.wrap ((IntKind.u64.wrap (s0_2 * 6364136223846793005)))) + 1442695040888963407))))) = some (r1,r2,r3):=h
 clear h
 by_cases c2 : s0_1 < (s0_0.length : Int)
 ·rw [if_pos c2] at H
  have c2b0 : decide (s0_1 < (s0_0.length : Int)) = true:=decide_eq_true c2
  clear c2
  by_cases c3 : 0 ≤ s0_1
  ·rw [if_pos c3] at H
   have c3b0 : decide (0 ≤ s0_1) = true:=decide_eq_true c3
   clear c3
   by_cases c4 : (wrap64 (s0_1 + 1)) ≤ (s0_0.length : Int)
   ·rw [if_pos c4] at H
    have c4b0 : decide ((wrap64 (s0_1 + 1)) ≤ (s0_0.length : Int)) = true:=decide_eq_true c4
    clear c4
    simp only [Option.some.injEq,Prod.mk.injEq] at H
    obtain ⟨rfl,rfl,rfl⟩:=H
    obtain ⟨ASz5_0,cSz5_0,HGz5,hgz5,HSz5_0⟩:=HI0.out
    have hcz5_0:=cellS84_0 HGz5
    have hcz5_1:=cellS84_1 HGz5
    have hcz5_2:=cellS84_2 HGz5
    have hfz5_1:=blk_frozen HGz5 1
    have hfz5_2:=blk_frozen HGz5 2
    clear HGz5 hgz5
    have p342 : 0 ≤ (s0_1 : Int):=of_decide_eq_true az
    have q342 : s0_1 < (s0_0.length : Int):=of_decide_eq_true az
    obtain ⟨ad342,e342,hx342_0⟩:=Kd.at_int HSz5_0 s0_1 p342 q342
    cases e342
    replace hx342_0:=pw_cell_below HB.out hx342_0
    replace p342:=eq_true p342
    replace q342:=eq_true q342
    go_enter Try.func116,Try.ntmps116
    go_wp2
    repeat (go_quiet (fail);try go_wp2)
    go_ret
    exact ⟨by first|rfl|(simp [errW_none,errW_some] <;> rfl)|(simp [*,errW_none,errW_some] <;> rfl),by repeat (first|(with_reducible first|exact HI0.out|apply IsS84.alloc|apply IsS84.drewN|apply IsS84.drew|apply IsS84.set_1|apply IsS84.set_2)|exact HI0.out),by repeat (first|(with_reducible first|exact HB.out|apply below_alloc|apply pw_below_drewN|apply below_drew1|refine below_set ?_ (IsS84.ge HI0.out))|exact HB.out),by repeat (first|(with_reducible first|exact HK.out|apply KeepBut.set_|apply keep_drewN|apply keep_drew|apply keep_alloc)|exact HK.out)⟩
   ·rw [if_neg c4] at H
    have c4b0 : decide ((wrap64 (s0_1 + 1)) ≤ (s0_0.length : Int)) = false:=decide_eq_false c4
    clear c4
    simp only [Option.some.injEq,Prod.mk.injEq] at H
    obtain ⟨rfl,rfl,rfl⟩:=H
    obtain ⟨ASz6_0,cSz6_0,HGz6,hgz6,HSz6_0⟩:=HI0.out
    have hcz6_0:=cellS84_0 HGz6
    have hcz6_1:=cellS84_1 HGz6
    have hcz6_2:=cellS84_2 HGz6
    have hfz6_1:=blk_frozen HGz6 1
    have hfz6_2:=blk_frozen HGz6 2
    clear HGz6 hgz6
    (try (have p342yz5 : 0 ≤ (s0_1 : Int):=of_decide_eq_true az;have q342yz5 : s0_1 < (s0_0.length : Int):=of_decide_eq_true az;obtain ⟨ad342yz5,e342yz5,hx342yz5_0⟩:=Kd.at_int HSz5_0 s0_1 p342yz5 q342yz5;cases e342yz5;replace hx342yz5_0:=pw_cell_below HB.out hx342yz5_0;clear p342yz5 q342yz5))
    have p342 : 0 ≤ (s0_1 : Int):=of_decide_eq_true az
    have q342 : s0_1 < (s0_0.length : Int):=of_decide_eq_true az
    obtain ⟨ad342,e342,hx342_0⟩:=Kd.at_int HSz6_0 s0_1 p342 q342
    cases e342
    replace hx342_0:=pw_cell_below HB.out hx342_0
    replace p342:=eq_true p342
    replace q342:=eq_true q342
    go_enter Try.func116,Try.ntmps116
    go_wp2
    repeat (go_quiet (fail);try go_wp2)
    go_ret
    exact ⟨by first|rfl|(simp [errW_none,errW_some] <;> rfl)|(simp [*,errW_none,errW_some] <;> rfl),by repeat (first|(with_reducible first|exact HI0.out|apply IsS84.alloc|apply IsS84.drewN|apply IsS84.drew|apply IsS84.set_1|apply IsS84.set_2)|exact HI0.out),by repeat (first|(with_reducible first|exact HB.out|apply below_alloc|apply pw_below_drewN|apply below_drew1|refine below_set ?_ (IsS84.ge HI0.out))|exact HB.out),by repeat (first|(with_reducible first|exact HK.out|apply KeepBut.set_|apply keep_drewN|apply keep_drew|apply keep_alloc)|exact HK.out)⟩
  ·rw [if_neg c3] at H
   exact absurd H (by simp)
 ·rw [if_neg c2] at H
  have c2b0 : decide (s0_1 < (s0_0.length : Int)) = false:=decide_eq_false c2
  clear c2
  by_cases c7 : (wrap64 (s0_1 + 1)) ≤ (s0_0.length : Int)
  ·rw [if_pos c7] at H
   have c7b0 : decide ((wrap64 (s0_1 + 1)) ≤ (s0_0.length : Int)) = true:=decide_eq_true c7
   clear c7
   simp only [Option.some.injEq,Prod.mk.injEq] at H
   obtain ⟨rfl,rfl,rfl⟩:=H
   obtain ⟨ASz8_0,cSz8_0,HGz8,hgz8,HSz8_0⟩:=HI0.out
   have hcz8_0:=cellS84_0 HGz8
   have hcz8_1:=cellS84_1 HGz8
   have hcz8_2:=cellS84_2 HGz8
   have hfz8_1:=blk_frozen HGz8 1
   have hfz8_2:=blk_frozen HGz8 2
   clear HGz8 hgz8
   go_enter Try.func116,Try.ntmps116
   go_wp2
   repeat (go_quiet (fail);try go_wp2)
   go_ret
   exact ⟨by first|rfl|(simp [errW_none,errW_some] <;> rfl)|(simp [*,errW_none,errW_some] <;> rfl),by repeat (first|(with_reducible first|exact HI0.out|apply IsS84.alloc|apply IsS84.drewN|apply IsS84.drew|apply IsS84.set_1|apply IsS84.set_2)|exact HI0.out),by repeat (first|(with_reducible first|exact HB.out|apply below_alloc|apply pw_below_drewN|apply below_drew1|refine below_set ?_ (IsS84.ge HI0.out))|exact HB.out),by repeat (first|(with_reducible first|exact HK.out|apply KeepBut.set_|apply keep_drewN|apply keep_drew|apply keep_alloc)|exact HK.out)⟩
  ·rw [if_neg c7] at H
   have c7b0 : decide ((wrap64 (s0_1 + 1)) ≤ (s0_0.length : Int)) = false:=decide_eq_false c7
   clear c7
   simp only [Option.some.injEq,Prod.mk.injEq] at H
   obtain ⟨rfl,rfl,rfl⟩:=H
   obtain ⟨ASz9_0,cSz9_0,HGz9,hgz9,HSz9_0⟩:=HI0.out
   have hcz9_0:=cellS84_0 HGz9
   have hcz9_1:=cellS84_1 HGz9
   have hcz9_2:=cellS84_2 HGz9
   have hfz9_1:=blk_frozen HGz9 1
   have hfz9_2:=blk_frozen HGz9 2
   clear HGz9 hgz9
   go_enter Try.func116,Try.ntmps116
   go_wp2
   repeat (go_quiet (fail);try go_wp2)
   go_ret
   exact ⟨by first|rfl|(simp [errW_none,errW_some] <;> rfl)|(simp [*,errW_none,errW_some] <;> rfl),by repeat (first|(with_reducible first|exact HI0.out|apply IsS84.alloc|apply IsS84.drewN|apply IsS84.drew|apply IsS84.set_1|apply IsS84.set_2)|exact HI0.out),by repeat (first|(with_reducible first|exact HB.out|apply below_alloc|apply pw_below_drewN|apply below_drew1|refine below_set ?_ (IsS84.ge HI0.out))|exact HB.out),by repeat (first|(with_reducible first|exact HK.out|apply KeepBut.set_|apply keep_drewN|apply keep_drew|apply keep_alloc)|exact HK.out)⟩
/-! ### spec_l1Cur_pick: function 74 -/
def spec_l1Cur_pick.f (s0_0 : List Int) (s0_1 : Int) (s0_2 : Int) (a1 : Int) : Option (Int × Int × Int):=if a1 ≤ 1 then (some (0,s0_1,s0_2)) else ((spec_l1Cur_next.f s0_0 s0_1 s0_2).bind fun bt343=>(if a1 > 200 then ((spec_l1Cur_next.f s0_0 bt343.2.1 bt343.2.2).bind fun bt346=>(if a1 = 0 then (none) else (some (Int.tmod (wrap64 ((wrap64 (bt343.1 * 256)) + bt346.1)) a1,bt346.2.1,bt346.2.2)))) else (if a1 = 0 then (none) else (some (Int.tmod bt343.1 a1,bt343.2.1,bt343.2.2)))))
set_option maxHeartbeats 8000000 in
set_option maxRecDepth 100000 in
theorem spec_l1Cur_pick.calls (g : Nat) (s0_0 : List Int) (s0_1 : Int) (s0_2 : Int) (a1 : Int) (r1 : Int) (r2 : Int) (r3 : Int) (w0 w : World) (hI : IsS84 w0 w g s0_0 s0_1 s0_2) (hB : Below w0.heap.size w0 w) (h : spec_l1Cur_pick.f s0_0 s0_1 s0_2 a1 = some (r1,r2,r3)) :
  Calls Try.prog 74 #[.pointer (some ⟨g,0,none⟩),.int .i64 a1] w fun e w'=>e = .returned (.int .i64 r1) ∧ IsS84 w0 w' g s0_0 r2 r3 ∧ Below w0.heap.size w0 w' ∧ KeepBut w w' g none:=by
 have HI0:=Aside0.mk hI
 have HK:=Aside0.mk (KeepBut.refl w g none)
 have HL:=Aside0.mk hB.size
 clear hI
 have HW0:=Aside0.mk hB.size
 have HB:=Aside0.mk hB
 clear hB
 have H : (if a1 ≤ 1 then (some (0,s0_1,s0_2)) else ((spec_l1Cur_next.f s0_0 s0_1 s0_2).bind fun bt343=>(if a1 > 200 then ((spec_l1Cur_next.f s0_0 bt343.2.1 bt343.2.2).bind fun bt346=>(if a1 = 0 then (none) else (some (Int.tmod (wrap64 ((wrap64 (bt343.1 * 256)) + bt346.1)) a1,bt346.2.1,bt346.2.2)))) else (if a1 = 0 then (none) else (some (Int.tmod bt343.1 a1,bt343.2.1,bt343.2.2)))))) = some (r1,r2,r3):=h
 clear h
 by_cases c3 : a1 ≤ 1
 ·rw [if_pos c3] at H
  have c3b0 : decide (a1 ≤ 1) = true:=decide_eq_true c3
  clear c3
  simp only [Option.some.injEq,Prod.mk.injEq] at H
  obtain ⟨rfl,rfl,rfl⟩:=H
  go_enter Try.func74,Try.ntmps74
  go_wp2
  go_ret
  exact ⟨by first|rfl|(simp [errW_none,errW_some] <;> rfl)|(simp [*,errW_none,errW_some] <;> rfl),by repeat (first|(with_reducible first|exact HI0.out|apply IsS84.alloc|apply IsS84.drewN|apply IsS84.drew|apply IsS84.set_1|apply IsS84.set_2)|exact HI0.out),by repeat (first|(with_reducible first|exact HB.out|apply below_alloc|apply pw_below_drewN|apply below_drew1|refine below_set ?_ (IsS84.ge HI0.out))|exact HB.out),by repeat (first|(with_reducible first|exact HK.out|apply KeepBut.set_|apply keep_drewN|apply keep_drew|apply keep_alloc)|exact HK.out)⟩
 ·rw [if_neg c3] at H
  have c3b0 : decide (a1 ≤ 1) = false:=decide_eq_false c3
  clear c3
  replace H:=Option.bind_eq_some_iff.mp H
  obtain ⟨⟨t343,t344,t345⟩,A40,H⟩:=H
  replace H : (if a1 > 200 then ((spec_l1Cur_next.f s0_0 t344 t345).bind fun bt346=>(if a1 = 0 then (none) else (some (Int.tmod (wrap64 ((wrap64 (t343 * 256)) + bt346.1)) a1,bt346.2.1,bt346.2.2)))) else (if a1 = 0 then (none) else (some (Int.tmod t343 a1,t344,t345)))) = some (r1,r2,r3):=H
  have A4:=Aside0.mk A40
  clear A40
  by_cases c5 : a1 > 200
  ·rw [if_pos c5] at H
   have c5b0 : decide (200 < a1) = true:=decide_eq_true c5
   clear c5
   replace H:=Option.bind_eq_some_iff.mp H
   obtain ⟨⟨t346,t347,t348⟩,A60,H⟩:=H
   replace H : (if a1 = 0 then (none) else (some (Int.tmod (wrap64 ((wrap64 (t343 * 256)) + t346)) a1,t347,t348))) = some (r1,r2,r3):=H
   have A6:=Aside0.mk A60
   clear A60
   by_cases c7 : a1 = 0
   ·rw [if_pos c7] at H
    exact absurd H (by simp)
   ·rw [if_neg c7] at H
    have c7b0 : (a1 == 0) = false:=beq_eq_false_iff_ne.mpr c7
    have c7b1 : (a1 != 0) = true:=bne_iff_ne.mpr c7
    simp only [Option.some.injEq,Prod.mk.injEq] at H
    obtain ⟨rfl,rfl,rfl⟩:=H
    go_enter Try.func74,Try.ntmps74
    go_wp2_with (first|((with_reducible refine gate_callee (f:=116) rfl ?_);refine goesL_ (some 9) rfl rfl Try.func116 (by kernel_rfl) rfl #[.pointer (some ⟨g,0,none⟩)] rfl mz ?_;(with_reducible refine (spec_l1Cur_next.calls g s0_0 s0_1 s0_2 t343 t344 t345 w0 _ ?side1 ?side2 A4.out).mono ?_);(case side1=>repeat (first|(with_reducible first|exact HI0.out|apply IsS84.alloc|apply IsS84.drewN|apply IsS84.drew|apply IsS84.set_1|apply IsS84.set_2)|exact HI0.out));(case side2=>repeat (first|(with_reducible first|exact HB.out|apply below_alloc|apply pw_below_drewN|apply below_drew1|refine below_set ?_ (IsS84.ge HI0.out))|exact HB.out));rintro e w8 ⟨rfl,hi,hb,hk⟩;refine ⟨_,rfl,?_⟩;have n0_:=Aside0.mk (KeepBut.trans (by repeat (first|(with_reducible first|exact HK.out|apply KeepBut.set_|apply keep_drewN|apply keep_drew|apply keep_alloc)|exact HK.out)) hk (.inl rfl));have n1_:=Aside0.mk (hb);have n2_:=Aside0.mk (hi);clear HK HB HI0;have HK:=n0_;have HB:=n1_;have HI0:=n2_;clear n0_ n1_ n2_;(try clear hb);(try clear hb2);(try clear hk);(try clear hi))|((with_reducible refine gate_callee (f:=116) rfl ?_);refine goesL_ (some 15) rfl rfl Try.func116 (by kernel_rfl) rfl #[.pointer (some ⟨g,0,none⟩)] rfl mz ?_;(with_reducible refine (spec_l1Cur_next.calls g s0_0 t344 t345 t346 t347 t348 w0 _ ?side1 ?side2 A6.out).mono ?_);(case side1=>repeat (first|(with_reducible first|exact HI0.out|apply IsS84.alloc|apply IsS84.drewN|apply IsS84.drew|apply IsS84.set_1|apply IsS84.set_2)|exact HI0.out));(case side2=>repeat (first|(with_reducible first|exact HB.out|apply below_alloc|apply pw_below_drewN|apply below_drew1|refine below_set ?_ (IsS84.ge HI0.out))|exact HB.out));rintro e w9 ⟨rfl,hi,hb,hk⟩;refine ⟨_,rfl,?_⟩;have n0_:=Aside0.mk (KeepBut.trans (by repeat (first|(with_reducible first|exact HK.out|apply KeepBut.set_|apply keep_drewN|apply keep_drew|apply keep_alloc)|exact HK.out)) hk (.inl rfl));have n1_:=Aside0.mk (hb);have n2_:=Aside0.mk (hi);clear HK HB HI0;have HK:=n0_;have HB:=n1_;have HI0:=n2_;clear n0_ n1_ n2_;(try clear hb);(try clear hb2);(try clear hk);(try clear hi)))
    go_ret
    exact ⟨by first|rfl|(simp [errW_none,errW_some] <;> rfl)|(simp [*,errW_none,errW_some] <;> rfl),by repeat (first|(with_reducible first|exact HI0.out|apply IsS84.alloc|apply IsS84.drewN|apply IsS84.drew|apply IsS84.set_1|apply IsS84.set_2)|exact HI0.out),by repeat (first|(with_reducible first|exact HB.out|apply below_alloc|apply pw_below_drewN|apply below_drew1|refine below_set ?_ (IsS84.ge HI0.out))|exact HB.out),by repeat (first|(with_reducible first|exact HK.out|apply KeepBut.set_|apply keep_drewN|apply keep_drew|apply keep_alloc)|exact HK.out)⟩
  ·rw [if_neg c5] at H
   have c5b0 : decide (200 < a1) = false:=decide_eq_false c5
   clear c5
   by_cases c10 : a1 = 0
   ·rw [if_pos c10] at H
    exact absurd H (by simp)
   ·rw [if_neg c10] at H
    have c10b0 : (a1 == 0) = false:=beq_eq_false_iff_ne.mpr c10
    have c10b1 : (a1 != 0) = true:=bne_iff_ne.mpr c10
    simp only [Option.some.injEq,Prod.mk.injEq] at H
    obtain ⟨rfl,rfl,rfl⟩:=H
    go_enter Try.func74,Try.ntmps74
    go_wp2_with (first|((with_reducible refine gate_callee (f:=116) rfl ?_);refine goesL_ (some 9) rfl rfl Try.func116 (by kernel_rfl) rfl #[.pointer (some ⟨g,0,none⟩)] rfl mz ?_;(with_reducible refine (spec_l1Cur_next.calls g s0_0 s0_1 s0_2 t343 t344 t345 w0 _ ?side1 ?side2 A4.out).mono ?_);(case side1=>repeat (first|(with_reducible first|exact HI0.out|apply IsS84.alloc|apply IsS84.drewN|apply IsS84.drew|apply IsS84.set_1|apply IsS84.set_2)|exact HI0.out));(case side2=>repeat (first|(with_reducible first|exact HB.out|apply below_alloc|apply pw_below_drewN|apply below_drew1|refine below_set ?_ (IsS84.ge HI0.out))|exact HB.out));rintro e w11 ⟨rfl,hi,hb,hk⟩;refine ⟨_,rfl,?_⟩;have n0_:=Aside0.mk (KeepBut.trans (by repeat (first|(with_reducible first|exact HK.out|apply KeepBut.set_|apply keep_drewN|apply keep_drew|apply keep_alloc)|exact HK.out)) hk (.inl rfl));have n1_:=Aside0.mk (hb);have n2_:=Aside0.mk (hi);clear HK HB HI0;have HK:=n0_;have HB:=n1_;have HI0:=n2_;clear n0_ n1_ n2_;(try clear hb);(try clear hb2);(try clear hk);(try clear hi)))
    go_ret
    exact ⟨by first|rfl|(simp [errW_none,errW_some] <;> rfl)|(simp [*,errW_none,errW_some] <;> rfl),by repeat (first|(with_reducible first|exact HI0.out|apply IsS84.alloc|apply IsS84.drewN|apply IsS84.drew|apply IsS84.set_1|apply IsS84.set_2)|exact HI0.out),by repeat (first|(with_reducible first|exact HB.out|apply below_alloc|apply pw_below_drewN|apply below_drew1|refine below_set ?_ (IsS84.ge HI0.out))|exact HB.out),by repeat (first|(with_reducible first|exact HK.out|apply KeepBut.set_|apply keep_drewN|apply keep_drew|apply keep_alloc)|exact HK.out)⟩
/-! ### spec_l1Cur_one: function 75 -/
def spec_l1Cur_one.f (s0_0 : List Int) (s0_1 : Int) (s0_2 : Int) (a1 : Int) : Option (Bool × Int × Int):=(spec_l1Cur_pick.f s0_0 s0_1 s0_2 a1).bind fun bt349=>(some ((bt349.1 == 0),bt349.2.1,bt349.2.2))
set_option maxHeartbeats 8000000 in
set_option maxRecDepth 100000 in
theorem spec_l1Cur_one.calls (g : Nat) (s0_0 : List Int) (s0_1 : Int) (s0_2 : Int) (a1 : Int) (r1 : Bool) (r2 : Int) (r3 : Int) (w0 w : World) (hI : IsS84 w0 w g s0_0 s0_1 s0_2) (hB : Below w0.heap.size w0 w) (h : spec_l1Cur_one.f s0_0 s0_1 s0_2 a1 = some (r1,r2,r3)) :
  Calls Try.prog 75 #[.pointer (some ⟨g,0,none⟩),.int .i64 a1] w fun e w'=>e = .returned (.bool r1) ∧ IsS84 w0 w' g s0_0 r2 r3 ∧ Below w0.heap.size w0 w' ∧ KeepBut w w' g none:=by
 have HI0:=Aside0.mk hI
 have HK:=Aside0.mk (KeepBut.refl w g none)
 have HL:=Aside0.mk hB.size
 clear hI
 have HW0:=Aside0.mk hB.size
 have HB:=Aside0.mk hB
 clear hB
 have H : ((spec_l1Cur_pick.f s0_0 s0_1 s0_2 a1).bind fun bt349=>(some ((bt349.1 == 0),bt349.2.1,bt349.2.2))) = some (r1,r2,r3):=h
 clear h
 replace H:=Option.bind_eq_some_iff.mp H
 obtain ⟨⟨t349,t350,t351⟩,A30,H⟩:=H
 replace H : (some ((t349 == 0),t350,t351)) = some (r1,r2,r3):=H
 have A3:=Aside0.mk A30
 clear A30
 simp only [Option.some.injEq,Prod.mk.injEq] at H
 obtain ⟨rfl,rfl,rfl⟩:=H
 go_enter Try.func75,Try.ntmps75
 go_wp2_with (first|((with_reducible refine gate_callee (f:=74) rfl ?_);refine goesL_ (some 7) rfl rfl Try.func74 (by kernel_rfl) rfl #[.pointer (some ⟨g,0,none⟩),.int .i64 a1] rfl mz ?_;(with_reducible refine (spec_l1Cur_pick.calls g s0_0 s0_1 s0_2 a1 t349 t350 t351 w0 _ ?side1 ?side2 A3.out).mono ?_);(case side1=>repeat (first|(with_reducible first|exact HI0.out|apply IsS84.alloc|apply IsS84.drewN|apply IsS84.drew|apply IsS84.set_1|apply IsS84.set_2)|exact HI0.out));(case side2=>repeat (first|(with_reducible first|exact HB.out|apply below_alloc|apply pw_below_drewN|apply below_drew1|refine below_set ?_ (IsS84.ge HI0.out))|exact HB.out));rintro e w4 ⟨rfl,hi,hb,hk⟩;refine ⟨_,rfl,?_⟩;have n0_:=Aside0.mk (KeepBut.trans (by repeat (first|(with_reducible first|exact HK.out|apply KeepBut.set_|apply keep_drewN|apply keep_drew|apply keep_alloc)|exact HK.out)) hk (.inl rfl));have n1_:=Aside0.mk (hb);have n2_:=Aside0.mk (hi);clear HK HB HI0;have HK:=n0_;have HB:=n1_;have HI0:=n2_;clear n0_ n1_ n2_;(try clear hb);(try clear hb2);(try clear hk);(try clear hi)))
 go_ret
 exact ⟨by first|rfl|(simp [errW_none,errW_some] <;> rfl)|(simp [*,errW_none,errW_some] <;> rfl),by repeat (first|(with_reducible first|exact HI0.out|apply IsS84.alloc|apply IsS84.drewN|apply IsS84.drew|apply IsS84.set_1|apply IsS84.set_2)|exact HI0.out),by repeat (first|(with_reducible first|exact HB.out|apply below_alloc|apply pw_below_drewN|apply below_drew1|refine below_set ?_ (IsS84.ge HI0.out))|exact HB.out),by repeat (first|(with_reducible first|exact HK.out|apply KeepBut.set_|apply keep_drewN|apply keep_drew|apply keep_alloc)|exact HK.out)⟩
/-! ### spec_l1Cur_chain: function 115 -/
mutual
def spec_l1Cur_chain.l0 : Nat → List Int → Int → List Int → Int → Int → Option (List Int × Int × Int)
 | 0,_,_,_,_,_=>none
 | k + 1,x5,x6,x1000,x1001,x1002=>if x6 > 0 then (if 0 ≤ (wrap64 ((x5.length : Int) - 1)) then (if (wrap64 ((x5.length : Int) - 1)) < (x5.length : Int) then ((spec_l1Cur_one.f x1000 x1001 x1002 4).bind fun bt359=>(if bt359.1 = true then ((spec_l1Cur_pick.f x1000 bt359.2.1 bt359.2.2 (x5.length : Int)).bind fun bt362=>(if 0 ≤ bt362.1 then (if bt362.1 < (x5.length : Int) then (spec_l1Cur_chain.j1 k x5 x6 (rd x5 bt362.1) x1000 bt362.2.1 bt362.2.2) else (none)) else (none))) else (spec_l1Cur_chain.j1 k x5 x6 (rd x5 (wrap64 ((x5.length : Int) - 1))) x1000 bt359.2.1 bt359.2.2))) else (none)) else (none)) else (some (x5,x1001,x1002))
def spec_l1Cur_chain.j1 : Nat → List Int → Int → Int → List Int → Int → Int → Option (List Int × Int × Int)
 | 0,_,_,_,_,_,_=>none
 | k + 1,x5,x6,x7,x1000,x1001,x1002=>(spec_l1Cur_pick.f x1000 x1001 x1002 (x5.length : Int)).bind fun bt366=>(if 0 ≤ bt366.1 then (if bt366.1 < (x5.length : Int) then (if (wrap64 (x7 + (rd x5 bt366.1))) ≤ 1000000 then ((spec_l1Put.f k x5 (wrap64 (x7 + (rd x5 bt366.1)))).bind fun t370=>(spec_l1Cur_chain.l0 k t370 (wrap64 (x6 - 1)) x1000 bt366.2.1 bt366.2.2)) else (spec_l1Cur_chain.l0 k x5 (wrap64 (x6 - 1)) x1000 bt366.2.1 bt366.2.2)) else (none)) else (none))
end
def spec_l1Cur_chain.f (k : Nat) (s0_0 : List Int) (s0_1 : Int) (s0_2 : Int) (a1 : Int) : Option (List Int × Int × Int):=(spec_l1Cur_pick.f s0_0 s0_1 s0_2 (wrap64 (a1 + 1))).bind fun bt355=>(spec_l1Cur_chain.l0 k (([1] : List Int)) bt355.1 s0_0 bt355.2.1 bt355.2.2)
theorem spec_l1Cur_chain.mono_l : ∀ k,(∀ y0 y1 y2 y3 y4,LeO (spec_l1Cur_chain.l0 k y0 y1 y2 y3 y4) (spec_l1Cur_chain.l0 (k + 1) y0 y1 y2 y3 y4)) ∧ (∀ y0 y1 y2 y3 y4 y5,LeO (spec_l1Cur_chain.j1 k y0 y1 y2 y3 y4 y5) (spec_l1Cur_chain.j1 (k + 1) y0 y1 y2 y3 y4 y5))
 | 0=>⟨fun _ _ _ _ _ r h=>by simp [spec_l1Cur_chain.l0] at h,fun _ _ _ _ _ _ r h=>by simp [spec_l1Cur_chain.j1] at h⟩
 | k + 1=>by
  obtain ⟨ih0,ih1⟩:=spec_l1Cur_chain.mono_l k
  refine ⟨?_,?_⟩
  ·intro y0 y1 y2 y3 y4
   unfold spec_l1Cur_chain.l0
   repeat' first
   | (with_reducible exact ih0 _ _ _ _ _)
   | (with_reducible exact ih1 _ _ _ _ _ _)
   | (with_reducible exact spec_l1Put.mono _ _ _)
   | (with_reducible exact LeO.refl _)
   | (with_reducible exact LeO.none _)
   | (with_reducible refine LeO.ite ?_ ?_)
   | (with_reducible refine LeO.bind ?_ (fun _=>?_))
   | exact ih0 _ _ _ _ _
   | exact ih1 _ _ _ _ _ _
   | exact spec_l1Put.mono _ _ _
   | exact LeO.none _
   | refine LeO.ite ?_ ?_
   | refine LeO.bind ?_ (fun _=>?_)
  ·intro y0 y1 y2 y3 y4 y5
   unfold spec_l1Cur_chain.j1
   repeat' first
   | (with_reducible exact ih0 _ _ _ _ _)
   | (with_reducible exact ih1 _ _ _ _ _ _)
   | (with_reducible exact spec_l1Put.mono _ _ _)
   | (with_reducible exact LeO.refl _)
   | (with_reducible exact LeO.none _)
   | (with_reducible refine LeO.ite ?_ ?_)
   | (with_reducible refine LeO.bind ?_ (fun _=>?_))
   | exact ih0 _ _ _ _ _
   | exact ih1 _ _ _ _ _ _
   | exact spec_l1Put.mono _ _ _
   | exact LeO.none _
   | refine LeO.ite ?_ ?_
   | refine LeO.bind ?_ (fun _=>?_)
theorem spec_l1Cur_chain.mono : ∀ a0 a1 a2 a3 k,LeO (spec_l1Cur_chain.f k a0 a1 a2 a3) (spec_l1Cur_chain.f (k + 1) a0 a1 a2 a3):=by
 intro a0 a1 a2 a3 k
 obtain ⟨ih0,ih1⟩:=spec_l1Cur_chain.mono_l k
 unfold spec_l1Cur_chain.f
 repeat' first
   | (with_reducible exact ih0 _ _ _ _ _)
   | (with_reducible exact ih1 _ _ _ _ _ _)
   | (with_reducible exact spec_l1Put.mono _ _ _)
   | (with_reducible exact LeO.refl _)
   | (with_reducible exact LeO.none _)
   | (with_reducible refine LeO.ite ?_ ?_)
   | (with_reducible refine LeO.bind ?_ (fun _=>?_))
   | exact ih0 _ _ _ _ _
   | exact ih1 _ _ _ _ _ _
   | exact spec_l1Put.mono _ _ _
   | exact LeO.none _
   | refine LeO.ite ?_ ?_
   | refine LeO.bind ?_ (fun _=>?_)
set_option maxHeartbeats 8000000 in
set_option maxRecDepth 100000 in
theorem spec_l1Cur_chain.calls (k : Nat) (g : Nat) (s0_0 : List Int) (s0_1 : Int) (s0_2 : Int) (a1 : Int) (r1 : List Int) (r2 : Int) (r3 : Int) (w0 w : World) (hI : IsS84 w0 w g s0_0 s0_1 s0_2) (hB : Below w0.heap.size w0 w) (h : spec_l1Cur_chain.f k s0_0 s0_1 s0_2 a1 = some (r1,r2,r3)) :
  Calls Try.prog 115 #[.pointer (some ⟨g,0,none⟩),.int .i64 a1] w fun e w'=>∃ v0_ : Value,e = .returned (v0_) ∧ Kd.R (Kd.int .i64) 3 w' w.heap.size (fun _=>True) v0_ r1 ∧ IsS84 w0 w' g s0_0 r2 r3 ∧ Below w0.heap.size w0 w' ∧ KeepBut w w' g none:=by
 have HI0:=Aside0.mk hI
 have HK:=Aside0.mk (KeepBut.refl w g none)
 have HL:=Aside0.mk hB.size
 clear hI
 have HW0:=Aside0.mk hB.size
 have HB:=Aside0.mk hB
 clear hB
 have H : ((spec_l1Cur_pick.f s0_0 s0_1 s0_2 (wrap64 (a1 + 1))).bind fun bt355=>(spec_l1Cur_chain.l0 k (([1] : List Int)) bt355.1 s0_0 bt355.2.1 bt355.2.2)) = some (r1,r2,r3):=h
 clear h
 obtain ⟨y352,hy352⟩ : ∃ y_ : List Int,y_ = (([1] : List Int)):=⟨_,rfl⟩
 replace H : ((spec_l1Cur_pick.f s0_0 s0_1 s0_2 (wrap64 (a1 + 1))).bind fun bt355=>(spec_l1Cur_chain.l0 k y352 bt355.1 s0_0 bt355.2.1 bt355.2.2)) = some (r1,r2,r3):=by first|(rw [hy352];with_reducible exact H)|(have H2_:=(Option.bind_some _ _).symm.trans H;rw [hy352];with_reducible exact H2_)|(have H2_:=(Option.bind_some _ _).symm.trans H;with_reducible exact H2_)|with_reducible exact H|(rw [hy352];exact H)|exact H
 have Ny352:=Aside0.mk hy352
 clear hy352
 replace H:=Option.bind_eq_some_iff.mp H
 obtain ⟨⟨t355,t356,t357⟩,A30,H⟩:=H
 replace H : (spec_l1Cur_chain.l0 k y352 t355 s0_0 t356 t357) = some (r1,r2,r3):=H
 have A3:=Aside0.mk A30
 clear A30
 have H':=Aside0.mk H
 clear H
 go_enter Try.func115,Try.ntmps115
 go_wp2_with (first|((with_reducible refine gate_dst (N:=9) rfl ?_);refine Kd.R_lit (Kd.int .i64) _ 3 ?hg (N:=9) ?hd (xs:=([1] : List Int)) (inner:=[.int .i64 1]) (ok:=fun _=>True) (okp:=fun _=>True) ?hr ?hp (fun _ hk=>hk) trivial (Below.refl _ _) (Nat.le_refl _) (by simp) ?_;(case hd=>rfl);(case hg=>rfl);(case hr=>first|(go_simp;done)|(go_simp;rfl));(case hp=>exact (Reps.one (show Kd.M (Kd.int .i64) _ _ _ 1 [.int .i64 1] from rfl) (Reps.none _ _)));intro v353 w4 ho5 hb hg_ hnew_;clear hg_ hnew_;(first|rw [← Ny352.out] at ho5|(simp only [Int.reduceToNat] at ho5;rw [← Ny352.out] at ho5));have n0_:=Aside0.mk (Kd.R_lower ho5 (keep_size (w:=w) (g:=g) (row:=none) (by repeat (first|(with_reducible first|exact HK.out|apply KeepBut.set_|apply keep_drewN|apply keep_drew|apply keep_alloc)|exact HK.out))));have n1_:=Aside0.mk (IsS84.below (by repeat (first|(with_reducible first|exact HI0.out|apply IsS84.alloc|apply IsS84.drewN|apply IsS84.drew|apply IsS84.set_1|apply IsS84.set_2)|exact HI0.out)) hb);have n2_:=Aside0.mk (KeepBut.trans (by repeat (first|(with_reducible first|exact HK.out|apply KeepBut.set_|apply keep_drewN|apply keep_drew|apply keep_alloc)|exact HK.out)) (KeepBut.of_below hb g none) (.inl rfl));have n3_:=Aside0.mk (below_step (by repeat (first|(with_reducible first|exact HB.out|apply below_alloc|apply pw_below_drewN|apply below_drew1|refine below_set ?_ (IsS84.ge HI0.out))|exact HB.out)) hb);clear HI0 HK HB;have HO354:=n0_;have HI0:=n1_;have HK:=n2_;have HB:=n3_;clear n0_ n1_ n2_ n3_;clear hb ho5)|((with_reducible refine gate_callee (f:=74) rfl ?_);refine goesL_ (some 13) rfl rfl Try.func74 (by kernel_rfl) rfl #[.pointer (some ⟨g,0,none⟩),.int .i64 (wrap64 (a1 + 1))] rfl mz ?_;(with_reducible refine (spec_l1Cur_pick.calls g s0_0 s0_1 s0_2 (wrap64 (a1 + 1)) t355 t356 t357 w0 _ ?side1 ?side2 A3.out).mono ?_);(case side1=>repeat (first|(with_reducible first|exact HI0.out|apply IsS84.alloc|apply IsS84.drewN|apply IsS84.drew|apply IsS84.set_1|apply IsS84.set_2)|exact HI0.out));(case side2=>repeat (first|(with_reducible first|exact HB.out|apply below_alloc|apply pw_below_drewN|apply below_drew1|refine below_set ?_ (IsS84.ge HI0.out))|exact HB.out));rintro e w6 ⟨rfl,hi,hb,hk⟩;refine ⟨_,rfl,?_⟩;have n0_:=Aside0.mk (Kd.R_mono (Kd.R_keep (IsS84.apart (show IsS84 w0 _ g s0_0 s0_1 s0_2 from by repeat (first|(with_reducible first|exact HI0.out|apply IsS84.alloc|apply IsS84.drewN|apply IsS84.drew|apply IsS84.set_1|apply IsS84.set_2)|exact HI0.out)) (rz HO354.out) (by decide)) hk (fun _ h=>h.2)) (fun _ h=>h.1));have n1_:=Aside0.mk (KeepBut.trans (by repeat (first|(with_reducible first|exact HK.out|apply KeepBut.set_|apply keep_drewN|apply keep_drew|apply keep_alloc)|exact HK.out)) hk (.inl rfl));have n2_:=Aside0.mk (hb);have n3_:=Aside0.mk (hi);clear HO354 HK HB HI0;have HO354:=n0_;have HK:=n1_;have HB:=n2_;have HI0:=n3_;clear n0_ n1_ n2_ n3_;(try clear hb);(try clear hb2);(try clear hk);(try clear hi)))
 go_loopg [5,6] k (fun kq v5 v6 w'=>∃ (x5_1 : List Int) (x6_1 : Int) (x1001_1 : Int) (x1002_1 : Int),v6 = .int .i64 x6_1 ∧ Aside0 (spec_l1Cur_chain.l0 kq x5_1 x6_1 s0_0 x1001_1 x1002_1 = some (r1,r2,r3)) ∧ Aside0 (kq ≤ k) ∧ Aside0 (Kd.R (Kd.int .i64) 3 w' w.heap.size (fun _=>True) v5 x5_1) ∧ Aside0 (IsS84 w0 w' g s0_0 x1001_1 x1002_1) ∧ Aside0 (KeepBut w w' g none) ∧ Aside0 (Below w0.heap.size w0 w'))
 case atStart=>exact ⟨(y352),(t355),(t356),(t357),fz,H',⟨Nat.le_refl _⟩,⟨by (with_reducible repeat (first|apply Kd.R_alloc|apply Kd.R_drewN|apply Kd.R_drew));exact HO354.out⟩,⟨by repeat (first|(with_reducible first|exact HI0.out|apply IsS84.alloc|apply IsS84.drewN|apply IsS84.drew|apply IsS84.set_1|apply IsS84.set_2)|exact HI0.out)⟩,⟨by repeat (first|(with_reducible first|exact HK.out|apply KeepBut.set_|apply keep_drewN|apply keep_drew|apply keep_alloc)|exact HK.out)⟩,⟨by repeat (first|(with_reducible first|exact HB.out|apply below_alloc|apply pw_below_drewN|apply below_drew1|refine below_set ?_ (IsS84.ge HI0.out))|exact HB.out)⟩⟩
 case round=>
  clear H'
  try clear c1
  try clear p2
  try clear p6
  obtain ⟨x5_1,x6_1,x1001_1,x1002_1,rfl,HA,HK1,HO_5,HI0,HK,HB⟩:=hrel
  cases gk with
  | zero=>exact absurd HA.out (by simp [spec_l1Cur_chain.l0])
  | succ k1=>
   have H:=HA.out
   clear HA
   simp only [spec_l1Cur_chain.l0] at H
   by_cases c7 : x6_1 > 0
   ·rw [if_pos c7] at H
    have c7b0 : decide (0 < x6_1) = true:=decide_eq_true c7
    clear c7
    obtain ⟨ji8,hji8⟩ : ∃ j_ : Int,(wrap64 ((x5_1.length : Int) - 1)) = j_:=⟨_,rfl⟩
    replace H : (if 0 ≤ (ji8) then (if (ji8) < (x5_1.length : Int) then ((spec_l1Cur_one.f s0_0 x1001_1 x1002_1 4).bind fun bt359=>(if bt359.1 = true then ((spec_l1Cur_pick.f s0_0 bt359.2.1 bt359.2.2 (x5_1.length : Int)).bind fun bt362=>(if 0 ≤ bt362.1 then (if bt362.1 < (x5_1.length : Int) then (spec_l1Cur_chain.j1 k1 x5_1 x6_1 (rd x5_1 bt362.1) s0_0 bt362.2.1 bt362.2.2) else (none)) else (none))) else (spec_l1Cur_chain.j1 k1 x5_1 x6_1 (rd x5_1 (ji8)) s0_0 bt359.2.1 bt359.2.2))) else (none)) else (none)) = some (r1,r2,r3):=by first|(rw [hji8] at H;exact H)|(simp only [hji8] at H ⊢;exact H)
    have hji8w : (IntKind.i64.wrap ((x5_1.length : Int) - 1)) = ji8:=(i64_w _).trans hji8
    by_cases c9 : 0 ≤ (ji8)
    ·rw [if_pos c9] at H
     have c9b0 : decide (0 ≤ (ji8)) = true:=decide_eq_true c9
     clear c9
     by_cases c10 : (ji8) < (x5_1.length : Int)
     ·rw [if_pos c10] at H
      have c10b0 : decide ((ji8) < (x5_1.length : Int)) = true:=decide_eq_true c10
      clear c10
      replace H:=Option.bind_eq_some_iff.mp H
      obtain ⟨⟨t359,t360,t361⟩,A110,H⟩:=H
      replace H : (if t359 = true then ((spec_l1Cur_pick.f s0_0 t360 t361 (x5_1.length : Int)).bind fun bt362=>(if 0 ≤ bt362.1 then (if bt362.1 < (x5_1.length : Int) then (spec_l1Cur_chain.j1 k1 x5_1 x6_1 (rd x5_1 bt362.1) s0_0 bt362.2.1 bt362.2.2) else (none)) else (none))) else (spec_l1Cur_chain.j1 k1 x5_1 x6_1 (rd x5_1 (ji8)) s0_0 t360 t361)) = some (r1,r2,r3):=H
      have A11:=Aside0.mk A110
      clear A110
      have HC12:=Aside0.mk H
      clear H
      obtain ⟨Ao13,co13,eo13⟩:=Kd.R_slice HO_5.out
      subst eo13
      have p358 : 0 ≤ ((ji8) : Int):=of_decide_eq_true az
      have q358 : (ji8) < (x5_1.length : Int):=of_decide_eq_true az
      obtain ⟨ad358,e358,hx358_0⟩:=Kd.at_int (Kd.R_reads' HO_5.out).2.2 (ji8) p358 q358
      cases e358
      replace p358:=eq_true p358
      replace q358:=eq_true q358
      go_upto_if 25 with (first|((with_reducible refine gate_callee (f:=75) rfl ?_);refine goesL_ (some 25) rfl rfl Try.func75 (by kernel_rfl) rfl #[.pointer (some ⟨g,0,none⟩),.int .i64 4] rfl mz ?_;(with_reducible refine (spec_l1Cur_one.calls g s0_0 x1001_1 x1002_1 4 t359 t360 t361 w0 _ ?side1 ?side2 A11.out).mono ?_);(case side1=>repeat (first|(with_reducible first|exact HI0.out|apply IsS84.alloc|apply IsS84.drewN|apply IsS84.drew|apply IsS84.set_1|apply IsS84.set_2)|exact HI0.out));(case side2=>repeat (first|(with_reducible first|exact HB.out|apply below_alloc|apply pw_below_drewN|apply below_drew1|refine below_set ?_ (IsS84.ge HI0.out))|exact HB.out));rintro e w14 ⟨rfl,hi,hb,hk⟩;refine ⟨_,rfl,?_⟩;have n0_:=Aside0.mk (Kd.R_mono (Kd.R_keep (IsS84.apart (show IsS84 w0 _ g s0_0 x1001_1 x1002_1 from by repeat (first|(with_reducible first|exact HI0.out|apply IsS84.alloc|apply IsS84.drewN|apply IsS84.drew|apply IsS84.set_1|apply IsS84.set_2)|exact HI0.out)) (rz HO_5.out) (by decide)) hk (fun _ h=>h.2)) (fun _ h=>h.1));have n1_:=Aside0.mk (KeepBut.trans (by repeat (first|(with_reducible first|exact HK.out|apply KeepBut.set_|apply keep_drewN|apply keep_drew|apply keep_alloc)|exact HK.out)) hk (.inl rfl));have n2_:=Aside0.mk (hb);have n3_:=Aside0.mk (hi);clear HO_5 HK HB HI0;have HO_5:=n0_;have HK:=n1_;have HB:=n2_;have HI0:=n3_;clear n0_ n1_ n2_ n3_;(try clear hb);(try clear hb2);(try clear hk);(try clear hi)))
      (try simp only [Act.put,List.setIfInBounds_toArray,List.set_cons_zero,List.set_cons_succ])
      go_cut [7] (fun v7 wc=>∃ (kq : Nat) (x7_11 : Int) (x1001_11 : Int) (x1002_11 : Int),v7 = .int .i64 x7_11 ∧ Aside0 (spec_l1Cur_chain.j1 kq x5_1 x6_1 x7_11 s0_0 x1001_11 x1002_11 = some (r1,r2,r3)) ∧ Aside0 (kq ≤ k1) ∧ Aside0 (Kd.R (Kd.int .i64) 3 wc w.heap.size (fun _=>True) (.slice (some ad358) x5_1.length co13) x5_1) ∧ Aside0 (IsS84 w0 wc g s0_0 x1001_11 x1002_11) ∧ Aside0 (KeepBut w wc g none) ∧ Aside0 (Below w0.heap.size w0 wc))
      case first=>
       have H:=HC12.out
       clear HC12
       by_cases c15 : t359 = true
       ·subst c15
        have H1 : ((spec_l1Cur_pick.f s0_0 t360 t361 (x5_1.length : Int)).bind fun bt362=>(if 0 ≤ bt362.1 then (if bt362.1 < (x5_1.length : Int) then (spec_l1Cur_chain.j1 k1 x5_1 x6_1 (rd x5_1 bt362.1) s0_0 bt362.2.1 bt362.2.2) else (none)) else (none))) = some (r1,r2,r3):=by rw [if_pos rfl] at H;exact H
        clear H
        have H:=H1
        clear H1
        replace H:=Option.bind_eq_some_iff.mp H
        obtain ⟨⟨t362,t363,t364⟩,A160,H⟩:=H
        replace H : (if 0 ≤ t362 then (if t362 < (x5_1.length : Int) then (spec_l1Cur_chain.j1 k1 x5_1 x6_1 (rd x5_1 t362) s0_0 t363 t364) else (none)) else (none)) = some (r1,r2,r3):=H
        have A16:=Aside0.mk A160
        clear A160
        by_cases c17 : 0 ≤ t362
        ·rw [if_pos c17] at H
         have c17b0 : decide (0 ≤ t362) = true:=decide_eq_true c17
         clear c17
         (first|rw [c17b0]|(simp only [i64_w,i32_w];rw [c17b0])|skip)
         by_cases c18 : t362 < (x5_1.length : Int)
         ·rw [if_pos c18] at H
          have c18b0 : decide (t362 < (x5_1.length : Int)) = true:=decide_eq_true c18
          clear c18
          have H':=Aside0.mk H
          clear H
          go_wp2_with (first|((with_reducible refine gate_callee (f:=74) rfl ?_);refine goesL_ (some 30) rfl rfl Try.func74 (by kernel_rfl) rfl #[.pointer (some ⟨g,0,none⟩),.int .i64 (x5_1.length : Int)] rfl mz ?_;(with_reducible refine (spec_l1Cur_pick.calls g s0_0 t360 t361 (x5_1.length : Int) t362 t363 t364 w0 _ ?side1 ?side2 A16.out).mono ?_);(case side1=>repeat (first|(with_reducible first|exact HI0.out|apply IsS84.alloc|apply IsS84.drewN|apply IsS84.drew|apply IsS84.set_1|apply IsS84.set_2)|exact HI0.out));(case side2=>repeat (first|(with_reducible first|exact HB.out|apply below_alloc|apply pw_below_drewN|apply below_drew1|refine below_set ?_ (IsS84.ge HI0.out))|exact HB.out));rintro e w19 ⟨rfl,hi,hb,hk⟩;refine ⟨_,rfl,?_⟩;have n0_:=Aside0.mk (Kd.R_mono (Kd.R_keep (IsS84.apart (show IsS84 w0 _ g s0_0 t360 t361 from by repeat (first|(with_reducible first|exact HI0.out|apply IsS84.alloc|apply IsS84.drewN|apply IsS84.drew|apply IsS84.set_1|apply IsS84.set_2)|exact HI0.out)) (rz HO_5.out) (by decide)) hk (fun _ h=>h.2)) (fun _ h=>h.1));have n1_:=Aside0.mk (KeepBut.trans (by repeat (first|(with_reducible first|exact HK.out|apply KeepBut.set_|apply keep_drewN|apply keep_drew|apply keep_alloc)|exact HK.out)) hk (.inl rfl));have n2_:=Aside0.mk (hb);have n3_:=Aside0.mk (hi);clear HO_5 HK HB HI0;have HO_5:=n0_;have HK:=n1_;have HB:=n2_;have HI0:=n3_;clear n0_ n1_ n2_ n3_;(try clear hb);(try clear hb2);(try clear hk);(try clear hi);have p365 : 0 ≤ (t362 : Int):=of_decide_eq_true az;have q365 : t362 < (x5_1.length : Int):=of_decide_eq_true az;obtain ⟨ad365,e365,hx365_0⟩:=Kd.at_int (Kd.R_reads' HO_5.out).2.2 t362 p365 q365;obtain rfl : ad358 = ad365:=(by injection e365);replace p365:=eq_true p365;replace q365:=eq_true q365))
          go_meet
          case rel=>exact ⟨_,(rd x5_1 t362),(t363),(t364),fz,H',⟨by have:=HK1.out;first|omega|exact Nat.le_refl _⟩,⟨by (with_reducible repeat (first|apply Kd.R_alloc|apply Kd.R_drewN|apply Kd.R_drew));exact HO_5.out⟩,⟨by repeat (first|(with_reducible first|exact HI0.out|apply IsS84.alloc|apply IsS84.drewN|apply IsS84.drew|apply IsS84.set_1|apply IsS84.set_2)|exact HI0.out)⟩,⟨by repeat (first|(with_reducible first|exact HK.out|apply KeepBut.set_|apply keep_drewN|apply keep_drew|apply keep_alloc)|exact HK.out)⟩,⟨by repeat (first|(with_reducible first|exact HB.out|apply below_alloc|apply pw_below_drewN|apply below_drew1|refine below_set ?_ (IsS84.ge HI0.out))|exact HB.out)⟩⟩
         ·rw [if_neg c18] at H
          exact absurd H (by simp)
        ·rw [if_neg c17] at H
         exact absurd H (by simp)
       ·replace c15:=Bool.eq_false_iff.mpr c15
        subst c15
        have H1 : (spec_l1Cur_chain.j1 k1 x5_1 x6_1 (rd x5_1 (ji8)) s0_0 t360 t361) = some (r1,r2,r3):=by rw [if_neg (show ¬ (false = true) by decide)] at H;exact H
        clear H
        have H:=H1
        clear H1
        have H':=Aside0.mk H
        clear H
        go_wp2
        go_meet
        case rel=>exact ⟨_,(rd x5_1 (ji8)),(t360),(t361),(by first|rfl|(simp;done)|(simp only [← hji8] <;> (first|rfl|simp))|(simp [*];done)),H',⟨by have:=HK1.out;first|omega|exact Nat.le_refl _⟩,⟨by (with_reducible repeat (first|apply Kd.R_alloc|apply Kd.R_drewN|apply Kd.R_drew));exact HO_5.out⟩,⟨by repeat (first|(with_reducible first|exact HI0.out|apply IsS84.alloc|apply IsS84.drewN|apply IsS84.drew|apply IsS84.set_1|apply IsS84.set_2)|exact HI0.out)⟩,⟨by repeat (first|(with_reducible first|exact HK.out|apply KeepBut.set_|apply keep_drewN|apply keep_drew|apply keep_alloc)|exact HK.out)⟩,⟨by repeat (first|(with_reducible first|exact HB.out|apply below_alloc|apply pw_below_drewN|apply below_drew1|refine below_set ?_ (IsS84.ge HI0.out))|exact HB.out)⟩⟩
      case rest=>
       clear HC12
       try clear c1
       try clear p2
       try clear p3
       try clear q3
       try clear hx3
       try clear p6
       try clear c7
       try clear c7b0
       try clear c9
       try clear c9b0
       try clear c10
       try clear c10b0
       try clear c11
       try clear c15
       try clear c17
       try clear c17b0
       try clear c18
       try clear c18b0
       try clear hx358_0
       try clear hx365_0
       try clear p2
       try clear p358
       try clear p365
       try clear p6
       try clear q358
       try clear q365
       obtain ⟨kq,x7_11,x1001_11,x1002_11,rfl,HA,HJ11,HO_5,HI0,HK,HB⟩:=hcut
       cases kq with
       | zero=>exact absurd HA.out (by simp [spec_l1Cur_chain.j1])
       | succ kj11=>
        have H:=HA.out
        clear HA
        simp only [spec_l1Cur_chain.j1] at H
        replace H:=Option.bind_eq_some_iff.mp H
        obtain ⟨⟨t366,t367,t368⟩,A200,H⟩:=H
        replace H : (if 0 ≤ t366 then (if t366 < (x5_1.length : Int) then (if (wrap64 (x7_11 + (rd x5_1 t366))) ≤ 1000000 then ((spec_l1Put.f kj11 x5_1 (wrap64 (x7_11 + (rd x5_1 t366)))).bind fun t370=>(spec_l1Cur_chain.l0 kj11 t370 (wrap64 (x6_1 - 1)) s0_0 t367 t368)) else (spec_l1Cur_chain.l0 kj11 x5_1 (wrap64 (x6_1 - 1)) s0_0 t367 t368)) else (none)) else (none)) = some (r1,r2,r3):=H
        have A20:=Aside0.mk A200
        clear A200
        by_cases c21 : 0 ≤ t366
        ·rw [if_pos c21] at H
         have c21b0 : decide (0 ≤ t366) = true:=decide_eq_true c21
         clear c21
         by_cases c22 : t366 < (x5_1.length : Int)
         ·rw [if_pos c22] at H
          have c22b0 : decide (t366 < (x5_1.length : Int)) = true:=decide_eq_true c22
          clear c22
          by_cases c23 : (wrap64 (x7_11 + (rd x5_1 t366))) ≤ 1000000
          ·rw [if_pos c23] at H
           have c23b0 : decide ((wrap64 (x7_11 + (rd x5_1 t366))) ≤ 1000000) = true:=decide_eq_true c23
           clear c23
           replace H:=Option.bind_eq_some_iff.mp H
           obtain ⟨t370,A240,H⟩:=H
           replace H : (spec_l1Cur_chain.l0 kj11 t370 (wrap64 (x6_1 - 1)) s0_0 t367 t368) = some (r1,r2,r3):=H
           have A24:=Aside0.mk A240
           clear A240
           have H':=Aside0.mk H
           clear H
           go_wp2_with (first|((with_reducible refine gate_callee (f:=74) rfl ?_);refine goesL_ (some 38) rfl rfl Try.func74 (by kernel_rfl) rfl #[.pointer (some ⟨g,0,none⟩),.int .i64 (x5_1.length : Int)] rfl mz ?_;(with_reducible refine (spec_l1Cur_pick.calls g s0_0 x1001_11 x1002_11 (x5_1.length : Int) t366 t367 t368 w0 _ ?side1 ?side2 A20.out).mono ?_);(case side1=>repeat (first|(with_reducible first|exact HI0.out|apply IsS84.alloc|apply IsS84.drewN|apply IsS84.drew|apply IsS84.set_1|apply IsS84.set_2)|exact HI0.out));(case side2=>repeat (first|(with_reducible first|exact HB.out|apply below_alloc|apply pw_below_drewN|apply below_drew1|refine below_set ?_ (IsS84.ge HI0.out))|exact HB.out));rintro e w25 ⟨rfl,hi,hb,hk⟩;refine ⟨_,rfl,?_⟩;have n0_:=Aside0.mk (Kd.R_mono (Kd.R_keep (IsS84.apart (show IsS84 w0 _ g s0_0 x1001_11 x1002_11 from by repeat (first|(with_reducible first|exact HI0.out|apply IsS84.alloc|apply IsS84.drewN|apply IsS84.drew|apply IsS84.set_1|apply IsS84.set_2)|exact HI0.out)) (rz HO_5.out) (by decide)) hk (fun _ h=>h.2)) (fun _ h=>h.1));have n1_:=Aside0.mk (KeepBut.trans (by repeat (first|(with_reducible first|exact HK.out|apply KeepBut.set_|apply keep_drewN|apply keep_drew|apply keep_alloc)|exact HK.out)) hk (.inl rfl));have n2_:=Aside0.mk (hb);have n3_:=Aside0.mk (hi);clear HO_5 HK HB HI0;have HO_5:=n0_;have HK:=n1_;have HB:=n2_;have HI0:=n3_;clear n0_ n1_ n2_ n3_;(try clear hb);(try clear hb2);(try clear hk);(try clear hi);have p369 : 0 ≤ (t366 : Int):=of_decide_eq_true az;have q369 : t366 < (x5_1.length : Int):=of_decide_eq_true az;obtain ⟨ad369,e369,hx369_0⟩:=Kd.at_int (Kd.R_reads' HO_5.out).2.2 t366 p369 q369;obtain rfl : ad358 = ad369:=(by injection e369);replace p369:=eq_true p369;replace q369:=eq_true q369)|((with_reducible refine gate_callee (f:=99) rfl ?_);refine goesL_ (some 46) rfl rfl Try.func99 (by kernel_rfl) rfl #[.slice (some ad358) x5_1.length co13,.int .i64 (wrap64 (x7_11 + (rd x5_1 t366)))] rfl mz ?_;(with_reducible refine (spec_l1Put.calls kj11 (fun k_=>some k_ = (.slice (some ad358) x5_1.length co13 : Value).ownBlock) (.slice (some ad358) x5_1.length co13) x5_1 (wrap64 (x7_11 + (rd x5_1 t366))) t370 w0 _ ?side1 ?side2 A24.out).mono ?_);(case side1=>repeat (first|(with_reducible first|exact HB.out|apply below_alloc|apply pw_below_drewN|apply below_drew1|refine below_set ?_ (IsS84.ge HI0.out))|exact HB.out));(case side2=>exact Kd.R_lower (Kd.R_tight rfl HO_5.out) HL.out);rintro e w26 ⟨v371,rfl,ho0,hb,hkp⟩;refine ⟨_,rfl,?_⟩;have n0_:=Aside0.mk (IsS84.kept (by repeat (first|(with_reducible first|exact HI0.out|apply IsS84.alloc|apply IsS84.drewN|apply IsS84.drew|apply IsS84.set_1|apply IsS84.set_2)|exact HI0.out)) hkp (fun hs_=>(fun e_=>(IsS84.own_ne HI0.out HO_5.out (by decide)) e_) hs_));have n1_:=Aside0.mk (Kd.R_mono (ok':=fun k_=>True) (Kd.R_raise (d:=(Kd.int .i64)) (b:=w0.heap.size) (b':=w.heap.size) (fun _ _ _ _ h_=>h_) ho0 (fun k_ e_=>Or.elim (ho0.1 k_ e_) (fun hs_=>(fun e_=>Kd.R_base HO_5.out k_ e_.symm) hs_) (fun hn_=>Nat.le_trans (keep_size (w:=w) (g:=g) (row:=none) (by repeat (first|(with_reducible first|exact HK.out|apply KeepBut.set_|apply keep_drewN|apply keep_drew|apply keep_alloc)|exact HK.out))) hn_))) (fun k_ hk_=>trivial));have n2_:=Aside0.mk (Kept.keepG (by repeat (first|(with_reducible first|exact HK.out|apply KeepBut.set_|apply keep_drewN|apply keep_drew|apply keep_alloc)|exact HK.out)) hkp (fun k_ hs_=>(fun e_=>.inr (Kd.R_base HO_5.out k_ e_.symm)) hs_));have n3_:=Aside0.mk (hb);clear HI0 HK HB HO_5;have HI0:=n0_;have HO372:=n1_;have HK:=n2_;have HB:=n3_;clear n0_ n1_ n2_ n3_;(try clear hb);(try clear hkp);(try clear ho0)))
           go_roundg kj11
           case measure=>have:=HK1.out;have:=HJ11.out;omega
           case rel=>exact ⟨(t370),(wrap64 (x6_1 - 1)),(t367),(t368),fz,H',⟨by have:=HK1.out;have:=HJ11.out;omega⟩,⟨by (with_reducible repeat (first|apply Kd.R_alloc|apply Kd.R_drewN|apply Kd.R_drew));exact HO372.out⟩,⟨by repeat (first|(with_reducible first|exact HI0.out|apply IsS84.alloc|apply IsS84.drewN|apply IsS84.drew|apply IsS84.set_1|apply IsS84.set_2)|exact HI0.out)⟩,⟨by repeat (first|(with_reducible first|exact HK.out|apply KeepBut.set_|apply keep_drewN|apply keep_drew|apply keep_alloc)|exact HK.out)⟩,⟨by repeat (first|(with_reducible first|exact HB.out|apply below_alloc|apply pw_below_drewN|apply below_drew1|refine below_set ?_ (IsS84.ge HI0.out))|exact HB.out)⟩⟩
          ·rw [if_neg c23] at H
           have c23b0 : decide ((wrap64 (x7_11 + (rd x5_1 t366))) ≤ 1000000) = false:=decide_eq_false c23
           clear c23
           have H':=Aside0.mk H
           clear H
           go_wp2_with (first|((with_reducible refine gate_callee (f:=74) rfl ?_);refine goesL_ (some 38) rfl rfl Try.func74 (by kernel_rfl) rfl #[.pointer (some ⟨g,0,none⟩),.int .i64 (x5_1.length : Int)] rfl mz ?_;(with_reducible refine (spec_l1Cur_pick.calls g s0_0 x1001_11 x1002_11 (x5_1.length : Int) t366 t367 t368 w0 _ ?side1 ?side2 A20.out).mono ?_);(case side1=>repeat (first|(with_reducible first|exact HI0.out|apply IsS84.alloc|apply IsS84.drewN|apply IsS84.drew|apply IsS84.set_1|apply IsS84.set_2)|exact HI0.out));(case side2=>repeat (first|(with_reducible first|exact HB.out|apply below_alloc|apply pw_below_drewN|apply below_drew1|refine below_set ?_ (IsS84.ge HI0.out))|exact HB.out));rintro e w27 ⟨rfl,hi,hb,hk⟩;refine ⟨_,rfl,?_⟩;have n0_:=Aside0.mk (Kd.R_mono (Kd.R_keep (IsS84.apart (show IsS84 w0 _ g s0_0 x1001_11 x1002_11 from by repeat (first|(with_reducible first|exact HI0.out|apply IsS84.alloc|apply IsS84.drewN|apply IsS84.drew|apply IsS84.set_1|apply IsS84.set_2)|exact HI0.out)) (rz HO_5.out) (by decide)) hk (fun _ h=>h.2)) (fun _ h=>h.1));have n1_:=Aside0.mk (KeepBut.trans (by repeat (first|(with_reducible first|exact HK.out|apply KeepBut.set_|apply keep_drewN|apply keep_drew|apply keep_alloc)|exact HK.out)) hk (.inl rfl));have n2_:=Aside0.mk (hb);have n3_:=Aside0.mk (hi);clear HO_5 HK HB HI0;have HO_5:=n0_;have HK:=n1_;have HB:=n2_;have HI0:=n3_;clear n0_ n1_ n2_ n3_;(try clear hb);(try clear hb2);(try clear hk);(try clear hi);have p369 : 0 ≤ (t366 : Int):=of_decide_eq_true az;have q369 : t366 < (x5_1.length : Int):=of_decide_eq_true az;obtain ⟨ad369,e369,hx369_0⟩:=Kd.at_int (Kd.R_reads' HO_5.out).2.2 t366 p369 q369;obtain rfl : ad358 = ad369:=(by injection e369);replace p369:=eq_true p369;replace q369:=eq_true q369))
           go_roundg kj11
           case measure=>have:=HK1.out;have:=HJ11.out;omega
           case rel=>exact ⟨(x5_1),(wrap64 (x6_1 - 1)),(t367),(t368),fz,H',⟨by have:=HK1.out;have:=HJ11.out;omega⟩,⟨by (with_reducible repeat (first|apply Kd.R_alloc|apply Kd.R_drewN|apply Kd.R_drew));exact HO_5.out⟩,⟨by repeat (first|(with_reducible first|exact HI0.out|apply IsS84.alloc|apply IsS84.drewN|apply IsS84.drew|apply IsS84.set_1|apply IsS84.set_2)|exact HI0.out)⟩,⟨by repeat (first|(with_reducible first|exact HK.out|apply KeepBut.set_|apply keep_drewN|apply keep_drew|apply keep_alloc)|exact HK.out)⟩,⟨by repeat (first|(with_reducible first|exact HB.out|apply below_alloc|apply pw_below_drewN|apply below_drew1|refine below_set ?_ (IsS84.ge HI0.out))|exact HB.out)⟩⟩
         ·rw [if_neg c22] at H
          exact absurd H (by simp)
        ·rw [if_neg c21] at H
         exact absurd H (by simp)
     ·rw [if_neg c10] at H
      exact absurd H (by simp)
    ·rw [if_neg c9] at H
     exact absurd H (by simp)
   ·rw [if_neg c7] at H
    have c7b0 : decide (0 < x6_1) = false:=decide_eq_false c7
    clear c7
    simp only [Option.some.injEq,Prod.mk.injEq] at H
    obtain ⟨rfl,rfl,rfl⟩:=H
    go_wp2
    go_ret
    exact ⟨_,by first|rfl|(simp [errW_none,errW_some] <;> rfl)|(simp [*,errW_none,errW_some] <;> rfl),by (with_reducible repeat (first|apply Kd.R_alloc|apply Kd.R_drewN|apply Kd.R_drew));exact HO_5.out,by repeat (first|(with_reducible first|exact HI0.out|apply IsS84.alloc|apply IsS84.drewN|apply IsS84.drew|apply IsS84.set_1|apply IsS84.set_2)|exact HI0.out),by repeat (first|(with_reducible first|exact HB.out|apply below_alloc|apply pw_below_drewN|apply below_drew1|refine below_set ?_ (IsS84.ge HI0.out))|exact HB.out),by repeat (first|(with_reducible first|exact HK.out|apply KeepBut.set_|apply keep_drewN|apply keep_drew|apply keep_alloc)|exact HK.out)⟩
end Go.Proofs.Ytdcdaoancmpbeaa.MFnSequences
--sq
