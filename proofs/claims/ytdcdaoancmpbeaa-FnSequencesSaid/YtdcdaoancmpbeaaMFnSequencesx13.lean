import Derived.Test.YtdcdaoancmpbeaaMFnSequencesx0
import Derived.Test.YtdcdaoancmpbeaaMFnSequencesx1
import Derived.Test.YtdcdaoancmpbeaaMFnSequencesx11
import Derived.Test.YtdcdaoancmpbeaaMFnSequencesx12
namespace Go.Proofs.Ytdcdaoancmpbeaa.MFnSequences
open Go.RowKit Go.Proofs.YtdcdaoancmpbeaaW.PrintWords Go.Proofs.YtdcdaoancmpbeaaW.PrintLast Go.Proofs.YtdcdaoancmpbeaaW.PrintMore Go.Proofs.YtdcdaoancmpbeaaV Go.Proofs.YtdcdaoancmpbeaaZ
attribute [local go_sem] max2_int min2_int max_two min_two max_three min_three max_four min_four   -- for this text's walks alone
set_option linter.unusedVariables false
set_option linter.unusedSimpArgs false
attribute [local go_sem high] eqA73
/-! ### spec_DrawSequencePlan: function 32 -/
mutual
def spec_DrawSequencePlan.l0 : Nat → List Int → List Int → Int → List Int → Int → Int → Option (List Int × List Int)
 | 0,_,_,_,_,_,_=>none
 | k + 1,x5,x6,x7,x433000,x433001,x433002=>if x7 > 0 then (if (x5.length : Int) > 0 then ((spec_l1Cur_one.f x433000 x433001 x433002 10).bind fun bt441=>(spec_DrawSequencePlan.j1 k x5 x6 x7 (!bt441.1) x433000 bt441.2.1 bt441.2.2)) else (spec_DrawSequencePlan.j1 k x5 x6 x7 false x433000 x433001 x433002)) else ((spec_l1Cur_one.f x433000 x433001 x433002 12).bind fun bt456=>(if bt456.1 = true then (spec_DrawSequencePlan.l1 k x5 ([] : List Int) x433000 bt456.2.1 bt456.2.2) else (some (x5,x6))))
def spec_DrawSequencePlan.j1 : Nat → List Int → List Int → Int → Bool → List Int → Int → Int → Option (List Int × List Int)
 | 0,_,_,_,_,_,_,_=>none
 | k + 1,x5,x6,x7,x26,x433000,x433001,x433002=>if x26 = true then ((spec_l1Cur_among.f x433000 x433001 x433002 x5).bind fun bt444=>(if x6.length < 17592186044416 then (spec_DrawSequencePlan.l0 k x5 (x6 ++ [bt444.1]) (wrap64 (x7 - 1)) x433000 bt444.2.1 bt444.2.2) else (none))) else ((spec_l1Cur_number.f x433000 x433001 x433002).bind fun bt450=>(if x6.length < 17592186044416 then (spec_DrawSequencePlan.l0 k x5 (x6 ++ [bt450.1]) (wrap64 (x7 - 1)) x433000 bt450.2.1 bt450.2.2) else (none)))
def spec_DrawSequencePlan.l1 : Nat → List Int → List Int → List Int → Int → Int → Option (List Int × List Int)
 | 0,_,_,_,_,_=>none
 | k + 1,x5,x6,x433000,x433001,x433002=>(spec_l1Cur_pick.f x433000 x433001 x433002 2).bind fun bt459=>(if (x6.length : Int) < (wrap64 (6 + bt459.1)) then (if x6.length < 17592186044416 then (spec_DrawSequencePlan.l1 k x5 (x6 ++ [1]) x433000 bt459.2.1 bt459.2.2) else (none)) else (some (x5,x6)))
end
def spec_DrawSequencePlan.f (k : Nat) (l0 : List Int) : Option (List Int × List Int):=(spec_l1Cur_anyChain.f k l0 0 0 9).bind fun bt433=>((spec_l1Cur_pick.f l0 bt433.2.1 bt433.2.2 4).bind fun bt438=>(spec_DrawSequencePlan.l0 k bt433.1 ([] : List Int) bt438.1 l0 bt438.2.1 bt438.2.2))
theorem spec_DrawSequencePlan.mono_l : ∀ k,(∀ y0 y1 y2 y3 y4 y5,LeO (spec_DrawSequencePlan.l0 k y0 y1 y2 y3 y4 y5) (spec_DrawSequencePlan.l0 (k + 1) y0 y1 y2 y3 y4 y5)) ∧ (∀ y0 y1 y2 y3 y4 y5 y6,LeO (spec_DrawSequencePlan.j1 k y0 y1 y2 y3 y4 y5 y6) (spec_DrawSequencePlan.j1 (k + 1) y0 y1 y2 y3 y4 y5 y6)) ∧ (∀ y0 y1 y2 y3 y4,LeO (spec_DrawSequencePlan.l1 k y0 y1 y2 y3 y4) (spec_DrawSequencePlan.l1 (k + 1) y0 y1 y2 y3 y4))
 | 0=>⟨fun _ _ _ _ _ _ r h=>by simp [spec_DrawSequencePlan.l0] at h,fun _ _ _ _ _ _ _ r h=>by simp [spec_DrawSequencePlan.j1] at h,fun _ _ _ _ _ r h=>by simp [spec_DrawSequencePlan.l1] at h⟩
 | k + 1=>by
  obtain ⟨ih0,ih1,ih2⟩:=spec_DrawSequencePlan.mono_l k
  refine ⟨?_,?_,?_⟩
  ·intro y0 y1 y2 y3 y4 y5
   unfold spec_DrawSequencePlan.l0
   repeat' first
   | (with_reducible exact ih0 _ _ _ _ _ _)
   | (with_reducible exact ih1 _ _ _ _ _ _ _)
   | (with_reducible exact ih2 _ _ _ _ _)
   | (with_reducible exact spec_l1Cur_anyChain.mono _ _ _ _ _)
   | (with_reducible exact LeO.refl _)
   | (with_reducible exact LeO.none _)
   | (with_reducible refine LeO.ite ?_ ?_)
   | (with_reducible refine LeO.bind ?_ (fun _=>?_))
   | exact ih0 _ _ _ _ _ _
   | exact ih1 _ _ _ _ _ _ _
   | exact ih2 _ _ _ _ _
   | exact spec_l1Cur_anyChain.mono _ _ _ _ _
   | exact LeO.none _
   | refine LeO.ite ?_ ?_
   | refine LeO.bind ?_ (fun _=>?_)
  ·intro y0 y1 y2 y3 y4 y5 y6
   unfold spec_DrawSequencePlan.j1
   repeat' first
   | (with_reducible exact ih0 _ _ _ _ _ _)
   | (with_reducible exact ih1 _ _ _ _ _ _ _)
   | (with_reducible exact ih2 _ _ _ _ _)
   | (with_reducible exact spec_l1Cur_anyChain.mono _ _ _ _ _)
   | (with_reducible exact LeO.refl _)
   | (with_reducible exact LeO.none _)
   | (with_reducible refine LeO.ite ?_ ?_)
   | (with_reducible refine LeO.bind ?_ (fun _=>?_))
   | exact ih0 _ _ _ _ _ _
   | exact ih1 _ _ _ _ _ _ _
   | exact ih2 _ _ _ _ _
   | exact spec_l1Cur_anyChain.mono _ _ _ _ _
   | exact LeO.none _
   | refine LeO.ite ?_ ?_
   | refine LeO.bind ?_ (fun _=>?_)
  ·intro y0 y1 y2 y3 y4
   unfold spec_DrawSequencePlan.l1
   repeat' first
   | (with_reducible exact ih0 _ _ _ _ _ _)
   | (with_reducible exact ih1 _ _ _ _ _ _ _)
   | (with_reducible exact ih2 _ _ _ _ _)
   | (with_reducible exact spec_l1Cur_anyChain.mono _ _ _ _ _)
   | (with_reducible exact LeO.refl _)
   | (with_reducible exact LeO.none _)
   | (with_reducible refine LeO.ite ?_ ?_)
   | (with_reducible refine LeO.bind ?_ (fun _=>?_))
   | exact ih0 _ _ _ _ _ _
   | exact ih1 _ _ _ _ _ _ _
   | exact ih2 _ _ _ _ _
   | exact spec_l1Cur_anyChain.mono _ _ _ _ _
   | exact LeO.none _
   | refine LeO.ite ?_ ?_
   | refine LeO.bind ?_ (fun _=>?_)
theorem spec_DrawSequencePlan.mono : ∀ a0 k,LeO (spec_DrawSequencePlan.f k a0) (spec_DrawSequencePlan.f (k + 1) a0):=by
 intro a0 k
 obtain ⟨ih0,ih1,ih2⟩:=spec_DrawSequencePlan.mono_l k
 unfold spec_DrawSequencePlan.f
 repeat' first
   | (with_reducible exact ih0 _ _ _ _ _ _)
   | (with_reducible exact ih1 _ _ _ _ _ _ _)
   | (with_reducible exact ih2 _ _ _ _ _)
   | (with_reducible exact spec_l1Cur_anyChain.mono _ _ _ _ _)
   | (with_reducible exact LeO.refl _)
   | (with_reducible exact LeO.none _)
   | (with_reducible refine LeO.ite ?_ ?_)
   | (with_reducible refine LeO.bind ?_ (fun _=>?_))
   | exact ih0 _ _ _ _ _ _
   | exact ih1 _ _ _ _ _ _ _
   | exact ih2 _ _ _ _ _
   | exact spec_l1Cur_anyChain.mono _ _ _ _ _
   | exact LeO.none _
   | refine LeO.ite ?_ ?_
   | refine LeO.bind ?_ (fun _=>?_)
set_option maxHeartbeats 8000000 in
set_option maxRecDepth 100000 in
theorem spec_DrawSequencePlan.calls (k : Nat) (A0 : Option Addr) (c0 : Nat) (l0 : List Int) (r1 : List Int) (r2 : List Int) (w : World) (hr0 : Kd.C (Kd.int .u8) w A0 l0.length l0) (hc0 : l0.length ≤ c0) (h : spec_DrawSequencePlan.f k l0 = some (r1,r2)) :
  Calls Try.prog 32 #[.slice A0 l0.length c0] w fun e w'=>∃ v0_ v1_ : Value,e = .returned (.tuple #[v0_,v1_]) ∧ Kd.R (Kd.int .i64) 3 w' w.heap.size (fun k_=>some k_ ≠ (v1_ : Value).ownBlock) v0_ r1 ∧ Kd.R (Kd.int .i64) 3 w' w.heap.size (fun k_=>some k_ ≠ (v0_ : Value).ownBlock) v1_ r2 ∧ Below w.heap.size w w':=by
 have hu84:=Try.underlying84
 have HR0:=Aside0.mk hr0
 have HC0:=Aside0.mk hc0
 clear hr0 hc0
 have HB:=Aside0.mk (Below.refl w.heap.size w)
 have H : ((spec_l1Cur_anyChain.f k l0 0 0 9).bind fun bt433=>((spec_l1Cur_pick.f l0 bt433.2.1 bt433.2.2 4).bind fun bt438=>(spec_DrawSequencePlan.l0 k bt433.1 ([] : List Int) bt438.1 l0 bt438.2.1 bt438.2.2))) = some (r1,r2):=h
 clear h
 replace H:=Option.bind_eq_some_iff.mp H
 obtain ⟨⟨t433,t436,t437⟩,A20,H⟩:=H
 replace H : ((spec_l1Cur_pick.f l0 t436 t437 4).bind fun bt438=>(spec_DrawSequencePlan.l0 k t433 ([] : List Int) bt438.1 l0 bt438.2.1 bt438.2.2)) = some (r1,r2):=H
 have A2:=Aside0.mk A20
 clear A20
 replace H:=Option.bind_eq_some_iff.mp H
 obtain ⟨⟨t438,t439,t440⟩,A30,H⟩:=H
 replace H : (spec_DrawSequencePlan.l0 k t433 ([] : List Int) t438 l0 t439 t440) = some (r1,r2):=H
 have A3:=Aside0.mk A30
 clear A30
 have H':=Aside0.mk H
 clear H
 go_enter Try.func32,Try.ntmps32
 go_wp2_with (first|((with_reducible refine gate_dst (N:=10) rfl ?_);refine box_event ?hg (N:=10) ?hd (cs:=#[.slice A0 l0.length c0,.int .i64 0,.int .u64 0]) (t:=84) ?hr ?_;(case hd=>rfl);(case hg=>rfl);(case hr=>first|(go_simp;done)|(go_simp;rfl));intro gb432 hg w4 hbox hb;have n0_:=Aside0.mk (below_step bz hb);have n1_:=Aside0.mk ((by rw [hg];exact (below_size bz) : w.heap.size ≤ gb432));have n2_:=Aside0.mk ((by rw [hg];exact (below_size bz) : w.heap.size ≤ gb432));have n3_:=Aside0.mk ((show IsS84 w w4 gb432 l0 0 0 from ⟨_,_,hbox,(by rw [hg];exact (below_size bz)),HR0.out⟩));clear HB;have HB:=n0_;have GW432:=n1_;have GE432:=n2_;have HI432:=n3_;clear n0_ n1_ n2_ n3_;clear hb hbox hg)|((with_reducible refine gate_callee (f:=73) rfl ?_);refine goesL_ (some 12) rfl rfl Try.func73 (by kernel_rfl) rfl #[.pointer (some ⟨gb432,0,none⟩),.int .i64 9] rfl mz ?_;(with_reducible refine (spec_l1Cur_anyChain.calls k gb432 l0 0 0 9 t433 t436 t437 w _ ?side1 ?side2 A2.out).mono ?_);(case side1=>repeat (first|(with_reducible first|exact HI432.out|apply IsS84.alloc|apply IsS84.drewN|apply IsS84.drew|apply IsS84.set_1|apply IsS84.set_2)|exact HI432.out));(case side2=>repeat (first|(with_reducible first|exact HB.out|apply below_alloc|apply pw_below_drewN|apply below_drew1|refine below_set ?_ (IsS84.ge HI432.out))|exact HB.out));rintro e w5 ⟨v434,rfl,ho0,hi,hb,hk⟩;refine ⟨_,rfl,?_⟩;have n0_:=Aside0.mk (Kd.R_lower ho0 (below_size (by repeat (first|(with_reducible first|exact HB.out|apply below_alloc|apply pw_below_drewN|apply below_drew1|refine below_set ?_ (IsS84.ge HI432.out))|exact HB.out))));have n1_:=Aside0.mk (hb);have n2_:=Aside0.mk (hi);clear HB HI432;have HO435:=n0_;have HB:=n1_;have HI432:=n2_;clear n0_ n1_ n2_;(try clear hb);(try clear hb2);(try clear hk);(try clear hi);(try clear ho0))|((with_reducible refine gate_callee (f:=74) rfl ?_);refine goesL_ (some 14) rfl rfl Try.func74 (by kernel_rfl) rfl #[.pointer (some ⟨gb432,0,none⟩),.int .i64 4] rfl mz ?_;(with_reducible refine (spec_l1Cur_pick.calls gb432 l0 t436 t437 4 t438 t439 t440 w _ ?side1 ?side2 A3.out).mono ?_);(case side1=>repeat (first|(with_reducible first|exact HI432.out|apply IsS84.alloc|apply IsS84.drewN|apply IsS84.drew|apply IsS84.set_1|apply IsS84.set_2)|exact HI432.out));(case side2=>repeat (first|(with_reducible first|exact HB.out|apply below_alloc|apply pw_below_drewN|apply below_drew1|refine below_set ?_ (IsS84.ge HI432.out))|exact HB.out));rintro e w6 ⟨rfl,hi,hb,hk⟩;refine ⟨_,rfl,?_⟩;have n0_:=Aside0.mk (Kd.R_mono (Kd.R_keep (IsS84.apart (show IsS84 w _ gb432 l0 t436 t437 from by repeat (first|(with_reducible first|exact HI432.out|apply IsS84.alloc|apply IsS84.drewN|apply IsS84.drew|apply IsS84.set_1|apply IsS84.set_2)|exact HI432.out)) (rz HO435.out) (by decide)) hk (fun _ h=>h.2)) (fun _ h=>h.1));have n1_:=Aside0.mk (hb);have n2_:=Aside0.mk (hi);clear HO435 HB HI432;have HO435:=n0_;have HB:=n1_;have HI432:=n2_;clear n0_ n1_ n2_;(try clear hb);(try clear hb2);(try clear hk);(try clear hi)))
 go_loopg [6,7] k (fun kq v6 v7 w'=>∃ (x6_1 : List Int) (x7_1 : Int) (x433001_1 : Int) (x433002_1 : Int),v7 = .int .i64 x7_1 ∧ Aside0 (spec_DrawSequencePlan.l0 kq t433 x6_1 x7_1 l0 x433001_1 x433002_1 = some (r1,r2)) ∧ Aside0 (kq ≤ k) ∧ Aside0 (Kd.R (Kd.int .i64) 3 w' w.heap.size (fun k_=>some k_ ≠ (v6 : Value).ownBlock) v434 t433) ∧ Aside0 (Kd.R (Kd.int .i64) 3 w' w.heap.size (fun k_=>some k_ ≠ (v434 : Value).ownBlock) v6 x6_1) ∧ Aside0 (IsS84 w w' gb432 l0 x433001_1 x433002_1) ∧ Aside0 (Below w.heap.size w w'))
 case atStart=>exact ⟨(([] : List Int)),(t438),(t439),(t440),fz,H',⟨Nat.le_refl _⟩,⟨by (with_reducible repeat (first|apply Kd.R_alloc|apply Kd.R_drewN|apply Kd.R_drew));exact Kd.R_mono HO435.out (fun _ hk=>(by simp [Value.ownBlock]))⟩,⟨by first|exact Kd.R_nil _ _ _ _ _|exact Kd.N_nil _ _ _ _ _|exact Kd.V_nil _ _ _ _ _|exact Kd.Q_nil _ _ _ _ _|exact Kd.S_nil _ _ _ _ _⟩,⟨by repeat (first|(with_reducible first|exact HI432.out|apply IsS84.alloc|apply IsS84.drewN|apply IsS84.drew|apply IsS84.set_1|apply IsS84.set_2)|exact HI432.out)⟩,⟨by repeat (first|(with_reducible first|exact HB.out|apply below_alloc|apply pw_below_drewN|apply below_drew1|refine below_set ?_ (IsS84.ge HI432.out))|exact HB.out)⟩⟩
 case round=>
  clear H'
  try clear p2
  try clear c3
  obtain ⟨x6_1,x7_1,x433001_1,x433002_1,rfl,HA,HK1,HO_5,HO_6,HI432,HB⟩:=hrel
  cases gk with
  | zero=>exact absurd HA.out (by simp [spec_DrawSequencePlan.l0])
  | succ k1=>
   have H:=HA.out
   clear HA
   simp only [spec_DrawSequencePlan.l0] at H
   by_cases c7 : x7_1 > 0
   ·rw [if_pos c7] at H
    have c7b0 : decide (0 < x7_1) = true:=decide_eq_true c7
    clear c7
    have HC8:=Aside0.mk H
    clear H
    go_upto_region 7 with (fail)
    go_cut [26] (fun v26 wc=>∃ (kq : Nat) (x26_7 : Bool) (x433001_7 : Int) (x433002_7 : Int),v26 = .bool x26_7 ∧ Aside0 (spec_DrawSequencePlan.j1 kq t433 x6_1 x7_1 x26_7 l0 x433001_7 x433002_7 = some (r1,r2)) ∧ Aside0 (kq ≤ k1) ∧ Aside0 (Kd.R (Kd.int .i64) 3 wc w.heap.size (fun k_=>some k_ ≠ (u6 : Value).ownBlock) v434 t433) ∧ Aside0 (Kd.R (Kd.int .i64) 3 wc w.heap.size (fun k_=>some k_ ≠ (v434 : Value).ownBlock) u6 x6_1) ∧ Aside0 (IsS84 w wc gb432 l0 x433001_7 x433002_7) ∧ Aside0 (Below w.heap.size w wc))
    case first=>
     have H:=HC8.out
     clear HC8
     by_cases c9 : (t433.length : Int) > 0
     ·rw [if_pos c9] at H
      have c9b0 : decide (0 < (t433.length : Int)) = true:=decide_eq_true c9
      have c9b1 : decide (0 < t433.length) = true:=decide_eq_true (by omega)
      clear c9
      (first|rw [c9b0]|(simp only [i64_w,i32_w];rw [c9b0])|skip)
      replace H:=Option.bind_eq_some_iff.mp H
      obtain ⟨⟨t441,t442,t443⟩,A100,H⟩:=H
      replace H : (spec_DrawSequencePlan.j1 k1 t433 x6_1 x7_1 (!t441) l0 t442 t443) = some (r1,r2):=H
      have A10:=Aside0.mk A100
      clear A100
      have H':=Aside0.mk H
      clear H
      obtain ⟨Ao11,co11,eo11⟩:=Kd.R_slice HO_5.out
      subst eo11
      go_wp2_with (first|(go_at_call 75;(with_reducible refine (spec_l1Cur_one.calls gb432 l0 x433001_1 x433002_1 10 t441 t442 t443 w _ ?side1 ?side2 A10.out).mono ?_);(case side1=>repeat (first|(with_reducible first|exact HI432.out|apply IsS84.alloc|apply IsS84.drewN|apply IsS84.drew|apply IsS84.set_1|apply IsS84.set_2)|exact HI432.out));(case side2=>repeat (first|(with_reducible first|exact HB.out|apply below_alloc|apply pw_below_drewN|apply below_drew1|refine below_set ?_ (IsS84.ge HI432.out))|exact HB.out));rintro e w12 ⟨rfl,hi,hb,hk⟩;have n0_:=Aside0.mk (Kd.R_mono (Kd.R_keep (IsS84.apart (show IsS84 w _ gb432 l0 x433001_1 x433002_1 from by repeat (first|(with_reducible first|exact HI432.out|apply IsS84.alloc|apply IsS84.drewN|apply IsS84.drew|apply IsS84.set_1|apply IsS84.set_2)|exact HI432.out)) (rz HO_5.out) (by decide)) hk (fun _ h=>h.2)) (fun _ h=>h.1));have n1_:=Aside0.mk (Kd.R_mono (Kd.R_keep (IsS84.apart (show IsS84 w _ gb432 l0 x433001_1 x433002_1 from by repeat (first|(with_reducible first|exact HI432.out|apply IsS84.alloc|apply IsS84.drewN|apply IsS84.drew|apply IsS84.set_1|apply IsS84.set_2)|exact HI432.out)) (rz HO_6.out) (by decide)) hk (fun _ h=>h.2)) (fun _ h=>h.1));have n2_:=Aside0.mk (hb);have n3_:=Aside0.mk (hi);clear HO_5 HO_6 HB HI432;have HO_5:=n0_;have HO_6:=n1_;have HB:=n2_;have HI432:=n3_;clear n0_ n1_ n2_ n3_;(try clear hb);(try clear hb2);(try clear hk);(try clear hi)))
      go_meet
      case rel=>exact ⟨_,(!t441),(t442),(t443),fz,H',⟨by have:=HK1.out;first|omega|exact Nat.le_refl _⟩,⟨by (with_reducible repeat (first|apply Kd.R_alloc|apply Kd.R_drewN|apply Kd.R_drew));exact HO_5.out⟩,⟨by (with_reducible repeat (first|apply Kd.R_alloc|apply Kd.R_drewN|apply Kd.R_drew));exact HO_6.out⟩,⟨by repeat (first|(with_reducible first|exact HI432.out|apply IsS84.alloc|apply IsS84.drewN|apply IsS84.drew|apply IsS84.set_1|apply IsS84.set_2)|exact HI432.out)⟩,⟨by repeat (first|(with_reducible first|exact HB.out|apply below_alloc|apply pw_below_drewN|apply below_drew1|refine below_set ?_ (IsS84.ge HI432.out))|exact HB.out)⟩⟩
     ·rw [if_neg c9] at H
      have c9b0 : decide (0 < (t433.length : Int)) = false:=decide_eq_false c9
      have c9b1 : decide (0 < t433.length) = false:=decide_eq_false (by omega)
      clear c9
      (first|rw [c9b0]|(simp only [i64_w,i32_w];rw [c9b0])|skip)
      have H':=Aside0.mk H
      clear H
      obtain ⟨Ao13,co13,eo13⟩:=Kd.R_slice HO_5.out
      subst eo13
      go_wp2
      go_meet
      case rel=>exact ⟨_,(false),(x433001_1),(x433002_1),fz,H',⟨by have:=HK1.out;first|omega|exact Nat.le_refl _⟩,⟨by (with_reducible repeat (first|apply Kd.R_alloc|apply Kd.R_drewN|apply Kd.R_drew));exact HO_5.out⟩,⟨by (with_reducible repeat (first|apply Kd.R_alloc|apply Kd.R_drewN|apply Kd.R_drew));exact HO_6.out⟩,⟨by repeat (first|(with_reducible first|exact HI432.out|apply IsS84.alloc|apply IsS84.drewN|apply IsS84.drew|apply IsS84.set_1|apply IsS84.set_2)|exact HI432.out)⟩,⟨by repeat (first|(with_reducible first|exact HB.out|apply below_alloc|apply pw_below_drewN|apply below_drew1|refine below_set ?_ (IsS84.ge HI432.out))|exact HB.out)⟩⟩
    case rest=>
     clear HC8
     try clear p2
     try clear c3
     try clear c7
     try clear c7b0
     try clear c9
     try clear c9b0
     try clear c9b1
     try clear p2
     obtain ⟨kq,x26_7,x433001_7,x433002_7,rfl,HA,HJ7,HO_5,HO_6,HI432,HB⟩:=hcut
     cases kq with
     | zero=>exact absurd HA.out (by simp [spec_DrawSequencePlan.j1])
     | succ kj7=>
      have H:=HA.out
      clear HA
      simp only [spec_DrawSequencePlan.j1] at H
      by_cases c14 : x26_7 = true
      ·subst c14
       have H1 : ((spec_l1Cur_among.f l0 x433001_7 x433002_7 t433).bind fun bt444=>(if x6_1.length < 17592186044416 then (spec_DrawSequencePlan.l0 kj7 t433 (x6_1 ++ [bt444.1]) (wrap64 (x7_1 - 1)) l0 bt444.2.1 bt444.2.2) else (none))) = some (r1,r2):=by rw [if_pos rfl] at H;exact H
       clear H
       have H:=H1
       clear H1
       replace H:=Option.bind_eq_some_iff.mp H
       obtain ⟨⟨t444,t445,t446⟩,A150,H⟩:=H
       replace H : (if x6_1.length < 17592186044416 then (spec_DrawSequencePlan.l0 kj7 t433 (x6_1 ++ [t444]) (wrap64 (x7_1 - 1)) l0 t445 t446) else (none)) = some (r1,r2):=H
       have A15:=Aside0.mk A150
       clear A150
       by_cases c16 : x6_1.length < 17592186044416
       ·rw [if_pos c16] at H
        have LMc16:=Aside0.mk c16
        clear c16
        obtain ⟨y447,hy447⟩ : ∃ y_ : List Int,y_ = (x6_1 ++ [t444]):=⟨_,rfl⟩
        replace H : (spec_DrawSequencePlan.l0 kj7 t433 y447 (wrap64 (x7_1 - 1)) l0 t445 t446) = some (r1,r2):=by first|(rw [hy447];with_reducible exact H)|(have H2_:=(Option.bind_some _ _).symm.trans H;rw [hy447];with_reducible exact H2_)|(have H2_:=(Option.bind_some _ _).symm.trans H;with_reducible exact H2_)|with_reducible exact H|(rw [hy447];exact H)|exact H
        have Ny447:=Aside0.mk hy447
        clear hy447
        have H':=Aside0.mk H
        clear H
        obtain ⟨Ao17,co17,eo17⟩:=Kd.R_slice HO_5.out
        subst eo17
        go_wp2_with (first|((with_reducible refine gate_callee (f:=76) rfl ?_);refine goesL_ (some 30) rfl rfl Try.func76 (by kernel_rfl) rfl #[.pointer (some ⟨gb432,0,none⟩),.slice Ao17 t433.length co17] rfl mz ?_;(with_reducible refine (spec_l1Cur_among.calls gb432 l0 x433001_7 x433002_7 _ _ t433 t444 t445 t446 w _ ?side1 ?side2 ?side3 ?side4 ?side5 A15.out).mono ?_);(case side1=>repeat (first|(with_reducible first|exact HI432.out|apply IsS84.alloc|apply IsS84.drewN|apply IsS84.drew|apply IsS84.set_1|apply IsS84.set_2)|exact HI432.out));(case side2=>repeat (first|(with_reducible first|exact HB.out|apply below_alloc|apply pw_below_drewN|apply below_drew1|refine below_set ?_ (IsS84.ge HI432.out))|exact HB.out));(case side3=>exact cz (Kd.R_reads' HO_5.out).2.2);(case side4=>exact (Kd.R_reads' HO_5.out).2.1);(case side5=>exact far_slice (IsS84.own_ne HI432.out HO_5.out (by decide)));rintro e w18 ⟨rfl,hi,hb,hk⟩;refine ⟨_,rfl,?_⟩;have n0_:=Aside0.mk (Kd.R_mono (Kd.R_keep (IsS84.apart (show IsS84 w _ gb432 l0 x433001_7 x433002_7 from by repeat (first|(with_reducible first|exact HI432.out|apply IsS84.alloc|apply IsS84.drewN|apply IsS84.drew|apply IsS84.set_1|apply IsS84.set_2)|exact HI432.out)) (rz HO_5.out) (by decide)) hk (fun _ h=>h.2)) (fun _ h=>h.1));have n1_:=Aside0.mk (Kd.R_mono (Kd.R_keep (IsS84.apart (show IsS84 w _ gb432 l0 x433001_7 x433002_7 from by repeat (first|(with_reducible first|exact HI432.out|apply IsS84.alloc|apply IsS84.drewN|apply IsS84.drew|apply IsS84.set_1|apply IsS84.set_2)|exact HI432.out)) (rz HO_6.out) (by decide)) hk (fun _ h=>h.2)) (fun _ h=>h.1));have n2_:=Aside0.mk (hb);have n3_:=Aside0.mk (hi);clear HO_5 HO_6 HB HI432;have HO_5:=n0_;have HO_6:=n1_;have HB:=n2_;have HI432:=n3_;clear n0_ n1_ n2_ n3_;(try clear hb);(try clear hb2);(try clear hk);(try clear hi))|((with_reducible refine gate_builtin (b:=.append) (xs:=#[.tmp 27,.tmp 31]) rfl ?_);at_builtin;refine Kd.R_append (Kd.int .i64) (w0:=w) w.heap.size rfl (.tmp 27) (.tmp 31) 23 3 (.int .i64 0) 8 rfl Try.underlying23 info3 rfl (by decide) (by omega) u6 x6_1 t444 [.int .i64 t444] (fun k_=>some k_ ≠ (.slice Ao17 t433.length co17 : Value).ownBlock) (fun _=>False) rfl rfl ?aP (fun _ hk=>hk.elim) ?aF ?aO ?aB ?aS ?aL ?_;(case aP=>exact rfl);(case aB=>exact (by repeat (first|(with_reducible first|exact HB.out|apply below_alloc|apply pw_below_drewN|apply below_drew1|refine below_set ?_ (IsS84.ge HI432.out))|exact HB.out)));(case aF=>exact (fun k_ hk=>Kd.fresh' (Kd.R_lt (rz HO_5.out)) k_ hk));(case aO=>exact (rz HO_6.out));(case aS=>exact (below_size (by repeat (first|(with_reducible first|exact HB.out|apply below_alloc|apply pw_below_drewN|apply below_drew1|refine below_set ?_ (IsS84.ge HI432.out))|exact HB.out))));(case aL=>have:=LMc16.out;omega);intro v448 w19 ho hb hg hat;rw [← Ny447.out] at ho;have n0_:=Aside0.mk (Kd.R_after (ok:=(fun _=>True)) (by (with_reducible repeat (first|apply Kd.R_alloc|apply Kd.R_drewN|apply Kd.R_drew));exact Kd.R_mono HO_5.out (fun _ hk=>⟨trivial,hk⟩)) hg hat);have n1_:=Aside0.mk (IsS84.grown (by repeat (first|(with_reducible first|exact HI432.out|apply IsS84.alloc|apply IsS84.drewN|apply IsS84.drew|apply IsS84.set_1|apply IsS84.set_2)|exact HI432.out)) hg (IsS84.own_ne HI432.out HO_6.out (by decide)));have n2_:=Aside0.mk (hb);have n3_:=Aside0.mk (ho);clear HO_5 HI432 HB HO_6;have HO_5:=n0_;have HI432:=n1_;have HB:=n2_;have HO449:=n3_;clear n0_ n1_ n2_ n3_;clear ho hb hg hat))
        go_roundg kj7
        case measure=>have:=HK1.out;have:=HJ7.out;omega
        case rel=>exact ⟨(y447),(wrap64 (x7_1 - 1)),(t445),(t446),fz,H',⟨by have:=HK1.out;have:=HJ7.out;omega⟩,⟨by (with_reducible repeat (first|apply Kd.R_alloc|apply Kd.R_drewN|apply Kd.R_drew));exact Kd.R_mono HO_5.out (fun _ hk=>hk.2)⟩,⟨by (with_reducible repeat (first|apply Kd.R_alloc|apply Kd.R_drewN|apply Kd.R_drew));exact HO449.out⟩,⟨by repeat (first|(with_reducible first|exact HI432.out|apply IsS84.alloc|apply IsS84.drewN|apply IsS84.drew|apply IsS84.set_1|apply IsS84.set_2)|exact HI432.out)⟩,⟨by repeat (first|(with_reducible first|exact HB.out|apply below_alloc|apply pw_below_drewN|apply below_drew1|refine below_set ?_ (IsS84.ge HI432.out))|exact HB.out)⟩⟩
       ·rw [if_neg c16] at H
        exact absurd H (by simp)
      ·replace c14:=Bool.eq_false_iff.mpr c14
       subst c14
       have H1 : ((spec_l1Cur_number.f l0 x433001_7 x433002_7).bind fun bt450=>(if x6_1.length < 17592186044416 then (spec_DrawSequencePlan.l0 kj7 t433 (x6_1 ++ [bt450.1]) (wrap64 (x7_1 - 1)) l0 bt450.2.1 bt450.2.2) else (none))) = some (r1,r2):=by rw [if_neg (show ¬ (false = true) by decide)] at H;exact H
       clear H
       have H:=H1
       clear H1
       replace H:=Option.bind_eq_some_iff.mp H
       obtain ⟨⟨t450,t451,t452⟩,A200,H⟩:=H
       replace H : (if x6_1.length < 17592186044416 then (spec_DrawSequencePlan.l0 kj7 t433 (x6_1 ++ [t450]) (wrap64 (x7_1 - 1)) l0 t451 t452) else (none)) = some (r1,r2):=H
       have A20:=Aside0.mk A200
       clear A200
       by_cases c21 : x6_1.length < 17592186044416
       ·rw [if_pos c21] at H
        have LMc21:=Aside0.mk c21
        clear c21
        obtain ⟨y453,hy453⟩ : ∃ y_ : List Int,y_ = (x6_1 ++ [t450]):=⟨_,rfl⟩
        replace H : (spec_DrawSequencePlan.l0 kj7 t433 y453 (wrap64 (x7_1 - 1)) l0 t451 t452) = some (r1,r2):=by first|(rw [hy453];with_reducible exact H)|(have H2_:=(Option.bind_some _ _).symm.trans H;rw [hy453];with_reducible exact H2_)|(have H2_:=(Option.bind_some _ _).symm.trans H;with_reducible exact H2_)|with_reducible exact H|(rw [hy453];exact H)|exact H
        have Ny453:=Aside0.mk hy453
        clear hy453
        have H':=Aside0.mk H
        clear H
        go_wp2_with (first|((with_reducible refine gate_callee (f:=77) rfl ?_);refine goesL_ (some 35) rfl rfl Try.func77 (by kernel_rfl) rfl #[.pointer (some ⟨gb432,0,none⟩)] rfl mz ?_;(with_reducible refine (spec_l1Cur_number.calls gb432 l0 x433001_7 x433002_7 t450 t451 t452 w _ ?side1 ?side2 A20.out).mono ?_);(case side1=>repeat (first|(with_reducible first|exact HI432.out|apply IsS84.alloc|apply IsS84.drewN|apply IsS84.drew|apply IsS84.set_1|apply IsS84.set_2)|exact HI432.out));(case side2=>repeat (first|(with_reducible first|exact HB.out|apply below_alloc|apply pw_below_drewN|apply below_drew1|refine below_set ?_ (IsS84.ge HI432.out))|exact HB.out));rintro e w22 ⟨rfl,hi,hb,hk⟩;refine ⟨_,rfl,?_⟩;have n0_:=Aside0.mk (Kd.R_mono (Kd.R_keep (IsS84.apart (show IsS84 w _ gb432 l0 x433001_7 x433002_7 from by repeat (first|(with_reducible first|exact HI432.out|apply IsS84.alloc|apply IsS84.drewN|apply IsS84.drew|apply IsS84.set_1|apply IsS84.set_2)|exact HI432.out)) (rz HO_5.out) (by decide)) hk (fun _ h=>h.2)) (fun _ h=>h.1));have n1_:=Aside0.mk (Kd.R_mono (Kd.R_keep (IsS84.apart (show IsS84 w _ gb432 l0 x433001_7 x433002_7 from by repeat (first|(with_reducible first|exact HI432.out|apply IsS84.alloc|apply IsS84.drewN|apply IsS84.drew|apply IsS84.set_1|apply IsS84.set_2)|exact HI432.out)) (rz HO_6.out) (by decide)) hk (fun _ h=>h.2)) (fun _ h=>h.1));have n2_:=Aside0.mk (hb);have n3_:=Aside0.mk (hi);clear HO_5 HO_6 HB HI432;have HO_5:=n0_;have HO_6:=n1_;have HB:=n2_;have HI432:=n3_;clear n0_ n1_ n2_ n3_;(try clear hb);(try clear hb2);(try clear hk);(try clear hi))|((with_reducible refine gate_builtin (b:=.append) (xs:=#[.tmp 33,.tmp 36]) rfl ?_);at_builtin;refine Kd.R_append (Kd.int .i64) (w0:=w) w.heap.size rfl (.tmp 33) (.tmp 36) 23 3 (.int .i64 0) 8 rfl Try.underlying23 info3 rfl (by decide) (by omega) u6 x6_1 t450 [.int .i64 t450] (fun k_=>some k_ ≠ (v434 : Value).ownBlock) (fun _=>False) rfl rfl ?aP (fun _ hk=>hk.elim) ?aF ?aO ?aB ?aS ?aL ?_;(case aP=>exact rfl);(case aB=>exact (by repeat (first|(with_reducible first|exact HB.out|apply below_alloc|apply pw_below_drewN|apply below_drew1|refine below_set ?_ (IsS84.ge HI432.out))|exact HB.out)));(case aF=>exact (fun k_ hk=>Kd.fresh' (Kd.R_lt (rz HO_5.out)) k_ hk));(case aO=>exact (rz HO_6.out));(case aS=>exact (below_size (by repeat (first|(with_reducible first|exact HB.out|apply below_alloc|apply pw_below_drewN|apply below_drew1|refine below_set ?_ (IsS84.ge HI432.out))|exact HB.out))));(case aL=>have:=LMc21.out;omega);intro v454 w23 ho hb hg hat;rw [← Ny453.out] at ho;have n0_:=Aside0.mk (Kd.R_after (ok:=(fun _=>True)) (by (with_reducible repeat (first|apply Kd.R_alloc|apply Kd.R_drewN|apply Kd.R_drew));exact Kd.R_mono HO_5.out (fun _ hk=>⟨trivial,hk⟩)) hg hat);have n1_:=Aside0.mk (IsS84.grown (by repeat (first|(with_reducible first|exact HI432.out|apply IsS84.alloc|apply IsS84.drewN|apply IsS84.drew|apply IsS84.set_1|apply IsS84.set_2)|exact HI432.out)) hg (IsS84.own_ne HI432.out HO_6.out (by decide)));have n2_:=Aside0.mk (hb);have n3_:=Aside0.mk (ho);clear HO_5 HI432 HB HO_6;have HO_5:=n0_;have HI432:=n1_;have HB:=n2_;have HO455:=n3_;clear n0_ n1_ n2_ n3_;clear ho hb hg hat))
        go_roundg kj7
        case measure=>have:=HK1.out;have:=HJ7.out;omega
        case rel=>exact ⟨(y453),(wrap64 (x7_1 - 1)),(t451),(t452),fz,H',⟨by have:=HK1.out;have:=HJ7.out;omega⟩,⟨by (with_reducible repeat (first|apply Kd.R_alloc|apply Kd.R_drewN|apply Kd.R_drew));exact Kd.R_mono HO_5.out (fun _ hk=>hk.2)⟩,⟨by (with_reducible repeat (first|apply Kd.R_alloc|apply Kd.R_drewN|apply Kd.R_drew));exact HO455.out⟩,⟨by repeat (first|(with_reducible first|exact HI432.out|apply IsS84.alloc|apply IsS84.drewN|apply IsS84.drew|apply IsS84.set_1|apply IsS84.set_2)|exact HI432.out)⟩,⟨by repeat (first|(with_reducible first|exact HB.out|apply below_alloc|apply pw_below_drewN|apply below_drew1|refine below_set ?_ (IsS84.ge HI432.out))|exact HB.out)⟩⟩
       ·rw [if_neg c21] at H
        exact absurd H (by simp)
   ·rw [if_neg c7] at H
    have c7b0 : decide (0 < x7_1) = false:=decide_eq_false c7
    clear c7
    replace H:=Option.bind_eq_some_iff.mp H
    obtain ⟨⟨t456,t457,t458⟩,A240,H⟩:=H
    replace H : (if t456 = true then (spec_DrawSequencePlan.l1 k1 t433 ([] : List Int) l0 t457 t458) else (some (t433,x6_1))) = some (r1,r2):=H
    have A24:=Aside0.mk A240
    clear A240
    by_cases c25 : t456 = true
    ·subst c25
     have H1 : (spec_DrawSequencePlan.l1 k1 t433 ([] : List Int) l0 t457 t458) = some (r1,r2):=by rw [if_pos rfl] at H;exact H
     clear H
     have H:=H1
     clear H1
     have H':=Aside0.mk H
     clear H
     go_wp2_with (first|((with_reducible refine gate_callee (f:=75) rfl ?_);refine goesL_ (some 39) rfl rfl Try.func75 (by kernel_rfl) rfl #[.pointer (some ⟨gb432,0,none⟩),.int .i64 12] rfl mz ?_;(with_reducible refine (spec_l1Cur_one.calls gb432 l0 x433001_1 x433002_1 12 true t457 t458 w _ ?side1 ?side2 A24.out).mono ?_);(case side1=>repeat (first|(with_reducible first|exact HI432.out|apply IsS84.alloc|apply IsS84.drewN|apply IsS84.drew|apply IsS84.set_1|apply IsS84.set_2)|exact HI432.out));(case side2=>repeat (first|(with_reducible first|exact HB.out|apply below_alloc|apply pw_below_drewN|apply below_drew1|refine below_set ?_ (IsS84.ge HI432.out))|exact HB.out));rintro e w26 ⟨rfl,hi,hb,hk⟩;refine ⟨_,rfl,?_⟩;have n0_:=Aside0.mk (Kd.R_mono (Kd.R_keep (IsS84.apart (show IsS84 w _ gb432 l0 x433001_1 x433002_1 from by repeat (first|(with_reducible first|exact HI432.out|apply IsS84.alloc|apply IsS84.drewN|apply IsS84.drew|apply IsS84.set_1|apply IsS84.set_2)|exact HI432.out)) (rz HO_5.out) (by decide)) hk (fun _ h=>h.2)) (fun _ h=>h.1));have n1_:=Aside0.mk (Kd.R_mono (Kd.R_keep (IsS84.apart (show IsS84 w _ gb432 l0 x433001_1 x433002_1 from by repeat (first|(with_reducible first|exact HI432.out|apply IsS84.alloc|apply IsS84.drewN|apply IsS84.drew|apply IsS84.set_1|apply IsS84.set_2)|exact HI432.out)) (rz HO_6.out) (by decide)) hk (fun _ h=>h.2)) (fun _ h=>h.1));have n2_:=Aside0.mk (hb);have n3_:=Aside0.mk (hi);clear HO_5 HO_6 HB HI432;have HO_5:=n0_;have HO_6:=n1_;have HB:=n2_;have HI432:=n3_;clear n0_ n1_ n2_ n3_;(try clear hb);(try clear hb2);(try clear hk);(try clear hi)))
     go_loopg [6] k1 (fun kq v6 w'=>∃ (x6_2 : List Int) (x433001_2 : Int) (x433002_2 : Int),Aside0 (spec_DrawSequencePlan.l1 kq t433 x6_2 l0 x433001_2 x433002_2 = some (r1,r2)) ∧ Aside0 (kq ≤ k1) ∧ Aside0 (Kd.R (Kd.int .i64) 3 w' w.heap.size (fun k_=>some k_ ≠ (v6 : Value).ownBlock) v434 t433) ∧ Aside0 (Kd.R (Kd.int .i64) 3 w' w.heap.size (fun k_=>some k_ ≠ (v434 : Value).ownBlock) v6 x6_2) ∧ Aside0 (IsS84 w w' gb432 l0 x433001_2 x433002_2) ∧ Aside0 (Below w.heap.size w w'))
     case atStart=>exact ⟨(([] : List Int)),(t457),(t458),H',⟨Nat.le_refl _⟩,⟨by (with_reducible repeat (first|apply Kd.R_alloc|apply Kd.R_drewN|apply Kd.R_drew));exact Kd.R_mono HO_5.out (fun _ hk=>(by simp [Value.ownBlock]))⟩,⟨by first|exact Kd.R_nil _ _ _ _ _|exact Kd.N_nil _ _ _ _ _|exact Kd.V_nil _ _ _ _ _|exact Kd.Q_nil _ _ _ _ _|exact Kd.S_nil _ _ _ _ _⟩,⟨by repeat (first|(with_reducible first|exact HI432.out|apply IsS84.alloc|apply IsS84.drewN|apply IsS84.drew|apply IsS84.set_1|apply IsS84.set_2)|exact HI432.out)⟩,⟨by repeat (first|(with_reducible first|exact HB.out|apply below_alloc|apply pw_below_drewN|apply below_drew1|refine below_set ?_ (IsS84.ge HI432.out))|exact HB.out)⟩⟩
     case round=>
      clear H'
      try clear c1
      try clear c2
      try clear p2
      try clear c3
      try clear p6
      try clear c7
      try clear c7b0
      try clear c9
      try clear c9b0
      try clear c9b1
      try clear c14
      try clear c16
      try clear c21
      try clear c25
      try clear p2
      obtain ⟨x6_2,x433001_2,x433002_2,HA,HK2,HO_5,HO_6,HI432,HB⟩:=hrel
      cases gk with
      | zero=>exact absurd HA.out (by simp [spec_DrawSequencePlan.l1])
      | succ k2=>
       have H:=HA.out
       clear HA
       simp only [spec_DrawSequencePlan.l1] at H
       replace H:=Option.bind_eq_some_iff.mp H
       obtain ⟨⟨t459,t460,t461⟩,A270,H⟩:=H
       replace H : (if (x6_2.length : Int) < (wrap64 (6 + t459)) then (if x6_2.length < 17592186044416 then (spec_DrawSequencePlan.l1 k2 t433 (x6_2 ++ [1]) l0 t460 t461) else (none)) else (some (t433,x6_2))) = some (r1,r2):=H
       have A27:=Aside0.mk A270
       clear A270
       by_cases c28 : (x6_2.length : Int) < (wrap64 (6 + t459))
       ·rw [if_pos c28] at H
        have c28b0 : decide ((x6_2.length : Int) < (wrap64 (6 + t459))) = true:=decide_eq_true c28
        clear c28
        by_cases c29 : x6_2.length < 17592186044416
        ·rw [if_pos c29] at H
         have LMc29:=Aside0.mk c29
         clear c29
         obtain ⟨y462,hy462⟩ : ∃ y_ : List Int,y_ = (x6_2 ++ [1]):=⟨_,rfl⟩
         replace H : (spec_DrawSequencePlan.l1 k2 t433 y462 l0 t460 t461) = some (r1,r2):=by first|(rw [hy462];with_reducible exact H)|(have H2_:=(Option.bind_some _ _).symm.trans H;rw [hy462];with_reducible exact H2_)|(have H2_:=(Option.bind_some _ _).symm.trans H;with_reducible exact H2_)|with_reducible exact H|(rw [hy462];exact H)|exact H
         have Ny462:=Aside0.mk hy462
         clear hy462
         have H':=Aside0.mk H
         clear H
         obtain ⟨Ao30,co30,eo30⟩:=Kd.R_slice HO_6.out
         subst eo30
         go_wp2_with (first|((with_reducible refine gate_callee (f:=74) rfl ?_);refine goesL_ (some 43) rfl rfl Try.func74 (by kernel_rfl) rfl #[.pointer (some ⟨gb432,0,none⟩),.int .i64 2] rfl mz ?_;(with_reducible refine (spec_l1Cur_pick.calls gb432 l0 x433001_2 x433002_2 2 t459 t460 t461 w _ ?side1 ?side2 A27.out).mono ?_);(case side1=>repeat (first|(with_reducible first|exact HI432.out|apply IsS84.alloc|apply IsS84.drewN|apply IsS84.drew|apply IsS84.set_1|apply IsS84.set_2)|exact HI432.out));(case side2=>repeat (first|(with_reducible first|exact HB.out|apply below_alloc|apply pw_below_drewN|apply below_drew1|refine below_set ?_ (IsS84.ge HI432.out))|exact HB.out));rintro e w31 ⟨rfl,hi,hb,hk⟩;refine ⟨_,rfl,?_⟩;have n0_:=Aside0.mk (Kd.R_mono (Kd.R_keep (IsS84.apart (show IsS84 w _ gb432 l0 x433001_2 x433002_2 from by repeat (first|(with_reducible first|exact HI432.out|apply IsS84.alloc|apply IsS84.drewN|apply IsS84.drew|apply IsS84.set_1|apply IsS84.set_2)|exact HI432.out)) (rz HO_5.out) (by decide)) hk (fun _ h=>h.2)) (fun _ h=>h.1));have n1_:=Aside0.mk (Kd.R_mono (Kd.R_keep (IsS84.apart (show IsS84 w _ gb432 l0 x433001_2 x433002_2 from by repeat (first|(with_reducible first|exact HI432.out|apply IsS84.alloc|apply IsS84.drewN|apply IsS84.drew|apply IsS84.set_1|apply IsS84.set_2)|exact HI432.out)) (rz HO_6.out) (by decide)) hk (fun _ h=>h.2)) (fun _ h=>h.1));have n2_:=Aside0.mk (hb);have n3_:=Aside0.mk (hi);clear HO_5 HO_6 HB HI432;have HO_5:=n0_;have HO_6:=n1_;have HB:=n2_;have HI432:=n3_;clear n0_ n1_ n2_ n3_;(try clear hb);(try clear hb2);(try clear hk);(try clear hi))|((with_reducible refine gate_builtin (b:=.append) (xs:=#[.tmp 46,.tmp 47]) rfl ?_);at_builtin;refine Kd.R_append (Kd.int .i64) (w0:=w) w.heap.size rfl (.tmp 46) (.tmp 47) 23 3 (.int .i64 0) 8 rfl Try.underlying23 info3 rfl (by decide) (by omega) (.slice Ao30 x6_2.length co30) x6_2 1 [.int .i64 1] (fun k_=>some k_ ≠ (v434 : Value).ownBlock) (fun _=>False) rfl rfl ?aP (fun _ hk=>hk.elim) ?aF ?aO ?aB ?aS ?aL ?_;(case aP=>exact rfl);(case aB=>exact (by repeat (first|(with_reducible first|exact HB.out|apply below_alloc|apply pw_below_drewN|apply below_drew1|refine below_set ?_ (IsS84.ge HI432.out))|exact HB.out)));(case aF=>exact (fun k_ hk=>Kd.fresh' (Kd.R_lt (rz HO_5.out)) k_ hk));(case aO=>exact (rz HO_6.out));(case aS=>exact (below_size (by repeat (first|(with_reducible first|exact HB.out|apply below_alloc|apply pw_below_drewN|apply below_drew1|refine below_set ?_ (IsS84.ge HI432.out))|exact HB.out))));(case aL=>have:=LMc29.out;omega);intro v463 w32 ho hb hg hat;rw [← Ny462.out] at ho;have n0_:=Aside0.mk (Kd.R_after (ok:=(fun _=>True)) (by (with_reducible repeat (first|apply Kd.R_alloc|apply Kd.R_drewN|apply Kd.R_drew));exact Kd.R_mono HO_5.out (fun _ hk=>⟨trivial,hk⟩)) hg hat);have n1_:=Aside0.mk (IsS84.grown (by repeat (first|(with_reducible first|exact HI432.out|apply IsS84.alloc|apply IsS84.drewN|apply IsS84.drew|apply IsS84.set_1|apply IsS84.set_2)|exact HI432.out)) hg (IsS84.own_ne HI432.out HO_6.out (by decide)));have n2_:=Aside0.mk (hb);have n3_:=Aside0.mk (ho);clear HO_5 HI432 HB HO_6;have HO_5:=n0_;have HI432:=n1_;have HB:=n2_;have HO464:=n3_;clear n0_ n1_ n2_ n3_;clear ho hb hg hat))
         go_roundg k2
         case measure=>have:=HK1.out;have:=HK2.out;omega
         case rel=>exact ⟨(y462),(t460),(t461),H',⟨by have:=HK1.out;have:=HK2.out;omega⟩,⟨by (with_reducible repeat (first|apply Kd.R_alloc|apply Kd.R_drewN|apply Kd.R_drew));exact Kd.R_mono HO_5.out (fun _ hk=>hk.2)⟩,⟨by (with_reducible repeat (first|apply Kd.R_alloc|apply Kd.R_drewN|apply Kd.R_drew));exact HO464.out⟩,⟨by repeat (first|(with_reducible first|exact HI432.out|apply IsS84.alloc|apply IsS84.drewN|apply IsS84.drew|apply IsS84.set_1|apply IsS84.set_2)|exact HI432.out)⟩,⟨by repeat (first|(with_reducible first|exact HB.out|apply below_alloc|apply pw_below_drewN|apply below_drew1|refine below_set ?_ (IsS84.ge HI432.out))|exact HB.out)⟩⟩
        ·rw [if_neg c29] at H
         exact absurd H (by simp)
       ·rw [if_neg c28] at H
        have c28b0 : decide ((x6_2.length : Int) < (wrap64 (6 + t459))) = false:=decide_eq_false c28
        clear c28
        simp only [Option.some.injEq,Prod.mk.injEq] at H
        obtain ⟨rfl,rfl⟩:=H
        obtain ⟨Ao33,co33,eo33⟩:=Kd.R_slice HO_6.out
        subst eo33
        go_wp2_with (first|((with_reducible refine gate_callee (f:=74) rfl ?_);refine goesL_ (some 43) rfl rfl Try.func74 (by kernel_rfl) rfl #[.pointer (some ⟨gb432,0,none⟩),.int .i64 2] rfl mz ?_;(with_reducible refine (spec_l1Cur_pick.calls gb432 l0 x433001_2 x433002_2 2 t459 t460 t461 w _ ?side1 ?side2 A27.out).mono ?_);(case side1=>repeat (first|(with_reducible first|exact HI432.out|apply IsS84.alloc|apply IsS84.drewN|apply IsS84.drew|apply IsS84.set_1|apply IsS84.set_2)|exact HI432.out));(case side2=>repeat (first|(with_reducible first|exact HB.out|apply below_alloc|apply pw_below_drewN|apply below_drew1|refine below_set ?_ (IsS84.ge HI432.out))|exact HB.out));rintro e w34 ⟨rfl,hi,hb,hk⟩;refine ⟨_,rfl,?_⟩;have n0_:=Aside0.mk (Kd.R_mono (Kd.R_keep (IsS84.apart (show IsS84 w _ gb432 l0 x433001_2 x433002_2 from by repeat (first|(with_reducible first|exact HI432.out|apply IsS84.alloc|apply IsS84.drewN|apply IsS84.drew|apply IsS84.set_1|apply IsS84.set_2)|exact HI432.out)) (rz HO_5.out) (by decide)) hk (fun _ h=>h.2)) (fun _ h=>h.1));have n1_:=Aside0.mk (Kd.R_mono (Kd.R_keep (IsS84.apart (show IsS84 w _ gb432 l0 x433001_2 x433002_2 from by repeat (first|(with_reducible first|exact HI432.out|apply IsS84.alloc|apply IsS84.drewN|apply IsS84.drew|apply IsS84.set_1|apply IsS84.set_2)|exact HI432.out)) (rz HO_6.out) (by decide)) hk (fun _ h=>h.2)) (fun _ h=>h.1));have n2_:=Aside0.mk (hb);have n3_:=Aside0.mk (hi);clear HO_5 HO_6 HB HI432;have HO_5:=n0_;have HO_6:=n1_;have HB:=n2_;have HI432:=n3_;clear n0_ n1_ n2_ n3_;(try clear hb);(try clear hb2);(try clear hk);(try clear hi)))
        go_ret2
        exact ⟨_,_,by first|rfl|(simp [errW_none,errW_some] <;> rfl)|(simp [*,errW_none,errW_some] <;> rfl),by (with_reducible repeat (first|apply Kd.R_alloc|apply Kd.R_drewN|apply Kd.R_drew));exact HO_5.out,by (with_reducible repeat (first|apply Kd.R_alloc|apply Kd.R_drewN|apply Kd.R_drew));exact HO_6.out,by repeat (first|(with_reducible first|exact HB.out|apply below_alloc|apply pw_below_drewN|apply below_drew1|refine below_set ?_ (IsS84.ge HI432.out))|exact HB.out)⟩
    ·replace c25:=Bool.eq_false_iff.mpr c25
     subst c25
     have H1 : (some (t433,x6_1)) = some (r1,r2):=by rw [if_neg (show ¬ (false = true) by decide)] at H;exact H
     clear H
     have H:=H1
     clear H1
     simp only [Option.some.injEq,Prod.mk.injEq] at H
     obtain ⟨rfl,rfl⟩:=H
     go_wp2_with (first|((with_reducible refine gate_callee (f:=75) rfl ?_);refine goesL_ (some 39) rfl rfl Try.func75 (by kernel_rfl) rfl #[.pointer (some ⟨gb432,0,none⟩),.int .i64 12] rfl mz ?_;(with_reducible refine (spec_l1Cur_one.calls gb432 l0 x433001_1 x433002_1 12 false t457 t458 w _ ?side1 ?side2 A24.out).mono ?_);(case side1=>repeat (first|(with_reducible first|exact HI432.out|apply IsS84.alloc|apply IsS84.drewN|apply IsS84.drew|apply IsS84.set_1|apply IsS84.set_2)|exact HI432.out));(case side2=>repeat (first|(with_reducible first|exact HB.out|apply below_alloc|apply pw_below_drewN|apply below_drew1|refine below_set ?_ (IsS84.ge HI432.out))|exact HB.out));rintro e w35 ⟨rfl,hi,hb,hk⟩;refine ⟨_,rfl,?_⟩;have n0_:=Aside0.mk (Kd.R_mono (Kd.R_keep (IsS84.apart (show IsS84 w _ gb432 l0 x433001_1 x433002_1 from by repeat (first|(with_reducible first|exact HI432.out|apply IsS84.alloc|apply IsS84.drewN|apply IsS84.drew|apply IsS84.set_1|apply IsS84.set_2)|exact HI432.out)) (rz HO_5.out) (by decide)) hk (fun _ h=>h.2)) (fun _ h=>h.1));have n1_:=Aside0.mk (Kd.R_mono (Kd.R_keep (IsS84.apart (show IsS84 w _ gb432 l0 x433001_1 x433002_1 from by repeat (first|(with_reducible first|exact HI432.out|apply IsS84.alloc|apply IsS84.drewN|apply IsS84.drew|apply IsS84.set_1|apply IsS84.set_2)|exact HI432.out)) (rz HO_6.out) (by decide)) hk (fun _ h=>h.2)) (fun _ h=>h.1));have n2_:=Aside0.mk (hb);have n3_:=Aside0.mk (hi);clear HO_5 HO_6 HB HI432;have HO_5:=n0_;have HO_6:=n1_;have HB:=n2_;have HI432:=n3_;clear n0_ n1_ n2_ n3_;(try clear hb);(try clear hb2);(try clear hk);(try clear hi)))
     go_ret2
     exact ⟨_,_,by first|rfl|(simp [errW_none,errW_some] <;> rfl)|(simp [*,errW_none,errW_some] <;> rfl),by (with_reducible repeat (first|apply Kd.R_alloc|apply Kd.R_drewN|apply Kd.R_drew));exact HO_5.out,by (with_reducible repeat (first|apply Kd.R_alloc|apply Kd.R_drewN|apply Kd.R_drew));exact HO_6.out,by repeat (first|(with_reducible first|exact HB.out|apply below_alloc|apply pw_below_drewN|apply below_drew1|refine below_set ?_ (IsS84.ge HI432.out))|exact HB.out)⟩
/-! ### laws_pSameSteps: function 78 -/
def laws_pSameSteps.l0 : Nat → List (S73) → List (S73) → Int → Int → Option (Bool)
 | 0,_,_,_,_=>none
 | k + 1,x0,x1,x12,x13=>if x13 < x12 then (if 0 ≤ x13 then (if x13 < (x0.length : Int) then (if x13 < (x1.length : Int) then (if (!(((rd_T73 x0 x13).f0) == ((rd_T73 x1 x13).f0)) || (!(((rd_T73 x0 x13).f1) == ((rd_T73 x1 x13).f1)))) = true then (some false) else (laws_pSameSteps.l0 k x0 x1 x12 (wrap64 (x13 + 1)))) else (none)) else (none)) else (none)) else (some true)
def laws_pSameSteps.f (k : Nat) (l0 : List (S73)) (l1 : List (S73)) : Option (Bool):=if (l0.length : Int) = (l1.length : Int) then (laws_pSameSteps.l0 k l0 l1 (l0.length : Int) 0) else (some false)
theorem laws_pSameSteps.mono_l : ∀ k,(∀ y0 y1 y2 y3,LeO (laws_pSameSteps.l0 k y0 y1 y2 y3) (laws_pSameSteps.l0 (k + 1) y0 y1 y2 y3))
 | 0=>fun _ _ _ _ r h=>by simp [laws_pSameSteps.l0] at h
 | k + 1=>by
  have ih0:=laws_pSameSteps.mono_l k
  ·intro y0 y1 y2 y3
   unfold laws_pSameSteps.l0
   repeat' first
   | (with_reducible exact ih0 _ _ _ _)
   | (with_reducible exact LeO.refl _)
   | (with_reducible exact LeO.none _)
   | (with_reducible refine LeO.ite ?_ ?_)
   | (with_reducible refine LeO.bind ?_ (fun _=>?_))
   | exact ih0 _ _ _ _
   | exact LeO.none _
   | refine LeO.ite ?_ ?_
   | refine LeO.bind ?_ (fun _=>?_)
theorem laws_pSameSteps.mono : ∀ a0 a1 k,LeO (laws_pSameSteps.f k a0 a1) (laws_pSameSteps.f (k + 1) a0 a1):=by
 intro a0 a1 k
 have ih0:=laws_pSameSteps.mono_l k
 unfold laws_pSameSteps.f
 repeat' first
   | (with_reducible exact ih0 _ _ _ _)
   | (with_reducible exact LeO.refl _)
   | (with_reducible exact LeO.none _)
   | (with_reducible refine LeO.ite ?_ ?_)
   | (with_reducible refine LeO.bind ?_ (fun _=>?_))
   | exact ih0 _ _ _ _
   | exact LeO.none _
   | refine LeO.ite ?_ ?_
   | refine LeO.bind ?_ (fun _=>?_)
set_option maxHeartbeats 8000000 in
set_option maxRecDepth 100000 in
theorem laws_pSameSteps.calls (k : Nat) (A0 : Option Addr) (c0 : Nat) (l0 : List (S73)) (A1 : Option Addr) (c1 : Nat) (l1 : List (S73)) (r : Bool) (w : World) (hr0 : Kd.C k73 w A0 l0.length l0) (hc0 : l0.length ≤ c0) (hr1 : Kd.C k73 w A1 l1.length l1) (hc1 : l1.length ≤ c1) (h : laws_pSameSteps.f k l0 l1 = some r) :
  Calls Try.prog 78 #[.slice A0 l0.length c0,.slice A1 l1.length c1] w fun e w'=>e = .returned (.bool r) ∧ Drawn0 w w':=by
 have hu73:=Try.underlying73
 have HR0:=Aside0.mk hr0
 have HC0:=Aside0.mk hc0
 clear hr0 hc0
 have HR1:=Aside0.mk hr1
 have HC1:=Aside0.mk hc1
 clear hr1 hc1
 have H : (if (l0.length : Int) = (l1.length : Int) then (laws_pSameSteps.l0 k l0 l1 (l0.length : Int) 0) else (some false)) = some r:=h
 clear h
 by_cases c3 : (l0.length : Int) = (l1.length : Int)
 ·rw [if_pos c3] at H
  have c3b0 : ((l0.length : Int) == (l1.length : Int)) = true:=beq_iff_eq.mpr c3
  have c3b1 : ((l0.length : Int) != (l1.length : Int)) = false:=bne_eq_false_iff_eq.mpr c3
  have c3b2 : (l0.length == l1.length) = true:=by first|simpa using c3|(simp at c3 ⊢;omega)
  clear c3
  have H':=Aside0.mk H
  clear H
  go_enter Try.func78,Try.ntmps78
  go_wp2
  repeat (go_quiet (fail);try go_wp2)
  go_loopg [13] k (fun kq v13 w'=>∃ (x13_1 : Int),v13 = .int .i64 x13_1 ∧ Aside0 (laws_pSameSteps.l0 kq l0 l1 (l0.length : Int) x13_1 = some r) ∧ Aside0 (kq ≤ k) ∧ Drawn0 w w')
  case atStart=>exact ⟨(0),fz,H',⟨Nat.le_refl _⟩,by repeat (first|exact Drawn0.refl _|apply Drawn0.step)⟩
  case round=>
   clear H'
   try clear c1
   try clear p2
   try clear c3
   try clear c3b0
   try clear c3b1
   try clear c3b2
   obtain ⟨x13_1,rfl,HA,HK1,⟨m1,rfl⟩⟩:=hrel
   cases gk with
   | zero=>exact absurd HA.out (by simp [laws_pSameSteps.l0])
   | succ k1=>
    have H:=HA.out
    clear HA
    simp only [laws_pSameSteps.l0] at H
    by_cases c4 : x13_1 < (l0.length : Int)
    ·rw [if_pos c4] at H
     have c4b0 : decide (x13_1 < (l0.length : Int)) = true:=decide_eq_true c4
     clear c4
     by_cases c5 : 0 ≤ x13_1
     ·rw [if_pos c5] at H
      have c5b0 : decide (0 ≤ x13_1) = true:=decide_eq_true c5
      clear c5
      by_cases c6 : x13_1 < (l0.length : Int)
      ·rw [if_pos c6] at H
       have c6b0 : decide (x13_1 < (l0.length : Int)) = true:=decide_eq_true c6
       clear c6
       by_cases c7 : x13_1 < (l1.length : Int)
       ·rw [if_pos c7] at H
        have c7b0 : decide (x13_1 < (l1.length : Int)) = true:=decide_eq_true c7
        clear c7
        by_cases c8 : (!(((rd_T73 l0 x13_1).f0) == ((rd_T73 l1 x13_1).f0)) || (!(((rd_T73 l0 x13_1).f1) == ((rd_T73 l1 x13_1).f1)))) = true
        ·rw [if_pos c8] at H
         have c8b0 : (!(((rd_T73 l0 x13_1).f0) == ((rd_T73 l1 x13_1).f0)) || (!(((rd_T73 l0 x13_1).f1) == ((rd_T73 l1 x13_1).f1)))) = true:=c8
         clear c8
         obtain rfl:=Option.some.inj H
         have p465 : 0 ≤ (x13_1 : Int):=of_decide_eq_true az
         have q465 : x13_1 < (l0.length : Int):=of_decide_eq_true az
         obtain ⟨ad465,e465,hx465_0,hx465_1⟩:=at_T73 HR0.out x13_1 p465 q465
         cases e465
         replace p465:=eq_true p465
         replace q465:=eq_true q465
         have p466 : 0 ≤ (x13_1 : Int):=of_decide_eq_true az
         have q466 : x13_1 < (l1.length : Int):=of_decide_eq_true az
         obtain ⟨ad466,e466,hx466_0,hx466_1⟩:=at_T73 HR1.out x13_1 p466 q466
         cases e466
         replace p466:=eq_true p466
         replace q466:=eq_true q466
         go_wp2
         repeat (go_quiet (fail);try go_wp2)
         go_ret
         exact ⟨by first|rfl|(simp;done)|(simp [*];done),by repeat (first|exact Drawn0.refl _|apply Drawn0.step)⟩
        ·rw [if_neg c8] at H
         have c8b0 : (!(((rd_T73 l0 x13_1).f0) == ((rd_T73 l1 x13_1).f0)) || (!(((rd_T73 l0 x13_1).f1) == ((rd_T73 l1 x13_1).f1)))) = false:=by simpa using c8
         clear c8
         have H':=Aside0.mk H
         clear H
         have p465 : 0 ≤ (x13_1 : Int):=of_decide_eq_true az
         have q465 : x13_1 < (l0.length : Int):=of_decide_eq_true az
         obtain ⟨ad465,e465,hx465_0,hx465_1⟩:=at_T73 HR0.out x13_1 p465 q465
         cases e465
         replace p465:=eq_true p465
         replace q465:=eq_true q465
         have p466 : 0 ≤ (x13_1 : Int):=of_decide_eq_true az
         have q466 : x13_1 < (l1.length : Int):=of_decide_eq_true az
         obtain ⟨ad466,e466,hx466_0,hx466_1⟩:=at_T73 HR1.out x13_1 p466 q466
         cases e466
         replace p466:=eq_true p466
         replace q466:=eq_true q466
         go_wp2
         repeat (go_quiet (fail);try go_wp2)
         go_roundg k1
         case measure=>have:=HK1.out;omega
         case rel=>exact ⟨(wrap64 (x13_1 + 1)),fz,H',⟨by have:=HK1.out;omega⟩,by repeat (first|exact Drawn0.refl _|apply Drawn0.step)⟩
       ·rw [if_neg c7] at H
        exact absurd H (by simp)
      ·rw [if_neg c6] at H
       exact absurd H (by simp)
     ·rw [if_neg c5] at H
      exact absurd H (by simp)
    ·rw [if_neg c4] at H
     have c4b0 : decide (x13_1 < (l0.length : Int)) = false:=decide_eq_false c4
     clear c4
     obtain rfl:=Option.some.inj H
     go_wp2
     repeat (go_quiet (fail);try go_wp2)
     go_ret
     exact ⟨by first|rfl|(simp;done)|(simp [*];done),by repeat (first|exact Drawn0.refl _|apply Drawn0.step)⟩
 ·rw [if_neg c3] at H
  have c3b0 : ((l0.length : Int) == (l1.length : Int)) = false:=beq_eq_false_iff_ne.mpr c3
  have c3b1 : ((l0.length : Int) != (l1.length : Int)) = true:=bne_iff_ne.mpr c3
  have c3b2 : (l0.length == l1.length) = false:=by first|simpa using c3|(simp at c3 ⊢;omega)
  obtain rfl:=Option.some.inj H
  go_enter Try.func78,Try.ntmps78
  go_wp2
  repeat (go_quiet (fail);try go_wp2)
  go_ret
  exact ⟨by first|rfl|(simp;done)|(simp [*];done),by repeat (first|exact Drawn0.refl _|apply Drawn0.step)⟩
/-! ### laws_pSameInts: function 79 -/
def laws_pSameInts.l0 : Nat → List Int → List Int → Int → Int → Option (Bool)
 | 0,_,_,_,_=>none
 | k + 1,x0,x1,x12,x13=>if x13 < x12 then (if 0 ≤ x13 then (if x13 < (x0.length : Int) then (if x13 < (x1.length : Int) then (if (rd x0 x13) = (rd x1 x13) then (laws_pSameInts.l0 k x0 x1 x12 (wrap64 (x13 + 1))) else (some false)) else (none)) else (none)) else (none)) else (some true)
def laws_pSameInts.f (k : Nat) (l0 : List Int) (l1 : List Int) : Option (Bool):=if (l0.length : Int) = (l1.length : Int) then (laws_pSameInts.l0 k l0 l1 (l0.length : Int) 0) else (some false)
theorem laws_pSameInts.mono_l : ∀ k,(∀ y0 y1 y2 y3,LeO (laws_pSameInts.l0 k y0 y1 y2 y3) (laws_pSameInts.l0 (k + 1) y0 y1 y2 y3))
 | 0=>fun _ _ _ _ r h=>by simp [laws_pSameInts.l0] at h
 | k + 1=>by
  have ih0:=laws_pSameInts.mono_l k
  ·intro y0 y1 y2 y3
   unfold laws_pSameInts.l0
   repeat' first
   | (with_reducible exact ih0 _ _ _ _)
   | (with_reducible exact LeO.refl _)
   | (with_reducible exact LeO.none _)
   | (with_reducible refine LeO.ite ?_ ?_)
   | (with_reducible refine LeO.bind ?_ (fun _=>?_))
   | exact ih0 _ _ _ _
   | exact LeO.none _
   | refine LeO.ite ?_ ?_
   | refine LeO.bind ?_ (fun _=>?_)
theorem laws_pSameInts.mono : ∀ a0 a1 k,LeO (laws_pSameInts.f k a0 a1) (laws_pSameInts.f (k + 1) a0 a1):=by
 intro a0 a1 k
 have ih0:=laws_pSameInts.mono_l k
 unfold laws_pSameInts.f
 repeat' first
   | (with_reducible exact ih0 _ _ _ _)
   | (with_reducible exact LeO.refl _)
   | (with_reducible exact LeO.none _)
   | (with_reducible refine LeO.ite ?_ ?_)
   | (with_reducible refine LeO.bind ?_ (fun _=>?_))
   | exact ih0 _ _ _ _
   | exact LeO.none _
   | refine LeO.ite ?_ ?_
   | refine LeO.bind ?_ (fun _=>?_)
set_option maxHeartbeats 8000000 in
set_option maxRecDepth 100000 in
theorem laws_pSameInts.calls (k : Nat) (A0 : Option Addr) (c0 : Nat) (l0 : List Int) (A1 : Option Addr) (c1 : Nat) (l1 : List Int) (r : Bool) (w : World) (hr0 : Kd.C (Kd.int .i64) w A0 l0.length l0) (hc0 : l0.length ≤ c0) (hr1 : Kd.C (Kd.int .i64) w A1 l1.length l1) (hc1 : l1.length ≤ c1) (h : laws_pSameInts.f k l0 l1 = some r) :
  Calls Try.prog 79 #[.slice A0 l0.length c0,.slice A1 l1.length c1] w fun e w'=>e = .returned (.bool r) ∧ Drawn0 w w':=by
 have HR0:=Aside0.mk hr0
 have HC0:=Aside0.mk hc0
 clear hr0 hc0
 have HR1:=Aside0.mk hr1
 have HC1:=Aside0.mk hc1
 clear hr1 hc1
 have H : (if (l0.length : Int) = (l1.length : Int) then (laws_pSameInts.l0 k l0 l1 (l0.length : Int) 0) else (some false)) = some r:=h
 clear h
 by_cases c3 : (l0.length : Int) = (l1.length : Int)
 ·rw [if_pos c3] at H
  have c3b0 : ((l0.length : Int) == (l1.length : Int)) = true:=beq_iff_eq.mpr c3
  have c3b1 : ((l0.length : Int) != (l1.length : Int)) = false:=bne_eq_false_iff_eq.mpr c3
  have c3b2 : (l0.length == l1.length) = true:=by first|simpa using c3|(simp at c3 ⊢;omega)
  clear c3
  have H':=Aside0.mk H
  clear H
  go_enter Try.func79,Try.ntmps79
  go_wp2
  repeat (go_quiet (fail);try go_wp2)
  go_loopg [13] k (fun kq v13 w'=>∃ (x13_1 : Int),v13 = .int .i64 x13_1 ∧ Aside0 (laws_pSameInts.l0 kq l0 l1 (l0.length : Int) x13_1 = some r) ∧ Aside0 (kq ≤ k) ∧ Drawn0 w w')
  case atStart=>exact ⟨(0),fz,H',⟨Nat.le_refl _⟩,by repeat (first|exact Drawn0.refl _|apply Drawn0.step)⟩
  case round=>
   clear H'
   try clear c1
   try clear p2
   try clear c3
   try clear c3b0
   try clear c3b1
   try clear c3b2
   obtain ⟨x13_1,rfl,HA,HK1,⟨m1,rfl⟩⟩:=hrel
   cases gk with
   | zero=>exact absurd HA.out (by simp [laws_pSameInts.l0])
   | succ k1=>
    have H:=HA.out
    clear HA
    simp only [laws_pSameInts.l0] at H
    by_cases c4 : x13_1 < (l0.length : Int)
    ·rw [if_pos c4] at H
     have c4b0 : decide (x13_1 < (l0.length : Int)) = true:=decide_eq_true c4
     clear c4
     by_cases c5 : 0 ≤ x13_1
     ·rw [if_pos c5] at H
      have c5b0 : decide (0 ≤ x13_1) = true:=decide_eq_true c5
      clear c5
      by_cases c6 : x13_1 < (l0.length : Int)
      ·rw [if_pos c6] at H
       have c6b0 : decide (x13_1 < (l0.length : Int)) = true:=decide_eq_true c6
       clear c6
       by_cases c7 : x13_1 < (l1.length : Int)
       ·rw [if_pos c7] at H
        have c7b0 : decide (x13_1 < (l1.length : Int)) = true:=decide_eq_true c7
        clear c7
        by_cases c8 : (rd l0 x13_1) = (rd l1 x13_1)
        ·rw [if_pos c8] at H
         have c8b0 : ((rd l0 x13_1) == (rd l1 x13_1)) = true:=beq_iff_eq.mpr c8
         have c8b1 : ((rd l0 x13_1) != (rd l1 x13_1)) = false:=bne_eq_false_iff_eq.mpr c8
         clear c8
         have H':=Aside0.mk H
         clear H
         have p467 : 0 ≤ (x13_1 : Int):=of_decide_eq_true az
         have q467 : x13_1 < (l0.length : Int):=of_decide_eq_true az
         obtain ⟨ad467,e467,hx467_0⟩:=Kd.at_int HR0.out x13_1 p467 q467
         cases e467
         replace p467:=eq_true p467
         replace q467:=eq_true q467
         have p468 : 0 ≤ (x13_1 : Int):=of_decide_eq_true az
         have q468 : x13_1 < (l1.length : Int):=of_decide_eq_true az
         obtain ⟨ad468,e468,hx468_0⟩:=Kd.at_int HR1.out x13_1 p468 q468
         cases e468
         replace p468:=eq_true p468
         replace q468:=eq_true q468
         go_wp2
         repeat (go_quiet (fail);try go_wp2)
         go_roundg k1
         case measure=>have:=HK1.out;omega
         case rel=>exact ⟨(wrap64 (x13_1 + 1)),fz,H',⟨by have:=HK1.out;omega⟩,by repeat (first|exact Drawn0.refl _|apply Drawn0.step)⟩
        ·rw [if_neg c8] at H
         have c8b0 : ((rd l0 x13_1) == (rd l1 x13_1)) = false:=beq_eq_false_iff_ne.mpr c8
         have c8b1 : ((rd l0 x13_1) != (rd l1 x13_1)) = true:=bne_iff_ne.mpr c8
         obtain rfl:=Option.some.inj H
         have p467 : 0 ≤ (x13_1 : Int):=of_decide_eq_true az
         have q467 : x13_1 < (l0.length : Int):=of_decide_eq_true az
         obtain ⟨ad467,e467,hx467_0⟩:=Kd.at_int HR0.out x13_1 p467 q467
         cases e467
         replace p467:=eq_true p467
         replace q467:=eq_true q467
         have p468 : 0 ≤ (x13_1 : Int):=of_decide_eq_true az
         have q468 : x13_1 < (l1.length : Int):=of_decide_eq_true az
         obtain ⟨ad468,e468,hx468_0⟩:=Kd.at_int HR1.out x13_1 p468 q468
         cases e468
         replace p468:=eq_true p468
         replace q468:=eq_true q468
         go_wp2
         repeat (go_quiet (fail);try go_wp2)
         go_ret
         exact ⟨by first|rfl|(simp;done)|(simp [*];done),by repeat (first|exact Drawn0.refl _|apply Drawn0.step)⟩
       ·rw [if_neg c7] at H
        exact absurd H (by simp)
      ·rw [if_neg c6] at H
       exact absurd H (by simp)
     ·rw [if_neg c5] at H
      exact absurd H (by simp)
    ·rw [if_neg c4] at H
     have c4b0 : decide (x13_1 < (l0.length : Int)) = false:=decide_eq_false c4
     clear c4
     obtain rfl:=Option.some.inj H
     go_wp2
     repeat (go_quiet (fail);try go_wp2)
     go_ret
     exact ⟨by first|rfl|(simp;done)|(simp [*];done),by repeat (first|exact Drawn0.refl _|apply Drawn0.step)⟩
 ·rw [if_neg c3] at H
  have c3b0 : ((l0.length : Int) == (l1.length : Int)) = false:=beq_eq_false_iff_ne.mpr c3
  have c3b1 : ((l0.length : Int) != (l1.length : Int)) = true:=bne_iff_ne.mpr c3
  have c3b2 : (l0.length == l1.length) = false:=by first|simpa using c3|(simp at c3 ⊢;omega)
  obtain rfl:=Option.some.inj H
  go_enter Try.func79,Try.ntmps79
  go_wp2
  repeat (go_quiet (fail);try go_wp2)
  go_ret
  exact ⟨by first|rfl|(simp;done)|(simp [*];done),by repeat (first|exact Drawn0.refl _|apply Drawn0.step)⟩
/-! ### laws_pSamePlan: function 33 -/
def laws_pSamePlan.f (k : Nat) (a0_0 : Int) (l0_1 : List (S73)) (l0_2 : List Int) (a1_0 : Int) (l1_1 : List (S73)) (l1_2 : List Int) : Option (Bool):=if a0_0 = a1_0 then ((laws_pSameSteps.f k l0_1 l1_1).bind fun t471=>(if t471 = true then ((laws_pSameInts.f k l0_2 l1_2).bind fun t472=>(some t472)) else (some false))) else (some false)
theorem laws_pSamePlan.mono : ∀ a0 a1 a2 a3 a4 a5 k,LeO (laws_pSamePlan.f k a0 a1 a2 a3 a4 a5) (laws_pSamePlan.f (k + 1) a0 a1 a2 a3 a4 a5):=by
 intro a0 a1 a2 a3 a4 a5 k
 unfold laws_pSamePlan.f
 repeat' first
   | (with_reducible exact laws_pSameInts.mono _ _ _)
   | (with_reducible exact laws_pSameSteps.mono _ _ _)
   | (with_reducible exact LeO.refl _)
   | (with_reducible exact LeO.none _)
   | (with_reducible refine LeO.ite ?_ ?_)
   | (with_reducible refine LeO.bind ?_ (fun _=>?_))
   | exact laws_pSameInts.mono _ _ _
   | exact laws_pSameSteps.mono _ _ _
   | exact LeO.none _
   | refine LeO.ite ?_ ?_
   | refine LeO.bind ?_ (fun _=>?_)
set_option maxHeartbeats 8000000 in
set_option maxRecDepth 100000 in
theorem laws_pSamePlan.calls (k : Nat) (a0_0 : Int) (A0_1 : Option Addr) (c0_1 : Nat) (l0_1 : List (S73)) (A0_2 : Option Addr) (c0_2 : Nat) (l0_2 : List Int) (a1_0 : Int) (A1_1 : Option Addr) (c1_1 : Nat) (l1_1 : List (S73)) (A1_2 : Option Addr) (c1_2 : Nat) (l1_2 : List Int) (r : Bool) (w : World) (hr0_1 : Kd.C k73 w A0_1 l0_1.length l0_1) (hc0_1 : l0_1.length ≤ c0_1) (hr0_2 : Kd.C (Kd.int .i64) w A0_2 l0_2.length l0_2) (hc0_2 : l0_2.length ≤ c0_2) (hr1_1 : Kd.C k73 w A1_1 l1_1.length l1_1) (hc1_1 : l1_1.length ≤ c1_1) (hr1_2 : Kd.C (Kd.int .i64) w A1_2 l1_2.length l1_2) (hc1_2 : l1_2.length ≤ c1_2) (h : laws_pSamePlan.f k a0_0 l0_1 l0_2 a1_0 l1_1 l1_2 = some r) :
  Calls Try.prog 33 #[.agg #[.int .i64 a0_0,.slice A0_1 l0_1.length c0_1,.slice A0_2 l0_2.length c0_2],.agg #[.int .i64 a1_0,.slice A1_1 l1_1.length c1_1,.slice A1_2 l1_2.length c1_2]] w fun e w'=>e = .returned (.bool r) ∧ Below w.heap.size w w':=by
 have hu29:=Try.underlying29
 have HR0_1:=Aside0.mk hr0_1
 have HC0_1:=Aside0.mk hc0_1
 clear hr0_1 hc0_1
 have HR0_2:=Aside0.mk hr0_2
 have HC0_2:=Aside0.mk hc0_2
 clear hr0_2 hc0_2
 have HR1_1:=Aside0.mk hr1_1
 have HC1_1:=Aside0.mk hc1_1
 clear hr1_1 hc1_1
 have HR1_2:=Aside0.mk hr1_2
 have HC1_2:=Aside0.mk hc1_2
 clear hr1_2 hc1_2
 have HB:=Aside0.mk (Below.refl w.heap.size w)
 have H : (if a0_0 = a1_0 then ((laws_pSameSteps.f k l0_1 l1_1).bind fun t471=>(if t471 = true then ((laws_pSameInts.f k l0_2 l1_2).bind fun t472=>(some t472)) else (some false))) else (some false)) = some r:=h
 clear h
 by_cases c3 : a0_0 = a1_0
 ·rw [if_pos c3] at H
  have c3b0 : (a0_0 == a1_0) = true:=beq_iff_eq.mpr c3
  have c3b1 : (a0_0 != a1_0) = false:=bne_eq_false_iff_eq.mpr c3
  clear c3
  replace H:=Option.bind_eq_some_iff.mp H
  obtain ⟨t471,A40,H⟩:=H
  replace H : (if t471 = true then ((laws_pSameInts.f k l0_2 l1_2).bind fun t472=>(some t472)) else (some false)) = some r:=H
  have A4:=Aside0.mk A40
  clear A40
  by_cases c5 : t471 = true
  ·subst c5
   have H1 : ((laws_pSameInts.f k l0_2 l1_2).bind fun t472=>(some t472)) = some r:=by rw [if_pos rfl] at H;exact H
   clear H
   have H:=H1
   clear H1
   replace H:=Option.bind_eq_some_iff.mp H
   obtain ⟨t472,A60,H⟩:=H
   replace H : (some t472) = some r:=H
   have A6:=Aside0.mk A60
   clear A60
   obtain rfl:=Option.some.inj H
   go_enter Try.func33,Try.ntmps33
   go_wp2_with (first|((with_reducible refine gate_dst (N:=2) rfl ?_);refine box_event ?hg (N:=2) ?hd (cs:=#[.int .i64 a0_0,.slice A0_1 l0_1.length c0_1,.slice A0_2 l0_2.length c0_2]) (t:=29) ?hr ?_;(case hd=>rfl);(case hg=>rfl);(case hr=>first|(go_simp;done)|(go_simp;rfl));intro gb469 hg w7 hbox hb;have n0_:=Aside0.mk (below_step bz hb);have n1_:=Aside0.mk (hbox);have n2_:=Aside0.mk ((by rw [hg];exact (below_size bz) : w.heap.size ≤ gb469));have n3_:=Aside0.mk ((by rw [hg];exact (below_size bz) : w.heap.size ≤ gb469));clear HB;have HB:=n0_;have BK469:=n1_;have GW469:=n2_;have GE469:=n3_;clear n0_ n1_ n2_ n3_;clear hb hbox hg)|((with_reducible refine gate_dst (N:=3) rfl ?_);refine box_event ?hg (N:=3) ?hd (cs:=#[.int .i64 a1_0,.slice A1_1 l1_1.length c1_1,.slice A1_2 l1_2.length c1_2]) (t:=29) ?hr ?_;(case hd=>rfl);(case hg=>rfl);(case hr=>first|(go_simp;done)|(go_simp;rfl));intro gb470 hg w8 hbox hb;have n0_:=Aside0.mk (blk_below (g:=gb469) (o:=.cells #[.int .i64 a0_0,.slice A0_1 l0_1.length c0_1,.slice A0_2 l0_2.length c0_2] 29 (0,0)) (kz BK469.out) hb);have n1_:=Aside0.mk (below_step bs hb);have n2_:=Aside0.mk (hbox);have n3_:=Aside0.mk ((by rw [hg];exact (below_size bs) : w.heap.size ≤ gb470));have n4_:=Aside0.mk ((by rw [hg];exact (below_size bs) : w.heap.size ≤ gb470));have n5_:=Aside0.mk ((by rw [hg];exact Nat.ne_of_lt (blk_lt (g:=gb469) (o:=.cells #[.int .i64 a0_0,.slice A0_1 l0_1.length c0_1,.slice A0_2 l0_2.length c0_2] 29 (0,0)) (kz BK469.out)) : gb469 ≠ gb470));have n6_:=Aside0.mk ((by rw [hg];exact Nat.ne_of_gt (blk_lt (g:=gb469) (o:=.cells #[.int .i64 a0_0,.slice A0_1 l0_1.length c0_1,.slice A0_2 l0_2.length c0_2] 29 (0,0)) (kz BK469.out)) : gb470 ≠ gb469));clear BK469 HB;have BK469:=n0_;have HB:=n1_;have BK470:=n2_;have GW470:=n3_;have GE470:=n4_;have NB469_470:=n5_;have NB470_469:=n6_;clear n0_ n1_ n2_ n3_ n4_ n5_ n6_;clear hb hbox hg;have hnb9:=NB469_470.out;have hnc9:=NB470_469.out;have hcz10_0 : w8.cell? ⟨gb469,0,none⟩ = some (.int .i64 a0_0):=(blk_cell BK469.out 0).trans rfl;have hcz10_1 : w8.cell? ⟨gb469,1,none⟩ = some (.slice A0_1 l0_1.length c0_1):=(blk_cell BK469.out 1).trans rfl;have hcz10_2 : w8.cell? ⟨gb469,2,none⟩ = some (.slice A0_2 l0_2.length c0_2):=(blk_cell BK469.out 2).trans rfl;have hfz10_0:=blk_frozen BK469.out 0;have hfz10_1:=blk_frozen BK469.out 1;have hfz10_2:=blk_frozen BK469.out 2;have hcz11_0 : w8.cell? ⟨gb470,0,none⟩ = some (.int .i64 a1_0):=(blk_cell BK470.out 0).trans rfl;have hcz11_1 : w8.cell? ⟨gb470,1,none⟩ = some (.slice A1_1 l1_1.length c1_1):=(blk_cell BK470.out 1).trans rfl;have hcz11_2 : w8.cell? ⟨gb470,2,none⟩ = some (.slice A1_2 l1_2.length c1_2):=(blk_cell BK470.out 2).trans rfl;have hfz11_0:=blk_frozen BK470.out 0;have hfz11_1:=blk_frozen BK470.out 1;have hfz11_2:=blk_frozen BK470.out 2)|(go_at_call 78;(with_reducible refine (laws_pSameSteps.calls k _ _ l0_1 _ _ l1_1 true _ ?side1 ?side2 ?side3 ?side4 A4.out).mono ?_);(case side1=>exact cz (Kd.C_below HR0_1.out HB.out));(case side2=>exact HC0_1.out);(case side3=>exact cz (Kd.C_below HR1_1.out HB.out));(case side4=>exact HC1_1.out);rintro e w' ⟨rfl,⟨nd,rfl⟩⟩)|(go_at_call 79;(with_reducible refine (laws_pSameInts.calls k _ _ l0_2 _ _ l1_2 t472 _ ?side1 ?side2 ?side3 ?side4 A6.out).mono ?_);(case side1=>exact cz (Kd.C_below HR0_2.out bs));(case side2=>exact HC0_2.out);(case side3=>exact cz (Kd.C_below HR1_2.out bs));(case side4=>exact HC1_2.out);rintro e w' ⟨rfl,⟨nd,rfl⟩⟩))
   go_ret
   exact ⟨by first|rfl|(simp [errW_none,errW_some] <;> rfl)|(simp [*,errW_none,errW_some] <;> rfl),by repeat (first|(with_reducible first|exact HB.out|apply below_alloc|apply pw_below_drewN|apply below_drew1|refine below_set ?_ GE469.out|refine below_set ?_ GE470.out)|exact HB.out)⟩
  ·replace c5:=Bool.eq_false_iff.mpr c5
   subst c5
   have H1 : (some false) = some r:=by rw [if_neg (show ¬ (false = true) by decide)] at H;exact H
   clear H
   have H:=H1
   clear H1
   obtain rfl:=Option.some.inj H
   go_enter Try.func33,Try.ntmps33
   go_wp2_with (first|((with_reducible refine gate_dst (N:=2) rfl ?_);refine box_event ?hg (N:=2) ?hd (cs:=#[.int .i64 a0_0,.slice A0_1 l0_1.length c0_1,.slice A0_2 l0_2.length c0_2]) (t:=29) ?hr ?_;(case hd=>rfl);(case hg=>rfl);(case hr=>first|(go_simp;done)|(go_simp;rfl));intro gb469 hg w12 hbox hb;have n0_:=Aside0.mk (below_step bz hb);have n1_:=Aside0.mk (hbox);have n2_:=Aside0.mk ((by rw [hg];exact (below_size bz) : w.heap.size ≤ gb469));have n3_:=Aside0.mk ((by rw [hg];exact (below_size bz) : w.heap.size ≤ gb469));clear HB;have HB:=n0_;have BK469:=n1_;have GW469:=n2_;have GE469:=n3_;clear n0_ n1_ n2_ n3_;clear hb hbox hg)|((with_reducible refine gate_dst (N:=3) rfl ?_);refine box_event ?hg (N:=3) ?hd (cs:=#[.int .i64 a1_0,.slice A1_1 l1_1.length c1_1,.slice A1_2 l1_2.length c1_2]) (t:=29) ?hr ?_;(case hd=>rfl);(case hg=>rfl);(case hr=>first|(go_simp;done)|(go_simp;rfl));intro gb470 hg w13 hbox hb;have n0_:=Aside0.mk (blk_below (g:=gb469) (o:=.cells #[.int .i64 a0_0,.slice A0_1 l0_1.length c0_1,.slice A0_2 l0_2.length c0_2] 29 (0,0)) (kz BK469.out) hb);have n1_:=Aside0.mk (below_step bs hb);have n2_:=Aside0.mk (hbox);have n3_:=Aside0.mk ((by rw [hg];exact (below_size bs) : w.heap.size ≤ gb470));have n4_:=Aside0.mk ((by rw [hg];exact (below_size bs) : w.heap.size ≤ gb470));have n5_:=Aside0.mk ((by rw [hg];exact Nat.ne_of_lt (blk_lt (g:=gb469) (o:=.cells #[.int .i64 a0_0,.slice A0_1 l0_1.length c0_1,.slice A0_2 l0_2.length c0_2] 29 (0,0)) (kz BK469.out)) : gb469 ≠ gb470));have n6_:=Aside0.mk ((by rw [hg];exact Nat.ne_of_gt (blk_lt (g:=gb469) (o:=.cells #[.int .i64 a0_0,.slice A0_1 l0_1.length c0_1,.slice A0_2 l0_2.length c0_2] 29 (0,0)) (kz BK469.out)) : gb470 ≠ gb469));clear BK469 HB;have BK469:=n0_;have HB:=n1_;have BK470:=n2_;have GW470:=n3_;have GE470:=n4_;have NB469_470:=n5_;have NB470_469:=n6_;clear n0_ n1_ n2_ n3_ n4_ n5_ n6_;clear hb hbox hg;have hnb14:=NB469_470.out;have hnc14:=NB470_469.out;have hcz15_0 : w13.cell? ⟨gb469,0,none⟩ = some (.int .i64 a0_0):=(blk_cell BK469.out 0).trans rfl;have hcz15_1 : w13.cell? ⟨gb469,1,none⟩ = some (.slice A0_1 l0_1.length c0_1):=(blk_cell BK469.out 1).trans rfl;have hcz15_2 : w13.cell? ⟨gb469,2,none⟩ = some (.slice A0_2 l0_2.length c0_2):=(blk_cell BK469.out 2).trans rfl;have hfz15_0:=blk_frozen BK469.out 0;have hfz15_1:=blk_frozen BK469.out 1;have hfz15_2:=blk_frozen BK469.out 2;have hcz16_0 : w13.cell? ⟨gb470,0,none⟩ = some (.int .i64 a1_0):=(blk_cell BK470.out 0).trans rfl;have hcz16_1 : w13.cell? ⟨gb470,1,none⟩ = some (.slice A1_1 l1_1.length c1_1):=(blk_cell BK470.out 1).trans rfl;have hcz16_2 : w13.cell? ⟨gb470,2,none⟩ = some (.slice A1_2 l1_2.length c1_2):=(blk_cell BK470.out 2).trans rfl;have hfz16_0:=blk_frozen BK470.out 0;have hfz16_1:=blk_frozen BK470.out 1;have hfz16_2:=blk_frozen BK470.out 2)|(go_at_call 78;(with_reducible refine (laws_pSameSteps.calls k _ _ l0_1 _ _ l1_1 false _ ?side1 ?side2 ?side3 ?side4 A4.out).mono ?_);(case side1=>exact cz (Kd.C_below HR0_1.out HB.out));(case side2=>exact HC0_1.out);(case side3=>exact cz (Kd.C_below HR1_1.out HB.out));(case side4=>exact HC1_1.out);rintro e w' ⟨rfl,⟨nd,rfl⟩⟩))
   go_ret
   exact ⟨by first|rfl|(simp [errW_none,errW_some] <;> rfl)|(simp [*,errW_none,errW_some] <;> rfl),by repeat (first|(with_reducible first|exact HB.out|apply below_alloc|apply pw_below_drewN|apply below_drew1|refine below_set ?_ GE469.out|refine below_set ?_ GE470.out)|exact HB.out)⟩
 ·rw [if_neg c3] at H
  have c3b0 : (a0_0 == a1_0) = false:=beq_eq_false_iff_ne.mpr c3
  have c3b1 : (a0_0 != a1_0) = true:=bne_iff_ne.mpr c3
  obtain rfl:=Option.some.inj H
  go_enter Try.func33,Try.ntmps33
  go_wp2_with (first|((with_reducible refine gate_dst (N:=2) rfl ?_);refine box_event ?hg (N:=2) ?hd (cs:=#[.int .i64 a0_0,.slice A0_1 l0_1.length c0_1,.slice A0_2 l0_2.length c0_2]) (t:=29) ?hr ?_;(case hd=>rfl);(case hg=>rfl);(case hr=>first|(go_simp;done)|(go_simp;rfl));intro gb469 hg w17 hbox hb;have n0_:=Aside0.mk (below_step bz hb);have n1_:=Aside0.mk (hbox);have n2_:=Aside0.mk ((by rw [hg];exact (below_size bz) : w.heap.size ≤ gb469));have n3_:=Aside0.mk ((by rw [hg];exact (below_size bz) : w.heap.size ≤ gb469));clear HB;have HB:=n0_;have BK469:=n1_;have GW469:=n2_;have GE469:=n3_;clear n0_ n1_ n2_ n3_;clear hb hbox hg)|((with_reducible refine gate_dst (N:=3) rfl ?_);refine box_event ?hg (N:=3) ?hd (cs:=#[.int .i64 a1_0,.slice A1_1 l1_1.length c1_1,.slice A1_2 l1_2.length c1_2]) (t:=29) ?hr ?_;(case hd=>rfl);(case hg=>rfl);(case hr=>first|(go_simp;done)|(go_simp;rfl));intro gb470 hg w18 hbox hb;have n0_:=Aside0.mk (blk_below (g:=gb469) (o:=.cells #[.int .i64 a0_0,.slice A0_1 l0_1.length c0_1,.slice A0_2 l0_2.length c0_2] 29 (0,0)) (kz BK469.out) hb);have n1_:=Aside0.mk (below_step bs hb);have n2_:=Aside0.mk (hbox);have n3_:=Aside0.mk ((by rw [hg];exact (below_size bs) : w.heap.size ≤ gb470));have n4_:=Aside0.mk ((by rw [hg];exact (below_size bs) : w.heap.size ≤ gb470));have n5_:=Aside0.mk ((by rw [hg];exact Nat.ne_of_lt (blk_lt (g:=gb469) (o:=.cells #[.int .i64 a0_0,.slice A0_1 l0_1.length c0_1,.slice A0_2 l0_2.length c0_2] 29 (0,0)) (kz BK469.out)) : gb469 ≠ gb470));have n6_:=Aside0.mk ((by rw [hg];exact Nat.ne_of_gt (blk_lt (g:=gb469) (o:=.cells #[.int .i64 a0_0,.slice A0_1 l0_1.length c0_1,.slice A0_2 l0_2.length c0_2] 29 (0,0)) (kz BK469.out)) : gb470 ≠ gb469));clear BK469 HB;have BK469:=n0_;have HB:=n1_;have BK470:=n2_;have GW470:=n3_;have GE470:=n4_;have NB469_470:=n5_;have NB470_469:=n6_;clear n0_ n1_ n2_ n3_ n4_ n5_ n6_;clear hb hbox hg;have hnb19:=NB469_470.out;have hnc19:=NB470_469.out;have hcz20_0 : w18.cell? ⟨gb469,0,none⟩ = some (.int .i64 a0_0):=(blk_cell BK469.out 0).trans rfl;have hcz20_1 : w18.cell? ⟨gb469,1,none⟩ = some (.slice A0_1 l0_1.length c0_1):=(blk_cell BK469.out 1).trans rfl;have hcz20_2 : w18.cell? ⟨gb469,2,none⟩ = some (.slice A0_2 l0_2.length c0_2):=(blk_cell BK469.out 2).trans rfl;have hfz20_0:=blk_frozen BK469.out 0;have hfz20_1:=blk_frozen BK469.out 1;have hfz20_2:=blk_frozen BK469.out 2;have hcz21_0 : w18.cell? ⟨gb470,0,none⟩ = some (.int .i64 a1_0):=(blk_cell BK470.out 0).trans rfl;have hcz21_1 : w18.cell? ⟨gb470,1,none⟩ = some (.slice A1_1 l1_1.length c1_1):=(blk_cell BK470.out 1).trans rfl;have hcz21_2 : w18.cell? ⟨gb470,2,none⟩ = some (.slice A1_2 l1_2.length c1_2):=(blk_cell BK470.out 2).trans rfl;have hfz21_0:=blk_frozen BK470.out 0;have hfz21_1:=blk_frozen BK470.out 1;have hfz21_2:=blk_frozen BK470.out 2))
  go_ret
  exact ⟨by first|rfl|(simp [errW_none,errW_some] <;> rfl)|(simp [*,errW_none,errW_some] <;> rfl),by repeat (first|(with_reducible first|exact HB.out|apply below_alloc|apply pw_below_drewN|apply below_drew1|refine below_set ?_ GE469.out|refine below_set ?_ GE470.out)|exact HB.out)⟩
end Go.Proofs.Ytdcdaoancmpbeaa.MFnSequences
--sq
