import Derived.Test.YtdcdaoancmpbeaaMFnExactJoinPlansx0
import Derived.Test.YtdcdaoancmpbeaaMFnExactJoinPlansx10
namespace Go.Proofs.Ytdcdaoancmpbeaa.MFnExactJoinPlans
open Go.RowKit Go.Proofs.YtdcdaoancmpbeaaW.PrintWords Go.Proofs.YtdcdaoancmpbeaaW.PrintLast Go.Proofs.YtdcdaoancmpbeaaW.PrintMore Go.Proofs.YtdcdaoancmpbeaaV Go.Proofs.YtdcdaoancmpbeaaZ
attribute [local go_sem] max2_int min2_int max_two min_two max_three min_three max_four min_four   -- for this text's walks alone
set_option linter.unusedVariables false
set_option linter.unusedSimpArgs false
/-! ### laws_heldStepS: function 52 -/
def laws_heldStepS.l0 : Nat → List (S73) → Int → Int → Option (Int)
 | 0,_,_,_=>none
 | k + 1,x0,x1,x5=>if x5 < (x0.length : Int) then (if 0 ≤ x5 then (if ((rd_T73 x0 x5).f0) = x1 then (if ((rd_T73 x0 x5).f1) = (wrap64 (x1 + 1)) then (laws_heldStepS.l0 k x0 (wrap64 ((wrap64 (x1 + 1)) + 1)) (wrap64 (x5 + 1))) else (some (-1))) else (some (-1))) else (none)) else (some x1)
def laws_heldStepS.f (k : Nat) (l0 : List (S73)) (a1 : Int) : Option (Int):=laws_heldStepS.l0 k l0 a1 0
theorem laws_heldStepS.mono_l : ∀ k,(∀ y0 y1 y2,LeO (laws_heldStepS.l0 k y0 y1 y2) (laws_heldStepS.l0 (k + 1) y0 y1 y2))
 | 0=>fun _ _ _ r h=>by simp [laws_heldStepS.l0] at h
 | k + 1=>by
  have ih0:=laws_heldStepS.mono_l k
  ·intro y0 y1 y2
   unfold laws_heldStepS.l0
   repeat' first
   | (with_reducible exact ih0 _ _ _)
   | (with_reducible exact LeO.refl _)
   | (with_reducible exact LeO.none _)
   | (with_reducible refine LeO.ite ?_ ?_)
   | (with_reducible refine LeO.bind ?_ (fun _=>?_))
   | exact ih0 _ _ _
   | exact LeO.none _
   | refine LeO.ite ?_ ?_
   | refine LeO.bind ?_ (fun _=>?_)
theorem laws_heldStepS.mono : ∀ a0 a1 k,LeO (laws_heldStepS.f k a0 a1) (laws_heldStepS.f (k + 1) a0 a1):=by
 intro a0 a1 k
 have ih0:=laws_heldStepS.mono_l k
 unfold laws_heldStepS.f
 repeat' first
   | (with_reducible exact ih0 _ _ _)
   | (with_reducible exact LeO.refl _)
   | (with_reducible exact LeO.none _)
   | (with_reducible refine LeO.ite ?_ ?_)
   | (with_reducible refine LeO.bind ?_ (fun _=>?_))
   | exact ih0 _ _ _
   | exact LeO.none _
   | refine LeO.ite ?_ ?_
   | refine LeO.bind ?_ (fun _=>?_)
set_option maxHeartbeats 8000000 in
set_option maxRecDepth 100000 in
theorem laws_heldStepS.calls (k : Nat) (A0 : Option Addr) (c0 : Nat) (l0 : List (S73)) (a1 : Int) (r : Int) (w : World) (hr0 : Kd.C k73 w A0 l0.length l0) (hc0 : l0.length ≤ c0) (h : laws_heldStepS.f k l0 a1 = some r) :
  Calls Try.prog 52 #[.slice A0 l0.length c0,.int .i64 a1] w fun e w'=>e = .returned (.int .i64 r) ∧ Drawn0 w w':=by
 have HR0:=Aside0.mk hr0
 have HC0:=Aside0.mk hc0
 clear hr0 hc0
 have H : (laws_heldStepS.l0 k l0 a1 0) = some r:=h
 clear h
 have H':=Aside0.mk H
 clear H
 go_enter Try.func52,Try.ntmps52
 go_wp2
 go_loopg [1,5] k (fun kq v1 v5 w'=>∃ (x1_1 : Int) (x5_1 : Int),v1 = .int .i64 x1_1 ∧ v5 = .int .i64 x5_1 ∧ Aside0 (laws_heldStepS.l0 kq l0 x1_1 x5_1 = some r) ∧ Aside0 (kq ≤ k) ∧ Drawn0 w w')
 case atStart=>exact ⟨(a1),(0),fz,fz,H',⟨Nat.le_refl _⟩,by repeat (first|exact Drawn0.refl _|apply Drawn0.step)⟩
 case round=>
  clear H'
  try clear p2
  obtain ⟨x1_1,x5_1,rfl,rfl,HA,HK1,⟨m1,rfl⟩⟩:=hrel
  cases gk with
  | zero=>exact absurd HA.out (by simp [laws_heldStepS.l0])
  | succ k1=>
   have H:=HA.out
   clear HA
   simp only [laws_heldStepS.l0] at H
   by_cases c3 : x5_1 < (l0.length : Int)
   ·rw [if_pos c3] at H
    have c3b0 : decide (x5_1 < (l0.length : Int)) = true:=decide_eq_true c3
    clear c3
    by_cases c4 : 0 ≤ x5_1
    ·rw [if_pos c4] at H
     have c4b0 : decide (0 ≤ x5_1) = true:=decide_eq_true c4
     clear c4
     by_cases c5 : ((rd_T73 l0 x5_1).f0) = x1_1
     ·rw [if_pos c5] at H
      have c5b0 : (((rd_T73 l0 x5_1).f0) == x1_1) = true:=beq_iff_eq.mpr c5
      have c5b1 : (((rd_T73 l0 x5_1).f0) != x1_1) = false:=bne_eq_false_iff_eq.mpr c5
      clear c5
      by_cases c6 : ((rd_T73 l0 x5_1).f1) = (wrap64 (x1_1 + 1))
      ·rw [if_pos c6] at H
       have c6b0 : (((rd_T73 l0 x5_1).f1) == (wrap64 (x1_1 + 1))) = true:=beq_iff_eq.mpr c6
       have c6b1 : (((rd_T73 l0 x5_1).f1) != (wrap64 (x1_1 + 1))) = false:=bne_eq_false_iff_eq.mpr c6
       clear c6
       have H':=Aside0.mk H
       clear H
       have p308 : 0 ≤ (x5_1 : Int):=of_decide_eq_true az
       have q308 : x5_1 < (l0.length : Int):=of_decide_eq_true az
       obtain ⟨ad308,e308,hx308_0,hx308_1⟩:=at_T73 HR0.out x5_1 p308 q308
       cases e308
       replace p308:=eq_true p308
       replace q308:=eq_true q308
       have p309 : 0 ≤ (x5_1 : Int):=of_decide_eq_true az
       have q309 : x5_1 < (l0.length : Int):=of_decide_eq_true az
       obtain ⟨ad309,e309,hx309_0,hx309_1⟩:=at_T73 HR0.out x5_1 p309 q309
       obtain rfl : ad308 = ad309:=(by injection e309)
       replace p309:=eq_true p309
       replace q309:=eq_true q309
       go_wp2
       go_roundg k1
       case measure=>have:=HK1.out;omega
       case rel=>exact ⟨(wrap64 ((wrap64 (x1_1 + 1)) + 1)),(wrap64 (x5_1 + 1)),fz,fz,H',⟨by have:=HK1.out;omega⟩,by repeat (first|exact Drawn0.refl _|apply Drawn0.step)⟩
      ·rw [if_neg c6] at H
       have c6b0 : (((rd_T73 l0 x5_1).f1) == (wrap64 (x1_1 + 1))) = false:=beq_eq_false_iff_ne.mpr c6
       have c6b1 : (((rd_T73 l0 x5_1).f1) != (wrap64 (x1_1 + 1))) = true:=bne_iff_ne.mpr c6
       obtain rfl:=Option.some.inj H
       have p308 : 0 ≤ (x5_1 : Int):=of_decide_eq_true az
       have q308 : x5_1 < (l0.length : Int):=of_decide_eq_true az
       obtain ⟨ad308,e308,hx308_0,hx308_1⟩:=at_T73 HR0.out x5_1 p308 q308
       cases e308
       replace p308:=eq_true p308
       replace q308:=eq_true q308
       have p309 : 0 ≤ (x5_1 : Int):=of_decide_eq_true az
       have q309 : x5_1 < (l0.length : Int):=of_decide_eq_true az
       obtain ⟨ad309,e309,hx309_0,hx309_1⟩:=at_T73 HR0.out x5_1 p309 q309
       obtain rfl : ad308 = ad309:=(by injection e309)
       replace p309:=eq_true p309
       replace q309:=eq_true q309
       go_wp2
       go_ret
       exact ⟨by first|rfl|(simp;done)|(simp [*];done),by repeat (first|exact Drawn0.refl _|apply Drawn0.step)⟩
     ·rw [if_neg c5] at H
      have c5b0 : (((rd_T73 l0 x5_1).f0) == x1_1) = false:=beq_eq_false_iff_ne.mpr c5
      have c5b1 : (((rd_T73 l0 x5_1).f0) != x1_1) = true:=bne_iff_ne.mpr c5
      obtain rfl:=Option.some.inj H
      have p308 : 0 ≤ (x5_1 : Int):=of_decide_eq_true az
      have q308 : x5_1 < (l0.length : Int):=of_decide_eq_true az
      obtain ⟨ad308,e308,hx308_0,hx308_1⟩:=at_T73 HR0.out x5_1 p308 q308
      cases e308
      replace p308:=eq_true p308
      replace q308:=eq_true q308
      go_wp2
      go_ret
      exact ⟨by first|rfl|(simp;done)|(simp [*];done),by repeat (first|exact Drawn0.refl _|apply Drawn0.step)⟩
    ·rw [if_neg c4] at H
     exact absurd H (by simp)
   ·rw [if_neg c3] at H
    have c3b0 : decide (x5_1 < (l0.length : Int)) = false:=decide_eq_false c3
    clear c3
    obtain rfl:=Option.some.inj H
    go_wp2
    go_ret
    exact ⟨by first|rfl|(simp;done)|(simp [*];done),by repeat (first|exact Drawn0.refl _|apply Drawn0.step)⟩
/-! ### laws_heldPlan: function 16 -/
def laws_heldPlan.f (k : Nat) (a0_0 : Int) (l0_1 : List (S73)) (l0_2 : List Int) (a1 : Int) : Option (Int):=(laws_heldStepS.f k l0_1 a1).bind fun t311=>(if t311 < 0 then (some (-1)) else ((laws_heldIntS.f k l0_2 t311).bind fun t312=>(if t312 < 0 then (some (-1)) else (some t312))))
theorem laws_heldPlan.mono : ∀ a0 a1 a2 a3 k,LeO (laws_heldPlan.f k a0 a1 a2 a3) (laws_heldPlan.f (k + 1) a0 a1 a2 a3):=by
 intro a0 a1 a2 a3 k
 unfold laws_heldPlan.f
 repeat' first
   | (with_reducible exact laws_heldIntS.mono _ _ _)
   | (with_reducible exact laws_heldStepS.mono _ _ _)
   | (with_reducible exact LeO.refl _)
   | (with_reducible exact LeO.none _)
   | (with_reducible refine LeO.ite ?_ ?_)
   | (with_reducible refine LeO.bind ?_ (fun _=>?_))
   | exact laws_heldIntS.mono _ _ _
   | exact laws_heldStepS.mono _ _ _
   | exact LeO.none _
   | refine LeO.ite ?_ ?_
   | refine LeO.bind ?_ (fun _=>?_)
set_option maxHeartbeats 8000000 in
set_option maxRecDepth 100000 in
theorem laws_heldPlan.calls (k : Nat) (a0_0 : Int) (A0_1 : Option Addr) (c0_1 : Nat) (l0_1 : List (S73)) (A0_2 : Option Addr) (c0_2 : Nat) (l0_2 : List Int) (a1 : Int) (r : Int) (w : World) (hr0_1 : Kd.C k73 w A0_1 l0_1.length l0_1) (hc0_1 : l0_1.length ≤ c0_1) (hr0_2 : Kd.C (Kd.int .i64) w A0_2 l0_2.length l0_2) (hc0_2 : l0_2.length ≤ c0_2) (h : laws_heldPlan.f k a0_0 l0_1 l0_2 a1 = some r) :
  Calls Try.prog 16 #[.agg #[.int .i64 a0_0,.slice A0_1 l0_1.length c0_1,.slice A0_2 l0_2.length c0_2],.int .i64 a1] w fun e w'=>e = .returned (.int .i64 r) ∧ Below w.heap.size w w':=by
 have hu29:=Try.underlying29
 have HR0_1:=Aside0.mk hr0_1
 have HC0_1:=Aside0.mk hc0_1
 clear hr0_1 hc0_1
 have HR0_2:=Aside0.mk hr0_2
 have HC0_2:=Aside0.mk hc0_2
 clear hr0_2 hc0_2
 have HB:=Aside0.mk (Below.refl w.heap.size w)
 have H : ((laws_heldStepS.f k l0_1 a1).bind fun t311=>(if t311 < 0 then (some (-1)) else ((laws_heldIntS.f k l0_2 t311).bind fun t312=>(if t312 < 0 then (some (-1)) else (some t312))))) = some r:=h
 clear h
 obtain ⟨t311,A3,H⟩:=bd H
 by_cases c4 : t311 < 0
 ·rw [if_pos c4] at H
  have c4b0 : decide (t311 < 0) = true:=decide_eq_true c4
  clear c4
  obtain rfl:=Option.some.inj H
  go_enter Try.func16,Try.ntmps16
  go_wp2_with (first|((with_reducible refine gate_dst (N:=2) rfl ?_);refine box_event ?hg (N:=2) ?hd (cs:=#[.int .i64 a0_0,.slice A0_1 l0_1.length c0_1,.slice A0_2 l0_2.length c0_2]) (t:=29) ?hr ?_;(case hd=>rfl);(case hg=>rfl);(case hr=>first|(go_simp;done)|(go_simp;rfl));intro gb310 hg w5 hbox hb;have n0_:=Aside0.mk (below_step bz hb);have n1_:=Aside0.mk (hbox);have n2_:=Aside0.mk ((by rw [hg];exact (below_size bz) : w.heap.size ≤ gb310));have n3_:=Aside0.mk ((by rw [hg];exact (below_size bz) : w.heap.size ≤ gb310));clear HB;have HB:=n0_;have BK310:=n1_;have GW310:=n2_;have GE310:=n3_;clear n0_ n1_ n2_ n3_;clear hb hbox hg;have hcz6_0 : w5.cell? ⟨gb310,0,none⟩ = some (.int .i64 a0_0):=(blk_cell BK310.out 0).trans rfl;have hcz6_1 : w5.cell? ⟨gb310,1,none⟩ = some (.slice A0_1 l0_1.length c0_1):=(blk_cell BK310.out 1).trans rfl;have hcz6_2 : w5.cell? ⟨gb310,2,none⟩ = some (.slice A0_2 l0_2.length c0_2):=(blk_cell BK310.out 2).trans rfl;have hfz6_0:=blk_frozen BK310.out 0;have hfz6_1:=blk_frozen BK310.out 1;have hfz6_2:=blk_frozen BK310.out 2)|((with_reducible refine gate_callee (f:=52) rfl ?_);refine goesL_ (some 8) rfl rfl Try.func52 (by kernel_rfl) rfl #[.slice A0_1 l0_1.length c0_1,.int .i64 a1] rfl mz ?_;(with_reducible refine (laws_heldStepS.calls k _ _ l0_1 a1 t311 _ ?side1 ?side2 A3.out).mono ?_);(case side1=>exact cz (Kd.C_below HR0_1.out HB.out));(case side2=>exact HC0_1.out);rintro e w' ⟨rfl,⟨nd,rfl⟩⟩;refine ⟨_,rfl,?_⟩))
  go_ret
  exact ⟨by first|rfl|(simp [errW_none,errW_some] <;> rfl)|(simp [*,errW_none,errW_some] <;> rfl),by repeat (first|(with_reducible first|exact HB.out|apply below_alloc|apply pw_below_drewN|apply below_drew1|refine below_set ?_ GE310.out)|exact HB.out)⟩
 ·rw [if_neg c4] at H
  have c4b0 : decide (t311 < 0) = false:=decide_eq_false c4
  clear c4
  obtain ⟨t312,A7,H⟩:=bd H
  by_cases c8 : t312 < 0
  ·rw [if_pos c8] at H
   have c8b0 : decide (t312 < 0) = true:=decide_eq_true c8
   clear c8
   obtain rfl:=Option.some.inj H
   go_enter Try.func16,Try.ntmps16
   go_wp2_with (first|((with_reducible refine gate_dst (N:=2) rfl ?_);refine box_event ?hg (N:=2) ?hd (cs:=#[.int .i64 a0_0,.slice A0_1 l0_1.length c0_1,.slice A0_2 l0_2.length c0_2]) (t:=29) ?hr ?_;(case hd=>rfl);(case hg=>rfl);(case hr=>first|(go_simp;done)|(go_simp;rfl));intro gb310 hg w9 hbox hb;have n0_:=Aside0.mk (below_step bz hb);have n1_:=Aside0.mk (hbox);have n2_:=Aside0.mk ((by rw [hg];exact (below_size bz) : w.heap.size ≤ gb310));have n3_:=Aside0.mk ((by rw [hg];exact (below_size bz) : w.heap.size ≤ gb310));clear HB;have HB:=n0_;have BK310:=n1_;have GW310:=n2_;have GE310:=n3_;clear n0_ n1_ n2_ n3_;clear hb hbox hg;have hcz10_0 : w9.cell? ⟨gb310,0,none⟩ = some (.int .i64 a0_0):=(blk_cell BK310.out 0).trans rfl;have hcz10_1 : w9.cell? ⟨gb310,1,none⟩ = some (.slice A0_1 l0_1.length c0_1):=(blk_cell BK310.out 1).trans rfl;have hcz10_2 : w9.cell? ⟨gb310,2,none⟩ = some (.slice A0_2 l0_2.length c0_2):=(blk_cell BK310.out 2).trans rfl;have hfz10_0:=blk_frozen BK310.out 0;have hfz10_1:=blk_frozen BK310.out 1;have hfz10_2:=blk_frozen BK310.out 2)|((with_reducible refine gate_callee (f:=52) rfl ?_);refine goesL_ (some 8) rfl rfl Try.func52 (by kernel_rfl) rfl #[.slice A0_1 l0_1.length c0_1,.int .i64 a1] rfl mz ?_;(with_reducible refine (laws_heldStepS.calls k _ _ l0_1 a1 t311 _ ?side1 ?side2 A3.out).mono ?_);(case side1=>exact cz (Kd.C_below HR0_1.out HB.out));(case side2=>exact HC0_1.out);rintro e w' ⟨rfl,⟨nd,rfl⟩⟩;refine ⟨_,rfl,?_⟩)|((with_reducible refine gate_callee (f:=30) rfl ?_);refine goesL_ (some 14) rfl rfl Try.func30 (by kernel_rfl) rfl #[.slice A0_2 l0_2.length c0_2,.int .i64 t311] rfl mz ?_;(with_reducible refine (laws_heldIntS.calls k _ _ l0_2 t311 t312 _ ?side1 ?side2 A7.out).mono ?_);(case side1=>exact cz (Kd.C_below HR0_2.out bs));(case side2=>exact HC0_2.out);rintro e w' ⟨rfl,⟨nd,rfl⟩⟩;refine ⟨_,rfl,?_⟩))
   go_ret
   exact ⟨by first|rfl|(simp [errW_none,errW_some] <;> rfl)|(simp [*,errW_none,errW_some] <;> rfl),by repeat (first|(with_reducible first|exact HB.out|apply below_alloc|apply pw_below_drewN|apply below_drew1|refine below_set ?_ GE310.out)|exact HB.out)⟩
  ·rw [if_neg c8] at H
   have c8b0 : decide (t312 < 0) = false:=decide_eq_false c8
   clear c8
   obtain rfl:=Option.some.inj H
   go_enter Try.func16,Try.ntmps16
   go_wp2_with (first|((with_reducible refine gate_dst (N:=2) rfl ?_);refine box_event ?hg (N:=2) ?hd (cs:=#[.int .i64 a0_0,.slice A0_1 l0_1.length c0_1,.slice A0_2 l0_2.length c0_2]) (t:=29) ?hr ?_;(case hd=>rfl);(case hg=>rfl);(case hr=>first|(go_simp;done)|(go_simp;rfl));intro gb310 hg w11 hbox hb;have n0_:=Aside0.mk (below_step bz hb);have n1_:=Aside0.mk (hbox);have n2_:=Aside0.mk ((by rw [hg];exact (below_size bz) : w.heap.size ≤ gb310));have n3_:=Aside0.mk ((by rw [hg];exact (below_size bz) : w.heap.size ≤ gb310));clear HB;have HB:=n0_;have BK310:=n1_;have GW310:=n2_;have GE310:=n3_;clear n0_ n1_ n2_ n3_;clear hb hbox hg;have hcz12_0 : w11.cell? ⟨gb310,0,none⟩ = some (.int .i64 a0_0):=(blk_cell BK310.out 0).trans rfl;have hcz12_1 : w11.cell? ⟨gb310,1,none⟩ = some (.slice A0_1 l0_1.length c0_1):=(blk_cell BK310.out 1).trans rfl;have hcz12_2 : w11.cell? ⟨gb310,2,none⟩ = some (.slice A0_2 l0_2.length c0_2):=(blk_cell BK310.out 2).trans rfl;have hfz12_0:=blk_frozen BK310.out 0;have hfz12_1:=blk_frozen BK310.out 1;have hfz12_2:=blk_frozen BK310.out 2)|((with_reducible refine gate_callee (f:=52) rfl ?_);refine goesL_ (some 8) rfl rfl Try.func52 (by kernel_rfl) rfl #[.slice A0_1 l0_1.length c0_1,.int .i64 a1] rfl mz ?_;(with_reducible refine (laws_heldStepS.calls k _ _ l0_1 a1 t311 _ ?side1 ?side2 A3.out).mono ?_);(case side1=>exact cz (Kd.C_below HR0_1.out HB.out));(case side2=>exact HC0_1.out);rintro e w' ⟨rfl,⟨nd,rfl⟩⟩;refine ⟨_,rfl,?_⟩)|((with_reducible refine gate_callee (f:=30) rfl ?_);refine goesL_ (some 14) rfl rfl Try.func30 (by kernel_rfl) rfl #[.slice A0_2 l0_2.length c0_2,.int .i64 t311] rfl mz ?_;(with_reducible refine (laws_heldIntS.calls k _ _ l0_2 t311 t312 _ ?side1 ?side2 A7.out).mono ?_);(case side1=>exact cz (Kd.C_below HR0_2.out bs));(case side2=>exact HC0_2.out);rintro e w' ⟨rfl,⟨nd,rfl⟩⟩;refine ⟨_,rfl,?_⟩))
   go_ret
   exact ⟨by first|rfl|(simp [errW_none,errW_some] <;> rfl)|(simp [*,errW_none,errW_some] <;> rfl),by repeat (first|(with_reducible first|exact HB.out|apply below_alloc|apply pw_below_drewN|apply below_drew1|refine below_set ?_ GE310.out)|exact HB.out)⟩
end Go.Proofs.Ytdcdaoancmpbeaa.MFnExactJoinPlans
--sq
