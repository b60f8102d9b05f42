import Derived.Test.YtlefjgpkabijdaaGreatDoorMFnChainsArePlansx0
import Derived.Test.YtlefjgpkabijdaaGreatDoorMFnChainsArePlansx1
import Derived.Test.YtlefjgpkabijdaaGreatDoorMFnChainsArePlansx4
import Derived.Test.YtlefjgpkabijdaaGreatDoorMFnChainsArePlansx5
import Derived.Test.YtlefjgpkabijdaaGreatDoorMFnChainsArePlansx6
import Derived.Test.YtlefjgpkabijdaaGreatDoorMFnChainsArePlansx7
import Derived.Test.YtlefjgpkabijdaaGreatDoorMFnChainsArePlansx2
import Derived.Test.YtlefjgpkabijdaaGreatDoorMFnChainsArePlansx3
namespace Go.Proofs.YtlefjgpkabijdaaGreatDoor.MFnChainsArePlans
open Go.RowKit Go.Proofs.YtlefjgpkabijdaaGreatDoorW.PrintWords Go.Proofs.YtlefjgpkabijdaaGreatDoorW.PrintLast Go.Proofs.YtlefjgpkabijdaaGreatDoorW.PrintMore Go.Proofs.YtlefjgpkabijdaaGreatDoorV Go.Proofs.YtlefjgpkabijdaaGreatDoorZ
attribute [local go_sem] max2_int min2_int max_two min_two max_three min_three max_four min_four   -- for this text's walks alone
set_option linter.unusedVariables false
set_option linter.unusedSimpArgs false
attribute [local go_sem high] eqA41
/-! ### laws_pSameSteps: function 13 -/
def laws_pSameSteps.l0 : Nat → List (S41) → List (S41) → Int → Int → Option (Bool)
 | 0,_,_,_,_=>none
 | k + 1,x0,x1,x12,x13=>if x13 < x12 then (if 0 ≤ x13 then (if x13 < (x0.length : Int) then (if x13 < (x1.length : Int) then (if (!(((rd_T41 x0 x13).f0) == ((rd_T41 x1 x13).f0)) || (!(((rd_T41 x0 x13).f1) == ((rd_T41 x1 x13).f1)))) = true then (some false) else (laws_pSameSteps.l0 k x0 x1 x12 (wrap64 (x13 + 1)))) else (none)) else (none)) else (none)) else (some true)
def laws_pSameSteps.f (k : Nat) (l0 : List (S41)) (l1 : List (S41)) : Option (Bool):=if (l0.length : Int) = (l1.length : Int) then (laws_pSameSteps.l0 k l0 l1 (l0.length : Int) 0) else (some false)
theorem laws_pSameSteps.mono_l : ∀ k,(∀ y0 y1 y2 y3,LeO (laws_pSameSteps.l0 k y0 y1 y2 y3) (laws_pSameSteps.l0 (k + 1) y0 y1 y2 y3))
 | 0=>fun _ _ _ _ r h=>by simp [laws_pSameSteps.l0] at h
 | k + 1=>by
  have ih0:=laws_pSameSteps.mono_l k
  ·intro y0 y1 y2 y3
   unfold laws_pSameSteps.l0
   repeat' first
   | (with_reducible exact ih0 _ _ _ _)
   | (with_reducible exact LeO.refl _)
   | (with_reducible exact LeO.none _)
   | (with_reducible refine LeO.ite ?_ ?_)
   | (with_reducible refine LeO.bind ?_ (fun _=>?_))
   | exact ih0 _ _ _ _
   | exact LeO.none _
   | refine LeO.ite ?_ ?_
   | refine LeO.bind ?_ (fun _=>?_)
theorem laws_pSameSteps.mono : ∀ a0 a1 k,LeO (laws_pSameSteps.f k a0 a1) (laws_pSameSteps.f (k + 1) a0 a1):=by
 intro a0 a1 k
 have ih0:=laws_pSameSteps.mono_l k
 unfold laws_pSameSteps.f
 repeat' first
   | (with_reducible exact ih0 _ _ _ _)
   | (with_reducible exact LeO.refl _)
   | (with_reducible exact LeO.none _)
   | (with_reducible refine LeO.ite ?_ ?_)
   | (with_reducible refine LeO.bind ?_ (fun _=>?_))
   | exact ih0 _ _ _ _
   | exact LeO.none _
   | refine LeO.ite ?_ ?_
   | refine LeO.bind ?_ (fun _=>?_)
set_option maxHeartbeats 8000000 in
set_option maxRecDepth 100000 in
theorem laws_pSameSteps.calls (k : Nat) (A0 : Option Addr) (c0 : Nat) (l0 : List (S41)) (A1 : Option Addr) (c1 : Nat) (l1 : List (S41)) (r : Bool) (w : World) (hr0 : Kd.C k41 w A0 l0.length l0) (hc0 : l0.length ≤ c0) (hr1 : Kd.C k41 w A1 l1.length l1) (hc1 : l1.length ≤ c1) (h : laws_pSameSteps.f k l0 l1 = some r) :
  Calls Tryz.prog 13 #[.slice A0 l0.length c0,.slice A1 l1.length c1] w fun e w'=>e = .returned (.bool r) ∧ Drawn0 w w':=by
 have hu41:=Tryz.underlying41
 have HR0:=Aside0.mk hr0
 have HC0:=Aside0.mk hc0
 clear hr0 hc0
 have HR1:=Aside0.mk hr1
 have HC1:=Aside0.mk hc1
 clear hr1 hc1
 have H : (if (l0.length : Int) = (l1.length : Int) then (laws_pSameSteps.l0 k l0 l1 (l0.length : Int) 0) else (some false)) = some r:=h
 clear h
 by_cases c3 : (l0.length : Int) = (l1.length : Int)
 ·rw [if_pos c3] at H
  have c3b0 : ((l0.length : Int) == (l1.length : Int)) = true:=beq_iff_eq.mpr c3
  have c3b1 : ((l0.length : Int) != (l1.length : Int)) = false:=bne_eq_false_iff_eq.mpr c3
  have c3b2 : (l0.length == l1.length) = true:=by first|simpa using c3|(simp at c3 ⊢;omega)
  clear c3
  have H':=Aside0.mk H
  clear H
  go_enter Tryz.func13,Tryz.ntmps13
  go_wp2
  repeat (go_quiet (fail);try go_wp2)
  go_loopg [13] k (fun kq v13 w'=>∃ (x13_1 : Int),v13 = .int .i64 x13_1 ∧ Aside0 (laws_pSameSteps.l0 kq l0 l1 (l0.length : Int) x13_1 = some r) ∧ Aside0 (kq ≤ k) ∧ Drawn0 w w')
  case atStart=>exact ⟨(0),fz,H',⟨Nat.le_refl _⟩,by repeat (first|exact Drawn0.refl _|apply Drawn0.step)⟩
  case round=>
   clear H'
   try clear c1
   try clear p2
   try clear c3
   try clear c3b0
   try clear c3b1
   try clear c3b2
   obtain ⟨x13_1,rfl,HA,HK1,⟨m1,rfl⟩⟩:=hrel
   cases gk with
   | zero=>exact absurd HA.out (by simp [laws_pSameSteps.l0])
   | succ k1=>
    have H:=HA.out
    clear HA
    simp only [laws_pSameSteps.l0] at H
    by_cases c4 : x13_1 < (l0.length : Int)
    ·rw [if_pos c4] at H
     have c4b0 : decide (x13_1 < (l0.length : Int)) = true:=decide_eq_true c4
     clear c4
     by_cases c5 : 0 ≤ x13_1
     ·rw [if_pos c5] at H
      have c5b0 : decide (0 ≤ x13_1) = true:=decide_eq_true c5
      clear c5
      by_cases c6 : x13_1 < (l0.length : Int)
      ·rw [if_pos c6] at H
       have c6b0 : decide (x13_1 < (l0.length : Int)) = true:=decide_eq_true c6
       clear c6
       by_cases c7 : x13_1 < (l1.length : Int)
       ·rw [if_pos c7] at H
        have c7b0 : decide (x13_1 < (l1.length : Int)) = true:=decide_eq_true c7
        clear c7
        by_cases c8 : (!(((rd_T41 l0 x13_1).f0) == ((rd_T41 l1 x13_1).f0)) || (!(((rd_T41 l0 x13_1).f1) == ((rd_T41 l1 x13_1).f1)))) = true
        ·rw [if_pos c8] at H
         have c8b0 : (!(((rd_T41 l0 x13_1).f0) == ((rd_T41 l1 x13_1).f0)) || (!(((rd_T41 l0 x13_1).f1) == ((rd_T41 l1 x13_1).f1)))) = true:=c8
         clear c8
         obtain rfl:=Option.some.inj H
         have p341 : 0 ≤ (x13_1 : Int):=of_decide_eq_true az
         have q341 : x13_1 < (l0.length : Int):=of_decide_eq_true az
         obtain ⟨ad341,e341,hx341_0,hx341_1⟩:=at_T41 HR0.out x13_1 p341 q341
         cases e341
         replace p341:=eq_true p341
         replace q341:=eq_true q341
         have p342 : 0 ≤ (x13_1 : Int):=of_decide_eq_true az
         have q342 : x13_1 < (l1.length : Int):=of_decide_eq_true az
         obtain ⟨ad342,e342,hx342_0,hx342_1⟩:=at_T41 HR1.out x13_1 p342 q342
         cases e342
         replace p342:=eq_true p342
         replace q342:=eq_true q342
         go_wp2
         repeat (go_quiet (fail);try go_wp2)
         go_ret
         exact ⟨by first|rfl|(simp;done)|(simp [*];done),by repeat (first|exact Drawn0.refl _|apply Drawn0.step)⟩
        ·rw [if_neg c8] at H
         have c8b0 : (!(((rd_T41 l0 x13_1).f0) == ((rd_T41 l1 x13_1).f0)) || (!(((rd_T41 l0 x13_1).f1) == ((rd_T41 l1 x13_1).f1)))) = false:=by simpa using c8
         clear c8
         have H':=Aside0.mk H
         clear H
         have p341 : 0 ≤ (x13_1 : Int):=of_decide_eq_true az
         have q341 : x13_1 < (l0.length : Int):=of_decide_eq_true az
         obtain ⟨ad341,e341,hx341_0,hx341_1⟩:=at_T41 HR0.out x13_1 p341 q341
         cases e341
         replace p341:=eq_true p341
         replace q341:=eq_true q341
         have p342 : 0 ≤ (x13_1 : Int):=of_decide_eq_true az
         have q342 : x13_1 < (l1.length : Int):=of_decide_eq_true az
         obtain ⟨ad342,e342,hx342_0,hx342_1⟩:=at_T41 HR1.out x13_1 p342 q342
         cases e342
         replace p342:=eq_true p342
         replace q342:=eq_true q342
         go_wp2
         repeat (go_quiet (fail);try go_wp2)
         go_roundg k1
         case measure=>have:=HK1.out;omega
         case rel=>exact ⟨(wrap64 (x13_1 + 1)),fz,H',⟨by have:=HK1.out;omega⟩,by repeat (first|exact Drawn0.refl _|apply Drawn0.step)⟩
       ·rw [if_neg c7] at H
        exact absurd H (by simp)
      ·rw [if_neg c6] at H
       exact absurd H (by simp)
     ·rw [if_neg c5] at H
      exact absurd H (by simp)
    ·rw [if_neg c4] at H
     have c4b0 : decide (x13_1 < (l0.length : Int)) = false:=decide_eq_false c4
     clear c4
     obtain rfl:=Option.some.inj H
     go_wp2
     repeat (go_quiet (fail);try go_wp2)
     go_ret
     exact ⟨by first|rfl|(simp;done)|(simp [*];done),by repeat (first|exact Drawn0.refl _|apply Drawn0.step)⟩
 ·rw [if_neg c3] at H
  have c3b0 : ((l0.length : Int) == (l1.length : Int)) = false:=beq_eq_false_iff_ne.mpr c3
  have c3b1 : ((l0.length : Int) != (l1.length : Int)) = true:=bne_iff_ne.mpr c3
  have c3b2 : (l0.length == l1.length) = false:=by first|simpa using c3|(simp at c3 ⊢;omega)
  obtain rfl:=Option.some.inj H
  go_enter Tryz.func13,Tryz.ntmps13
  go_wp2
  repeat (go_quiet (fail);try go_wp2)
  go_ret
  exact ⟨by first|rfl|(simp;done)|(simp [*];done),by repeat (first|exact Drawn0.refl _|apply Drawn0.step)⟩
/-! ### laws_pSamePlan: function 8 -/
def laws_pSamePlan.f (k : Nat) (a0_0 : Int) (l0_1 : List (S41)) (l0_2 : List Int) (a1_0 : Int) (l1_1 : List (S41)) (l1_2 : List Int) : Option (Bool):=if a0_0 = a1_0 then ((laws_pSameSteps.f k l0_1 l1_1).bind fun t345=>(if t345 = true then ((laws_pSameInts.f k l0_2 l1_2).bind fun t346=>(some t346)) else (some false))) else (some false)
theorem laws_pSamePlan.mono : ∀ a0 a1 a2 a3 a4 a5 k,LeO (laws_pSamePlan.f k a0 a1 a2 a3 a4 a5) (laws_pSamePlan.f (k + 1) a0 a1 a2 a3 a4 a5):=by
 intro a0 a1 a2 a3 a4 a5 k
 unfold laws_pSamePlan.f
 repeat' first
   | (with_reducible exact laws_pSameInts.mono _ _ _)
   | (with_reducible exact laws_pSameSteps.mono _ _ _)
   | (with_reducible exact LeO.refl _)
   | (with_reducible exact LeO.none _)
   | (with_reducible refine LeO.ite ?_ ?_)
   | (with_reducible refine LeO.bind ?_ (fun _=>?_))
   | exact laws_pSameInts.mono _ _ _
   | exact laws_pSameSteps.mono _ _ _
   | exact LeO.none _
   | refine LeO.ite ?_ ?_
   | refine LeO.bind ?_ (fun _=>?_)
set_option maxHeartbeats 8000000 in
set_option maxRecDepth 100000 in
theorem laws_pSamePlan.calls (k : Nat) (a0_0 : Int) (A0_1 : Option Addr) (c0_1 : Nat) (l0_1 : List (S41)) (A0_2 : Option Addr) (c0_2 : Nat) (l0_2 : List Int) (a1_0 : Int) (A1_1 : Option Addr) (c1_1 : Nat) (l1_1 : List (S41)) (A1_2 : Option Addr) (c1_2 : Nat) (l1_2 : List Int) (r : Bool) (w : World) (hr0_1 : Kd.C k41 w A0_1 l0_1.length l0_1) (hc0_1 : l0_1.length ≤ c0_1) (hr0_2 : Kd.C (Kd.int .i64) w A0_2 l0_2.length l0_2) (hc0_2 : l0_2.length ≤ c0_2) (hr1_1 : Kd.C k41 w A1_1 l1_1.length l1_1) (hc1_1 : l1_1.length ≤ c1_1) (hr1_2 : Kd.C (Kd.int .i64) w A1_2 l1_2.length l1_2) (hc1_2 : l1_2.length ≤ c1_2) (h : laws_pSamePlan.f k a0_0 l0_1 l0_2 a1_0 l1_1 l1_2 = some r) :
  Calls Tryz.prog 8 #[.agg #[.int .i64 a0_0,.slice A0_1 l0_1.length c0_1,.slice A0_2 l0_2.length c0_2],.agg #[.int .i64 a1_0,.slice A1_1 l1_1.length c1_1,.slice A1_2 l1_2.length c1_2]] w fun e w'=>e = .returned (.bool r) ∧ Below w.heap.size w w':=by
 have hu28:=Tryz.underlying28
 have HR0_1:=Aside0.mk hr0_1
 have HC0_1:=Aside0.mk hc0_1
 clear hr0_1 hc0_1
 have HR0_2:=Aside0.mk hr0_2
 have HC0_2:=Aside0.mk hc0_2
 clear hr0_2 hc0_2
 have HR1_1:=Aside0.mk hr1_1
 have HC1_1:=Aside0.mk hc1_1
 clear hr1_1 hc1_1
 have HR1_2:=Aside0.mk hr1_2
 have HC1_2:=Aside0.mk hc1_2
 clear hr1_2 hc1_2
 have HB:=Aside0.mk (Below.refl w.heap.size w)
 have H : (if a0_0 = a1_0 then ((laws_pSameSteps.f k l0_1 l1_1).bind fun t345=>(if t345 = true then ((laws_pSameInts.f k l0_2 l1_2).bind fun t346=>(some t346)) else (some false))) else (some false)) = some r:=h
 clear h
 by_cases c3 : a0_0 = a1_0
 ·rw [if_pos c3] at H
  have c3b0 : (a0_0 == a1_0) = true:=beq_iff_eq.mpr c3
  have c3b1 : (a0_0 != a1_0) = false:=bne_eq_false_iff_eq.mpr c3
  clear c3
  obtain ⟨t345,A4,H⟩:=bd H
  by_cases c5 : t345 = true
  ·subst c5
   rw [if_pos rfl] at H
   obtain ⟨t346,A6,H⟩:=bd H
   obtain rfl:=Option.some.inj H
   go_enter Tryz.func8,Tryz.ntmps8
   go_wp2_with (first|((with_reducible refine gate_dst (N:=2) rfl ?_);refine box_event ?hg (N:=2) ?hd (cs:=#[.int .i64 a0_0,.slice A0_1 l0_1.length c0_1,.slice A0_2 l0_2.length c0_2]) (t:=28) ?hr ?_;(case hd=>rfl);(case hg=>rfl);(case hr=>first|(go_simp;done)|(go_simp;rfl));intro gb343 hg w7 hbox hb;have n0_:=Aside0.mk (below_step bz hb);have n1_:=Aside0.mk (hbox);have n2_:=Aside0.mk ((by rw [hg];exact (below_size bz) : w.heap.size ≤ gb343));have n3_:=Aside0.mk ((by rw [hg];exact (below_size bz) : w.heap.size ≤ gb343));clear HB;have HB:=n0_;have BK343:=n1_;have GW343:=n2_;have GE343:=n3_;clear n0_ n1_ n2_ n3_;clear hb hbox hg)|((with_reducible refine gate_dst (N:=3) rfl ?_);refine box_event ?hg (N:=3) ?hd (cs:=#[.int .i64 a1_0,.slice A1_1 l1_1.length c1_1,.slice A1_2 l1_2.length c1_2]) (t:=28) ?hr ?_;(case hd=>rfl);(case hg=>rfl);(case hr=>first|(go_simp;done)|(go_simp;rfl));intro gb344 hg w8 hbox hb;have n0_:=Aside0.mk (kb BK343.out hb);have n1_:=Aside0.mk (below_step bs hb);have n2_:=Aside0.mk (hbox);have n3_:=Aside0.mk ((by rw [hg];exact (below_size bs) : w.heap.size ≤ gb344));have n4_:=Aside0.mk ((by rw [hg];exact (below_size bs) : w.heap.size ≤ gb344));have n5_:=Aside0.mk (kn hg BK343.out);have n6_:=Aside0.mk (km hg BK343.out);clear BK343 HB;have BK343:=n0_;have HB:=n1_;have BK344:=n2_;have GW344:=n3_;have GE344:=n4_;have NB343_344:=n5_;have NB344_343:=n6_;clear n0_ n1_ n2_ n3_ n4_ n5_ n6_;clear hb hbox hg;have hnb9:=NB343_344.out;have hnc9:=NB344_343.out;have hcz10_0 : w8.cell? ⟨gb343,0,none⟩ = some (.int .i64 a0_0):=(blk_cell BK343.out 0).trans rfl;have hcz10_1 : w8.cell? ⟨gb343,1,none⟩ = some (.slice A0_1 l0_1.length c0_1):=(blk_cell BK343.out 1).trans rfl;have hcz10_2 : w8.cell? ⟨gb343,2,none⟩ = some (.slice A0_2 l0_2.length c0_2):=(blk_cell BK343.out 2).trans rfl;have hfz10_0:=blk_frozen BK343.out 0;have hfz10_1:=blk_frozen BK343.out 1;have hfz10_2:=blk_frozen BK343.out 2;have hcz11_0 : w8.cell? ⟨gb344,0,none⟩ = some (.int .i64 a1_0):=(blk_cell BK344.out 0).trans rfl;have hcz11_1 : w8.cell? ⟨gb344,1,none⟩ = some (.slice A1_1 l1_1.length c1_1):=(blk_cell BK344.out 1).trans rfl;have hcz11_2 : w8.cell? ⟨gb344,2,none⟩ = some (.slice A1_2 l1_2.length c1_2):=(blk_cell BK344.out 2).trans rfl;have hfz11_0:=blk_frozen BK344.out 0;have hfz11_1:=blk_frozen BK344.out 1;have hfz11_2:=blk_frozen BK344.out 2)|(go_at_call 13;(with_reducible refine (laws_pSameSteps.calls k _ _ l0_1 _ _ l1_1 true _ ?side1 ?side2 ?side3 ?side4 A4.out).mono ?_);(case side1=>exact cz (Kd.C_below HR0_1.out HB.out));(case side2=>exact HC0_1.out);(case side3=>exact cz (Kd.C_below HR1_1.out HB.out));(case side4=>exact HC1_1.out);rintro e w' ⟨rfl,⟨nd,rfl⟩⟩)|(go_at_call 12;(with_reducible refine (laws_pSameInts.calls k _ _ l0_2 _ _ l1_2 t346 _ ?side1 ?side2 ?side3 ?side4 A6.out).mono ?_);(case side1=>exact cz (Kd.C_below HR0_2.out bs));(case side2=>exact HC0_2.out);(case side3=>exact cz (Kd.C_below HR1_2.out bs));(case side4=>exact HC1_2.out);rintro e w' ⟨rfl,⟨nd,rfl⟩⟩))
   go_ret
   exact ⟨by first|rfl|(simp [errW_none,errW_some] <;> rfl)|(simp [*,errW_none,errW_some] <;> rfl),by repeat (first|(with_reducible first|exact HB.out|apply below_alloc|apply pw_below_drewN|apply below_drew1|refine below_set ?_ GE343.out|refine below_set ?_ GE344.out)|exact HB.out)⟩
  ·replace c5:=Bool.eq_false_iff.mpr c5
   subst c5
   rw [if_neg (show ¬ (false = true) by decide)] at H
   obtain rfl:=Option.some.inj H
   go_enter Tryz.func8,Tryz.ntmps8
   go_wp2_with (first|((with_reducible refine gate_dst (N:=2) rfl ?_);refine box_event ?hg (N:=2) ?hd (cs:=#[.int .i64 a0_0,.slice A0_1 l0_1.length c0_1,.slice A0_2 l0_2.length c0_2]) (t:=28) ?hr ?_;(case hd=>rfl);(case hg=>rfl);(case hr=>first|(go_simp;done)|(go_simp;rfl));intro gb343 hg w12 hbox hb;have n0_:=Aside0.mk (below_step bz hb);have n1_:=Aside0.mk (hbox);have n2_:=Aside0.mk ((by rw [hg];exact (below_size bz) : w.heap.size ≤ gb343));have n3_:=Aside0.mk ((by rw [hg];exact (below_size bz) : w.heap.size ≤ gb343));clear HB;have HB:=n0_;have BK343:=n1_;have GW343:=n2_;have GE343:=n3_;clear n0_ n1_ n2_ n3_;clear hb hbox hg)|((with_reducible refine gate_dst (N:=3) rfl ?_);refine box_event ?hg (N:=3) ?hd (cs:=#[.int .i64 a1_0,.slice A1_1 l1_1.length c1_1,.slice A1_2 l1_2.length c1_2]) (t:=28) ?hr ?_;(case hd=>rfl);(case hg=>rfl);(case hr=>first|(go_simp;done)|(go_simp;rfl));intro gb344 hg w13 hbox hb;have n0_:=Aside0.mk (kb BK343.out hb);have n1_:=Aside0.mk (below_step bs hb);have n2_:=Aside0.mk (hbox);have n3_:=Aside0.mk ((by rw [hg];exact (below_size bs) : w.heap.size ≤ gb344));have n4_:=Aside0.mk ((by rw [hg];exact (below_size bs) : w.heap.size ≤ gb344));have n5_:=Aside0.mk (kn hg BK343.out);have n6_:=Aside0.mk (km hg BK343.out);clear BK343 HB;have BK343:=n0_;have HB:=n1_;have BK344:=n2_;have GW344:=n3_;have GE344:=n4_;have NB343_344:=n5_;have NB344_343:=n6_;clear n0_ n1_ n2_ n3_ n4_ n5_ n6_;clear hb hbox hg;have hnb14:=NB343_344.out;have hnc14:=NB344_343.out;have hcz15_0 : w13.cell? ⟨gb343,0,none⟩ = some (.int .i64 a0_0):=(blk_cell BK343.out 0).trans rfl;have hcz15_1 : w13.cell? ⟨gb343,1,none⟩ = some (.slice A0_1 l0_1.length c0_1):=(blk_cell BK343.out 1).trans rfl;have hcz15_2 : w13.cell? ⟨gb343,2,none⟩ = some (.slice A0_2 l0_2.length c0_2):=(blk_cell BK343.out 2).trans rfl;have hfz15_0:=blk_frozen BK343.out 0;have hfz15_1:=blk_frozen BK343.out 1;have hfz15_2:=blk_frozen BK343.out 2;have hcz16_0 : w13.cell? ⟨gb344,0,none⟩ = some (.int .i64 a1_0):=(blk_cell BK344.out 0).trans rfl;have hcz16_1 : w13.cell? ⟨gb344,1,none⟩ = some (.slice A1_1 l1_1.length c1_1):=(blk_cell BK344.out 1).trans rfl;have hcz16_2 : w13.cell? ⟨gb344,2,none⟩ = some (.slice A1_2 l1_2.length c1_2):=(blk_cell BK344.out 2).trans rfl;have hfz16_0:=blk_frozen BK344.out 0;have hfz16_1:=blk_frozen BK344.out 1;have hfz16_2:=blk_frozen BK344.out 2)|(go_at_call 13;(with_reducible refine (laws_pSameSteps.calls k _ _ l0_1 _ _ l1_1 false _ ?side1 ?side2 ?side3 ?side4 A4.out).mono ?_);(case side1=>exact cz (Kd.C_below HR0_1.out HB.out));(case side2=>exact HC0_1.out);(case side3=>exact cz (Kd.C_below HR1_1.out HB.out));(case side4=>exact HC1_1.out);rintro e w' ⟨rfl,⟨nd,rfl⟩⟩))
   go_ret
   exact ⟨by first|rfl|(simp [errW_none,errW_some] <;> rfl)|(simp [*,errW_none,errW_some] <;> rfl),by repeat (first|(with_reducible first|exact HB.out|apply below_alloc|apply pw_below_drewN|apply below_drew1|refine below_set ?_ GE343.out|refine below_set ?_ GE344.out)|exact HB.out)⟩
 ·rw [if_neg c3] at H
  have c3b0 : (a0_0 == a1_0) = false:=beq_eq_false_iff_ne.mpr c3
  have c3b1 : (a0_0 != a1_0) = true:=bne_iff_ne.mpr c3
  obtain rfl:=Option.some.inj H
  go_enter Tryz.func8,Tryz.ntmps8
  go_wp2_with (first|((with_reducible refine gate_dst (N:=2) rfl ?_);refine box_event ?hg (N:=2) ?hd (cs:=#[.int .i64 a0_0,.slice A0_1 l0_1.length c0_1,.slice A0_2 l0_2.length c0_2]) (t:=28) ?hr ?_;(case hd=>rfl);(case hg=>rfl);(case hr=>first|(go_simp;done)|(go_simp;rfl));intro gb343 hg w17 hbox hb;have n0_:=Aside0.mk (below_step bz hb);have n1_:=Aside0.mk (hbox);have n2_:=Aside0.mk ((by rw [hg];exact (below_size bz) : w.heap.size ≤ gb343));have n3_:=Aside0.mk ((by rw [hg];exact (below_size bz) : w.heap.size ≤ gb343));clear HB;have HB:=n0_;have BK343:=n1_;have GW343:=n2_;have GE343:=n3_;clear n0_ n1_ n2_ n3_;clear hb hbox hg)|((with_reducible refine gate_dst (N:=3) rfl ?_);refine box_event ?hg (N:=3) ?hd (cs:=#[.int .i64 a1_0,.slice A1_1 l1_1.length c1_1,.slice A1_2 l1_2.length c1_2]) (t:=28) ?hr ?_;(case hd=>rfl);(case hg=>rfl);(case hr=>first|(go_simp;done)|(go_simp;rfl));intro gb344 hg w18 hbox hb;have n0_:=Aside0.mk (kb BK343.out hb);have n1_:=Aside0.mk (below_step bs hb);have n2_:=Aside0.mk (hbox);have n3_:=Aside0.mk ((by rw [hg];exact (below_size bs) : w.heap.size ≤ gb344));have n4_:=Aside0.mk ((by rw [hg];exact (below_size bs) : w.heap.size ≤ gb344));have n5_:=Aside0.mk (kn hg BK343.out);have n6_:=Aside0.mk (km hg BK343.out);clear BK343 HB;have BK343:=n0_;have HB:=n1_;have BK344:=n2_;have GW344:=n3_;have GE344:=n4_;have NB343_344:=n5_;have NB344_343:=n6_;clear n0_ n1_ n2_ n3_ n4_ n5_ n6_;clear hb hbox hg;have hnb19:=NB343_344.out;have hnc19:=NB344_343.out;have hcz20_0 : w18.cell? ⟨gb343,0,none⟩ = some (.int .i64 a0_0):=(blk_cell BK343.out 0).trans rfl;have hcz20_1 : w18.cell? ⟨gb343,1,none⟩ = some (.slice A0_1 l0_1.length c0_1):=(blk_cell BK343.out 1).trans rfl;have hcz20_2 : w18.cell? ⟨gb343,2,none⟩ = some (.slice A0_2 l0_2.length c0_2):=(blk_cell BK343.out 2).trans rfl;have hfz20_0:=blk_frozen BK343.out 0;have hfz20_1:=blk_frozen BK343.out 1;have hfz20_2:=blk_frozen BK343.out 2;have hcz21_0 : w18.cell? ⟨gb344,0,none⟩ = some (.int .i64 a1_0):=(blk_cell BK344.out 0).trans rfl;have hcz21_1 : w18.cell? ⟨gb344,1,none⟩ = some (.slice A1_1 l1_1.length c1_1):=(blk_cell BK344.out 1).trans rfl;have hcz21_2 : w18.cell? ⟨gb344,2,none⟩ = some (.slice A1_2 l1_2.length c1_2):=(blk_cell BK344.out 2).trans rfl;have hfz21_0:=blk_frozen BK344.out 0;have hfz21_1:=blk_frozen BK344.out 1;have hfz21_2:=blk_frozen BK344.out 2))
  go_ret
  exact ⟨by first|rfl|(simp [errW_none,errW_some] <;> rfl)|(simp [*,errW_none,errW_some] <;> rfl),by repeat (first|(with_reducible first|exact HB.out|apply below_alloc|apply pw_below_drewN|apply below_drew1|refine below_set ?_ GE343.out|refine below_set ?_ GE344.out)|exact HB.out)⟩
/-! ### impl_increasing: function 25 -/
section
def impl_increasing.f (l0 : List Int) : Option (List Int):=if 0 < l0.length ∧ l0.length ≤ 1000000000 then some (Go.Lib.compact (l0.mergeSort fun x y=>decide (x ≤ y))) else none
set_option maxHeartbeats 2000000 in
set_option maxRecDepth 100000 in
theorem impl_increasing.calls (P0_ : Nat → Prop) (u9000_ : Value) (l0 : List Int) (r : List Int) (w0 w : World) (hB : Below w0.heap.size w0 w) (ho0 : Kd.R (Kd.int .i64) 3 w w0.heap.size P0_ u9000_ l0) (h : impl_increasing.f l0 = some r) :
  Calls Tryz.prog 25 #[u9000_] w fun e w'=>∃ v0_ : Value,e = .returned v0_ ∧ Kd.R (Kd.int .i64) 3 w' w0.heap.size (fun k_=>(P0_ k_ ∨ w.heap.size ≤ k_)) v0_ r ∧ Below w0.heap.size w0 w' ∧ Kept w w' (fun k_=>P0_ k_):=by
 unfold impl_increasing.f at h
 by_cases c : 0 < l0.length ∧ l0.length ≤ 1000000000
 ·rw [if_pos c] at h
  have HI:=Aside0.mk (Option.some.inj h)
  obtain ⟨hp,hs⟩:=c
  have hl : (l0.mergeSort fun x y=>decide (x ≤ y)).length = l0.length:=List.length_mergeSort l0
  have HP:=Aside0.mk (show 0 < (l0.mergeSort fun x y=>decide (x ≤ y)).length by rw [hl];exact hp)
  have HSRT:=Aside0.mk (Go.Proofs.YtlefjgpkabijdaaGreatDoorS.sortk_f43 hB ho0 hp (Nat.lt_of_le_of_lt hs (by decide)))
  clear hB ho0 hp hs hl h
  obtain ⟨m,hm⟩ : ∃ m,(l0.mergeSort fun x y=>decide (x ≤ y)) = m:=⟨_,rfl⟩
  rw [hm] at HP HSRT HI
  clear hm
  go_enter Tryz.func25,Tryz.ntmps25
  go_wp2_with (first|(go_at_call 43;refine HSRT.out.mono ?_;rintro e w1 ⟨rfl,ho,hb,hk⟩;have HO1:=Aside0.mk ho;have HB1:=Aside0.mk hb;have HK1:=Aside0.mk hk;clear ho hb hk)|(go_at_call 44;refine (Go.Proofs.YtlefjgpkabijdaaGreatDoorS.compk_f44 HB1.out HO1.out HP.out (Go.Lib.compact_length_le _)).mono ?_;rintro e w2 ⟨v2,rfl,ho,hb,hk⟩;have HO2:=Aside0.mk ho;have HB2:=Aside0.mk hb;have HK2:=Aside0.mk hk;clear ho hb hk))
  go_ret
  exact ⟨_,rfl,by rw [← HI.out];exact Kd.R_mono HO2.out (fun _ hk=>.inl hk),HB2.out,HK1.out.then_ HK2.out (fun _ hk=>.inl hk)⟩
 ·rw [if_neg c] at h;cases h
end
/-! ### slices_Concat_int_int: function 26 -/
section
def slices_Concat_int_int.f (l0 : List (List Int)) : Option (List Int):=if l0.length ≤ 1000000 ∧ l0.flatten.length ≤ 1000000000 then some l0.flatten else none
theorem slices_Concat_int_int.step (l0 : List (List Int)) (k : Nat) (h : k < l0.length) : (l0.take (k + 1)).flatten = (l0.take k).flatten ++ Go.Proofs.YtlefjgpkabijdaaGreatDoorH.rdRow l0 (k : Int):=by
 have e : Go.Proofs.YtlefjgpkabijdaaGreatDoorH.rdRow l0 (k : Int) = l0[k]:=by unfold Go.Proofs.YtlefjgpkabijdaaGreatDoorH.rdRow;rw [Int.toNat_natCast];simp [List.getD,h]
 rw [List.take_succ_eq_append_getElem h,List.flatten_append,e]
 simp
theorem slices_Concat_int_int.part (l0 : List (List Int)) (k : Nat) : (l0.take k).flatten.length ≤ l0.flatten.length:=by
 have:=congrArg (fun l=>l.flatten.length) (List.take_append_drop k l0)
 simp only [List.flatten_append,List.length_append] at this
 omega
theorem slices_Concat_int_int.num (n m : Nat) (h : n + m ≤ 1000000000) : wrap64 ((n : Int) + (m : Int)) = ((n + m : Nat) : Int) ∧ ¬ ((n + m : Nat) : Int) < 0 ∧ ¬ (n : Int) + (m : Int) < 0 ∧ wrap64 ((n : Int) + (m : Int)) = (n : Int) + (m : Int):=by
 refine ⟨?_,?_,?_,?_⟩ <;> first|omega|(unfold wrap64;omega)
theorem slices_Concat_int_int.nums (l0 : List (List Int)) (k : Nat) (h : k < l0.length) (hs : l0.flatten.length ≤ 1000000000) : ∃ n m : Nat,(l0.take k).flatten.length = n ∧ (Go.Proofs.YtlefjgpkabijdaaGreatDoorH.rdRow l0 (k : Int)).length = m ∧ (l0.take (k + 1)).flatten.length = n + m ∧ wrap64 ((n : Int) + (m : Int)) = ((n + m : Nat) : Int) ∧ ¬ ((n + m : Nat) : Int) < 0 ∧ ¬ (n : Int) + (m : Int) < 0 ∧ wrap64 ((n : Int) + (m : Int)) = (n : Int) + (m : Int):=by
 have e : (l0.take (k + 1)).flatten.length = (l0.take k).flatten.length + (Go.Proofs.YtlefjgpkabijdaaGreatDoorH.rdRow l0 (k : Int)).length:=by rw [slices_Concat_int_int.step l0 k h,List.length_append]
 have b:=Nat.le_trans (e ▸ slices_Concat_int_int.part l0 (k + 1)) hs
 exact ⟨_,_,rfl,rfl,e,slices_Concat_int_int.num _ _ b⟩
theorem slices_Concat_int_int.eight (a b : Nat) (h : a + b ≤ 1000000000) : (a + b) * 8 ≤ 140737488355328:=by omega
set_option maxHeartbeats 2000000 in
set_option maxRecDepth 100000 in
theorem slices_Concat_int_int.calls (A0 : Option Addr) (c0 : Nat) (l0 : List (List Int)) (r : List Int) (w : World) (hr0 : Kd.C (Kd.slice 3 (Kd.int .i64)) w A0 l0.length l0) (hc0 : l0.length ≤ c0) (h : slices_Concat_int_int.f l0 = some r) :
  Calls Tryz.prog 26 #[.slice A0 l0.length c0] w fun e w'=>∃ v0_ : Value,e = .returned v0_ ∧ Kd.R (Kd.int .i64) 3 w' w.heap.size (fun _=>True) v0_ r ∧ Below w.heap.size w w':=by
 unfold slices_Concat_int_int.f at h
 by_cases hs : l0.length ≤ 1000000 ∧ l0.flatten.length ≤ 1000000000
 ·rw [if_pos hs] at h
  obtain rfl:=Option.some.inj h
  have HR0:=Aside0.mk hr0
  have HS:=Aside0.mk hs
  clear hr0 hs h
  go_enter Tryz.func26,Tryz.ntmps26
  go_wp2
  go_loopg [3,11] l0.length (fun gg s3 s11 wr=>∃ kk : Nat,Aside0 (kk ≤ l0.length ∧ l0.length - kk ≤ gg ∧ Below w.heap.size w wr) ∧ s3 = .int .i64 (((l0.take kk).flatten.length : Nat) : Int) ∧ s11 = .int .i64 kk)
  case atStart=>exact ⟨0,⟨⟨Nat.zero_le _,by omega,Below.refl _ _⟩⟩,rfl,rfl⟩
  case round=>
   obtain ⟨kk,HK,rfl,rfl⟩:=hrel
   obtain ⟨h1,h2,h4⟩:=HK.out
   clear HK
   by_cases hlt : kk < l0.length
   ·have hltz : (kk : Int) < (l0.length : Int):=by omega
    obtain ⟨a0,B0,b0,ea,hx0,g0,hC0⟩:=Go.Proofs.YtlefjgpkabijdaaGreatDoorH.at_row HR0.out (kk : Int) (by omega) hltz
    subst ea
    rw [Int.toNat_natCast] at hx0
    replace hx0:=pw_cell_below h4 hx0
    obtain ⟨n,m,hn,hm,hnm,w1,w2,w3,w4⟩:=slices_Concat_int_int.nums l0 kk hlt HS.out.2
    rw [hn]
    rw [hm] at hx0
    have H2:=Aside0.mk h2
    have H4:=Aside0.mk h4
    have HNM:=Aside0.mk hnm
    clear h2 h4 hnm hn hm hC0 g0
    go_wp2
    go_roundg (l0.length - (kk + 1))
    case measure=>have:=H2.out;omega
    case rel=>exact ⟨kk + 1,⟨⟨by omega,by omega,H4.out⟩⟩,by rw [HNM.out];first|rfl|(rw [w1];done)|simp,by rw [show wrap64 ((kk : Int) + 1) = ((kk + 1 : Nat) : Int) by have:=HS.out.1;unfold wrap64;omega]⟩
   ·have hltz : ¬ (kk : Int) < (l0.length : Int):=by omega
    obtain rfl : kk = l0.length:=by omega
    rw [List.take_length]
    obtain ⟨n,hn⟩ : ∃ n,l0.flatten.length = n:=⟨_,rfl⟩
    have HN:=Aside0.mk (show n ≤ 1000000000 by rw [← hn];exact HS.out.2)
    rw [hn]
    have H4:=Aside0.mk h4
    clear h2 h4 hn
    go_wp2_with (go_at_call 45;refine (Go.Proofs.YtlefjgpkabijdaaGreatDoorS.grow_f45 n wr HN.out).mono ?_;rintro e w5 ⟨v5,rfl,ho,hb⟩;have HO5:=Aside0.mk ho;have HB5:=Aside0.mk hb;clear ho hb)
    go_loopg [6,27] l0.length (fun gg s6 s27 wq=>∃ (kk : Nat) (v : Value),Aside0 (kk ≤ l0.length ∧ l0.length - kk ≤ gg ∧ Below w.heap.size w wq ∧ Kd.R (Kd.int .i64) 3 wq w.heap.size (fun _=>True) v (l0.take kk).flatten) ∧ s6 = v ∧ s27 = .int .i64 kk)
    case atStart=>exact ⟨0,v5,⟨⟨Nat.zero_le _,by omega,H4.out.trans (HB5.out.mono H4.out.size),by rw [List.take_zero];exact Kd.R_lower HO5.out H4.out.size⟩⟩,rfl,rfl⟩
    case round=>
     obtain ⟨kk,v,HK,rfl,rfl⟩:=hrel
     obtain ⟨h1,h2,h4,h5⟩:=HK.out
     clear HK
     by_cases hlt : kk < l0.length
     ·have hltz : (kk : Int) < (l0.length : Int):=by omega
      obtain ⟨a0,B0,b0,ea,hx0,g0,hC0⟩:=Go.Proofs.YtlefjgpkabijdaaGreatDoorH.at_row HR0.out (kk : Int) (by omega) hltz
      subst ea
      rw [Int.toNat_natCast] at hx0
      replace hx0:=pw_cell_below h4 hx0
      have hst:=slices_Concat_int_int.step l0 kk hlt
      have hb:=Nat.le_trans (slices_Concat_int_int.part l0 (kk + 1)) HS.out.2
      rw [hst,List.length_append] at hb
      have HL:=Aside0.mk (slices_Concat_int_int.eight _ _ hb)
      clear hb
      generalize Go.Proofs.YtlefjgpkabijdaaGreatDoorH.rdRow l0 (kk : Int) = ys at *
      generalize (l0.take kk).flatten = xs at *
      have H2:=Aside0.mk h2
      have H4:=Aside0.mk h4
      have H5:=Aside0.mk h5
      have HST:=Aside0.mk hst
      have HC:=Aside0.mk (Kd.C_below hC0 h4)
      clear h2 h4 h5 hst hC0 g0
      go_wp2_with ((with_reducible refine gate_builtin (b:=.append) (xs:=#[.tmp 31,.tmp 32]) rfl ?_);at_builtin;refine Kd.R_append_rows (Kd.int .i64) (w0:=w) w.heap.size rfl (.tmp 31) (.tmp 32) 24 3 (.int .i64 0) 8 rfl Tryz.underlying24 info3 rfl (by decide) (by omega) _ xs ys _ _ _ (fun _=>True) (fun _=>False) rfl rfl H5.out HC.out (fun _ _ h=>h) (fun _ h=>h.elim) (fun _ _=>trivial) H4.out H4.out.size HL.out ?_;intro v6 w6 ho hb hg hat;have HO6:=Aside0.mk ho;have HB6:=Aside0.mk hb;clear ho hb hg hat)
      go_roundg (l0.length - (kk + 1))
      case measure=>have:=H2.out;omega
      case rel=>exact ⟨kk + 1,v6,⟨⟨by omega,by omega,HB6.out,by rw [HST.out];exact HO6.out⟩⟩,rfl,by rw [show wrap64 ((kk : Int) + 1) = ((kk + 1 : Nat) : Int) by unfold wrap64;have:=HS.out.1;omega]⟩
     ·have hltz : ¬ (kk : Int) < (l0.length : Int):=by omega
      obtain rfl : kk = l0.length:=by omega
      rw [List.take_length] at h5
      have H4:=Aside0.mk h4
      have H5:=Aside0.mk h5
      clear h2 h4 h5
      go_wp2
      go_ret
      exact ⟨_,rfl,H5.out,H4.out⟩
 ·rw [if_neg hs] at h;cases h
end
/-! ### impl_ChainOfPlan: function 10 -/
def impl_ChainOfPlan.j0 : Nat → Bool → Int → List (S41) → List Int → Option (List Int × Bool)
 | 0,_,_,_,_=>none
 | k + 1,x11,x348000,x348001,x348002=>if x11 = true then (some (([] : List Int),false)) else ((impl_Plan_exponents.f k x348000 x348001 x348002).bind fun t349=>((slices_Concat_int_int.f t349).bind fun t352=>((impl_increasing.f t352).bind fun t355=>(some (t355,true)))))
def impl_ChainOfPlan.f (k : Nat) (a0_0 : Int) (l0_1 : List (S41)) (l0_2 : List Int) : Option (List Int × Bool):=(impl_IsPlan.f k a0_0 l0_1 l0_2).bind fun t348=>(if t348 = true then (impl_ChainOfPlan.j0 k (a0_0 != 1) a0_0 l0_1 l0_2) else (impl_ChainOfPlan.j0 k true a0_0 l0_1 l0_2))
theorem impl_ChainOfPlan.mono_l : ∀ k,(∀ y0 y1 y2 y3,LeO (impl_ChainOfPlan.j0 k y0 y1 y2 y3) (impl_ChainOfPlan.j0 (k + 1) y0 y1 y2 y3))
 | 0=>fun _ _ _ _ r h=>by simp [impl_ChainOfPlan.j0] at h
 | k + 1=>by
  have ih0:=impl_ChainOfPlan.mono_l k
  ·intro y0 y1 y2 y3
   unfold impl_ChainOfPlan.j0
   repeat' first
   | (with_reducible exact ih0 _ _ _ _)
   | (with_reducible exact impl_IsPlan.mono _ _ _ _)
   | (with_reducible exact impl_Plan_exponents.mono _ _ _ _)
   | (with_reducible exact LeO.refl _)
   | (with_reducible exact LeO.none _)
   | (with_reducible refine LeO.ite ?_ ?_)
   | (with_reducible refine LeO.bind ?_ (fun _=>?_))
   | exact ih0 _ _ _ _
   | exact impl_IsPlan.mono _ _ _ _
   | exact impl_Plan_exponents.mono _ _ _ _
   | exact LeO.none _
   | refine LeO.ite ?_ ?_
   | refine LeO.bind ?_ (fun _=>?_)
theorem impl_ChainOfPlan.mono : ∀ a0 a1 a2 k,LeO (impl_ChainOfPlan.f k a0 a1 a2) (impl_ChainOfPlan.f (k + 1) a0 a1 a2):=by
 intro a0 a1 a2 k
 have ih0:=impl_ChainOfPlan.mono_l k
 unfold impl_ChainOfPlan.f
 repeat' first
   | (with_reducible exact ih0 _ _ _ _)
   | (with_reducible exact impl_IsPlan.mono _ _ _ _)
   | (with_reducible exact impl_Plan_exponents.mono _ _ _ _)
   | (with_reducible exact LeO.refl _)
   | (with_reducible exact LeO.none _)
   | (with_reducible refine LeO.ite ?_ ?_)
   | (with_reducible refine LeO.bind ?_ (fun _=>?_))
   | exact ih0 _ _ _ _
   | exact impl_IsPlan.mono _ _ _ _
   | exact impl_Plan_exponents.mono _ _ _ _
   | exact LeO.none _
   | refine LeO.ite ?_ ?_
   | refine LeO.bind ?_ (fun _=>?_)
set_option maxHeartbeats 8000000 in
set_option maxRecDepth 100000 in
theorem impl_ChainOfPlan.calls (k : Nat) (a0_0 : Int) (A0_1 : Option Addr) (c0_1 : Nat) (l0_1 : List (S41)) (A0_2 : Option Addr) (c0_2 : Nat) (l0_2 : List Int) (r1 : List Int) (r2 : Bool) (w : World) (hr0_1 : Kd.C k41 w A0_1 l0_1.length l0_1) (hc0_1 : l0_1.length ≤ c0_1) (hr0_2 : Kd.C (Kd.int .i64) w A0_2 l0_2.length l0_2) (hc0_2 : l0_2.length ≤ c0_2) (h : impl_ChainOfPlan.f k a0_0 l0_1 l0_2 = some (r1,r2)) :
  Calls Tryz.prog 10 #[.agg #[.int .i64 a0_0,.slice A0_1 l0_1.length c0_1,.slice A0_2 l0_2.length c0_2]] w fun e w'=>∃ v0_ : Value,e = .returned (.tuple #[v0_,.bool r2]) ∧ Kd.R (Kd.int .i64) 3 w' w.heap.size (fun _=>True) v0_ r1 ∧ Below w.heap.size w w':=by
 have hu28:=Tryz.underlying28
 have HR0_1:=Aside0.mk hr0_1
 have HC0_1:=Aside0.mk hc0_1
 clear hr0_1 hc0_1
 have HR0_2:=Aside0.mk hr0_2
 have HC0_2:=Aside0.mk hc0_2
 clear hr0_2 hc0_2
 have HB:=Aside0.mk (Below.refl w.heap.size w)
 have H : ((impl_IsPlan.f k a0_0 l0_1 l0_2).bind fun t348=>(if t348 = true then (impl_ChainOfPlan.j0 k (a0_0 != 1) a0_0 l0_1 l0_2) else (impl_ChainOfPlan.j0 k true a0_0 l0_1 l0_2))) = some (r1,r2):=h
 clear h
 have HC2:=Aside0.mk H
 clear H
 go_enter Tryz.func10,Tryz.ntmps10
 go_upto_region 1 with (first|((with_reducible refine gate_dst (N:=1) rfl ?_);refine box_event ?hg (N:=1) ?hd (cs:=#[.int .i64 a0_0,.slice A0_1 l0_1.length c0_1,.slice A0_2 l0_2.length c0_2]) (t:=28) ?hr ?_;(case hd=>rfl);(case hg=>rfl);(case hr=>first|(go_simp;done)|(go_simp;rfl));intro gb347 hg w3 hbox hb;have n0_:=Aside0.mk (below_step bz hb);have n1_:=Aside0.mk (hbox);have n2_:=Aside0.mk ((by rw [hg];exact (below_size bz) : w.heap.size ≤ gb347));have n3_:=Aside0.mk ((by rw [hg];exact (below_size bz) : w.heap.size ≤ gb347));clear HB;have HB:=n0_;have BK347:=n1_;have GW347:=n2_;have GE347:=n3_;clear n0_ n1_ n2_ n3_;clear hb hbox hg))
 (try simp only [Act.put,xa,xb,xc])
 go_cut [11] (fun v11 wc=>∃ (kq : Nat) (x11_1 : Bool),v11 = .bool x11_1 ∧ Aside0 (impl_ChainOfPlan.j0 kq x11_1 a0_0 l0_1 l0_2 = some (r1,r2)) ∧ Aside0 (kq ≤ k) ∧ Aside0 (wc.heap[gb347]? = some (.cells #[.int .i64 a0_0,(.slice A0_1 l0_1.length c0_1),(.slice A0_2 l0_2.length c0_2)] 28 (0,0))) ∧ Aside0 (Below w.heap.size w wc))
 case first=>
  have H:=HC2.out
  clear HC2
  obtain ⟨t348,A4,H⟩:=bd H
  by_cases c5 : t348 = true
  ·subst c5
   rw [if_pos rfl] at H
   have H':=Aside0.mk H
   clear H
   have hcz6_0 : w3.cell? ⟨gb347,0,none⟩ = some (.int .i64 a0_0):=(blk_cell BK347.out 0).trans rfl
   have hcz6_1 : w3.cell? ⟨gb347,1,none⟩ = some (.slice A0_1 l0_1.length c0_1):=(blk_cell BK347.out 1).trans rfl
   have hcz6_2 : w3.cell? ⟨gb347,2,none⟩ = some (.slice A0_2 l0_2.length c0_2):=(blk_cell BK347.out 2).trans rfl
   have hfz6_0:=blk_frozen BK347.out 0
   have hfz6_1:=blk_frozen BK347.out 1
   have hfz6_2:=blk_frozen BK347.out 2
   go_wp2_with (first|((with_reducible refine gate_callee (f:=24) rfl ?_);refine goesL_ (some 5) rfl rfl Tryz.func24 (by kernel_rfl) rfl #[.agg #[.int .i64 a0_0,.slice A0_1 l0_1.length c0_1,.slice A0_2 l0_2.length c0_2]] rfl mz ?_;(with_reducible refine (impl_IsPlan.calls k a0_0 _ _ l0_1 _ _ l0_2 true _ ?side1 ?side2 ?side3 ?side4 A4.out).mono ?_);(case side1=>exact cz (Kd.C_below HR0_1.out HB.out));(case side2=>exact HC0_1.out);(case side3=>exact cz (Kd.C_below HR0_2.out HB.out));(case side4=>exact HC0_2.out);rintro e w7 ⟨rfl,hb⟩;refine ⟨_,rfl,?_⟩;have n0_:=Aside0.mk (kb BK347.out hb);have n1_:=Aside0.mk (below_step bs hb);clear BK347 HB;have BK347:=n0_;have HB:=n1_;clear n0_ n1_;(try clear hb);have hcz8_0 : w7.cell? ⟨gb347,0,none⟩ = some (.int .i64 a0_0):=(blk_cell BK347.out 0).trans rfl;have hcz8_1 : w7.cell? ⟨gb347,1,none⟩ = some (.slice A0_1 l0_1.length c0_1):=(blk_cell BK347.out 1).trans rfl;have hcz8_2 : w7.cell? ⟨gb347,2,none⟩ = some (.slice A0_2 l0_2.length c0_2):=(blk_cell BK347.out 2).trans rfl;have hfz8_0:=blk_frozen BK347.out 0;have hfz8_1:=blk_frozen BK347.out 1;have hfz8_2:=blk_frozen BK347.out 2))
   go_meet
   case rel=>exact ⟨_,((a0_0 != 1)),fz,H',⟨by first|omega|exact Nat.le_refl _⟩,⟨by (with_reducible repeat (first|refine blk_drewN ?_ _|refine blk_drew ?_|refine blk_alloc ?_ _));exact BK347.out⟩,⟨by repeat (first|(with_reducible first|exact HB.out|apply below_alloc|apply pw_below_drewN|apply below_drew1|refine below_set ?_ GE347.out)|exact HB.out)⟩⟩
  ·replace c5:=Bool.eq_false_iff.mpr c5
   subst c5
   rw [if_neg (show ¬ (false = true) by decide)] at H
   have H':=Aside0.mk H
   clear H
   have hcz9_0 : w3.cell? ⟨gb347,0,none⟩ = some (.int .i64 a0_0):=(blk_cell BK347.out 0).trans rfl
   have hcz9_1 : w3.cell? ⟨gb347,1,none⟩ = some (.slice A0_1 l0_1.length c0_1):=(blk_cell BK347.out 1).trans rfl
   have hcz9_2 : w3.cell? ⟨gb347,2,none⟩ = some (.slice A0_2 l0_2.length c0_2):=(blk_cell BK347.out 2).trans rfl
   have hfz9_0:=blk_frozen BK347.out 0
   have hfz9_1:=blk_frozen BK347.out 1
   have hfz9_2:=blk_frozen BK347.out 2
   go_wp2_with (first|((with_reducible refine gate_callee (f:=24) rfl ?_);refine goesL_ (some 5) rfl rfl Tryz.func24 (by kernel_rfl) rfl #[.agg #[.int .i64 a0_0,.slice A0_1 l0_1.length c0_1,.slice A0_2 l0_2.length c0_2]] rfl mz ?_;(with_reducible refine (impl_IsPlan.calls k a0_0 _ _ l0_1 _ _ l0_2 false _ ?side1 ?side2 ?side3 ?side4 A4.out).mono ?_);(case side1=>exact cz (Kd.C_below HR0_1.out HB.out));(case side2=>exact HC0_1.out);(case side3=>exact cz (Kd.C_below HR0_2.out HB.out));(case side4=>exact HC0_2.out);rintro e w10 ⟨rfl,hb⟩;refine ⟨_,rfl,?_⟩;have n0_:=Aside0.mk (kb BK347.out hb);have n1_:=Aside0.mk (below_step bs hb);clear BK347 HB;have BK347:=n0_;have HB:=n1_;clear n0_ n1_;(try clear hb)))
   go_meet
   case rel=>exact ⟨_,(true),fz,H',⟨by first|omega|exact Nat.le_refl _⟩,⟨by (with_reducible repeat (first|refine blk_drewN ?_ _|refine blk_drew ?_|refine blk_alloc ?_ _));exact BK347.out⟩,⟨by repeat (first|(with_reducible first|exact HB.out|apply below_alloc|apply pw_below_drewN|apply below_drew1|refine below_set ?_ GE347.out)|exact HB.out)⟩⟩
 case rest=>
  clear HC2
  try clear c1
  try clear c2
  try clear p2
  try clear c5
  try clear c10
  try clear hcz6_0
  try clear hcz6_1
  try clear hcz6_2
  try clear hcz8_0
  try clear hcz8_1
  try clear hcz8_2
  try clear hcz9_0
  try clear hcz9_1
  try clear hcz9_2
  try clear hfz6_0
  try clear hfz6_1
  try clear hfz6_2
  try clear hfz8_0
  try clear hfz8_1
  try clear hfz8_2
  try clear hfz9_0
  try clear hfz9_1
  try clear hfz9_2
  obtain ⟨kq,x11_1,rfl,HA,HJ1,BK347,HB⟩:=hcut
  cases kq with
  | zero=>exact absurd HA.out (by simp [impl_ChainOfPlan.j0])
  | succ kj1=>
   have H:=HA.out
   clear HA
   simp only [impl_ChainOfPlan.j0] at H
   by_cases c11 : x11_1 = true
   ·subst c11
    rw [if_pos rfl] at H
    simp only [Option.some.injEq,Prod.mk.injEq] at H
    obtain ⟨rfl,rfl⟩:=H
    go_wp2
    go_ret2
    exact ⟨_,by first|rfl|(simp [errW_none,errW_some] <;> rfl)|(simp [*,errW_none,errW_some] <;> rfl),by first|exact Kd.R_nil _ _ _ _ _|exact Kd.N_nil _ _ _ _ _|exact Kd.V_nil _ _ _ _ _|exact Kd.Q_nil _ _ _ _ _|exact Kd.S_nil _ _ _ _ _,by repeat (first|(with_reducible first|exact HB.out|apply below_alloc|apply pw_below_drewN|apply below_drew1|refine below_set ?_ GE347.out)|exact HB.out)⟩
   ·replace c11:=Bool.eq_false_iff.mpr c11
    subst c11
    rw [if_neg (show ¬ (false = true) by decide)] at H
    obtain ⟨t349,A12,H⟩:=bd H
    obtain ⟨t352,A13,H⟩:=bd H
    obtain ⟨t355,A14,H⟩:=bd H
    simp only [Option.some.injEq,Prod.mk.injEq] at H
    obtain ⟨rfl,rfl⟩:=H
    go_wp2_with (first|((with_reducible refine gate_callee (f:=27) rfl ?_);refine goesL_ (some 12) rfl rfl Tryz.func27 (by kernel_rfl) rfl #[.pointer (some ⟨gb347,0,none⟩)] rfl mz ?_;(with_reducible refine (impl_Plan_exponents.calls kj1 gb347 a0_0 A0_1 c0_1 l0_1 A0_2 c0_2 l0_2 t349 _ ?side1 ?side2 ?side3 ?side4 ?side5 A12.out).mono ?_);(case side1=>exact by (with_reducible repeat (first|refine blk_drewN ?_ _|refine blk_drew ?_|refine blk_alloc ?_ _));exact BK347.out);(case side2=>exact cz (Kd.C_below HR0_1.out HB.out));(case side3=>exact HC0_1.out);(case side4=>exact cz (Kd.C_below HR0_2.out HB.out));(case side5=>exact HC0_2.out);rintro e w15 ⟨v350,rfl,ho0,hb⟩;refine ⟨_,rfl,?_⟩;have n0_:=Aside0.mk (Kd.S_lower ho0 (below_size bs));have n1_:=Aside0.mk (kb BK347.out hb);have n2_:=Aside0.mk (below_step bs hb);clear BK347 HB;have HO351:=n0_;have BK347:=n1_;have HB:=n2_;clear n0_ n1_ n2_;(try clear hb);(try clear ho0);obtain ⟨Ao16,co16,eo16⟩:=Kd.S_slice HO351.out;subst eo16)|((with_reducible refine gate_callee (f:=26) rfl ?_);refine goesL_ (some 13) rfl rfl Tryz.func26 (by kernel_rfl) rfl #[.slice Ao16 t349.length co16] rfl mz ?_;(with_reducible refine (slices_Concat_int_int.calls _ _ t349 t352 _ ?side1 ?side2 A13.out).mono ?_);(case side1=>repeat (first|exact (Kd.S_reads' HO351.out).2.2|(with_reducible refine Kd.C_alloc ?_ _)|(with_reducible refine Kd.C_drewN ?_ _)|(with_reducible refine Kd.C_drew ?_)));(case side2=>exact (Kd.S_reads' HO351.out).2.1);rintro e w17 ⟨v353,rfl,ho0,hb⟩;refine ⟨_,rfl,?_⟩;have n0_:=Aside0.mk (Kd.S_elder' (by (with_reducible repeat (first|apply Kd.S_alloc|apply Kd.S_drewN|apply Kd.S_drew));exact HO351.out) (Kd.R_base ho0) hb);have n1_:=Aside0.mk (Kd.R_lower ho0 (below_size bs));have n2_:=Aside0.mk (kb BK347.out hb);have n3_:=Aside0.mk (below_step bs hb);clear HO351 BK347 HB;have HO351:=n0_;have HO354:=n1_;have BK347:=n2_;have HB:=n3_;clear n0_ n1_ n2_ n3_;(try clear hb);(try clear ho0);obtain ⟨Ao18,co18,eo18⟩:=Kd.R_slice HO354.out;subst eo18)|((with_reducible refine gate_callee (f:=25) rfl ?_);refine goesL_ (some 14) rfl rfl Tryz.func25 (by kernel_rfl) rfl #[.slice Ao18 t352.length co18] rfl mz ?_;(with_reducible refine (impl_increasing.calls (fun k_=>some k_ = (.slice Ao18 t352.length co18 : Value).ownBlock) (.slice Ao18 t352.length co18) t352 t355 w _ ?side1 ?side2 A14.out).mono ?_);(case side1=>repeat (first|(with_reducible first|exact HB.out|apply below_alloc|apply pw_below_drewN|apply below_drew1|refine below_set ?_ GE347.out)|exact HB.out));(case side2=>exact Kd.R_tight rfl HO354.out);rintro e w19 ⟨v356,rfl,ho0,hb,hkp⟩;refine ⟨_,rfl,?_⟩;have n0_:=Aside0.mk (blk_kept (kz BK347.out) hkp (fun hs_=>(fun e_=>(Kd.R_ne HO354.out BK347.out (by decide)) e_) hs_));have n1_:=Aside0.mk (Kd.S_mono (ok':=fun k_=>some k_ ≠ (v356 : Value).ownBlock) (Kd.S_keptB (HO351.out) hkp (fun k_ hk_ hs_=>(hk_.2) hs_)) (fun k_ hk_=>fun e_=>Or.elim (ho0.1 k_ e_.symm) (fun hs_=>hk_.2.1 hs_) (fun hn_=>Nat.not_le.2 hk_.2.2 hn_)));have n2_:=Aside0.mk (Kd.R_mono (ok':=fun k_=>True) ho0 (fun k_ hk_=>trivial));have n3_:=Aside0.mk (hb);clear BK347 HO351 HB HO354;have BK347:=n0_;have HO351:=n1_;have HO357:=n2_;have HB:=n3_;clear n0_ n1_ n2_ n3_;(try clear hb);(try clear hkp);(try clear ho0)))
    go_ret2
    exact ⟨_,by first|rfl|(simp [errW_none,errW_some] <;> rfl)|(simp [*,errW_none,errW_some] <;> rfl),by (with_reducible repeat (first|apply Kd.R_alloc|apply Kd.R_drewN|apply Kd.R_drew));exact HO357.out,by repeat (first|(with_reducible first|exact HB.out|apply below_alloc|apply pw_below_drewN|apply below_drew1|refine below_set ?_ GE347.out)|exact HB.out)⟩
/-! ### impl_ChainSteps: function 11 -/
def impl_ChainSteps.f (k : Nat) (l0 : List Int) : Option ((List (S41)) × Bool):=(impl_IsChain.f k l0).bind fun t358=>(if t358 = true then ((impl_chainSteps.f k l0).bind fun t359=>(some (t359,true))) else (some (([] : List (S41)),false)))
theorem impl_ChainSteps.mono : ∀ a0 k,LeO (impl_ChainSteps.f k a0) (impl_ChainSteps.f (k + 1) a0):=by
 intro a0 k
 unfold impl_ChainSteps.f
 repeat' first
   | (with_reducible exact impl_IsChain.mono _ _)
   | (with_reducible exact impl_chainSteps.mono _ _)
   | (with_reducible exact LeO.refl _)
   | (with_reducible exact LeO.none _)
   | (with_reducible refine LeO.ite ?_ ?_)
   | (with_reducible refine LeO.bind ?_ (fun _=>?_))
   | exact impl_IsChain.mono _ _
   | exact impl_chainSteps.mono _ _
   | exact LeO.none _
   | refine LeO.ite ?_ ?_
   | refine LeO.bind ?_ (fun _=>?_)
set_option maxHeartbeats 8000000 in
set_option maxRecDepth 100000 in
theorem impl_ChainSteps.calls (k : Nat) (A0 : Option Addr) (c0 : Nat) (l0 : List Int) (r1 : List (S41)) (r2 : Bool) (w : World) (hr0 : Kd.C (Kd.int .i64) w A0 l0.length l0) (hc0 : l0.length ≤ c0) (h : impl_ChainSteps.f k l0 = some (r1,r2)) :
  Calls Tryz.prog 11 #[.slice A0 l0.length c0] w fun e w'=>∃ v0_ : Value,e = .returned (.tuple #[v0_,.bool r2]) ∧ Kd.R k41 41 w' w.heap.size (fun _=>True) v0_ r1 ∧ Below w.heap.size w w':=by
 have HR0:=Aside0.mk hr0
 have HC0:=Aside0.mk hc0
 clear hr0 hc0
 have HB:=Aside0.mk (Below.refl w.heap.size w)
 have H : ((impl_IsChain.f k l0).bind fun t358=>(if t358 = true then ((impl_chainSteps.f k l0).bind fun t359=>(some (t359,true))) else (some (([] : List (S41)),false)))) = some (r1,r2):=h
 clear h
 obtain ⟨t358,A2,H⟩:=bd H
 by_cases c3 : t358 = true
 ·subst c3
  rw [if_pos rfl] at H
  obtain ⟨t359,A4,H⟩:=bd H
  simp only [Option.some.injEq,Prod.mk.injEq] at H
  obtain ⟨rfl,rfl⟩:=H
  go_enter Tryz.func11,Tryz.ntmps11
  go_wp2_with (first|((with_reducible refine gate_callee (f:=9) rfl ?_);refine goesL_ (some 5) rfl rfl Tryz.func9 (by kernel_rfl) rfl #[.slice A0 l0.length c0] rfl mz ?_;(with_reducible refine (impl_IsChain.calls k _ _ l0 true _ ?side1 ?side2 A2.out).mono ?_);(case side1=>exact cz HR0.out);(case side2=>exact HC0.out);rintro e w5 ⟨rfl,hb⟩;refine ⟨_,rfl,?_⟩;have n0_:=Aside0.mk (below_step bz hb);clear HB;have HB:=n0_;clear n0_;(try clear hb))|((with_reducible refine gate_callee (f:=28) rfl ?_);refine goesL_ (some 8) rfl rfl Tryz.func28 (by kernel_rfl) rfl #[.slice A0 l0.length c0] rfl mz ?_;(with_reducible refine (impl_chainSteps.calls k _ _ l0 t359 _ ?side1 ?side2 A4.out).mono ?_);(case side1=>exact cz (Kd.C_below HR0.out HB.out));(case side2=>exact HC0.out);rintro e w6 ⟨v360,rfl,ho0,hb⟩;refine ⟨_,rfl,?_⟩;have n0_:=Aside0.mk (Kd.R_lower ho0 (below_size bz));have n1_:=Aside0.mk (below_step bz hb);clear HB;have HO361:=n0_;have HB:=n1_;clear n0_ n1_;(try clear hb);(try clear ho0)))
  go_ret2
  exact ⟨_,by first|rfl|(simp [errW_none,errW_some] <;> rfl)|(simp [*,errW_none,errW_some] <;> rfl),by (with_reducible repeat (first|apply Kd.R_alloc|apply Kd.R_drewN|apply Kd.R_drew));exact HO361.out,by repeat (first|(with_reducible first|exact HB.out|apply below_alloc|apply pw_below_drewN|apply below_drew1)|exact HB.out)⟩
 ·replace c3:=Bool.eq_false_iff.mpr c3
  subst c3
  rw [if_neg (show ¬ (false = true) by decide)] at H
  simp only [Option.some.injEq,Prod.mk.injEq] at H
  obtain ⟨rfl,rfl⟩:=H
  go_enter Tryz.func11,Tryz.ntmps11
  go_wp2_with (first|((with_reducible refine gate_callee (f:=9) rfl ?_);refine goesL_ (some 5) rfl rfl Tryz.func9 (by kernel_rfl) rfl #[.slice A0 l0.length c0] rfl mz ?_;(with_reducible refine (impl_IsChain.calls k _ _ l0 false _ ?side1 ?side2 A2.out).mono ?_);(case side1=>exact cz HR0.out);(case side2=>exact HC0.out);rintro e w7 ⟨rfl,hb⟩;refine ⟨_,rfl,?_⟩;have n0_:=Aside0.mk (below_step bz hb);clear HB;have HB:=n0_;clear n0_;(try clear hb)))
  go_ret2
  exact ⟨_,by first|rfl|(simp [errW_none,errW_some] <;> rfl)|(simp [*,errW_none,errW_some] <;> rfl),by first|exact Kd.R_nil _ _ _ _ _|exact Kd.N_nil _ _ _ _ _|exact Kd.V_nil _ _ _ _ _|exact Kd.Q_nil _ _ _ _ _|exact Kd.S_nil _ _ _ _ _,by repeat (first|(with_reducible first|exact HB.out|apply below_alloc|apply pw_below_drewN|apply below_drew1)|exact HB.out)⟩
/-! ### slices_Clone_int_int: function 60 -/
def slices_Clone_int_int.f (l0 : List Int) : Option (List Int):=if l0.length < 17592186044416 then some l0 else none
set_option maxHeartbeats 8000000 in
set_option maxRecDepth 100000 in
theorem slices_Clone_int_int.calls (A0 : Option Addr) (c0 : Nat) (l0 : List Int) (r : List Int) (w : World) (hr0 : Kd.C (Kd.int .i64) w A0 l0.length l0) (hc0 : l0.length ≤ c0) (h : slices_Clone_int_int.f l0 = some r) :
  Calls Tryz.prog 60 #[.slice A0 l0.length c0] w fun e w'=>∃ v0_ : Value,e = .returned (v0_) ∧ Kd.R (Kd.int .i64) 3 w' w.heap.size (fun _=>True) v0_ r ∧ Below w.heap.size w w':=by
 have hlr : l0.length < 17592186044416 ∧ l0 = r:=by
  unfold slices_Clone_int_int.f at h
  split at h
  ·exact ⟨by assumption,Option.some.inj h⟩
  ·cases h
 obtain ⟨hlt,rfl⟩:=hlr
 clear h
 cases A0 with
 | none=>
  have hl : l0 = []:=by
   by_cases hp : 0 < l0.length
   ·obtain ⟨ad,e,_⟩:=hr0.2.2 hp
    cases e
   ·exact List.eq_nil_of_length_eq_zero (by omega)
  subst hl
  have heq:=fun (W : World)=>Lib.run_eql_slice_nil (P:=Tryz.prog) W 24 3 none 0 c0 0 0 Tryz.underlying24
  go_enter Tryz.func60,Tryz.ntmps60
  go_wp2
  go_ret
  exact ⟨_,rfl,Kd.R_nil _ _ _ _ _,Below.refl _ _⟩
 | some a0=>
  have heq:=fun (W : World)=>Lib.run_eql_slice_nil (P:=Tryz.prog) W 24 3 (some a0) l0.length c0 0 0 Tryz.underlying24
  have HR0:=Aside0.mk hr0
  have HC0:=Aside0.mk hc0
  have LM:=Aside0.mk hlt
  clear hr0 hc0 hlt
  have HB:=Aside0.mk (Below.refl w.heap.size w)
  go_enter Tryz.func60,Tryz.ntmps60
  go_wp2_with (first|((with_reducible refine gate_dst (N:=5) rfl ?_);refine Kd.R_lit (Kd.int .i64) _ 3 ?hg (N:=5) ?hd (xs:=([] : List Int)) (inner:=[]) (ok:=fun _=>True) (okp:=fun _=>True) ?hr ?hp (fun _ hk=>hk) trivial (Below.refl _ _) (Nat.le_refl _) (by simp) ?_;(case hd=>rfl);(case hg=>rfl);(case hr=>first|(go_simp;done)|(go_simp;rfl));(case hp=>exact (Reps.none _ _));intro v119 w3 ho4 hb hg_ hnew_;clear hg_ hnew_;have HO120:=Aside0.mk ho4;have HB1:=Aside0.mk hb;clear hb ho4)|((with_reducible refine gate_builtin (b:=.append) (xs:=#[.tmp 5,.tmp 6]) rfl ?_);at_builtin;refine Kd.R_append_rows (Kd.int .i64) (w0:=w) w.heap.size rfl (.tmp 5) (.tmp 6) 24 3 (.int .i64 0) 8 rfl Tryz.underlying24 info3 rfl (by decide) (by omega) v119 [] l0 _ _ _ (fun _=>True) (fun _=>False) rfl rfl ?aO ?aR (fun _ _ h=>h) (fun _ h=>h.elim) ?aF ?aB ?aS ?aL ?_;(case aR=>exact Kd.C_below HR0.out HB1.out);(case aB=>exact HB1.out);(case aF=>exact (fun _ _=>trivial));(case aO=>exact HO120.out);(case aS=>exact HB1.out.size);(case aL=>have:=LM.out;simp only [List.length_nil];omega);intro v122 w5 ho hb hg hat;rw [List.nil_append] at ho;have HO2:=Aside0.mk ho;have HB2:=Aside0.mk hb;clear ho hb hg hat))
  go_ret
  exact ⟨_,rfl,HO2.out,HB2.out⟩
/-! ### impl_Plan_outputExponents: function 46 -/
def impl_Plan_outputExponents.l0 : Nat → List (List Int) → List (List Int) → List Int → Int → Int → Option ((List (List Int)))
 | 0,_,_,_,_,_=>none
 | k + 1,x3,x4,x13,x14,x15=>if x15 < x14 then (if 0 ≤ x15 then (if x15 < (x13.length : Int) then (if 0 ≤ (rd x13 x15) then (if (rd x13 x15) < (x3.length : Int) then ((slices_Clone_int_int.f (rd_L3 x3 (rd x13 x15))).bind fun t370=>(if x4.length < 5864062014805 then (impl_Plan_outputExponents.l0 k x3 (x4 ++ [t370]) x13 x14 (wrap64 (x15 + 1))) else (none))) else (none)) else (none)) else (none)) else (none)) else (some x4)
def impl_Plan_outputExponents.f (k : Nat) (a0_0 : Int) (l0_1 : List (S41)) (l0_2 : List Int) : Option ((List (List Int))):=(impl_Plan_exponents.f k a0_0 l0_1 l0_2).bind fun t362=>(impl_Plan_outputExponents.l0 k t362 (([] : List (List Int))) l0_2 (l0_2.length : Int) 0)
theorem impl_Plan_outputExponents.mono_l : ∀ k,(∀ y0 y1 y2 y3 y4,LeO (impl_Plan_outputExponents.l0 k y0 y1 y2 y3 y4) (impl_Plan_outputExponents.l0 (k + 1) y0 y1 y2 y3 y4))
 | 0=>fun _ _ _ _ _ r h=>by simp [impl_Plan_outputExponents.l0] at h
 | k + 1=>by
  have ih0:=impl_Plan_outputExponents.mono_l k
  ·intro y0 y1 y2 y3 y4
   unfold impl_Plan_outputExponents.l0
   repeat' first
   | (with_reducible exact ih0 _ _ _ _ _)
   | (with_reducible exact impl_Plan_exponents.mono _ _ _ _)
   | (with_reducible exact LeO.refl _)
   | (with_reducible exact LeO.none _)
   | (with_reducible refine LeO.ite ?_ ?_)
   | (with_reducible refine LeO.bind ?_ (fun _=>?_))
   | exact ih0 _ _ _ _ _
   | exact impl_Plan_exponents.mono _ _ _ _
   | exact LeO.none _
   | refine LeO.ite ?_ ?_
   | refine LeO.bind ?_ (fun _=>?_)
theorem impl_Plan_outputExponents.mono : ∀ a0 a1 a2 k,LeO (impl_Plan_outputExponents.f k a0 a1 a2) (impl_Plan_outputExponents.f (k + 1) a0 a1 a2):=by
 intro a0 a1 a2 k
 have ih0:=impl_Plan_outputExponents.mono_l k
 unfold impl_Plan_outputExponents.f
 repeat' first
   | (with_reducible exact ih0 _ _ _ _ _)
   | (with_reducible exact impl_Plan_exponents.mono _ _ _ _)
   | (with_reducible exact LeO.refl _)
   | (with_reducible exact LeO.none _)
   | (with_reducible refine LeO.ite ?_ ?_)
   | (with_reducible refine LeO.bind ?_ (fun _=>?_))
   | exact ih0 _ _ _ _ _
   | exact impl_Plan_exponents.mono _ _ _ _
   | exact LeO.none _
   | refine LeO.ite ?_ ?_
   | refine LeO.bind ?_ (fun _=>?_)
set_option maxHeartbeats 8000000 in
set_option maxRecDepth 100000 in
theorem impl_Plan_outputExponents.calls (k : Nat) (g0_ : Nat) (a0_0 : Int) (A0_1 : Option Addr) (c0_1 : Nat) (l0_1 : List (S41)) (A0_2 : Option Addr) (c0_2 : Nat) (l0_2 : List Int) (r : List (List Int)) (w : World) (hx0_ : w.heap[g0_]? = some (.cells #[.int .i64 a0_0,.slice A0_1 l0_1.length c0_1,.slice A0_2 l0_2.length c0_2] 28 (0,0))) (hr0_1 : Kd.C k41 w A0_1 l0_1.length l0_1) (hc0_1 : l0_1.length ≤ c0_1) (hr0_2 : Kd.C (Kd.int .i64) w A0_2 l0_2.length l0_2) (hc0_2 : l0_2.length ≤ c0_2) (h : impl_Plan_outputExponents.f k a0_0 l0_1 l0_2 = some r) :
  Calls Tryz.prog 46 #[.pointer (some ⟨g0_,0,none⟩)] w fun e w'=>∃ v0_ : Value,e = .returned (v0_) ∧ Kd.S (Kd.slice 3 (Kd.int .i64)) 24 w' w.heap.size (fun _=>True) v0_ r ∧ Below w.heap.size w w':=by
 have HR0_1:=Aside0.mk hr0_1
 have HC0_1:=Aside0.mk hc0_1
 clear hr0_1 hc0_1
 have HR0_2:=Aside0.mk hr0_2
 have HC0_2:=Aside0.mk hc0_2
 clear hr0_2 hc0_2
 have BK0:=Aside0.mk hx0_
 clear hx0_
 have HB:=Aside0.mk (Below.refl w.heap.size w)
 have H : ((impl_Plan_exponents.f k a0_0 l0_1 l0_2).bind fun t362=>(impl_Plan_outputExponents.l0 k t362 (([] : List (List Int))) l0_2 (l0_2.length : Int) 0)) = some r:=h
 clear h
 obtain ⟨t362,A2,H⟩:=bd H
 obtain ⟨y365,hy365⟩ : ∃ y_ : List (List Int),y_ = (([] : List (List Int))):=⟨_,rfl⟩
 replace H : (impl_Plan_outputExponents.l0 k t362 y365 l0_2 (l0_2.length : Int) 0) = some r:=by first|(rw [hy365];with_reducible exact H)|(have H2_:=(Option.bind_some _ _).symm.trans H;rw [hy365];with_reducible exact H2_)|(have H2_:=(Option.bind_some _ _).symm.trans H;with_reducible exact H2_)|with_reducible exact H|(rw [hy365];exact H)|exact H
 have Ny365:=Aside0.mk hy365
 clear hy365
 have H':=Aside0.mk H
 clear H
 go_enter Tryz.func46,Tryz.ntmps46
 go_wp2_with (first|((with_reducible refine gate_callee (f:=27) rfl ?_);refine goesL_ (some 8) rfl rfl Tryz.func27 (by kernel_rfl) rfl #[.pointer (some ⟨g0_,0,none⟩)] rfl mz ?_;(with_reducible refine (impl_Plan_exponents.calls k g0_ a0_0 A0_1 c0_1 l0_1 A0_2 c0_2 l0_2 t362 _ ?side1 ?side2 ?side3 ?side4 ?side5 A2.out).mono ?_);(case side1=>exact by (with_reducible repeat (first|refine blk_drewN ?_ _|refine blk_drew ?_|refine blk_alloc ?_ _));exact BK0.out);(case side2=>exact cz HR0_1.out);(case side3=>exact HC0_1.out);(case side4=>exact cz HR0_2.out);(case side5=>exact HC0_2.out);rintro e w3 ⟨v363,rfl,ho0,hb⟩;refine ⟨_,rfl,?_⟩;have n0_:=Aside0.mk (Kd.S_lower ho0 (below_size bs));have n1_:=Aside0.mk (kb BK0.out hb);have n2_:=Aside0.mk (below_step bs hb);clear BK0 HB;have HO364:=n0_;have BK0:=n1_;have HB:=n2_;clear n0_ n1_ n2_;(try clear hb);(try clear ho0))|((with_reducible refine gate_dst (N:=9) rfl ?_);refine Kd.S_lit (Kd.slice 3 (Kd.int .i64)) _ 24 ?hg (N:=9) ?hd (xs:=([] : List (List Int))) (inner:=[]) (ok:=fun _=>True) (okp:=fun _=>True) ?hr ?hp (fun _ hk=>hk) trivial (Below.refl _ _) (Nat.le_refl _) (by simp) ?_;(case hd=>rfl);(case hg=>rfl);(case hr=>first|(go_simp;done)|(go_simp;rfl));(case hp=>exact (Reps.none _ _));intro v366 w4 ho5 hb hg_ hnew_;clear hg_ hnew_;(first|rw [← Ny365.out] at ho5|(simp only [Int.reduceToNat] at ho5;rw [← Ny365.out] at ho5));have n0_:=Aside0.mk (Kd.S_elder' (by (with_reducible repeat (first|apply Kd.S_alloc|apply Kd.S_drewN|apply Kd.S_drew));exact HO364.out) (Kd.S_base ho5) hb);have n1_:=Aside0.mk (Kd.S_lower (Kd.S_new' ho5 (Kd.S_lt (by (with_reducible repeat (first|apply Kd.S_alloc|apply Kd.S_drewN|apply Kd.S_drew));exact HO364.out))) (below_size bs));have n2_:=Aside0.mk (kb BK0.out hb);have n3_:=Aside0.mk (below_step bs hb);clear HO364 BK0 HB;have HO364:=n0_;have HO367:=n1_;have BK0:=n2_;have HB:=n3_;clear n0_ n1_ n2_ n3_;clear hb ho5;have hcz6_0 : w4.cell? ⟨g0_,0,none⟩ = some (.int .i64 a0_0):=(blk_cell BK0.out 0).trans rfl;have hcz6_1 : w4.cell? ⟨g0_,1,none⟩ = some (.slice A0_1 l0_1.length c0_1):=(blk_cell BK0.out 1).trans rfl;have hcz6_2 : w4.cell? ⟨g0_,2,none⟩ = some (.slice A0_2 l0_2.length c0_2):=(blk_cell BK0.out 2).trans rfl;have hfz6_0:=blk_frozen BK0.out 0;have hfz6_1:=blk_frozen BK0.out 1;have hfz6_2:=blk_frozen BK0.out 2))
 go_loopg [4,15] k (fun kq v4 v15 w'=>∃ (x4_1 : List (List Int)) (x15_1 : Int),v15 = .int .i64 x15_1 ∧ Aside0 (impl_Plan_outputExponents.l0 kq t362 x4_1 l0_2 (l0_2.length : Int) x15_1 = some r) ∧ Aside0 (kq ≤ k) ∧ Aside0 (Kd.S (Kd.slice 3 (Kd.int .i64)) 24 w' w.heap.size (fun k_=>some k_ ≠ (v4 : Value).ownBlock) v363 t362) ∧ Aside0 (Kd.S (Kd.slice 3 (Kd.int .i64)) 24 w' w.heap.size (fun k_=>some k_ ≠ (v363 : Value).ownBlock) v4 x4_1) ∧ Aside0 (w'.heap[g0_]? = some (.cells #[.int .i64 a0_0,(.slice A0_1 l0_1.length c0_1),(.slice A0_2 l0_2.length c0_2)] 28 (0,0))) ∧ Aside0 (Below w.heap.size w w'))
 case atStart=>exact ⟨(y365),(0),fz,H',⟨Nat.le_refl _⟩,⟨by (with_reducible repeat (first|apply Kd.S_alloc|apply Kd.S_drewN|apply Kd.S_drew));exact Kd.S_mono HO364.out (fun _ hk=>hk.2)⟩,⟨by (with_reducible repeat (first|apply Kd.S_alloc|apply Kd.S_drewN|apply Kd.S_drew));exact Kd.S_mono HO367.out (fun _ hk=>hk.2)⟩,⟨by (with_reducible repeat (first|refine blk_drewN ?_ _|refine blk_drew ?_|refine blk_alloc ?_ _));exact BK0.out⟩,⟨by repeat (first|(with_reducible first|exact HB.out|apply below_alloc|apply pw_below_drewN|apply below_drew1|refine below_set ?_ GE0.out)|exact HB.out)⟩⟩
 case round=>
  clear H'
  try clear c2
  try clear p2
  try clear c4
  try clear hcz6_0
  try clear hcz6_1
  try clear hcz6_2
  try clear hfz6_0
  try clear hfz6_1
  try clear hfz6_2
  obtain ⟨x4_1,x15_1,rfl,HA,HK1,HO_3,HO_4,BK0,HB⟩:=hrel
  cases gk with
  | zero=>exact absurd HA.out (by simp [impl_Plan_outputExponents.l0])
  | succ k1=>
   have H:=HA.out
   clear HA
   simp only [impl_Plan_outputExponents.l0] at H
   by_cases c7 : x15_1 < (l0_2.length : Int)
   ·rw [if_pos c7] at H
    have c7b0 : decide (x15_1 < (l0_2.length : Int)) = true:=decide_eq_true c7
    clear c7
    by_cases c8 : 0 ≤ x15_1
    ·rw [if_pos c8] at H
     have c8b0 : decide (0 ≤ x15_1) = true:=decide_eq_true c8
     clear c8
     by_cases c9 : x15_1 < (l0_2.length : Int)
     ·rw [if_pos c9] at H
      have c9b0 : decide (x15_1 < (l0_2.length : Int)) = true:=decide_eq_true c9
      clear c9
      by_cases c10 : 0 ≤ (rd l0_2 x15_1)
      ·rw [if_pos c10] at H
       have c10b0 : decide (0 ≤ (rd l0_2 x15_1)) = true:=decide_eq_true c10
       clear c10
       by_cases c11 : (rd l0_2 x15_1) < (t362.length : Int)
       ·rw [if_pos c11] at H
        have c11b0 : decide ((rd l0_2 x15_1) < (t362.length : Int)) = true:=decide_eq_true c11
        clear c11
        obtain ⟨t370,A12,H⟩:=bd H
        by_cases c13 : x4_1.length < 5864062014805
        ·rw [if_pos c13] at H
         have LMc13:=Aside0.mk c13
         clear c13
         obtain ⟨y373,hy373⟩ : ∃ y_ : List (List Int),y_ = (x4_1 ++ [t370]):=⟨_,rfl⟩
         replace H : (impl_Plan_outputExponents.l0 k1 t362 y373 l0_2 (l0_2.length : Int) (wrap64 (x15_1 + 1))) = some r:=by first|(rw [hy373];with_reducible exact H)|(have H2_:=(Option.bind_some _ _).symm.trans H;rw [hy373];with_reducible exact H2_)|(have H2_:=(Option.bind_some _ _).symm.trans H;with_reducible exact H2_)|with_reducible exact H|(rw [hy373];exact H)|exact H
         have Ny373:=Aside0.mk hy373
         clear hy373
         have H':=Aside0.mk H
         clear H
         have p368 : 0 ≤ (x15_1 : Int):=of_decide_eq_true az
         have q368 : x15_1 < (l0_2.length : Int):=of_decide_eq_true az
         obtain ⟨ad368,e368,hx368_0⟩:=Kd.at_int HR0_2.out x15_1 p368 q368
         cases e368
         replace hx368_0:=(HB.out.cell (World.block_lt_of_cell? w _ hx368_0)).trans hx368_0
         replace p368:=eq_true p368
         replace q368:=eq_true q368
         obtain ⟨Ao14,co14,eo14⟩:=Kd.S_slice HO_3.out
         subst eo14
         have p369 : 0 ≤ ((rd l0_2 x15_1) : Int):=of_decide_eq_true az
         have q369 : (rd l0_2 x15_1) < (t362.length : Int):=of_decide_eq_true az
         obtain ⟨ad369,A369_0,c369_0,e369,hx369_0,hl369_0,hi369_0⟩:=at_L3 (Kd.S_reads' HO_3.out).2.2 (rd l0_2 x15_1) p369 q369
         cases e369
         obtain ⟨ce369,hce369,hMe369,hcc369⟩:=Kd.S_get HO_3.out [] (rd l0_2 x15_1) p369 (by first|exact q369|exact of_decide_eq_true az|(have e_:=(Kd.S_reads' HO_3.out).1;omega))
         obtain ⟨ve369_0,rfl,ge369_0⟩:=hMe369
         have hv369_0:=hcc369 0 _ rfl
         rw [Nat.add_zero,show ((Kd.slice 3 (Kd.int .i64))).sz = 1 from rfl,Nat.mul_one] at hv369_0
         replace hv369_0:=Option.some.inj (hv369_0.symm.trans hx369_0)
         rw [hv369_0] at ge369_0
         have HL369_0:=Aside0.mk (show Kd.R (Kd.int .i64) 3 _ _ _ _ (rd_L3 t362 (rd l0_2 x15_1)) from ge369_0)
         clear hv369_0 ge369_0
         clear hcc369 hce369
         have HR369_0:=Aside0.mk hi369_0
         have HC369_0:=Aside0.mk hl369_0
         clear hi369_0 hl369_0
         replace p369:=eq_true p369
         replace q369:=eq_true q369
         go_wp2_with (first|((with_reducible refine gate_callee (f:=60) rfl ?_);refine goesL_ (some 24) rfl rfl Tryz.func60 (by kernel_rfl) rfl #[.slice A369_0 (rd_L3 t362 (rd l0_2 x15_1)).length c369_0] rfl mz ?_;(with_reducible refine (slices_Clone_int_int.calls _ _ (rd_L3 t362 (rd l0_2 x15_1)) t370 _ ?side1 ?side2 A12.out).mono ?_);(case side1=>repeat (first|exact (by repeat (first|(with_reducible exact HR369_0.out)|(with_reducible refine Kd.C_alloc ?_ _)|(with_reducible refine Kd.C_drewN ?_ _)|(with_reducible refine Kd.C_drew ?_)|exact HR369_0.out))|(with_reducible refine Kd.C_alloc ?_ _)|(with_reducible refine Kd.C_drewN ?_ _)|(with_reducible refine Kd.C_drew ?_)));(case side2=>exact HC369_0.out);rintro e w15 ⟨v371,rfl,ho0,hb⟩;refine ⟨_,rfl,?_⟩;have n0_:=Aside0.mk (Kd.S_elder' (by (with_reducible repeat (first|apply Kd.S_alloc|apply Kd.S_drewN|apply Kd.S_drew));exact HO_3.out) (Kd.R_base ho0) hb);have n1_:=Aside0.mk (Kd.S_elder' (by (with_reducible repeat (first|apply Kd.S_alloc|apply Kd.S_drewN|apply Kd.S_drew));exact HO_4.out) (Kd.R_base ho0) hb);have n2_:=Aside0.mk (Kd.R_elder' (rz HL369_0.out) (Kd.R_base ho0) hb);have n3_:=Aside0.mk (Kd.R_lower (Kd.R_new' ho0 (Kd.R_lt (rz HL369_0.out))) (below_size bs));have n4_:=Aside0.mk (kb BK0.out hb);have n5_:=Aside0.mk (Kd.C_below (by repeat (first|(with_reducible exact HR369_0.out)|(with_reducible refine Kd.C_alloc ?_ _)|(with_reducible refine Kd.C_drewN ?_ _)|(with_reducible refine Kd.C_drew ?_)|exact HR369_0.out)) hb);have n6_:=Aside0.mk (below_step bs hb);clear HO_3 HO_4 HL369_0 BK0 HR369_0 HB;have HO_3:=n0_;have HO_4:=n1_;have HL369_0:=n2_;have HO372:=n3_;have BK0:=n4_;have HR369_0:=n5_;have HB:=n6_;clear n0_ n1_ n2_ n3_ n4_ n5_ n6_;(try clear hb);(try clear ho0);obtain ⟨Ao17,co17,eo17⟩:=Kd.R_slice HO372.out;subst eo17)|((with_reducible refine gate_builtin (b:=.append) (xs:=#[.tmp 19,.tmp 25]) rfl ?_);at_builtin;refine Kd.S_append (Kd.slice 3 (Kd.int .i64)) (w0:=w) w.heap.size rfl (.tmp 19) (.tmp 25) 57 24 (.slice none 0 0) 24 rfl Tryz.underlying57 info24 rfl (by decide) (by omega) u4 x4_1 t370 [.slice Ao17 t370.length co17] (fun k_=>some k_ ≠ (.slice (some ad369) t362.length co14 : Value).ownBlock) (fun k_=>some k_ = (.slice Ao17 t370.length co17 : Value).ownBlock) rfl rfl ?aP (fun k_ hk_=>((Kd.R_mono (ok':=fun k_=>((fun k_=>some k_ ≠ (.slice (some ad369) t362.length co14 : Value).ownBlock)) k_ ∧ some k_ ≠ (u4 : Value).ownBlock) (Kd.R_apart' (Kd.R_apart' (HO372.out) (Kd.S_typed HO_3.out) (by decide)) (Kd.S_typed HO_4.out) (by decide)) (fun k_ hk=>⟨hk.1.2,hk.2⟩))).1 k_ hk_.symm) ?aF ?aO ?aB ?aS ?aL ?_;(case aP=>exact Kd.M_row (Kd.R_mono (Kd.R_tight rfl (Kd.R_mono (ok':=fun k_=>((fun k_=>some k_ ≠ (.slice (some ad369) t362.length co14 : Value).ownBlock)) k_ ∧ some k_ ≠ (u4 : Value).ownBlock) (Kd.R_apart' (Kd.R_apart' (HO372.out) (Kd.S_typed HO_3.out) (by decide)) (Kd.S_typed HO_4.out) (by decide)) (fun k_ hk=>⟨hk.1.2,hk.2⟩))) (fun _ h_=>h_)));(case aB=>exact bs);(case aF=>exact (fun k_ hk=>Kd.fresh' (Kd.S_lt (by (with_reducible repeat (first|apply Kd.S_alloc|apply Kd.S_drewN|apply Kd.S_drew));exact HO_3.out)) k_ hk));(case aO=>exact (by (with_reducible repeat (first|apply Kd.S_alloc|apply Kd.S_drewN|apply Kd.S_drew));exact Kd.S_mono HO_4.out (fun k_ hk=>⟨hk.1,fun e_=>hk.2 e_⟩)));(case aS=>exact (below_size bs));(case aL=>have:=LMc13.out;omega);intro v374 w16 ho hb hg hat;rw [← Ny373.out] at ho;have n0_:=Aside0.mk (Kd.S_after (ok:=(fun k_=>some k_ ≠ (.slice Ao17 t370.length co17 : Value).ownBlock)) (by (with_reducible repeat (first|apply Kd.S_alloc|apply Kd.S_drewN|apply Kd.S_drew));exact Kd.S_mono HO_3.out (fun _ hk=>⟨hk.2,hk.1⟩)) hg hat);have n1_:=Aside0.mk (blk_grown (g:=g0_) (o:=.cells #[.int .i64 a0_0,.slice A0_1 l0_1.length c0_1,.slice (some ad368) l0_2.length c0_2] 28 (0,0)) (kz BK0.out) hg (Kd.S_ne HO_4.out BK0.out (by decide)));have n2_:=Aside0.mk (Kd.R_after (ok:=(fun k_=>some k_ ≠ (.slice (some ad369) t362.length co14 : Value).ownBlock ∧ some k_ ≠ (.slice Ao17 t370.length co17 : Value).ownBlock)) (by (with_reducible repeat (first|apply Kd.R_alloc|apply Kd.R_drewN|apply Kd.R_drew));exact Kd.R_mono HL369_0.out (fun _ hk=>⟨⟨hk.1.2,hk.2⟩,hk.1.1⟩)) hg hat);have n3_:=Aside0.mk (hb);have n4_:=Aside0.mk (ho);clear HO_3 BK0 HL369_0 HB HO_4 HO372;have HO_3:=n0_;have BK0:=n1_;have HL369_0:=n2_;have HB:=n3_;have HO375:=n4_;clear n0_ n1_ n2_ n3_ n4_;clear ho hb hg hat))
         go_roundg k1
         case measure=>have:=HK1.out;omega
         case rel=>exact ⟨(y373),(wrap64 (x15_1 + 1)),fz,H',⟨by have:=HK1.out;omega⟩,⟨by (with_reducible repeat (first|apply Kd.S_alloc|apply Kd.S_drewN|apply Kd.S_drew));exact Kd.S_mono HO_3.out (fun _ hk=>hk.2)⟩,⟨by (with_reducible repeat (first|apply Kd.S_alloc|apply Kd.S_drewN|apply Kd.S_drew));exact HO375.out⟩,⟨by (with_reducible repeat (first|refine blk_drewN ?_ _|refine blk_drew ?_|refine blk_alloc ?_ _));exact BK0.out⟩,⟨by repeat (first|(with_reducible first|exact HB.out|apply below_alloc|apply pw_below_drewN|apply below_drew1|refine below_set ?_ GE0.out)|exact HB.out)⟩⟩
        ·rw [if_neg c13] at H
         exact absurd H (by simp)
       ·rw [if_neg c11] at H
        exact absurd H (by simp)
      ·rw [if_neg c10] at H
       exact absurd H (by simp)
     ·rw [if_neg c9] at H
      exact absurd H (by simp)
    ·rw [if_neg c8] at H
     exact absurd H (by simp)
   ·rw [if_neg c7] at H
    have c7b0 : decide (x15_1 < (l0_2.length : Int)) = false:=decide_eq_false c7
    clear c7
    obtain rfl:=Option.some.inj H
    go_wp2
    go_ret
    exact ⟨_,by first|rfl|(simp [errW_none,errW_some] <;> rfl)|(simp [*,errW_none,errW_some] <;> rfl),by (with_reducible repeat (first|apply Kd.S_alloc|apply Kd.S_drewN|apply Kd.S_drew));exact Kd.S_mono HO_4.out (fun _ hk=>trivial),by repeat (first|(with_reducible first|exact HB.out|apply below_alloc|apply pw_below_drewN|apply below_drew1|refine below_set ?_ GE0.out)|exact HB.out)⟩
/-! ### impl_OutputExponents: function 29 -/
def impl_OutputExponents.f (k : Nat) (a0_0 : Int) (l0_1 : List (S41)) (l0_2 : List Int) : Option ((List (List Int)) × Bool):=(impl_IsPlan.f k a0_0 l0_1 l0_2).bind fun t377=>(if t377 = true then ((impl_Plan_outputExponents.f k a0_0 l0_1 l0_2).bind fun t378=>(some (t378,true))) else (some (([] : List (List Int)),false)))
theorem impl_OutputExponents.mono : ∀ a0 a1 a2 k,LeO (impl_OutputExponents.f k a0 a1 a2) (impl_OutputExponents.f (k + 1) a0 a1 a2):=by
 intro a0 a1 a2 k
 unfold impl_OutputExponents.f
 repeat' first
   | (with_reducible exact impl_IsPlan.mono _ _ _ _)
   | (with_reducible exact impl_Plan_outputExponents.mono _ _ _ _)
   | (with_reducible exact LeO.refl _)
   | (with_reducible exact LeO.none _)
   | (with_reducible refine LeO.ite ?_ ?_)
   | (with_reducible refine LeO.bind ?_ (fun _=>?_))
   | exact impl_IsPlan.mono _ _ _ _
   | exact impl_Plan_outputExponents.mono _ _ _ _
   | exact LeO.none _
   | refine LeO.ite ?_ ?_
   | refine LeO.bind ?_ (fun _=>?_)
set_option maxHeartbeats 8000000 in
set_option maxRecDepth 100000 in
theorem impl_OutputExponents.calls (k : Nat) (a0_0 : Int) (A0_1 : Option Addr) (c0_1 : Nat) (l0_1 : List (S41)) (A0_2 : Option Addr) (c0_2 : Nat) (l0_2 : List Int) (r1 : List (List Int)) (r2 : Bool) (w : World) (hr0_1 : Kd.C k41 w A0_1 l0_1.length l0_1) (hc0_1 : l0_1.length ≤ c0_1) (hr0_2 : Kd.C (Kd.int .i64) w A0_2 l0_2.length l0_2) (hc0_2 : l0_2.length ≤ c0_2) (h : impl_OutputExponents.f k a0_0 l0_1 l0_2 = some (r1,r2)) :
  Calls Tryz.prog 29 #[.agg #[.int .i64 a0_0,.slice A0_1 l0_1.length c0_1,.slice A0_2 l0_2.length c0_2]] w fun e w'=>∃ v0_ : Value,e = .returned (.tuple #[v0_,.bool r2]) ∧ Kd.S (Kd.slice 3 (Kd.int .i64)) 24 w' w.heap.size (fun _=>True) v0_ r1 ∧ Below w.heap.size w w':=by
 have hu28:=Tryz.underlying28
 have HR0_1:=Aside0.mk hr0_1
 have HC0_1:=Aside0.mk hc0_1
 clear hr0_1 hc0_1
 have HR0_2:=Aside0.mk hr0_2
 have HC0_2:=Aside0.mk hc0_2
 clear hr0_2 hc0_2
 have HB:=Aside0.mk (Below.refl w.heap.size w)
 have H : ((impl_IsPlan.f k a0_0 l0_1 l0_2).bind fun t377=>(if t377 = true then ((impl_Plan_outputExponents.f k a0_0 l0_1 l0_2).bind fun t378=>(some (t378,true))) else (some (([] : List (List Int)),false)))) = some (r1,r2):=h
 clear h
 obtain ⟨t377,A2,H⟩:=bd H
 by_cases c3 : t377 = true
 ·subst c3
  rw [if_pos rfl] at H
  obtain ⟨t378,A4,H⟩:=bd H
  simp only [Option.some.injEq,Prod.mk.injEq] at H
  obtain ⟨rfl,rfl⟩:=H
  go_enter Tryz.func29,Tryz.ntmps29
  go_wp2_with (first|((with_reducible refine gate_dst (N:=1) rfl ?_);refine box_event ?hg (N:=1) ?hd (cs:=#[.int .i64 a0_0,.slice A0_1 l0_1.length c0_1,.slice A0_2 l0_2.length c0_2]) (t:=28) ?hr ?_;(case hd=>rfl);(case hg=>rfl);(case hr=>first|(go_simp;done)|(go_simp;rfl));intro gb376 hg w5 hbox hb;have n0_:=Aside0.mk (below_step bz hb);have n1_:=Aside0.mk (hbox);have n2_:=Aside0.mk ((by rw [hg];exact (below_size bz) : w.heap.size ≤ gb376));have n3_:=Aside0.mk ((by rw [hg];exact (below_size bz) : w.heap.size ≤ gb376));clear HB;have HB:=n0_;have BK376:=n1_;have GW376:=n2_;have GE376:=n3_;clear n0_ n1_ n2_ n3_;clear hb hbox hg;have hcz6_0 : w5.cell? ⟨gb376,0,none⟩ = some (.int .i64 a0_0):=(blk_cell BK376.out 0).trans rfl;have hcz6_1 : w5.cell? ⟨gb376,1,none⟩ = some (.slice A0_1 l0_1.length c0_1):=(blk_cell BK376.out 1).trans rfl;have hcz6_2 : w5.cell? ⟨gb376,2,none⟩ = some (.slice A0_2 l0_2.length c0_2):=(blk_cell BK376.out 2).trans rfl;have hfz6_0:=blk_frozen BK376.out 0;have hfz6_1:=blk_frozen BK376.out 1;have hfz6_2:=blk_frozen BK376.out 2)|((with_reducible refine gate_callee (f:=24) rfl ?_);refine goesL_ (some 5) rfl rfl Tryz.func24 (by kernel_rfl) rfl #[.agg #[.int .i64 a0_0,.slice A0_1 l0_1.length c0_1,.slice A0_2 l0_2.length c0_2]] rfl mz ?_;(with_reducible refine (impl_IsPlan.calls k a0_0 _ _ l0_1 _ _ l0_2 true _ ?side1 ?side2 ?side3 ?side4 A2.out).mono ?_);(case side1=>exact cz (Kd.C_below HR0_1.out HB.out));(case side2=>exact HC0_1.out);(case side3=>exact cz (Kd.C_below HR0_2.out HB.out));(case side4=>exact HC0_2.out);rintro e w7 ⟨rfl,hb⟩;refine ⟨_,rfl,?_⟩;have n0_:=Aside0.mk (kb BK376.out hb);have n1_:=Aside0.mk (below_step bs hb);clear BK376 HB;have BK376:=n0_;have HB:=n1_;clear n0_ n1_;(try clear hb))|((with_reducible refine gate_callee (f:=46) rfl ?_);refine goesL_ (some 7) rfl rfl Tryz.func46 (by kernel_rfl) rfl #[.pointer (some ⟨gb376,0,none⟩)] rfl mz ?_;(with_reducible refine (impl_Plan_outputExponents.calls k gb376 a0_0 A0_1 c0_1 l0_1 A0_2 c0_2 l0_2 t378 _ ?side1 ?side2 ?side3 ?side4 ?side5 A4.out).mono ?_);(case side1=>exact by (with_reducible repeat (first|refine blk_drewN ?_ _|refine blk_drew ?_|refine blk_alloc ?_ _));exact BK376.out);(case side2=>exact cz (Kd.C_below HR0_1.out HB.out));(case side3=>exact HC0_1.out);(case side4=>exact cz (Kd.C_below HR0_2.out HB.out));(case side5=>exact HC0_2.out);rintro e w8 ⟨v379,rfl,ho0,hb⟩;refine ⟨_,rfl,?_⟩;have n0_:=Aside0.mk (Kd.S_lower ho0 (below_size bs));have n1_:=Aside0.mk (kb BK376.out hb);have n2_:=Aside0.mk (below_step bs hb);clear BK376 HB;have HO380:=n0_;have BK376:=n1_;have HB:=n2_;clear n0_ n1_ n2_;(try clear hb);(try clear ho0)))
  go_ret2
  exact ⟨_,by first|rfl|(simp [errW_none,errW_some] <;> rfl)|(simp [*,errW_none,errW_some] <;> rfl),by (with_reducible repeat (first|apply Kd.S_alloc|apply Kd.S_drewN|apply Kd.S_drew));exact HO380.out,by repeat (first|(with_reducible first|exact HB.out|apply below_alloc|apply pw_below_drewN|apply below_drew1|refine below_set ?_ GE376.out)|exact HB.out)⟩
 ·replace c3:=Bool.eq_false_iff.mpr c3
  subst c3
  rw [if_neg (show ¬ (false = true) by decide)] at H
  simp only [Option.some.injEq,Prod.mk.injEq] at H
  obtain ⟨rfl,rfl⟩:=H
  go_enter Tryz.func29,Tryz.ntmps29
  go_wp2_with (first|((with_reducible refine gate_dst (N:=1) rfl ?_);refine box_event ?hg (N:=1) ?hd (cs:=#[.int .i64 a0_0,.slice A0_1 l0_1.length c0_1,.slice A0_2 l0_2.length c0_2]) (t:=28) ?hr ?_;(case hd=>rfl);(case hg=>rfl);(case hr=>first|(go_simp;done)|(go_simp;rfl));intro gb376 hg w9 hbox hb;have n0_:=Aside0.mk (below_step bz hb);have n1_:=Aside0.mk (hbox);have n2_:=Aside0.mk ((by rw [hg];exact (below_size bz) : w.heap.size ≤ gb376));have n3_:=Aside0.mk ((by rw [hg];exact (below_size bz) : w.heap.size ≤ gb376));clear HB;have HB:=n0_;have BK376:=n1_;have GW376:=n2_;have GE376:=n3_;clear n0_ n1_ n2_ n3_;clear hb hbox hg;have hcz10_0 : w9.cell? ⟨gb376,0,none⟩ = some (.int .i64 a0_0):=(blk_cell BK376.out 0).trans rfl;have hcz10_1 : w9.cell? ⟨gb376,1,none⟩ = some (.slice A0_1 l0_1.length c0_1):=(blk_cell BK376.out 1).trans rfl;have hcz10_2 : w9.cell? ⟨gb376,2,none⟩ = some (.slice A0_2 l0_2.length c0_2):=(blk_cell BK376.out 2).trans rfl;have hfz10_0:=blk_frozen BK376.out 0;have hfz10_1:=blk_frozen BK376.out 1;have hfz10_2:=blk_frozen BK376.out 2)|((with_reducible refine gate_callee (f:=24) rfl ?_);refine goesL_ (some 5) rfl rfl Tryz.func24 (by kernel_rfl) rfl #[.agg #[.int .i64 a0_0,.slice A0_1 l0_1.length c0_1,.slice A0_2 l0_2.length c0_2]] rfl mz ?_;(with_reducible refine (impl_IsPlan.calls k a0_0 _ _ l0_1 _ _ l0_2 false _ ?side1 ?side2 ?side3 ?side4 A2.out).mono ?_);(case side1=>exact cz (Kd.C_below HR0_1.out HB.out));(case side2=>exact HC0_1.out);(case side3=>exact cz (Kd.C_below HR0_2.out HB.out));(case side4=>exact HC0_2.out);rintro e w11 ⟨rfl,hb⟩;refine ⟨_,rfl,?_⟩;have n0_:=Aside0.mk (kb BK376.out hb);have n1_:=Aside0.mk (below_step bs hb);clear BK376 HB;have BK376:=n0_;have HB:=n1_;clear n0_ n1_;(try clear hb)))
  go_ret2
  exact ⟨_,by first|rfl|(simp [errW_none,errW_some] <;> rfl)|(simp [*,errW_none,errW_some] <;> rfl),by first|exact Kd.S_nil _ _ _ _ _|exact Kd.N_nil _ _ _ _ _|exact Kd.V_nil _ _ _ _ _|exact Kd.Q_nil _ _ _ _ _|exact Kd.R_nil _ _ _ _ _,by repeat (first|(with_reducible first|exact HB.out|apply below_alloc|apply pw_below_drewN|apply below_drew1|refine below_set ?_ GE376.out)|exact HB.out)⟩
end Go.Proofs.YtlefjgpkabijdaaGreatDoor.MFnChainsArePlans
--sq
