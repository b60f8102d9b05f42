import Derived.Test.YtlefjgpkabijdaaGreatDoorMFnChainsArePlansx0
import Derived.Test.YtlefjgpkabijdaaGreatDoorMFnChainsArePlansx4
import Derived.Test.YtlefjgpkabijdaaGreatDoorMFnChainsArePlansx8
import Derived.Test.YtlefjgpkabijdaaGreatDoorMFnChainsArePlansx1
import Derived.Test.YtlefjgpkabijdaaGreatDoorMFnChainsArePlansx2
import Derived.Test.YtlefjgpkabijdaaGreatDoorMFnChainsArePlansx3
import Derived.Test.YtlefjgpkabijdaaGreatDoorMFnChainsArePlansx5
import Derived.Test.YtlefjgpkabijdaaGreatDoorMFnChainsArePlansx6
import Derived.Test.YtlefjgpkabijdaaGreatDoorMFnChainsArePlansx7
namespace Go.Proofs.YtlefjgpkabijdaaGreatDoor.MFnChainsArePlans
open Go.RowKit Go.Proofs.YtlefjgpkabijdaaGreatDoorW.PrintWords Go.Proofs.YtlefjgpkabijdaaGreatDoorW.PrintLast Go.Proofs.YtlefjgpkabijdaaGreatDoorW.PrintMore Go.Proofs.YtlefjgpkabijdaaGreatDoorV Go.Proofs.YtlefjgpkabijdaaGreatDoorZ
attribute [local go_sem] max2_int min2_int max_two min_two max_three min_three max_four min_four   -- for this text's walks alone
set_option linter.unusedVariables false
set_option linter.unusedSimpArgs false
/-! ### laws_pEnds: function 14 -/
def laws_pEnds.f (k : Nat) (a0_0 : Int) (l0_1 : List (S41)) (l0_2 : List Int) (a1 : Int) : Option (Bool):=(impl_OutputExponents.f k a0_0 l0_1 l0_2).bind fun bt382=>(if bt382.2 = true then (if (bt382.1.length : Int) = 1 then (if 0 < (bt382.1.length : Int) then (if ((rd_L3 bt382.1 0).length : Int) = 1 then (if 0 < ((rd_L3 bt382.1 0).length : Int) then (some ((rd (rd_L3 bt382.1 0) 0) == a1)) else (none)) else (some false)) else (none)) else (some false)) else (some false))
theorem laws_pEnds.mono : ∀ a0 a1 a2 a3 k,LeO (laws_pEnds.f k a0 a1 a2 a3) (laws_pEnds.f (k + 1) a0 a1 a2 a3):=by
 intro a0 a1 a2 a3 k
 unfold laws_pEnds.f
 repeat' first
   | (with_reducible exact impl_OutputExponents.mono _ _ _ _)
   | (with_reducible exact LeO.refl _)
   | (with_reducible exact LeO.none _)
   | (with_reducible refine LeO.ite ?_ ?_)
   | (with_reducible refine LeO.bind ?_ (fun _=>?_))
   | exact impl_OutputExponents.mono _ _ _ _
   | exact LeO.none _
   | refine LeO.ite ?_ ?_
   | refine LeO.bind ?_ (fun _=>?_)
set_option maxHeartbeats 8000000 in
set_option maxRecDepth 100000 in
theorem laws_pEnds.calls (k : Nat) (a0_0 : Int) (A0_1 : Option Addr) (c0_1 : Nat) (l0_1 : List (S41)) (A0_2 : Option Addr) (c0_2 : Nat) (l0_2 : List Int) (a1 : Int) (r : Bool) (w : World) (hr0_1 : Kd.C k41 w A0_1 l0_1.length l0_1) (hc0_1 : l0_1.length ≤ c0_1) (hr0_2 : Kd.C (Kd.int .i64) w A0_2 l0_2.length l0_2) (hc0_2 : l0_2.length ≤ c0_2) (h : laws_pEnds.f k a0_0 l0_1 l0_2 a1 = some r) :
  Calls Tryz.prog 14 #[.agg #[.int .i64 a0_0,.slice A0_1 l0_1.length c0_1,.slice A0_2 l0_2.length c0_2],.int .i64 a1] w fun e w'=>e = .returned (.bool r) ∧ Below w.heap.size w w':=by
 have hu28:=Tryz.underlying28
 have HR0_1:=Aside0.mk hr0_1
 have HC0_1:=Aside0.mk hc0_1
 clear hr0_1 hc0_1
 have HR0_2:=Aside0.mk hr0_2
 have HC0_2:=Aside0.mk hc0_2
 clear hr0_2 hc0_2
 have HB:=Aside0.mk (Below.refl w.heap.size w)
 have H : ((impl_OutputExponents.f k a0_0 l0_1 l0_2).bind fun bt382=>(if bt382.2 = true then (if (bt382.1.length : Int) = 1 then (if 0 < (bt382.1.length : Int) then (if ((rd_L3 bt382.1 0).length : Int) = 1 then (if 0 < ((rd_L3 bt382.1 0).length : Int) then (some ((rd (rd_L3 bt382.1 0) 0) == a1)) else (none)) else (some false)) else (none)) else (some false)) else (some false))) = some r:=h
 clear h
 obtain ⟨⟨t382,t385⟩,A3,H⟩:=bd H
 try dsimp only at H
 by_cases c4 : t385 = true
 ·subst c4
  rw [if_pos rfl] at H
  by_cases c5 : (t382.length : Int) = 1
  ·rw [if_pos c5] at H
   have c5b0 : ((t382.length : Int) == 1) = true:=beq_iff_eq.mpr c5
   have c5b1 : ((t382.length : Int) != 1) = false:=bne_eq_false_iff_eq.mpr c5
   clear c5
   by_cases c6 : 0 < (t382.length : Int)
   ·rw [if_pos c6] at H
    have c6b0 : decide (0 < (t382.length : Int)) = true:=decide_eq_true c6
    have c6b1 : decide (0 < t382.length) = true:=decide_eq_true (by omega)
    clear c6
    by_cases c7 : ((rd_L3 t382 0).length : Int) = 1
    ·rw [if_pos c7] at H
     have c7b0 : (((rd_L3 t382 0).length : Int) == 1) = true:=beq_iff_eq.mpr c7
     have c7b1 : (((rd_L3 t382 0).length : Int) != 1) = false:=bne_eq_false_iff_eq.mpr c7
     clear c7
     by_cases c8 : 0 < ((rd_L3 t382 0).length : Int)
     ·rw [if_pos c8] at H
      have c8b0 : decide (0 < ((rd_L3 t382 0).length : Int)) = true:=decide_eq_true c8
      have c8b1 : decide (0 < (rd_L3 t382 0).length) = true:=decide_eq_true (by omega)
      clear c8
      obtain rfl:=Option.some.inj H
      go_enter Tryz.func14,Tryz.ntmps14
      go_wp2_with (first|((with_reducible refine gate_dst (N:=2) rfl ?_);(try (refine gate_guard (by rfl) ?_;dsimp only));refine box_event ?hg (N:=2) ?hd (cs:=#[.int .i64 a0_0,.slice A0_1 l0_1.length c0_1,.slice A0_2 l0_2.length c0_2]) (t:=28) ?hr ?_;(case hd=>rfl);(case hg=>rfl);(case hr=>first|(go_simp;done)|(go_simp;rfl));intro gb381 hg w9 hbox hb;have n0_:=Aside0.mk (below_step bz hb);have n1_:=Aside0.mk (hbox);have n2_:=Aside0.mk ((by rw [hg];exact (below_size bz) : w.heap.size ≤ gb381));have n3_:=Aside0.mk ((by rw [hg];exact (below_size bz) : w.heap.size ≤ gb381));clear HB;have HB:=n0_;have BK381:=n1_;have GW381:=n2_;have GE381:=n3_;clear n0_ n1_ n2_ n3_;clear hb hbox hg;have hcz10_0 : w9.cell? ⟨gb381,0,none⟩ = some (.int .i64 a0_0):=(blk_cell BK381.out 0).trans rfl;have hcz10_1 : w9.cell? ⟨gb381,1,none⟩ = some (.slice A0_1 l0_1.length c0_1):=(blk_cell BK381.out 1).trans rfl;have hcz10_2 : w9.cell? ⟨gb381,2,none⟩ = some (.slice A0_2 l0_2.length c0_2):=(blk_cell BK381.out 2).trans rfl;have hfz10_0:=blk_frozen BK381.out 0;have hfz10_1:=blk_frozen BK381.out 1;have hfz10_2:=blk_frozen BK381.out 2)|((with_reducible refine gate_callee (f:=29) rfl ?_);refine goesL_ (some 9) rfl rfl Tryz.func29 (by kernel_rfl) rfl #[.agg #[.int .i64 a0_0,.slice A0_1 l0_1.length c0_1,.slice A0_2 l0_2.length c0_2]] rfl mz ?_;(with_reducible refine (impl_OutputExponents.calls k a0_0 _ _ l0_1 _ _ l0_2 t382 true _ ?side1 ?side2 ?side3 ?side4 A3.out).mono ?_);(case side1=>exact cz (Kd.C_below HR0_1.out HB.out));(case side2=>exact HC0_1.out);(case side3=>exact cz (Kd.C_below HR0_2.out HB.out));(case side4=>exact HC0_2.out);rintro e w11 ⟨v383,rfl,ho0,hb⟩;refine ⟨_,rfl,?_⟩;have n0_:=Aside0.mk (Kd.S_lower ho0 (below_size bs));have n1_:=Aside0.mk (kb BK381.out hb);have n2_:=Aside0.mk (below_step bs hb);clear BK381 HB;have HO384:=n0_;have BK381:=n1_;have HB:=n2_;clear n0_ n1_ n2_;(try clear hb);(try clear ho0);obtain ⟨Ao12,co12,eo12⟩:=Kd.S_slice HO384.out;subst eo12;have p386 : 0 ≤ (0 : Int):=(by omega);have q386 : 0 < (t382.length : Int):=of_decide_eq_true az;obtain ⟨ad386,A386_0,c386_0,e386,hx386_0,hl386_0,hi386_0⟩:=at_L3 (Kd.S_reads' HO384.out).2.2 0 p386 q386;cases e386;obtain ⟨ce386,hce386,hMe386,hcc386⟩:=Kd.S_get HO384.out [] 0 p386 (by first|exact q386|exact of_decide_eq_true az|(have e_:=(Kd.S_reads' HO384.out).1;omega));obtain ⟨ve386_0,rfl,ge386_0⟩:=hMe386;have hv386_0:=hcc386 0 _ rfl;rw [Nat.add_zero,show ((Kd.slice 3 (Kd.int .i64))).sz = 1 from rfl,Nat.mul_one] at hv386_0;replace hv386_0:=Option.some.inj (hv386_0.symm.trans hx386_0);rw [hv386_0] at ge386_0;have HL386_0:=Aside0.mk (show Kd.R (Kd.int .i64) 3 _ _ _ _ (rd_L3 t382 0) from ge386_0);clear hv386_0 ge386_0;clear hcc386 hce386;have qi386 : (0 < t382.length) = True:=eq_true (by omega);(try rw [show ((0 : Int)).toNat = 0 from rfl] at hx386_0);(try rw [Addr.add_zero'] at hx386_0);have HR386_0:=Aside0.mk hi386_0;have HC386_0:=Aside0.mk hl386_0;clear hi386_0 hl386_0;replace p386:=eq_true p386;replace q386:=eq_true q386;have p387 : 0 ≤ (0 : Int):=(by omega);have q387 : 0 < (t382.length : Int):=of_decide_eq_true az;obtain ⟨ad387,A387_0,c387_0,e387,hx387_0,hl387_0,hi387_0⟩:=at_L3 (Kd.S_reads' HO384.out).2.2 0 p387 q387;obtain rfl : ad386 = ad387:=(by injection e387);obtain ⟨ce387,hce387,hMe387,hcc387⟩:=Kd.S_get HO384.out [] 0 p387 (by first|exact q387|exact of_decide_eq_true az|(have e_:=(Kd.S_reads' HO384.out).1;omega));obtain ⟨ve387_0,rfl,ge387_0⟩:=hMe387;have hv387_0:=hcc387 0 _ rfl;rw [Nat.add_zero,show ((Kd.slice 3 (Kd.int .i64))).sz = 1 from rfl,Nat.mul_one] at hv387_0;replace hv387_0:=Option.some.inj (hv387_0.symm.trans hx387_0);rw [hv387_0] at ge387_0;have HL387_0:=Aside0.mk (show Kd.R (Kd.int .i64) 3 _ _ _ _ (rd_L3 t382 0) from ge387_0);clear hv387_0 ge387_0;clear hcc387 hce387;have qi387 : (0 < t382.length) = True:=eq_true (by omega);(try rw [show ((0 : Int)).toNat = 0 from rfl] at hx387_0);(try rw [Addr.add_zero'] at hx387_0);have HR387_0:=Aside0.mk hi387_0;have HC387_0:=Aside0.mk hl387_0;clear hi387_0 hl387_0;replace p387:=eq_true p387;replace q387:=eq_true q387;have ea_:=Option.some.inj (hx386_0.symm.trans hx387_0);injection ea_ with ea_ en_ ec_;subst ea_;subst ec_;clear en_;have p388 : 0 ≤ (0 : Int):=(by omega);have q388 : 0 < ((rd_L3 t382 0).length : Int):=of_decide_eq_true az;obtain ⟨ad388,e388,hx388_0⟩:=Kd.at_int (by repeat (first|(with_reducible exact HR387_0.out)|(with_reducible refine Kd.C_alloc ?_ _)|(with_reducible refine Kd.C_drewN ?_ _)|(with_reducible refine Kd.C_drew ?_)|exact HR387_0.out)) 0 p388 q388;cases e388;have qi388 : (0 < (rd_L3 t382 0).length) = True:=eq_true (by omega);(try rw [show ((0 : Int)).toNat = 0 from rfl] at hx388_0);(try rw [Addr.add_zero'] at hx388_0);replace p388:=eq_true p388;replace q388:=eq_true q388))
      go_ret
      exact ⟨by first|rfl|(simp [errW_none,errW_some] <;> rfl)|(simp [*,errW_none,errW_some] <;> rfl),by repeat (first|(with_reducible first|exact HB.out|apply below_alloc|apply pw_below_drewN|apply below_drew1|refine below_set ?_ GE381.out)|exact HB.out)⟩
     ·rw [if_neg c8] at H
      exact absurd H (by simp)
    ·rw [if_neg c7] at H
     have c7b0 : (((rd_L3 t382 0).length : Int) == 1) = false:=beq_eq_false_iff_ne.mpr c7
     have c7b1 : (((rd_L3 t382 0).length : Int) != 1) = true:=bne_iff_ne.mpr c7
     obtain rfl:=Option.some.inj H
     go_enter Tryz.func14,Tryz.ntmps14
     go_wp2_with (first|((with_reducible refine gate_dst (N:=2) rfl ?_);(try (refine gate_guard (by rfl) ?_;dsimp only));refine box_event ?hg (N:=2) ?hd (cs:=#[.int .i64 a0_0,.slice A0_1 l0_1.length c0_1,.slice A0_2 l0_2.length c0_2]) (t:=28) ?hr ?_;(case hd=>rfl);(case hg=>rfl);(case hr=>first|(go_simp;done)|(go_simp;rfl));intro gb381 hg w13 hbox hb;have n0_:=Aside0.mk (below_step bz hb);have n1_:=Aside0.mk (hbox);have n2_:=Aside0.mk ((by rw [hg];exact (below_size bz) : w.heap.size ≤ gb381));have n3_:=Aside0.mk ((by rw [hg];exact (below_size bz) : w.heap.size ≤ gb381));clear HB;have HB:=n0_;have BK381:=n1_;have GW381:=n2_;have GE381:=n3_;clear n0_ n1_ n2_ n3_;clear hb hbox hg;have hcz14_0 : w13.cell? ⟨gb381,0,none⟩ = some (.int .i64 a0_0):=(blk_cell BK381.out 0).trans rfl;have hcz14_1 : w13.cell? ⟨gb381,1,none⟩ = some (.slice A0_1 l0_1.length c0_1):=(blk_cell BK381.out 1).trans rfl;have hcz14_2 : w13.cell? ⟨gb381,2,none⟩ = some (.slice A0_2 l0_2.length c0_2):=(blk_cell BK381.out 2).trans rfl;have hfz14_0:=blk_frozen BK381.out 0;have hfz14_1:=blk_frozen BK381.out 1;have hfz14_2:=blk_frozen BK381.out 2)|((with_reducible refine gate_callee (f:=29) rfl ?_);refine goesL_ (some 9) rfl rfl Tryz.func29 (by kernel_rfl) rfl #[.agg #[.int .i64 a0_0,.slice A0_1 l0_1.length c0_1,.slice A0_2 l0_2.length c0_2]] rfl mz ?_;(with_reducible refine (impl_OutputExponents.calls k a0_0 _ _ l0_1 _ _ l0_2 t382 true _ ?side1 ?side2 ?side3 ?side4 A3.out).mono ?_);(case side1=>exact cz (Kd.C_below HR0_1.out HB.out));(case side2=>exact HC0_1.out);(case side3=>exact cz (Kd.C_below HR0_2.out HB.out));(case side4=>exact HC0_2.out);rintro e w15 ⟨v383,rfl,ho0,hb⟩;refine ⟨_,rfl,?_⟩;have n0_:=Aside0.mk (Kd.S_lower ho0 (below_size bs));have n1_:=Aside0.mk (kb BK381.out hb);have n2_:=Aside0.mk (below_step bs hb);clear BK381 HB;have HO384:=n0_;have BK381:=n1_;have HB:=n2_;clear n0_ n1_ n2_;(try clear hb);(try clear ho0);obtain ⟨Ao16,co16,eo16⟩:=Kd.S_slice HO384.out;subst eo16;have p386 : 0 ≤ (0 : Int):=(by omega);have q386 : 0 < (t382.length : Int):=of_decide_eq_true az;obtain ⟨ad386,A386_0,c386_0,e386,hx386_0,hl386_0,hi386_0⟩:=at_L3 (Kd.S_reads' HO384.out).2.2 0 p386 q386;cases e386;obtain ⟨ce386,hce386,hMe386,hcc386⟩:=Kd.S_get HO384.out [] 0 p386 (by first|exact q386|exact of_decide_eq_true az|(have e_:=(Kd.S_reads' HO384.out).1;omega));obtain ⟨ve386_0,rfl,ge386_0⟩:=hMe386;have hv386_0:=hcc386 0 _ rfl;rw [Nat.add_zero,show ((Kd.slice 3 (Kd.int .i64))).sz = 1 from rfl,Nat.mul_one] at hv386_0;replace hv386_0:=Option.some.inj (hv386_0.symm.trans hx386_0);rw [hv386_0] at ge386_0;have HL386_0:=Aside0.mk (show Kd.R (Kd.int .i64) 3 _ _ _ _ (rd_L3 t382 0) from ge386_0);clear hv386_0 ge386_0;clear hcc386 hce386;have qi386 : (0 < t382.length) = True:=eq_true (by omega);(try rw [show ((0 : Int)).toNat = 0 from rfl] at hx386_0);(try rw [Addr.add_zero'] at hx386_0);have HR386_0:=Aside0.mk hi386_0;have HC386_0:=Aside0.mk hl386_0;clear hi386_0 hl386_0;replace p386:=eq_true p386;replace q386:=eq_true q386))
     go_ret
     exact ⟨by first|rfl|(simp [errW_none,errW_some] <;> rfl)|(simp [*,errW_none,errW_some] <;> rfl),by repeat (first|(with_reducible first|exact HB.out|apply below_alloc|apply pw_below_drewN|apply below_drew1|refine below_set ?_ GE381.out)|exact HB.out)⟩
   ·rw [if_neg c6] at H
    exact absurd H (by simp)
  ·rw [if_neg c5] at H
   have c5b0 : ((t382.length : Int) == 1) = false:=beq_eq_false_iff_ne.mpr c5
   have c5b1 : ((t382.length : Int) != 1) = true:=bne_iff_ne.mpr c5
   obtain rfl:=Option.some.inj H
   go_enter Tryz.func14,Tryz.ntmps14
   go_wp2_with (first|((with_reducible refine gate_dst (N:=2) rfl ?_);(try (refine gate_guard (by rfl) ?_;dsimp only));refine box_event ?hg (N:=2) ?hd (cs:=#[.int .i64 a0_0,.slice A0_1 l0_1.length c0_1,.slice A0_2 l0_2.length c0_2]) (t:=28) ?hr ?_;(case hd=>rfl);(case hg=>rfl);(case hr=>first|(go_simp;done)|(go_simp;rfl));intro gb381 hg w17 hbox hb;have n0_:=Aside0.mk (below_step bz hb);have n1_:=Aside0.mk (hbox);have n2_:=Aside0.mk ((by rw [hg];exact (below_size bz) : w.heap.size ≤ gb381));have n3_:=Aside0.mk ((by rw [hg];exact (below_size bz) : w.heap.size ≤ gb381));clear HB;have HB:=n0_;have BK381:=n1_;have GW381:=n2_;have GE381:=n3_;clear n0_ n1_ n2_ n3_;clear hb hbox hg;have hcz18_0 : w17.cell? ⟨gb381,0,none⟩ = some (.int .i64 a0_0):=(blk_cell BK381.out 0).trans rfl;have hcz18_1 : w17.cell? ⟨gb381,1,none⟩ = some (.slice A0_1 l0_1.length c0_1):=(blk_cell BK381.out 1).trans rfl;have hcz18_2 : w17.cell? ⟨gb381,2,none⟩ = some (.slice A0_2 l0_2.length c0_2):=(blk_cell BK381.out 2).trans rfl;have hfz18_0:=blk_frozen BK381.out 0;have hfz18_1:=blk_frozen BK381.out 1;have hfz18_2:=blk_frozen BK381.out 2)|((with_reducible refine gate_callee (f:=29) rfl ?_);refine goesL_ (some 9) rfl rfl Tryz.func29 (by kernel_rfl) rfl #[.agg #[.int .i64 a0_0,.slice A0_1 l0_1.length c0_1,.slice A0_2 l0_2.length c0_2]] rfl mz ?_;(with_reducible refine (impl_OutputExponents.calls k a0_0 _ _ l0_1 _ _ l0_2 t382 true _ ?side1 ?side2 ?side3 ?side4 A3.out).mono ?_);(case side1=>exact cz (Kd.C_below HR0_1.out HB.out));(case side2=>exact HC0_1.out);(case side3=>exact cz (Kd.C_below HR0_2.out HB.out));(case side4=>exact HC0_2.out);rintro e w19 ⟨v383,rfl,ho0,hb⟩;refine ⟨_,rfl,?_⟩;have n0_:=Aside0.mk (Kd.S_lower ho0 (below_size bs));have n1_:=Aside0.mk (kb BK381.out hb);have n2_:=Aside0.mk (below_step bs hb);clear BK381 HB;have HO384:=n0_;have BK381:=n1_;have HB:=n2_;clear n0_ n1_ n2_;(try clear hb);(try clear ho0);obtain ⟨Ao20,co20,eo20⟩:=Kd.S_slice HO384.out;subst eo20))
   go_ret
   exact ⟨by first|rfl|(simp [errW_none,errW_some] <;> rfl)|(simp [*,errW_none,errW_some] <;> rfl),by repeat (first|(with_reducible first|exact HB.out|apply below_alloc|apply pw_below_drewN|apply below_drew1|refine below_set ?_ GE381.out)|exact HB.out)⟩
 ·replace c4:=Bool.eq_false_iff.mpr c4
  subst c4
  rw [if_neg (show ¬ (false = true) by decide)] at H
  obtain rfl:=Option.some.inj H
  go_enter Tryz.func14,Tryz.ntmps14
  go_wp2_with (first|((with_reducible refine gate_dst (N:=2) rfl ?_);(try (refine gate_guard (by rfl) ?_;dsimp only));refine box_event ?hg (N:=2) ?hd (cs:=#[.int .i64 a0_0,.slice A0_1 l0_1.length c0_1,.slice A0_2 l0_2.length c0_2]) (t:=28) ?hr ?_;(case hd=>rfl);(case hg=>rfl);(case hr=>first|(go_simp;done)|(go_simp;rfl));intro gb381 hg w21 hbox hb;have n0_:=Aside0.mk (below_step bz hb);have n1_:=Aside0.mk (hbox);have n2_:=Aside0.mk ((by rw [hg];exact (below_size bz) : w.heap.size ≤ gb381));have n3_:=Aside0.mk ((by rw [hg];exact (below_size bz) : w.heap.size ≤ gb381));clear HB;have HB:=n0_;have BK381:=n1_;have GW381:=n2_;have GE381:=n3_;clear n0_ n1_ n2_ n3_;clear hb hbox hg;have hcz22_0 : w21.cell? ⟨gb381,0,none⟩ = some (.int .i64 a0_0):=(blk_cell BK381.out 0).trans rfl;have hcz22_1 : w21.cell? ⟨gb381,1,none⟩ = some (.slice A0_1 l0_1.length c0_1):=(blk_cell BK381.out 1).trans rfl;have hcz22_2 : w21.cell? ⟨gb381,2,none⟩ = some (.slice A0_2 l0_2.length c0_2):=(blk_cell BK381.out 2).trans rfl;have hfz22_0:=blk_frozen BK381.out 0;have hfz22_1:=blk_frozen BK381.out 1;have hfz22_2:=blk_frozen BK381.out 2)|((with_reducible refine gate_callee (f:=29) rfl ?_);refine goesL_ (some 9) rfl rfl Tryz.func29 (by kernel_rfl) rfl #[.agg #[.int .i64 a0_0,.slice A0_1 l0_1.length c0_1,.slice A0_2 l0_2.length c0_2]] rfl mz ?_;(with_reducible refine (impl_OutputExponents.calls k a0_0 _ _ l0_1 _ _ l0_2 t382 false _ ?side1 ?side2 ?side3 ?side4 A3.out).mono ?_);(case side1=>exact cz (Kd.C_below HR0_1.out HB.out));(case side2=>exact HC0_1.out);(case side3=>exact cz (Kd.C_below HR0_2.out HB.out));(case side4=>exact HC0_2.out);rintro e w23 ⟨v383,rfl,ho0,hb⟩;refine ⟨_,rfl,?_⟩;have n0_:=Aside0.mk (Kd.S_lower ho0 (below_size bs));have n1_:=Aside0.mk (kb BK381.out hb);have n2_:=Aside0.mk (below_step bs hb);clear BK381 HB;have HO384:=n0_;have BK381:=n1_;have HB:=n2_;clear n0_ n1_ n2_;(try clear hb);(try clear ho0)))
  go_ret
  exact ⟨by first|rfl|(simp [errW_none,errW_some] <;> rfl)|(simp [*,errW_none,errW_some] <;> rfl),by repeat (first|(with_reducible first|exact HB.out|apply below_alloc|apply pw_below_drewN|apply below_drew1|refine below_set ?_ GE381.out)|exact HB.out)⟩
/-! ### impl_ChainText: function 15 -/
section
open Go.Proofs.YtlefjgpkabijdaaGreatDoor.CW
def impl_ChainText.f (k : Nat) (l0 : List Int) : Option (ByteArray × Bool):=(impl_IsChain.f k l0).bind fun b=>(if b = true then (if Fit l0 then (some (text l0,true)) else none) else (some ((⟨#[]⟩ : ByteArray),false)))
theorem impl_ChainText.mono : ∀ a0 k,LeO (impl_ChainText.f k a0) (impl_ChainText.f (k + 1) a0):=by
 intro a0 k
 unfold impl_ChainText.f
 exact LeO.bind (impl_IsChain.mono _ _) (fun _=>LeO.refl _)
set_option maxHeartbeats 4000000 in
set_option maxRecDepth 100000 in
theorem impl_ChainText.yes (k : Nat) (A0 : Option Addr) (c0 : Nat) (l0 : List Int) (w : World) (hr0 : Kd.C (Kd.int .i64) w A0 l0.length l0) (hc0 : l0.length ≤ c0) (h : impl_IsChain.f k l0 = some true) (hn : 0 < l0.length) (hlen : l0.length ≤ 1000) (hx : ∀ x ∈ l0,1 ≤ x ∧ x ≤ 1000000)
  (hl : (Lib.join (l0.map Lib.itoa) [32]).length ≤ 140737488355328) (htab : Tab w.heap.size w) :
  Calls Tryz.prog 15 #[.slice A0 l0.length c0] w fun e w'=>e = .returned (.tuple #[.string (text l0),.bool true]) ∧ Below w.heap.size w w':=by
 have HR0:=Aside0.mk hr0
 have HC0:=Aside0.mk hc0
 have HX:=Aside0.mk hx
 have HL:=Aside0.mk hl
 have HT:=Aside0.mk htab
 have HN:=Aside0.mk hn
 have HE:=Aside0.mk hlen
 have HI:=Aside0.mk h
 clear hr0 hc0 hx hl htab hn hlen h
 go_enter Tryz.func15,Tryz.ntmps15
 go_wp2_with (first
  | (go_at_call 9;refine (impl_IsChain.calls k A0 c0 l0 true w HR0.out HC0.out HI.out).mono ?_;rintro e w1 ⟨rfl,hb⟩;have HB1:=Aside0.mk hb;clear hb)
  | (go_at_call 30;refine (chainText_c A0 c0 l0 w1 (Kd.C_below HR0.out HB1.out) HC0.out HN.out HE.out HX.out HL.out (fun w' hb=>HT.out w' (HB1.out.trans (hb.mono HB1.out.size)))).mono ?_;rintro e w2 ⟨rfl,hb⟩;have HB2:=Aside0.mk (HB1.out.trans (hb.mono HB1.out.size));clear hb))
 go_ret2
 exact ⟨rfl,HB2.out⟩
set_option maxHeartbeats 4000000 in
set_option maxRecDepth 100000 in
theorem impl_ChainText.no (k : Nat) (A0 : Option Addr) (c0 : Nat) (l0 : List Int) (w : World) (hr0 : Kd.C (Kd.int .i64) w A0 l0.length l0) (hc0 : l0.length ≤ c0) (h : impl_IsChain.f k l0 = some false) :
  Calls Tryz.prog 15 #[.slice A0 l0.length c0] w fun e w'=>e = .returned (.tuple #[.string ⟨#[]⟩,.bool false]) ∧ Below w.heap.size w w':=by
 have HR0:=Aside0.mk hr0
 have HC0:=Aside0.mk hc0
 have HI:=Aside0.mk h
 clear hr0 hc0 h
 go_enter Tryz.func15,Tryz.ntmps15
 go_wp2_with (first
  | (go_at_call 9;refine (impl_IsChain.calls k A0 c0 l0 false w HR0.out HC0.out HI.out).mono ?_;rintro e w1 ⟨rfl,hb⟩;have HB1:=Aside0.mk hb;clear hb))
 go_ret2
 exact ⟨rfl,HB1.out⟩
/- The facts on the library's variables come last: wip/post/libok.py hands them over in the law's arm. -/
theorem impl_ChainText.calls (k : Nat) (A0 : Option Addr) (c0 : Nat) (l0 : List Int) (r1 : ByteArray) (r2 : Bool) (w : World) (hr0 : Kd.C (Kd.int .i64) w A0 l0.length l0) (hc0 : l0.length ≤ c0) (h : impl_ChainText.f k l0 = some (r1,r2)) (hv : LibOk w) :
  Calls Tryz.prog 15 #[.slice A0 l0.length c0] w fun e w'=>e = .returned (.tuple #[.string r1,.bool r2]) ∧ Below w.heap.size w w':=by
 unfold impl_ChainText.f at h
 obtain ⟨b,hb,h⟩:=Option.bind_eq_some_iff.mp h
 cases b with
 | false=>
  simp only [Bool.false_eq_true,if_false,Option.some.injEq,Prod.mk.injEq] at h
  obtain ⟨rfl,rfl⟩:=h
  exact impl_ChainText.no k A0 c0 l0 w hr0 hc0 hb
 | true=>
  simp only [if_true] at h
  by_cases hf : Fit l0
  ·rw [if_pos hf] at h
   simp only [Option.some.injEq,Prod.mk.injEq] at h
   obtain ⟨rfl,rfl⟩:=h
   exact impl_ChainText.yes k A0 c0 l0 w hr0 hc0 hb hf.1 hf.2.1 hf.2.2.1 hf.2.2.2 hv.tab
  ·rw [if_neg hf] at h;cases h
end
/-! ### impl_ParseChain: function 16 -/
section
open Go.Proofs.YtlefjgpkabijdaaGreatDoor.CW
def impl_ParseChain.f (k : Nat) (a0 : ByteArray) : Option (List Int × Bool):=if a0.size ≤ 1048576 then ((impl_IsChain.f k (Go.Proofs.YtlefjgpkabijdaaGreatDoor.CW.nums a0)).bind fun b=>(if b = true then (if Fit (Go.Proofs.YtlefjgpkabijdaaGreatDoor.CW.nums a0) then (if ((text (Go.Proofs.YtlefjgpkabijdaaGreatDoor.CW.nums a0)).toList == a0.toList) = true then (some (Go.Proofs.YtlefjgpkabijdaaGreatDoor.CW.nums a0,true)) else (some (([] : List Int),false))) else none) else (some (([] : List Int),false)))) else none
theorem impl_ParseChain.mono : ∀ a0 k,LeO (impl_ParseChain.f k a0) (impl_ParseChain.f (k + 1) a0):=by
 intro a0 k
 unfold impl_ParseChain.f
 exact LeO.ite (LeO.bind (impl_IsChain.mono _ _) (fun _=>LeO.refl _)) (LeO.refl _)
set_option maxHeartbeats 4000000 in
set_option maxRecDepth 100000 in
theorem impl_ParseChain.no1 (k : Nat) (s : ByteArray) (ps : List ByteArray) (ns : List Int) (hp : pieces s = ps) (hns : ps.map val = ns) (hs : s.size ≤ 1048576) (w : World) (hv : Vars w) (h : impl_IsChain.f k ns = some false) :
  Calls Tryz.prog 16 #[.string s] w fun e w'=>e = .returned (.tuple #[.slice none 0 0,.bool false]) ∧ Below w.heap.size w w':=by
 have HS:=Aside0.mk hs
 have HP:=Aside0.mk hp
 have HM:=Aside0.mk hns
 have HV:=Aside0.mk hv
 have HI:=Aside0.mk h
 clear hp hns hs hv h
 go_enter Tryz.func16,Tryz.ntmps16
 go_wp2_with (first
  | (go_at_call 32;refine (split_p s ps HP.out (by have:=HS.out;omega) w HV.out).mono ?_;rintro e w1 ⟨A1,c1,rfl,hc,hC,hb⟩;have B1:=Aside0.mk hb;have C1:=Aside0.mk hC;have E1:=Aside0.mk hc;clear hb hC hc)
  | (go_at_call 31;refine (numbers_p s ps ns HP.out HM.out HS.out A1 c1 w1 C1.out E1.out (HV.out.on B1.out)).mono ?_;rintro e w2 ⟨v2,rfl,ho,hb⟩;obtain ⟨A2,c2,rfl,hc2,hC2⟩:=row_of ho;have B2:=Aside0.mk (B1.out.trans (hb.mono B1.out.size));have C2:=Aside0.mk hC2;have E2:=Aside0.mk hc2;clear ho hb hC2 hc2)
  | (go_at_call 9;refine (impl_IsChain.calls k A2 c2 ns false w2 C2.out E2.out HI.out).mono ?_;rintro e w3 ⟨rfl,hb⟩;have B3:=Aside0.mk (B2.out.trans (hb.mono B2.out.size));clear hb))
 go_ret2
 exact ⟨rfl,B3.out⟩
set_option maxHeartbeats 4000000 in
set_option maxRecDepth 100000 in
theorem impl_ParseChain.no2 (k : Nat) (s T : ByteArray) (ps : List ByteArray) (ns : List Int) (hp : pieces s = ps) (hns : ps.map val = ns) (hs : s.size ≤ 1048576) (w : World) (hv : Vars w) (h : impl_IsChain.f k ns = some true) (hn : 0 < ns.length) (hlen : ns.length ≤ 1000) (hx : ∀ x ∈ ns,1 ≤ x ∧ x ≤ 1000000)
  (hl : (Lib.join (ns.map Lib.itoa) [32]).length ≤ 140737488355328) (htab : Tab w.heap.size w) (hT : text ns = T) (c0 : (T.toList == s.toList) = false) :
  Calls Tryz.prog 16 #[.string s] w fun e w'=>e = .returned (.tuple #[.slice none 0 0,.bool false]) ∧ Below w.heap.size w w':=by
 have c0' : (T.toList != s.toList) = true:=by simp [bne,c0]
 have HS:=Aside0.mk hs
 have HP:=Aside0.mk hp
 have HM:=Aside0.mk hns
 have HV:=Aside0.mk hv
 have HI:=Aside0.mk h
 have HN:=Aside0.mk hn
 have HE:=Aside0.mk hlen
 have HX:=Aside0.mk hx
 have HL:=Aside0.mk hl
 have HT:=Aside0.mk htab
 have HQ:=Aside0.mk hT
 clear hp hns hs hv h hn hlen hx hl htab hT
 go_enter Tryz.func16,Tryz.ntmps16
 go_wp2_with (first
  | (go_at_call 32;refine (split_p s ps HP.out (by have:=HS.out;omega) w HV.out).mono ?_;rintro e w1 ⟨A1,c1,rfl,hc,hC,hb⟩;have B1:=Aside0.mk hb;have C1:=Aside0.mk hC;have E1:=Aside0.mk hc;clear hb hC hc)
  | (go_at_call 31;refine (numbers_p s ps ns HP.out HM.out HS.out A1 c1 w1 C1.out E1.out (HV.out.on B1.out)).mono ?_;rintro e w2 ⟨v2,rfl,ho,hb⟩;obtain ⟨A2,c2,rfl,hc2,hC2⟩:=row_of ho;have B2:=Aside0.mk (B1.out.trans (hb.mono B1.out.size));have C2:=Aside0.mk hC2;have E2:=Aside0.mk hc2;clear ho hb hC2 hc2)
  | (go_at_call 9;refine (impl_IsChain.calls k A2 c2 ns true w2 C2.out E2.out HI.out).mono ?_;rintro e w3 ⟨rfl,hb⟩;have B3:=Aside0.mk (B2.out.trans (hb.mono B2.out.size));have C3:=Aside0.mk (Kd.C_below C2.out hb);clear hb)
  | (go_at_call 30;refine (chainText_c A2 c2 ns w3 C3.out E2.out HN.out HE.out HX.out HL.out (Tab.on HT.out B3.out)).mono ?_;rintro e w4 ⟨rfl,hb⟩;rw [HQ.out];have B4:=Aside0.mk (B3.out.trans (hb.mono B3.out.size));clear hb))
 go_ret2
 exact ⟨rfl,B4.out⟩
set_option maxHeartbeats 4000000 in
set_option maxRecDepth 100000 in
theorem impl_ParseChain.yes (k : Nat) (s T : ByteArray) (ps : List ByteArray) (ns : List Int) (hp : pieces s = ps) (hns : ps.map val = ns) (hs : s.size ≤ 1048576) (w : World) (hv : Vars w) (h : impl_IsChain.f k ns = some true) (hn : 0 < ns.length) (hlen : ns.length ≤ 1000) (hx : ∀ x ∈ ns,1 ≤ x ∧ x ≤ 1000000)
  (hl : (Lib.join (ns.map Lib.itoa) [32]).length ≤ 140737488355328) (htab : Tab w.heap.size w) (hT : text ns = T) (c0 : (T.toList == s.toList) = true) :
  Calls Tryz.prog 16 #[.string s] w fun e w'=>∃ v,e = .returned (.tuple #[v,.bool true]) ∧ Kd.R (Kd.int .i64) 3 w' w.heap.size (fun _=>True) v ns ∧ Below w.heap.size w w':=by
 have c0' : (T.toList != s.toList) = false:=by simp [bne,c0]
 have HS:=Aside0.mk hs
 have HP:=Aside0.mk hp
 have HM:=Aside0.mk hns
 have HV:=Aside0.mk hv
 have HI:=Aside0.mk h
 have HN:=Aside0.mk hn
 have HE:=Aside0.mk hlen
 have HX:=Aside0.mk hx
 have HL:=Aside0.mk hl
 have HT:=Aside0.mk htab
 have HQ:=Aside0.mk hT
 clear hp hns hs hv h hn hlen hx hl htab hT
 go_enter Tryz.func16,Tryz.ntmps16
 go_wp2_with (first
  | (go_at_call 32;refine (split_p s ps HP.out (by have:=HS.out;omega) w HV.out).mono ?_;rintro e w1 ⟨A1,c1,rfl,hc,hC,hb⟩;have B1:=Aside0.mk hb;have C1:=Aside0.mk hC;have E1:=Aside0.mk hc;clear hb hC hc)
  | (go_at_call 31;refine (numbers_p s ps ns HP.out HM.out HS.out A1 c1 w1 C1.out E1.out (HV.out.on B1.out)).mono ?_;rintro e w2 ⟨v2,rfl,ho,hb⟩;have O2:=Aside0.mk (Kd.R_lower ho B1.out.size);obtain ⟨A2,c2,rfl,hc2,hC2⟩:=row_of ho;have B2:=Aside0.mk (B1.out.trans (hb.mono B1.out.size));have C2:=Aside0.mk hC2;have E2:=Aside0.mk hc2;clear ho hb hC2 hc2)
  | (go_at_call 9;refine (impl_IsChain.calls k A2 c2 ns true w2 C2.out E2.out HI.out).mono ?_;rintro e w3 ⟨rfl,hb⟩;have B3:=Aside0.mk (B2.out.trans (hb.mono B2.out.size));have C3:=Aside0.mk (Kd.C_below C2.out hb);have O3:=Aside0.mk (Kd.R_below O2.out hb);clear hb)
  | (go_at_call 30;refine (chainText_c A2 c2 ns w3 C3.out E2.out HN.out HE.out HX.out HL.out (Tab.on HT.out B3.out)).mono ?_;rintro e w4 ⟨rfl,hb⟩;rw [HQ.out];have B4:=Aside0.mk (B3.out.trans (hb.mono B3.out.size));have O4:=Aside0.mk (Kd.R_below O3.out hb);clear hb))
 go_ret2
 exact ⟨_,rfl,O4.out,B4.out⟩
theorem impl_ParseChain.calls (k : Nat) (a0 : ByteArray) (r1 : List Int) (r2 : Bool) (w : World) (h : impl_ParseChain.f k a0 = some (r1,r2)) (hv : LibOk w) :
  Calls Tryz.prog 16 #[.string a0] w fun e w'=>∃ v0_ : Value,e = .returned (.tuple #[v0_,.bool r2]) ∧ Kd.R (Kd.int .i64) 3 w' w.heap.size (fun _=>True) v0_ r1 ∧ Below w.heap.size w w':=by
 unfold impl_ParseChain.f at h
 by_cases hs : a0.size ≤ 1048576
 ·rw [if_pos hs] at h
  obtain ⟨b,hb,h⟩:=Option.bind_eq_some_iff.mp h
  cases b with
  | false=>
   simp only [Bool.false_eq_true,if_false,Option.some.injEq,Prod.mk.injEq] at h
   obtain ⟨rfl,rfl⟩:=h
   exact (impl_ParseChain.no1 k a0 _ _ rfl rfl hs w hv.vars hb).mono fun e w' hh=>⟨_,hh.1,Kd.R_nil _ _ _ _ _,hh.2⟩
  | true=>
   simp only [if_true] at h
   by_cases hf : Fit (Go.Proofs.YtlefjgpkabijdaaGreatDoor.CW.nums a0)
   ·rw [if_pos hf] at h
    cases hq : ((text (Go.Proofs.YtlefjgpkabijdaaGreatDoor.CW.nums a0)).toList == a0.toList) with
    | false=>
     simp only [hq,Bool.false_eq_true,if_false,Option.some.injEq,Prod.mk.injEq] at h
     obtain ⟨rfl,rfl⟩:=h
     exact (impl_ParseChain.no2 k a0 _ _ _ rfl rfl hs w hv.vars hb hf.1 hf.2.1 hf.2.2.1 hf.2.2.2 hv.tab rfl hq).mono fun e w' hh=>⟨_,hh.1,Kd.R_nil _ _ _ _ _,hh.2⟩
    | true=>
     simp only [hq,if_true,Option.some.injEq,Prod.mk.injEq] at h
     obtain ⟨rfl,rfl⟩:=h
     exact impl_ParseChain.yes k a0 _ _ _ rfl rfl hs w hv.vars hb hf.1 hf.2.1 hf.2.2.1 hf.2.2.2 hv.tab rfl hq
   ·rw [if_neg hf] at h;cases h
 ·rw [if_neg hs] at h;cases h
end
end Go.Proofs.YtlefjgpkabijdaaGreatDoor.MFnChainsArePlans
--sq
