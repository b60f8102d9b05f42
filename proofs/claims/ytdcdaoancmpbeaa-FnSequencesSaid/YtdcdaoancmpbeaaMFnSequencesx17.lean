import Derived.Test.YtdcdaoancmpbeaaMFnSequencesx0
import Derived.Test.YtdcdaoancmpbeaaMFnSequencesx6
import Derived.Test.YtdcdaoancmpbeaaMFnSequencesx11
import Derived.Test.YtdcdaoancmpbeaaMFnSequencesx13
import Derived.Test.YtdcdaoancmpbeaaMFnSequencesx15
import Derived.Test.YtdcdaoancmpbeaaMFnSequencesx16
namespace Go.Proofs.Ytdcdaoancmpbeaa.MFnSequences
open Go.RowKit Go.Proofs.YtdcdaoancmpbeaaW.PrintWords Go.Proofs.YtdcdaoancmpbeaaW.PrintLast Go.Proofs.YtdcdaoancmpbeaaW.PrintMore Go.Proofs.YtdcdaoancmpbeaaV Go.Proofs.YtdcdaoancmpbeaaZ
attribute [local go_sem] max2_int min2_int max_two min_two max_three min_three max_four min_four   -- for this text's walks alone
set_option linter.unusedVariables false
set_option linter.unusedSimpArgs false
/-! ### laws_FnSequences: function 9 -/
mutual
def laws_FnSequences.j0 : Nat → List Int → List Int → Bool → Bool → Int → List (S73) → List Int → Option (Bool)
 | 0,_,_,_,_,_,_,_=>none
 | k + 1,x5,x6,x10,x45,x555000,x555001,x555002=>if x45 = true then (some false) else (if x10 = true then ((impl_OutputExponents.f k x555000 x555001 x555002).bind fun bt565=>((impl_IsTrim.f k x555000 x555001 x555002).bind fun bt569=>(if bt565.2 = true then (if bt569.2 = true then (if bt569.1 = true then (if (bt565.1.length : Int) = (x6.length : Int) then (laws_FnSequences.j1 k x6 bt565.1 (decide ((x555001.length : Int) > (wrap64 ((x5.length : Int) - 1))))) else (laws_FnSequences.j1 k x6 bt565.1 true)) else (laws_FnSequences.j1 k x6 bt565.1 true)) else (laws_FnSequences.j1 k x6 bt565.1 true)) else (laws_FnSequences.j1 k x6 bt565.1 true)))) else (some true))
def laws_FnSequences.j1 : Nat → List Int → List (List Int) → Bool → Option (Bool)
 | 0,_,_,_=>none
 | k + 1,x6,x11,x83=>if x83 = true then (some false) else (laws_FnSequences.l0 k x6 x11 (x11.length : Int) 0)
def laws_FnSequences.l0 : Nat → List Int → List (List Int) → Int → Int → Option (Bool)
 | 0,_,_,_,_=>none
 | k + 1,x6,x84,x85,x86=>if x86 < x85 then (if 0 ≤ x86 then (if x86 < (x84.length : Int) then (if 0 < ((rd_L4 x84 x86).length : Int) then (if x86 < (x6.length : Int) then (if (rd (rd_L4 x84 x86) 0) = (rd x6 x86) then (laws_FnSequences.l0 k x6 x84 x85 (wrap64 (x86 + 1))) else (some false)) else (none)) else (none)) else (none)) else (none)) else (some true)
end
def laws_FnSequences.f (k : Nat) (l0 : List Int) (l1 : List Int) : Option (Bool):=(laws_big.f l0 l1).bind fun t539=>(if t539 = true then (some true) else ((spec_DrawSequencePlan.f k l0).bind fun bt540=>((impl_SequencePlan.f k bt540.1 bt540.2).bind fun bt546=>((spec_SequencePlan.f k bt540.1 bt540.2).bind fun bt555=>(if (bt546.2.2.2 != bt555.2.2.2) = true then (laws_FnSequences.j0 k bt540.1 bt540.2 bt555.2.2.2 true bt546.1 bt546.2.1 bt546.2.2.1) else ((laws_pSamePlan.f k bt546.1 bt546.2.1 bt546.2.2.1 bt555.1 bt555.2.1 bt555.2.2.1).bind fun t564=>(laws_FnSequences.j0 k bt540.1 bt540.2 bt555.2.2.2 (!t564) bt546.1 bt546.2.1 bt546.2.2.1)))))))
theorem laws_FnSequences.mono_l : ∀ k,(∀ y0 y1 y2 y3 y4 y5 y6,LeO (laws_FnSequences.j0 k y0 y1 y2 y3 y4 y5 y6) (laws_FnSequences.j0 (k + 1) y0 y1 y2 y3 y4 y5 y6)) ∧ (∀ y0 y1 y2,LeO (laws_FnSequences.j1 k y0 y1 y2) (laws_FnSequences.j1 (k + 1) y0 y1 y2)) ∧ (∀ y0 y1 y2 y3,LeO (laws_FnSequences.l0 k y0 y1 y2 y3) (laws_FnSequences.l0 (k + 1) y0 y1 y2 y3))
 | 0=>⟨fun _ _ _ _ _ _ _ r h=>by simp [laws_FnSequences.j0] at h,fun _ _ _ r h=>by simp [laws_FnSequences.j1] at h,fun _ _ _ _ r h=>by simp [laws_FnSequences.l0] at h⟩
 | k + 1=>by
  obtain ⟨ih0,ih1,ih2⟩:=laws_FnSequences.mono_l k
  refine ⟨?_,?_,?_⟩
  ·intro y0 y1 y2 y3 y4 y5 y6
   unfold laws_FnSequences.j0
   repeat' first
   | (with_reducible exact ih0 _ _ _ _ _ _ _)
   | (with_reducible exact ih1 _ _ _)
   | (with_reducible exact ih2 _ _ _ _)
   | (with_reducible exact impl_IsTrim.mono _ _ _ _)
   | (with_reducible exact impl_OutputExponents.mono _ _ _ _)
   | (with_reducible exact impl_SequencePlan.mono _ _ _)
   | (with_reducible exact laws_pSamePlan.mono _ _ _ _ _ _ _)
   | (with_reducible exact spec_DrawSequencePlan.mono _ _)
   | (with_reducible exact spec_SequencePlan.mono _ _ _)
   | (with_reducible exact LeO.refl _)
   | (with_reducible exact LeO.none _)
   | (with_reducible refine LeO.ite ?_ ?_)
   | (with_reducible refine LeO.bind ?_ (fun _=>?_))
   | exact ih0 _ _ _ _ _ _ _
   | exact ih1 _ _ _
   | exact ih2 _ _ _ _
   | exact impl_IsTrim.mono _ _ _ _
   | exact impl_OutputExponents.mono _ _ _ _
   | exact impl_SequencePlan.mono _ _ _
   | exact laws_pSamePlan.mono _ _ _ _ _ _ _
   | exact spec_DrawSequencePlan.mono _ _
   | exact spec_SequencePlan.mono _ _ _
   | exact LeO.none _
   | refine LeO.ite ?_ ?_
   | refine LeO.bind ?_ (fun _=>?_)
  ·intro y0 y1 y2
   unfold laws_FnSequences.j1
   repeat' first
   | (with_reducible exact ih0 _ _ _ _ _ _ _)
   | (with_reducible exact ih1 _ _ _)
   | (with_reducible exact ih2 _ _ _ _)
   | (with_reducible exact impl_IsTrim.mono _ _ _ _)
   | (with_reducible exact impl_OutputExponents.mono _ _ _ _)
   | (with_reducible exact impl_SequencePlan.mono _ _ _)
   | (with_reducible exact laws_pSamePlan.mono _ _ _ _ _ _ _)
   | (with_reducible exact spec_DrawSequencePlan.mono _ _)
   | (with_reducible exact spec_SequencePlan.mono _ _ _)
   | (with_reducible exact LeO.refl _)
   | (with_reducible exact LeO.none _)
   | (with_reducible refine LeO.ite ?_ ?_)
   | (with_reducible refine LeO.bind ?_ (fun _=>?_))
   | exact ih0 _ _ _ _ _ _ _
   | exact ih1 _ _ _
   | exact ih2 _ _ _ _
   | exact impl_IsTrim.mono _ _ _ _
   | exact impl_OutputExponents.mono _ _ _ _
   | exact impl_SequencePlan.mono _ _ _
   | exact laws_pSamePlan.mono _ _ _ _ _ _ _
   | exact spec_DrawSequencePlan.mono _ _
   | exact spec_SequencePlan.mono _ _ _
   | exact LeO.none _
   | refine LeO.ite ?_ ?_
   | refine LeO.bind ?_ (fun _=>?_)
  ·intro y0 y1 y2 y3
   unfold laws_FnSequences.l0
   repeat' first
   | (with_reducible exact ih0 _ _ _ _ _ _ _)
   | (with_reducible exact ih1 _ _ _)
   | (with_reducible exact ih2 _ _ _ _)
   | (with_reducible exact impl_IsTrim.mono _ _ _ _)
   | (with_reducible exact impl_OutputExponents.mono _ _ _ _)
   | (with_reducible exact impl_SequencePlan.mono _ _ _)
   | (with_reducible exact laws_pSamePlan.mono _ _ _ _ _ _ _)
   | (with_reducible exact spec_DrawSequencePlan.mono _ _)
   | (with_reducible exact spec_SequencePlan.mono _ _ _)
   | (with_reducible exact LeO.refl _)
   | (with_reducible exact LeO.none _)
   | (with_reducible refine LeO.ite ?_ ?_)
   | (with_reducible refine LeO.bind ?_ (fun _=>?_))
   | exact ih0 _ _ _ _ _ _ _
   | exact ih1 _ _ _
   | exact ih2 _ _ _ _
   | exact impl_IsTrim.mono _ _ _ _
   | exact impl_OutputExponents.mono _ _ _ _
   | exact impl_SequencePlan.mono _ _ _
   | exact laws_pSamePlan.mono _ _ _ _ _ _ _
   | exact spec_DrawSequencePlan.mono _ _
   | exact spec_SequencePlan.mono _ _ _
   | exact LeO.none _
   | refine LeO.ite ?_ ?_
   | refine LeO.bind ?_ (fun _=>?_)
theorem laws_FnSequences.mono : ∀ a0 a1 k,LeO (laws_FnSequences.f k a0 a1) (laws_FnSequences.f (k + 1) a0 a1):=by
 intro a0 a1 k
 obtain ⟨ih0,ih1,ih2⟩:=laws_FnSequences.mono_l k
 unfold laws_FnSequences.f
 repeat' first
   | (with_reducible exact ih0 _ _ _ _ _ _ _)
   | (with_reducible exact ih1 _ _ _)
   | (with_reducible exact ih2 _ _ _ _)
   | (with_reducible exact impl_IsTrim.mono _ _ _ _)
   | (with_reducible exact impl_OutputExponents.mono _ _ _ _)
   | (with_reducible exact impl_SequencePlan.mono _ _ _)
   | (with_reducible exact laws_pSamePlan.mono _ _ _ _ _ _ _)
   | (with_reducible exact spec_DrawSequencePlan.mono _ _)
   | (with_reducible exact spec_SequencePlan.mono _ _ _)
   | (with_reducible exact LeO.refl _)
   | (with_reducible exact LeO.none _)
   | (with_reducible refine LeO.ite ?_ ?_)
   | (with_reducible refine LeO.bind ?_ (fun _=>?_))
   | exact ih0 _ _ _ _ _ _ _
   | exact ih1 _ _ _
   | exact ih2 _ _ _ _
   | exact impl_IsTrim.mono _ _ _ _
   | exact impl_OutputExponents.mono _ _ _ _
   | exact impl_SequencePlan.mono _ _ _
   | exact laws_pSamePlan.mono _ _ _ _ _ _ _
   | exact spec_DrawSequencePlan.mono _ _
   | exact spec_SequencePlan.mono _ _ _
   | exact LeO.none _
   | refine LeO.ite ?_ ?_
   | refine LeO.bind ?_ (fun _=>?_)
set_option maxHeartbeats 8000000 in
set_option maxRecDepth 100000 in
theorem laws_FnSequences.calls (k : Nat) (A0 : Option Addr) (c0 : Nat) (l0 : List Int) (A1 : Option Addr) (c1 : Nat) (l1 : List Int) (r : Bool) (w : World) (hr0 : Kd.C (Kd.int .u8) w A0 l0.length l0) (hc0 : l0.length ≤ c0) (hr1 : Kd.C (Kd.int .u8) w A1 l1.length l1) (hc1 : l1.length ≤ c1) (h : laws_FnSequences.f k l0 l1 = some r) :
  Calls Try.prog 9 #[.slice A0 l0.length c0,.slice A1 l1.length c1] w fun e w'=>e = .returned (.bool r) ∧ Below w.heap.size w w':=by
 have hu29:=Try.underlying29
 have HR0:=Aside0.mk hr0
 have HC0:=Aside0.mk hc0
 clear hr0 hc0
 have HR1:=Aside0.mk hr1
 have HC1:=Aside0.mk hc1
 clear hr1 hc1
 have HB:=Aside0.mk (Below.refl w.heap.size w)
 have H : ((laws_big.f l0 l1).bind fun t539=>(if t539 = true then (some true) else ((spec_DrawSequencePlan.f k l0).bind fun bt540=>((impl_SequencePlan.f k bt540.1 bt540.2).bind fun bt546=>((spec_SequencePlan.f k bt540.1 bt540.2).bind fun bt555=>(if (bt546.2.2.2 != bt555.2.2.2) = true then (laws_FnSequences.j0 k bt540.1 bt540.2 bt555.2.2.2 true bt546.1 bt546.2.1 bt546.2.2.1) else ((laws_pSamePlan.f k bt546.1 bt546.2.1 bt546.2.2.1 bt555.1 bt555.2.1 bt555.2.2.1).bind fun t564=>(laws_FnSequences.j0 k bt540.1 bt540.2 bt555.2.2.2 (!t564) bt546.1 bt546.2.1 bt546.2.2.1)))))))) = some r:=h
 clear h
 replace H:=Option.bind_eq_some_iff.mp H
 obtain ⟨t539,A30,H⟩:=H
 replace H : (if t539 = true then (some true) else ((spec_DrawSequencePlan.f k l0).bind fun bt540=>((impl_SequencePlan.f k bt540.1 bt540.2).bind fun bt546=>((spec_SequencePlan.f k bt540.1 bt540.2).bind fun bt555=>(if (bt546.2.2.2 != bt555.2.2.2) = true then (laws_FnSequences.j0 k bt540.1 bt540.2 bt555.2.2.2 true bt546.1 bt546.2.1 bt546.2.2.1) else ((laws_pSamePlan.f k bt546.1 bt546.2.1 bt546.2.2.1 bt555.1 bt555.2.1 bt555.2.2.1).bind fun t564=>(laws_FnSequences.j0 k bt540.1 bt540.2 bt555.2.2.2 (!t564) bt546.1 bt546.2.1 bt546.2.2.1))))))) = some r:=H
 have A3:=Aside0.mk A30
 clear A30
 by_cases c4 : t539 = true
 ·subst c4
  have H1 : (some true) = some r:=by rw [if_pos rfl] at H;exact H
  clear H
  have H:=H1
  clear H1
  obtain rfl:=Option.some.inj H
  go_enter Try.func9,Try.ntmps9
  go_wp2_with (first|(go_at_call 31;(with_reducible refine (laws_big.calls _ _ l0 _ _ l1 true _ ?side1 ?side2 ?side3 ?side4 A3.out).mono ?_);(case side1=>exact cz HR0.out);(case side2=>exact HC0.out);(case side3=>exact cz HR1.out);(case side4=>exact HC1.out);rintro e w' ⟨rfl,⟨nd,rfl⟩⟩;(try first|exact ⟨rfl,_,World.drewN_drewN _ _ _⟩|exact ⟨rfl,_,Eq.trans (World.drewN_drewN _ _ _) (congrArg (World.drewN _) (Nat.add_assoc _ _ _))⟩)))
  repeat (go_quiet (first|(go_at_call 31;(with_reducible refine (laws_big.calls _ _ l0 _ _ l1 true _ ?side1 ?side2 ?side3 ?side4 A3.out).mono ?_);(case side1=>exact cz HR0.out);(case side2=>exact HC0.out);(case side3=>exact cz HR1.out);(case side4=>exact HC1.out);rintro e w' ⟨rfl,⟨nd,rfl⟩⟩;(try first|exact ⟨rfl,_,World.drewN_drewN _ _ _⟩|exact ⟨rfl,_,Eq.trans (World.drewN_drewN _ _ _) (congrArg (World.drewN _) (Nat.add_assoc _ _ _))⟩)));try go_wp2_with (first|(go_at_call 31;(with_reducible refine (laws_big.calls _ _ l0 _ _ l1 true _ ?side1 ?side2 ?side3 ?side4 A3.out).mono ?_);(case side1=>exact cz HR0.out);(case side2=>exact HC0.out);(case side3=>exact cz HR1.out);(case side4=>exact HC1.out);rintro e w' ⟨rfl,⟨nd,rfl⟩⟩;(try first|exact ⟨rfl,_,World.drewN_drewN _ _ _⟩|exact ⟨rfl,_,Eq.trans (World.drewN_drewN _ _ _) (congrArg (World.drewN _) (Nat.add_assoc _ _ _))⟩))))
  go_ret
  exact ⟨by first|rfl|(simp [errW_none,errW_some] <;> rfl)|(simp [*,errW_none,errW_some] <;> rfl),by repeat (first|(with_reducible first|exact HB.out|apply below_alloc|apply pw_below_drewN|apply below_drew1)|exact HB.out)⟩
 ·replace c4:=Bool.eq_false_iff.mpr c4
  subst c4
  have H1 : ((spec_DrawSequencePlan.f k l0).bind fun bt540=>((impl_SequencePlan.f k bt540.1 bt540.2).bind fun bt546=>((spec_SequencePlan.f k bt540.1 bt540.2).bind fun bt555=>(if (bt546.2.2.2 != bt555.2.2.2) = true then (laws_FnSequences.j0 k bt540.1 bt540.2 bt555.2.2.2 true bt546.1 bt546.2.1 bt546.2.2.1) else ((laws_pSamePlan.f k bt546.1 bt546.2.1 bt546.2.2.1 bt555.1 bt555.2.1 bt555.2.2.1).bind fun t564=>(laws_FnSequences.j0 k bt540.1 bt540.2 bt555.2.2.2 (!t564) bt546.1 bt546.2.1 bt546.2.2.1)))))) = some r:=by rw [if_neg (show ¬ (false = true) by decide)] at H;exact H
  clear H
  have H:=H1
  clear H1
  replace H:=Option.bind_eq_some_iff.mp H
  obtain ⟨⟨t540,t541⟩,A50,H⟩:=H
  replace H : ((impl_SequencePlan.f k t540 t541).bind fun bt546=>((spec_SequencePlan.f k t540 t541).bind fun bt555=>(if (bt546.2.2.2 != bt555.2.2.2) = true then (laws_FnSequences.j0 k t540 t541 bt555.2.2.2 true bt546.1 bt546.2.1 bt546.2.2.1) else ((laws_pSamePlan.f k bt546.1 bt546.2.1 bt546.2.2.1 bt555.1 bt555.2.1 bt555.2.2.1).bind fun t564=>(laws_FnSequences.j0 k t540 t541 bt555.2.2.2 (!t564) bt546.1 bt546.2.1 bt546.2.2.1))))) = some r:=H
  have A5:=Aside0.mk A50
  clear A50
  replace H:=Option.bind_eq_some_iff.mp H
  obtain ⟨⟨t546,t547,t550,t553⟩,A60,H⟩:=H
  replace H : ((spec_SequencePlan.f k t540 t541).bind fun bt555=>(if (t553 != bt555.2.2.2) = true then (laws_FnSequences.j0 k t540 t541 bt555.2.2.2 true t546 t547 t550) else ((laws_pSamePlan.f k t546 t547 t550 bt555.1 bt555.2.1 bt555.2.2.1).bind fun t564=>(laws_FnSequences.j0 k t540 t541 bt555.2.2.2 (!t564) t546 t547 t550)))) = some r:=H
  have A6:=Aside0.mk A60
  clear A60
  replace H:=Option.bind_eq_some_iff.mp H
  obtain ⟨⟨t555,t556,t559,t562⟩,A70,H⟩:=H
  replace H : (if (t553 != t562) = true then (laws_FnSequences.j0 k t540 t541 t562 true t546 t547 t550) else ((laws_pSamePlan.f k t546 t547 t550 t555 t556 t559).bind fun t564=>(laws_FnSequences.j0 k t540 t541 t562 (!t564) t546 t547 t550))) = some r:=H
  have A7:=Aside0.mk A70
  clear A70
  have HC8:=Aside0.mk H
  clear H
  go_enter Try.func9,Try.ntmps9
  go_upto_region 6 with (first|(go_at_call 31;(with_reducible refine (laws_big.calls _ _ l0 _ _ l1 false _ ?side1 ?side2 ?side3 ?side4 A3.out).mono ?_);(case side1=>exact cz HR0.out);(case side2=>exact HC0.out);(case side3=>exact cz HR1.out);(case side4=>exact HC1.out);rintro e w' ⟨rfl,⟨nd,rfl⟩⟩;(try first|exact ⟨rfl,_,World.drewN_drewN _ _ _⟩|exact ⟨rfl,_,Eq.trans (World.drewN_drewN _ _ _) (congrArg (World.drewN _) (Nat.add_assoc _ _ _))⟩))|(go_at_call 32;(with_reducible refine (spec_DrawSequencePlan.calls k _ _ l0 t540 t541 _ ?side1 ?side2 A5.out).mono ?_);(case side1=>exact cz HR0.out);(case side2=>exact HC0.out);rintro e w9 ⟨v542,v544,rfl,ho0,ho1,hb⟩;have n0_:=Aside0.mk (Kd.R_lower ho0 (below_size bz));have n1_:=Aside0.mk (Kd.R_lower ho1 (below_size bz));have n2_:=Aside0.mk (below_step bz hb);clear HB;have HO543:=n0_;have HO545:=n1_;have HB:=n2_;clear n0_ n1_ n2_;(try clear hb);(try clear ho0);(try clear ho1);obtain ⟨Ao10,co10,eo10⟩:=Kd.R_slice HO543.out;subst eo10;obtain ⟨Ao11,co11,eo11⟩:=Kd.R_slice HO545.out;subst eo11)|(go_at_call 19;(with_reducible refine (impl_SequencePlan.calls k _ _ t540 _ _ t541 t546 t547 t550 t553 _ ?side1 ?side2 ?side3 ?side4 A6.out).mono ?_);(case side1=>exact cz (Kd.R_reads' HO543.out).2.2);(case side2=>exact (Kd.R_reads' HO543.out).2.1);(case side3=>exact cz (Kd.R_reads' HO545.out).2.2);(case side4=>exact (Kd.R_reads' HO545.out).2.1);rintro e w12 ⟨v548,v551,rfl,ho0,ho1,hb⟩;have n0_:=Aside0.mk (Kd.R_elder' (rz HO543.out) (Kd.R_base ho1) hb);have n1_:=Aside0.mk (Kd.R_elder' (rz HO545.out) (Kd.R_base ho1) hb);have n2_:=Aside0.mk (Kd.R_lower ho0 (below_size bz));have n3_:=Aside0.mk (Kd.R_lower (Kd.R_new' (Kd.R_new' ho1 (Kd.R_lt (rz HO543.out))) (Kd.R_lt (rz HO545.out))) (below_size bz));have n4_:=Aside0.mk (below_step bz hb);clear HO543 HO545 HB;have HO543:=n0_;have HO545:=n1_;have HO549:=n2_;have HO552:=n3_;have HB:=n4_;clear n0_ n1_ n2_ n3_ n4_;(try clear hb);(try clear ho0);(try clear ho1))|((with_reducible refine gate_dst (N:=7) rfl ?_);(try (refine gate_guard (by rfl) ?_;dsimp only));refine box_event ?hg (N:=7) ?hd (cs:=#[.int .i64 0,.slice none 0 0,.slice none 0 0]) (t:=29) ?hr ?_;(case hd=>rfl);(case hg=>rfl);(case hr=>first|(go_simp;done)|(go_simp;rfl));intro gb554 hg w13 hbox hb;have n0_:=Aside0.mk (Kd.R_below (rz HO543.out) hb);have n1_:=Aside0.mk (Kd.R_below (rz HO545.out) hb);have n2_:=Aside0.mk (Kd.R_below (rz HO549.out) hb);have n3_:=Aside0.mk (Kd.R_below (rz HO552.out) hb);have n4_:=Aside0.mk (below_step bz hb);have n5_:=Aside0.mk (hbox);have n6_:=Aside0.mk ((by rw [hg];exact (below_size bz) : w.heap.size ≤ gb554));have n7_:=Aside0.mk ((by rw [hg];exact (below_size bz) : w.heap.size ≤ gb554));clear HO543 HO545 HO549 HO552 HB;have HO543:=n0_;have HO545:=n1_;have HO549:=n2_;have HO552:=n3_;have HB:=n4_;have BK554:=n5_;have GW554:=n6_;have GE554:=n7_;clear n0_ n1_ n2_ n3_ n4_ n5_ n6_ n7_;clear hb hbox hg;have hcz14_0 : w13.cell? ⟨gb554,0,none⟩ = some (.int .i64 0):=(blk_cell BK554.out 0).trans rfl;have hcz14_1 : w13.cell? ⟨gb554,1,none⟩ = some (.slice none 0 0):=(blk_cell BK554.out 1).trans rfl;have hcz14_2 : w13.cell? ⟨gb554,2,none⟩ = some (.slice none 0 0):=(blk_cell BK554.out 2).trans rfl;have hfz14_0:=blk_frozen BK554.out 0;have hfz14_1:=blk_frozen BK554.out 1;have hfz14_2:=blk_frozen BK554.out 2;obtain ⟨Ao15,co15,eo15⟩:=Kd.R_slice HO549.out;subst eo15;obtain ⟨Ao16,co16,eo16⟩:=Kd.R_slice HO552.out;subst eo16)|(go_at_call 17;(with_reducible refine (spec_SequencePlan.calls k _ _ t540 _ _ t541 t555 t556 t559 t562 _ ?side1 ?side2 ?side3 ?side4 A7.out).mono ?_);(case side1=>refine (Kd.R_reads' (e:=3) (base:=w.heap.size) (ok:=fun k_=>(some k_ ≠ (.slice Ao11 t541.length co11 : Value).ownBlock ∧ some k_ ≠ (.slice Ao16 t550.length co16 : Value).ownBlock)) (n:=t540.length) (c:=co10) ?_).2.2;exact (by (with_reducible repeat (first|apply Kd.R_alloc|apply Kd.R_drewN|apply Kd.R_drew));exact (Kd.R_mono (Kd.R_far (p:=⟨gb554,2,none⟩) (Kd.R_far (p:=⟨gb554,1,none⟩) (Kd.R_far (p:=⟨gb554,0,none⟩) (Kd.R_types HO543.out BK554.out (by decide)) (fun _ hk=>hk.2) (.int .i64 t546)) (fun _ hk=>hk.2) (.slice Ao15 t547.length co15)) (fun _ hk=>hk.2) (.slice Ao16 t550.length co16)) (fun _ h_=>h_.1))));(case side2=>exact (Kd.R_reads' HO543.out).2.1);(case side3=>refine (Kd.R_reads' (e:=3) (base:=w.heap.size) (ok:=fun k_=>(some k_ ≠ (.slice Ao10 t540.length co10 : Value).ownBlock ∧ some k_ ≠ (.slice Ao16 t550.length co16 : Value).ownBlock)) (n:=t541.length) (c:=co11) ?_).2.2;exact (by (with_reducible repeat (first|apply Kd.R_alloc|apply Kd.R_drewN|apply Kd.R_drew));exact (Kd.R_mono (Kd.R_far (p:=⟨gb554,2,none⟩) (Kd.R_far (p:=⟨gb554,1,none⟩) (Kd.R_far (p:=⟨gb554,0,none⟩) (Kd.R_types HO545.out BK554.out (by decide)) (fun _ hk=>hk.2) (.int .i64 t546)) (fun _ hk=>hk.2) (.slice Ao15 t547.length co15)) (fun _ hk=>hk.2) (.slice Ao16 t550.length co16)) (fun _ h_=>h_.1))));(case side4=>exact (Kd.R_reads' HO545.out).2.1);rintro e w17 ⟨v557,v560,rfl,ho0,ho1,hb⟩;have n0_:=Aside0.mk (Kd.R_elder' (by (with_reducible repeat (first|apply Kd.R_alloc|apply Kd.R_drewN|apply Kd.R_drew));exact (Kd.R_mono (Kd.R_far (p:=⟨gb554,2,none⟩) (Kd.R_far (p:=⟨gb554,1,none⟩) (Kd.R_far (p:=⟨gb554,0,none⟩) (Kd.R_types HO543.out BK554.out (by decide)) (fun _ hk=>hk.2) (.int .i64 t546)) (fun _ hk=>hk.2) (.slice Ao15 t547.length co15)) (fun _ hk=>hk.2) (.slice Ao16 t550.length co16)) (fun _ h_=>h_.1))) (Kd.R_base ho1) hb);have n1_:=Aside0.mk (Kd.R_elder' (by (with_reducible repeat (first|apply Kd.R_alloc|apply Kd.R_drewN|apply Kd.R_drew));exact (Kd.R_mono (Kd.R_far (p:=⟨gb554,2,none⟩) (Kd.R_far (p:=⟨gb554,1,none⟩) (Kd.R_far (p:=⟨gb554,0,none⟩) (Kd.R_types HO545.out BK554.out (by decide)) (fun _ hk=>hk.2) (.int .i64 t546)) (fun _ hk=>hk.2) (.slice Ao15 t547.length co15)) (fun _ hk=>hk.2) (.slice Ao16 t550.length co16)) (fun _ h_=>h_.1))) (Kd.R_base ho1) hb);have n2_:=Aside0.mk (Kd.R_elder' (by (with_reducible repeat (first|apply Kd.R_alloc|apply Kd.R_drewN|apply Kd.R_drew));exact (Kd.R_mono (Kd.R_far (p:=⟨gb554,2,none⟩) (Kd.R_far (p:=⟨gb554,1,none⟩) (Kd.R_far (p:=⟨gb554,0,none⟩) (Kd.R_types HO549.out BK554.out (by decide)) (fun _ hk=>hk.2) (.int .i64 t546)) (fun _ hk=>hk.2) (.slice Ao15 t547.length co15)) (fun _ hk=>hk.2) (.slice Ao16 t550.length co16)) (fun _ h_=>h_.1))) (Kd.R_base ho0) hb);have n3_:=Aside0.mk (Kd.R_elder' (by (with_reducible repeat (first|apply Kd.R_alloc|apply Kd.R_drewN|apply Kd.R_drew));exact (Kd.R_mono (Kd.R_far (p:=⟨gb554,2,none⟩) (Kd.R_far (p:=⟨gb554,1,none⟩) (Kd.R_far (p:=⟨gb554,0,none⟩) (Kd.R_types HO552.out BK554.out (by decide)) (fun _ hk=>hk.2) (.int .i64 t546)) (fun _ hk=>hk.2) (.slice Ao15 t547.length co15)) (fun _ hk=>hk.2) (.slice Ao16 t550.length co16)) (fun _ h_=>h_.1))) (Kd.R_base ho1) hb);have n4_:=Aside0.mk (Kd.R_lower (Kd.R_new' ho0 (Kd.R_lt (by (with_reducible repeat (first|apply Kd.R_alloc|apply Kd.R_drewN|apply Kd.R_drew));exact (Kd.R_mono (Kd.R_far (p:=⟨gb554,2,none⟩) (Kd.R_far (p:=⟨gb554,1,none⟩) (Kd.R_far (p:=⟨gb554,0,none⟩) (Kd.R_types HO549.out BK554.out (by decide)) (fun _ hk=>hk.2) (.int .i64 t546)) (fun _ hk=>hk.2) (.slice Ao15 t547.length co15)) (fun _ hk=>hk.2) (.slice Ao16 t550.length co16)) (fun _ h_=>h_.1))))) (below_size bs));have n5_:=Aside0.mk (Kd.R_lower (Kd.R_new' (Kd.R_new' (Kd.R_new' ho1 (Kd.R_lt (by (with_reducible repeat (first|apply Kd.R_alloc|apply Kd.R_drewN|apply Kd.R_drew));exact (Kd.R_mono (Kd.R_far (p:=⟨gb554,2,none⟩) (Kd.R_far (p:=⟨gb554,1,none⟩) (Kd.R_far (p:=⟨gb554,0,none⟩) (Kd.R_types HO543.out BK554.out (by decide)) (fun _ hk=>hk.2) (.int .i64 t546)) (fun _ hk=>hk.2) (.slice Ao15 t547.length co15)) (fun _ hk=>hk.2) (.slice Ao16 t550.length co16)) (fun _ h_=>h_.1))))) (Kd.R_lt (by (with_reducible repeat (first|apply Kd.R_alloc|apply Kd.R_drewN|apply Kd.R_drew));exact (Kd.R_mono (Kd.R_far (p:=⟨gb554,2,none⟩) (Kd.R_far (p:=⟨gb554,1,none⟩) (Kd.R_far (p:=⟨gb554,0,none⟩) (Kd.R_types HO545.out BK554.out (by decide)) (fun _ hk=>hk.2) (.int .i64 t546)) (fun _ hk=>hk.2) (.slice Ao15 t547.length co15)) (fun _ hk=>hk.2) (.slice Ao16 t550.length co16)) (fun _ h_=>h_.1))))) (Kd.R_lt (by (with_reducible repeat (first|apply Kd.R_alloc|apply Kd.R_drewN|apply Kd.R_drew));exact (Kd.R_mono (Kd.R_far (p:=⟨gb554,2,none⟩) (Kd.R_far (p:=⟨gb554,1,none⟩) (Kd.R_far (p:=⟨gb554,0,none⟩) (Kd.R_types HO552.out BK554.out (by decide)) (fun _ hk=>hk.2) (.int .i64 t546)) (fun _ hk=>hk.2) (.slice Ao15 t547.length co15)) (fun _ hk=>hk.2) (.slice Ao16 t550.length co16)) (fun _ h_=>h_.1))))) (below_size bs));have n6_:=Aside0.mk (blk_below (g:=gb554) (o:=.cells #[.int .i64 t546,.slice Ao15 t547.length co15,.slice Ao16 t550.length co16] 29 (0,0)) (by (with_reducible repeat (first|refine blk_drewN ?_ _|refine blk_drew ?_|refine blk_alloc ?_ _));refine blk_put (cs:=#[.int .i64 t546,.slice Ao15 t547.length co15,.slice none 0 0]) ?_ 2 _ rfl;(with_reducible repeat (first|refine blk_drewN ?_ _|refine blk_drew ?_|refine blk_alloc ?_ _));refine blk_put (cs:=#[.int .i64 t546,.slice none 0 0,.slice none 0 0]) ?_ 1 _ rfl;(with_reducible repeat (first|refine blk_drewN ?_ _|refine blk_drew ?_|refine blk_alloc ?_ _));refine blk_put (cs:=#[.int .i64 0,.slice none 0 0,.slice none 0 0]) ?_ 0 _ rfl;(with_reducible repeat (first|refine blk_drewN ?_ _|refine blk_drew ?_|refine blk_alloc ?_ _));exact BK554.out) hb);have n7_:=Aside0.mk (below_step bs hb);clear HO543 HO545 HO549 HO552 BK554 HB;have HO543:=n0_;have HO545:=n1_;have HO549:=n2_;have HO552:=n3_;have HO558:=n4_;have HO561:=n5_;have BK554:=n6_;have HB:=n7_;clear n0_ n1_ n2_ n3_ n4_ n5_ n6_ n7_;(try clear hb);(try clear ho0);(try clear ho1))|((with_reducible refine gate_dst (N:=9) rfl ?_);(try (refine gate_guard (by rfl) ?_;dsimp only));refine box_event ?hg (N:=9) ?hd (cs:=#[.int .i64 0,.slice none 0 0,.slice none 0 0]) (t:=29) ?hr ?_;(case hd=>rfl);(case hg=>rfl);(case hr=>first|(go_simp;done)|(go_simp;rfl));intro gb563 hg w18 hbox hb;have n0_:=Aside0.mk (Kd.R_below (rz HO543.out) hb);have n1_:=Aside0.mk (Kd.R_below (rz HO545.out) hb);have n2_:=Aside0.mk (Kd.R_below (rz HO549.out) hb);have n3_:=Aside0.mk (Kd.R_below (rz HO552.out) hb);have n4_:=Aside0.mk (Kd.R_below (rz HO558.out) hb);have n5_:=Aside0.mk (Kd.R_below (rz HO561.out) hb);have n6_:=Aside0.mk (blk_below (g:=gb554) (o:=.cells #[.int .i64 t546,.slice Ao15 t547.length co15,.slice Ao16 t550.length co16] 29 (0,0)) (kz BK554.out) hb);have n7_:=Aside0.mk (below_step bs hb);have n8_:=Aside0.mk (hbox);have n9_:=Aside0.mk ((by rw [hg];exact (below_size bs) : w.heap.size ≤ gb563));have n10_:=Aside0.mk ((by rw [hg];exact (below_size bs) : w.heap.size ≤ gb563));have n11_:=Aside0.mk ((by rw [hg];exact Nat.ne_of_lt (blk_lt (g:=gb554) (o:=.cells #[.int .i64 t546,.slice Ao15 t547.length co15,.slice Ao16 t550.length co16] 29 (0,0)) (kz BK554.out)) : gb554 ≠ gb563));have n12_:=Aside0.mk ((by rw [hg];exact Nat.ne_of_gt (blk_lt (g:=gb554) (o:=.cells #[.int .i64 t546,.slice Ao15 t547.length co15,.slice Ao16 t550.length co16] 29 (0,0)) (kz BK554.out)) : gb563 ≠ gb554));clear HO543 HO545 HO549 HO552 HO558 HO561 BK554 HB;have HO543:=n0_;have HO545:=n1_;have HO549:=n2_;have HO552:=n3_;have HO558:=n4_;have HO561:=n5_;have BK554:=n6_;have HB:=n7_;have BK563:=n8_;have GW563:=n9_;have GE563:=n10_;have NB554_563:=n11_;have NB563_554:=n12_;clear n0_ n1_ n2_ n3_ n4_ n5_ n6_ n7_ n8_ n9_ n10_ n11_ n12_;clear hb hbox hg;have hnb19:=NB563_554.out;have hnc19:=NB554_563.out;have hcz20_0 : w18.cell? ⟨gb563,0,none⟩ = some (.int .i64 0):=(blk_cell BK563.out 0).trans rfl;have hcz20_1 : w18.cell? ⟨gb563,1,none⟩ = some (.slice none 0 0):=(blk_cell BK563.out 1).trans rfl;have hcz20_2 : w18.cell? ⟨gb563,2,none⟩ = some (.slice none 0 0):=(blk_cell BK563.out 2).trans rfl;have hfz20_0:=blk_frozen BK563.out 0;have hfz20_1:=blk_frozen BK563.out 1;have hfz20_2:=blk_frozen BK563.out 2;obtain ⟨Ao21,co21,eo21⟩:=Kd.R_slice HO558.out;subst eo21;obtain ⟨Ao22,co22,eo22⟩:=Kd.R_slice HO561.out;subst eo22))
  repeat (go_quiet (first|(go_at_call 31;(with_reducible refine (laws_big.calls _ _ l0 _ _ l1 false _ ?side1 ?side2 ?side3 ?side4 A3.out).mono ?_);(case side1=>exact cz HR0.out);(case side2=>exact HC0.out);(case side3=>exact cz HR1.out);(case side4=>exact HC1.out);rintro e w' ⟨rfl,⟨nd,rfl⟩⟩;(try first|exact ⟨rfl,_,World.drewN_drewN _ _ _⟩|exact ⟨rfl,_,Eq.trans (World.drewN_drewN _ _ _) (congrArg (World.drewN _) (Nat.add_assoc _ _ _))⟩))|(go_at_call 32;(with_reducible refine (spec_DrawSequencePlan.calls k _ _ l0 t540 t541 _ ?side1 ?side2 A5.out).mono ?_);(case side1=>exact cz HR0.out);(case side2=>exact HC0.out);rintro e w9 ⟨v542,v544,rfl,ho0,ho1,hb⟩;have n0_:=Aside0.mk (Kd.R_lower ho0 (below_size bz));have n1_:=Aside0.mk (Kd.R_lower ho1 (below_size bz));have n2_:=Aside0.mk (below_step bz hb);clear HB;have HO543:=n0_;have HO545:=n1_;have HB:=n2_;clear n0_ n1_ n2_;(try clear hb);(try clear ho0);(try clear ho1);obtain ⟨Ao10,co10,eo10⟩:=Kd.R_slice HO543.out;subst eo10;obtain ⟨Ao11,co11,eo11⟩:=Kd.R_slice HO545.out;subst eo11)|(go_at_call 19;(with_reducible refine (impl_SequencePlan.calls k _ _ t540 _ _ t541 t546 t547 t550 t553 _ ?side1 ?side2 ?side3 ?side4 A6.out).mono ?_);(case side1=>exact cz (Kd.R_reads' HO543.out).2.2);(case side2=>exact (Kd.R_reads' HO543.out).2.1);(case side3=>exact cz (Kd.R_reads' HO545.out).2.2);(case side4=>exact (Kd.R_reads' HO545.out).2.1);rintro e w12 ⟨v548,v551,rfl,ho0,ho1,hb⟩;have n0_:=Aside0.mk (Kd.R_elder' (rz HO543.out) (Kd.R_base ho1) hb);have n1_:=Aside0.mk (Kd.R_elder' (rz HO545.out) (Kd.R_base ho1) hb);have n2_:=Aside0.mk (Kd.R_lower ho0 (below_size bz));have n3_:=Aside0.mk (Kd.R_lower (Kd.R_new' (Kd.R_new' ho1 (Kd.R_lt (rz HO543.out))) (Kd.R_lt (rz HO545.out))) (below_size bz));have n4_:=Aside0.mk (below_step bz hb);clear HO543 HO545 HB;have HO543:=n0_;have HO545:=n1_;have HO549:=n2_;have HO552:=n3_;have HB:=n4_;clear n0_ n1_ n2_ n3_ n4_;(try clear hb);(try clear ho0);(try clear ho1))|((with_reducible refine gate_dst (N:=7) rfl ?_);(try (refine gate_guard (by rfl) ?_;dsimp only));refine box_event ?hg (N:=7) ?hd (cs:=#[.int .i64 0,.slice none 0 0,.slice none 0 0]) (t:=29) ?hr ?_;(case hd=>rfl);(case hg=>rfl);(case hr=>first|(go_simp;done)|(go_simp;rfl));intro gb554 hg w13 hbox hb;have n0_:=Aside0.mk (Kd.R_below (rz HO543.out) hb);have n1_:=Aside0.mk (Kd.R_below (rz HO545.out) hb);have n2_:=Aside0.mk (Kd.R_below (rz HO549.out) hb);have n3_:=Aside0.mk (Kd.R_below (rz HO552.out) hb);have n4_:=Aside0.mk (below_step bz hb);have n5_:=Aside0.mk (hbox);have n6_:=Aside0.mk ((by rw [hg];exact (below_size bz) : w.heap.size ≤ gb554));have n7_:=Aside0.mk ((by rw [hg];exact (below_size bz) : w.heap.size ≤ gb554));clear HO543 HO545 HO549 HO552 HB;have HO543:=n0_;have HO545:=n1_;have HO549:=n2_;have HO552:=n3_;have HB:=n4_;have BK554:=n5_;have GW554:=n6_;have GE554:=n7_;clear n0_ n1_ n2_ n3_ n4_ n5_ n6_ n7_;clear hb hbox hg;have hcz14_0 : w13.cell? ⟨gb554,0,none⟩ = some (.int .i64 0):=(blk_cell BK554.out 0).trans rfl;have hcz14_1 : w13.cell? ⟨gb554,1,none⟩ = some (.slice none 0 0):=(blk_cell BK554.out 1).trans rfl;have hcz14_2 : w13.cell? ⟨gb554,2,none⟩ = some (.slice none 0 0):=(blk_cell BK554.out 2).trans rfl;have hfz14_0:=blk_frozen BK554.out 0;have hfz14_1:=blk_frozen BK554.out 1;have hfz14_2:=blk_frozen BK554.out 2;obtain ⟨Ao15,co15,eo15⟩:=Kd.R_slice HO549.out;subst eo15;obtain ⟨Ao16,co16,eo16⟩:=Kd.R_slice HO552.out;subst eo16)|(go_at_call 17;(with_reducible refine (spec_SequencePlan.calls k _ _ t540 _ _ t541 t555 t556 t559 t562 _ ?side1 ?side2 ?side3 ?side4 A7.out).mono ?_);(case side1=>refine (Kd.R_reads' (e:=3) (base:=w.heap.size) (ok:=fun k_=>(some k_ ≠ (.slice Ao11 t541.length co11 : Value).ownBlock ∧ some k_ ≠ (.slice Ao16 t550.length co16 : Value).ownBlock)) (n:=t540.length) (c:=co10) ?_).2.2;exact (by (with_reducible repeat (first|apply Kd.R_alloc|apply Kd.R_drewN|apply Kd.R_drew));exact (Kd.R_mono (Kd.R_far (p:=⟨gb554,2,none⟩) (Kd.R_far (p:=⟨gb554,1,none⟩) (Kd.R_far (p:=⟨gb554,0,none⟩) (Kd.R_types HO543.out BK554.out (by decide)) (fun _ hk=>hk.2) (.int .i64 t546)) (fun _ hk=>hk.2) (.slice Ao15 t547.length co15)) (fun _ hk=>hk.2) (.slice Ao16 t550.length co16)) (fun _ h_=>h_.1))));(case side2=>exact (Kd.R_reads' HO543.out).2.1);(case side3=>refine (Kd.R_reads' (e:=3) (base:=w.heap.size) (ok:=fun k_=>(some k_ ≠ (.slice Ao10 t540.length co10 : Value).ownBlock ∧ some k_ ≠ (.slice Ao16 t550.length co16 : Value).ownBlock)) (n:=t541.length) (c:=co11) ?_).2.2;exact (by (with_reducible repeat (first|apply Kd.R_alloc|apply Kd.R_drewN|apply Kd.R_drew));exact (Kd.R_mono (Kd.R_far (p:=⟨gb554,2,none⟩) (Kd.R_far (p:=⟨gb554,1,none⟩) (Kd.R_far (p:=⟨gb554,0,none⟩) (Kd.R_types HO545.out BK554.out (by decide)) (fun _ hk=>hk.2) (.int .i64 t546)) (fun _ hk=>hk.2) (.slice Ao15 t547.length co15)) (fun _ hk=>hk.2) (.slice Ao16 t550.length co16)) (fun _ h_=>h_.1))));(case side4=>exact (Kd.R_reads' HO545.out).2.1);rintro e w17 ⟨v557,v560,rfl,ho0,ho1,hb⟩;have n0_:=Aside0.mk (Kd.R_elder' (by (with_reducible repeat (first|apply Kd.R_alloc|apply Kd.R_drewN|apply Kd.R_drew));exact (Kd.R_mono (Kd.R_far (p:=⟨gb554,2,none⟩) (Kd.R_far (p:=⟨gb554,1,none⟩) (Kd.R_far (p:=⟨gb554,0,none⟩) (Kd.R_types HO543.out BK554.out (by decide)) (fun _ hk=>hk.2) (.int .i64 t546)) (fun _ hk=>hk.2) (.slice Ao15 t547.length co15)) (fun _ hk=>hk.2) (.slice Ao16 t550.length co16)) (fun _ h_=>h_.1))) (Kd.R_base ho1) hb);have n1_:=Aside0.mk (Kd.R_elder' (by (with_reducible repeat (first|apply Kd.R_alloc|apply Kd.R_drewN|apply Kd.R_drew));exact (Kd.R_mono (Kd.R_far (p:=⟨gb554,2,none⟩) (Kd.R_far (p:=⟨gb554,1,none⟩) (Kd.R_far (p:=⟨gb554,0,none⟩) (Kd.R_types HO545.out BK554.out (by decide)) (fun _ hk=>hk.2) (.int .i64 t546)) (fun _ hk=>hk.2) (.slice Ao15 t547.length co15)) (fun _ hk=>hk.2) (.slice Ao16 t550.length co16)) (fun _ h_=>h_.1))) (Kd.R_base ho1) hb);have n2_:=Aside0.mk (Kd.R_elder' (by (with_reducible repeat (first|apply Kd.R_alloc|apply Kd.R_drewN|apply Kd.R_drew));exact (Kd.R_mono (Kd.R_far (p:=⟨gb554,2,none⟩) (Kd.R_far (p:=⟨gb554,1,none⟩) (Kd.R_far (p:=⟨gb554,0,none⟩) (Kd.R_types HO549.out BK554.out (by decide)) (fun _ hk=>hk.2) (.int .i64 t546)) (fun _ hk=>hk.2) (.slice Ao15 t547.length co15)) (fun _ hk=>hk.2) (.slice Ao16 t550.length co16)) (fun _ h_=>h_.1))) (Kd.R_base ho0) hb);have n3_:=Aside0.mk (Kd.R_elder' (by (with_reducible repeat (first|apply Kd.R_alloc|apply Kd.R_drewN|apply Kd.R_drew));exact (Kd.R_mono (Kd.R_far (p:=⟨gb554,2,none⟩) (Kd.R_far (p:=⟨gb554,1,none⟩) (Kd.R_far (p:=⟨gb554,0,none⟩) (Kd.R_types HO552.out BK554.out (by decide)) (fun _ hk=>hk.2) (.int .i64 t546)) (fun _ hk=>hk.2) (.slice Ao15 t547.length co15)) (fun _ hk=>hk.2) (.slice Ao16 t550.length co16)) (fun _ h_=>h_.1))) (Kd.R_base ho1) hb);have n4_:=Aside0.mk (Kd.R_lower (Kd.R_new' ho0 (Kd.R_lt (by (with_reducible repeat (first|apply Kd.R_alloc|apply Kd.R_drewN|apply Kd.R_drew));exact (Kd.R_mono (Kd.R_far (p:=⟨gb554,2,none⟩) (Kd.R_far (p:=⟨gb554,1,none⟩) (Kd.R_far (p:=⟨gb554,0,none⟩) (Kd.R_types HO549.out BK554.out (by decide)) (fun _ hk=>hk.2) (.int .i64 t546)) (fun _ hk=>hk.2) (.slice Ao15 t547.length co15)) (fun _ hk=>hk.2) (.slice Ao16 t550.length co16)) (fun _ h_=>h_.1))))) (below_size bs));have n5_:=Aside0.mk (Kd.R_lower (Kd.R_new' (Kd.R_new' (Kd.R_new' ho1 (Kd.R_lt (by (with_reducible repeat (first|apply Kd.R_alloc|apply Kd.R_drewN|apply Kd.R_drew));exact (Kd.R_mono (Kd.R_far (p:=⟨gb554,2,none⟩) (Kd.R_far (p:=⟨gb554,1,none⟩) (Kd.R_far (p:=⟨gb554,0,none⟩) (Kd.R_types HO543.out BK554.out (by decide)) (fun _ hk=>hk.2) (.int .i64 t546)) (fun _ hk=>hk.2) (.slice Ao15 t547.length co15)) (fun _ hk=>hk.2) (.slice Ao16 t550.length co16)) (fun _ h_=>h_.1))))) (Kd.R_lt (by (with_reducible repeat (first|apply Kd.R_alloc|apply Kd.R_drewN|apply Kd.R_drew));exact (Kd.R_mono (Kd.R_far (p:=⟨gb554,2,none⟩) (Kd.R_far (p:=⟨gb554,1,none⟩) (Kd.R_far (p:=⟨gb554,0,none⟩) (Kd.R_types HO545.out BK554.out (by decide)) (fun _ hk=>hk.2) (.int .i64 t546)) (fun _ hk=>hk.2) (.slice Ao15 t547.length co15)) (fun _ hk=>hk.2) (.slice Ao16 t550.length co16)) (fun _ h_=>h_.1))))) (Kd.R_lt (by (with_reducible repeat (first|apply Kd.R_alloc|apply Kd.R_drewN|apply Kd.R_drew));exact (Kd.R_mono (Kd.R_far (p:=⟨gb554,2,none⟩) (Kd.R_far (p:=⟨gb554,1,none⟩) (Kd.R_far (p:=⟨gb554,0,none⟩) (Kd.R_types HO552.out BK554.out (by decide)) (fun _ hk=>hk.2) (.int .i64 t546)) (fun _ hk=>hk.2) (.slice Ao15 t547.length co15)) (fun _ hk=>hk.2) (.slice Ao16 t550.length co16)) (fun _ h_=>h_.1))))) (below_size bs));have n6_:=Aside0.mk (blk_below (g:=gb554) (o:=.cells #[.int .i64 t546,.slice Ao15 t547.length co15,.slice Ao16 t550.length co16] 29 (0,0)) (by (with_reducible repeat (first|refine blk_drewN ?_ _|refine blk_drew ?_|refine blk_alloc ?_ _));refine blk_put (cs:=#[.int .i64 t546,.slice Ao15 t547.length co15,.slice none 0 0]) ?_ 2 _ rfl;(with_reducible repeat (first|refine blk_drewN ?_ _|refine blk_drew ?_|refine blk_alloc ?_ _));refine blk_put (cs:=#[.int .i64 t546,.slice none 0 0,.slice none 0 0]) ?_ 1 _ rfl;(with_reducible repeat (first|refine blk_drewN ?_ _|refine blk_drew ?_|refine blk_alloc ?_ _));refine blk_put (cs:=#[.int .i64 0,.slice none 0 0,.slice none 0 0]) ?_ 0 _ rfl;(with_reducible repeat (first|refine blk_drewN ?_ _|refine blk_drew ?_|refine blk_alloc ?_ _));exact BK554.out) hb);have n7_:=Aside0.mk (below_step bs hb);clear HO543 HO545 HO549 HO552 BK554 HB;have HO543:=n0_;have HO545:=n1_;have HO549:=n2_;have HO552:=n3_;have HO558:=n4_;have HO561:=n5_;have BK554:=n6_;have HB:=n7_;clear n0_ n1_ n2_ n3_ n4_ n5_ n6_ n7_;(try clear hb);(try clear ho0);(try clear ho1))|((with_reducible refine gate_dst (N:=9) rfl ?_);(try (refine gate_guard (by rfl) ?_;dsimp only));refine box_event ?hg (N:=9) ?hd (cs:=#[.int .i64 0,.slice none 0 0,.slice none 0 0]) (t:=29) ?hr ?_;(case hd=>rfl);(case hg=>rfl);(case hr=>first|(go_simp;done)|(go_simp;rfl));intro gb563 hg w18 hbox hb;have n0_:=Aside0.mk (Kd.R_below (rz HO543.out) hb);have n1_:=Aside0.mk (Kd.R_below (rz HO545.out) hb);have n2_:=Aside0.mk (Kd.R_below (rz HO549.out) hb);have n3_:=Aside0.mk (Kd.R_below (rz HO552.out) hb);have n4_:=Aside0.mk (Kd.R_below (rz HO558.out) hb);have n5_:=Aside0.mk (Kd.R_below (rz HO561.out) hb);have n6_:=Aside0.mk (blk_below (g:=gb554) (o:=.cells #[.int .i64 t546,.slice Ao15 t547.length co15,.slice Ao16 t550.length co16] 29 (0,0)) (kz BK554.out) hb);have n7_:=Aside0.mk (below_step bs hb);have n8_:=Aside0.mk (hbox);have n9_:=Aside0.mk ((by rw [hg];exact (below_size bs) : w.heap.size ≤ gb563));have n10_:=Aside0.mk ((by rw [hg];exact (below_size bs) : w.heap.size ≤ gb563));have n11_:=Aside0.mk ((by rw [hg];exact Nat.ne_of_lt (blk_lt (g:=gb554) (o:=.cells #[.int .i64 t546,.slice Ao15 t547.length co15,.slice Ao16 t550.length co16] 29 (0,0)) (kz BK554.out)) : gb554 ≠ gb563));have n12_:=Aside0.mk ((by rw [hg];exact Nat.ne_of_gt (blk_lt (g:=gb554) (o:=.cells #[.int .i64 t546,.slice Ao15 t547.length co15,.slice Ao16 t550.length co16] 29 (0,0)) (kz BK554.out)) : gb563 ≠ gb554));clear HO543 HO545 HO549 HO552 HO558 HO561 BK554 HB;have HO543:=n0_;have HO545:=n1_;have HO549:=n2_;have HO552:=n3_;have HO558:=n4_;have HO561:=n5_;have BK554:=n6_;have HB:=n7_;have BK563:=n8_;have GW563:=n9_;have GE563:=n10_;have NB554_563:=n11_;have NB563_554:=n12_;clear n0_ n1_ n2_ n3_ n4_ n5_ n6_ n7_ n8_ n9_ n10_ n11_ n12_;clear hb hbox hg;have hnb19:=NB563_554.out;have hnc19:=NB554_563.out;have hcz20_0 : w18.cell? ⟨gb563,0,none⟩ = some (.int .i64 0):=(blk_cell BK563.out 0).trans rfl;have hcz20_1 : w18.cell? ⟨gb563,1,none⟩ = some (.slice none 0 0):=(blk_cell BK563.out 1).trans rfl;have hcz20_2 : w18.cell? ⟨gb563,2,none⟩ = some (.slice none 0 0):=(blk_cell BK563.out 2).trans rfl;have hfz20_0:=blk_frozen BK563.out 0;have hfz20_1:=blk_frozen BK563.out 1;have hfz20_2:=blk_frozen BK563.out 2;obtain ⟨Ao21,co21,eo21⟩:=Kd.R_slice HO558.out;subst eo21;obtain ⟨Ao22,co22,eo22⟩:=Kd.R_slice HO561.out;subst eo22));go_upto_region 6 with (first|(go_at_call 31;(with_reducible refine (laws_big.calls _ _ l0 _ _ l1 false _ ?side1 ?side2 ?side3 ?side4 A3.out).mono ?_);(case side1=>exact cz HR0.out);(case side2=>exact HC0.out);(case side3=>exact cz HR1.out);(case side4=>exact HC1.out);rintro e w' ⟨rfl,⟨nd,rfl⟩⟩;(try first|exact ⟨rfl,_,World.drewN_drewN _ _ _⟩|exact ⟨rfl,_,Eq.trans (World.drewN_drewN _ _ _) (congrArg (World.drewN _) (Nat.add_assoc _ _ _))⟩))|(go_at_call 32;(with_reducible refine (spec_DrawSequencePlan.calls k _ _ l0 t540 t541 _ ?side1 ?side2 A5.out).mono ?_);(case side1=>exact cz HR0.out);(case side2=>exact HC0.out);rintro e w9 ⟨v542,v544,rfl,ho0,ho1,hb⟩;have n0_:=Aside0.mk (Kd.R_lower ho0 (below_size bz));have n1_:=Aside0.mk (Kd.R_lower ho1 (below_size bz));have n2_:=Aside0.mk (below_step bz hb);clear HB;have HO543:=n0_;have HO545:=n1_;have HB:=n2_;clear n0_ n1_ n2_;(try clear hb);(try clear ho0);(try clear ho1);obtain ⟨Ao10,co10,eo10⟩:=Kd.R_slice HO543.out;subst eo10;obtain ⟨Ao11,co11,eo11⟩:=Kd.R_slice HO545.out;subst eo11)|(go_at_call 19;(with_reducible refine (impl_SequencePlan.calls k _ _ t540 _ _ t541 t546 t547 t550 t553 _ ?side1 ?side2 ?side3 ?side4 A6.out).mono ?_);(case side1=>exact cz (Kd.R_reads' HO543.out).2.2);(case side2=>exact (Kd.R_reads' HO543.out).2.1);(case side3=>exact cz (Kd.R_reads' HO545.out).2.2);(case side4=>exact (Kd.R_reads' HO545.out).2.1);rintro e w12 ⟨v548,v551,rfl,ho0,ho1,hb⟩;have n0_:=Aside0.mk (Kd.R_elder' (rz HO543.out) (Kd.R_base ho1) hb);have n1_:=Aside0.mk (Kd.R_elder' (rz HO545.out) (Kd.R_base ho1) hb);have n2_:=Aside0.mk (Kd.R_lower ho0 (below_size bz));have n3_:=Aside0.mk (Kd.R_lower (Kd.R_new' (Kd.R_new' ho1 (Kd.R_lt (rz HO543.out))) (Kd.R_lt (rz HO545.out))) (below_size bz));have n4_:=Aside0.mk (below_step bz hb);clear HO543 HO545 HB;have HO543:=n0_;have HO545:=n1_;have HO549:=n2_;have HO552:=n3_;have HB:=n4_;clear n0_ n1_ n2_ n3_ n4_;(try clear hb);(try clear ho0);(try clear ho1))|((with_reducible refine gate_dst (N:=7) rfl ?_);(try (refine gate_guard (by rfl) ?_;dsimp only));refine box_event ?hg (N:=7) ?hd (cs:=#[.int .i64 0,.slice none 0 0,.slice none 0 0]) (t:=29) ?hr ?_;(case hd=>rfl);(case hg=>rfl);(case hr=>first|(go_simp;done)|(go_simp;rfl));intro gb554 hg w13 hbox hb;have n0_:=Aside0.mk (Kd.R_below (rz HO543.out) hb);have n1_:=Aside0.mk (Kd.R_below (rz HO545.out) hb);have n2_:=Aside0.mk (Kd.R_below (rz HO549.out) hb);have n3_:=Aside0.mk (Kd.R_below (rz HO552.out) hb);have n4_:=Aside0.mk (below_step bz hb);have n5_:=Aside0.mk (hbox);have n6_:=Aside0.mk ((by rw [hg];exact (below_size bz) : w.heap.size ≤ gb554));have n7_:=Aside0.mk ((by rw [hg];exact (below_size bz) : w.heap.size ≤ gb554));clear HO543 HO545 HO549 HO552 HB;have HO543:=n0_;have HO545:=n1_;have HO549:=n2_;have HO552:=n3_;have HB:=n4_;have BK554:=n5_;have GW554:=n6_;have GE554:=n7_;clear n0_ n1_ n2_ n3_ n4_ n5_ n6_ n7_;clear hb hbox hg;have hcz14_0 : w13.cell? ⟨gb554,0,none⟩ = some (.int .i64 0):=(blk_cell BK554.out 0).trans rfl;have hcz14_1 : w13.cell? ⟨gb554,1,none⟩ = some (.slice none 0 0):=(blk_cell BK554.out 1).trans rfl;have hcz14_2 : w13.cell? ⟨gb554,2,none⟩ = some (.slice none 0 0):=(blk_cell BK554.out 2).trans rfl;have hfz14_0:=blk_frozen BK554.out 0;have hfz14_1:=blk_frozen BK554.out 1;have hfz14_2:=blk_frozen BK554.out 2;obtain ⟨Ao15,co15,eo15⟩:=Kd.R_slice HO549.out;subst eo15;obtain ⟨Ao16,co16,eo16⟩:=Kd.R_slice HO552.out;subst eo16)|(go_at_call 17;(with_reducible refine (spec_SequencePlan.calls k _ _ t540 _ _ t541 t555 t556 t559 t562 _ ?side1 ?side2 ?side3 ?side4 A7.out).mono ?_);(case side1=>refine (Kd.R_reads' (e:=3) (base:=w.heap.size) (ok:=fun k_=>(some k_ ≠ (.slice Ao11 t541.length co11 : Value).ownBlock ∧ some k_ ≠ (.slice Ao16 t550.length co16 : Value).ownBlock)) (n:=t540.length) (c:=co10) ?_).2.2;exact (by (with_reducible repeat (first|apply Kd.R_alloc|apply Kd.R_drewN|apply Kd.R_drew));exact (Kd.R_mono (Kd.R_far (p:=⟨gb554,2,none⟩) (Kd.R_far (p:=⟨gb554,1,none⟩) (Kd.R_far (p:=⟨gb554,0,none⟩) (Kd.R_types HO543.out BK554.out (by decide)) (fun _ hk=>hk.2) (.int .i64 t546)) (fun _ hk=>hk.2) (.slice Ao15 t547.length co15)) (fun _ hk=>hk.2) (.slice Ao16 t550.length co16)) (fun _ h_=>h_.1))));(case side2=>exact (Kd.R_reads' HO543.out).2.1);(case side3=>refine (Kd.R_reads' (e:=3) (base:=w.heap.size) (ok:=fun k_=>(some k_ ≠ (.slice Ao10 t540.length co10 : Value).ownBlock ∧ some k_ ≠ (.slice Ao16 t550.length co16 : Value).ownBlock)) (n:=t541.length) (c:=co11) ?_).2.2;exact (by (with_reducible repeat (first|apply Kd.R_alloc|apply Kd.R_drewN|apply Kd.R_drew));exact (Kd.R_mono (Kd.R_far (p:=⟨gb554,2,none⟩) (Kd.R_far (p:=⟨gb554,1,none⟩) (Kd.R_far (p:=⟨gb554,0,none⟩) (Kd.R_types HO545.out BK554.out (by decide)) (fun _ hk=>hk.2) (.int .i64 t546)) (fun _ hk=>hk.2) (.slice Ao15 t547.length co15)) (fun _ hk=>hk.2) (.slice Ao16 t550.length co16)) (fun _ h_=>h_.1))));(case side4=>exact (Kd.R_reads' HO545.out).2.1);rintro e w17 ⟨v557,v560,rfl,ho0,ho1,hb⟩;have n0_:=Aside0.mk (Kd.R_elder' (by (with_reducible repeat (first|apply Kd.R_alloc|apply Kd.R_drewN|apply Kd.R_drew));exact (Kd.R_mono (Kd.R_far (p:=⟨gb554,2,none⟩) (Kd.R_far (p:=⟨gb554,1,none⟩) (Kd.R_far (p:=⟨gb554,0,none⟩) (Kd.R_types HO543.out BK554.out (by decide)) (fun _ hk=>hk.2) (.int .i64 t546)) (fun _ hk=>hk.2) (.slice Ao15 t547.length co15)) (fun _ hk=>hk.2) (.slice Ao16 t550.length co16)) (fun _ h_=>h_.1))) (Kd.R_base ho1) hb);have n1_:=Aside0.mk (Kd.R_elder' (by (with_reducible repeat (first|apply Kd.R_alloc|apply Kd.R_drewN|apply Kd.R_drew));exact (Kd.R_mono (Kd.R_far (p:=⟨gb554,2,none⟩) (Kd.R_far (p:=⟨gb554,1,none⟩) (Kd.R_far (p:=⟨gb554,0,none⟩) (Kd.R_types HO545.out BK554.out (by decide)) (fun _ hk=>hk.2) (.int .i64 t546)) (fun _ hk=>hk.2) (.slice Ao15 t547.length co15)) (fun _ hk=>hk.2) (.slice Ao16 t550.length co16)) (fun _ h_=>h_.1))) (Kd.R_base ho1) hb);have n2_:=Aside0.mk (Kd.R_elder' (by (with_reducible repeat (first|apply Kd.R_alloc|apply Kd.R_drewN|apply Kd.R_drew));exact (Kd.R_mono (Kd.R_far (p:=⟨gb554,2,none⟩) (Kd.R_far (p:=⟨gb554,1,none⟩) (Kd.R_far (p:=⟨gb554,0,none⟩) (Kd.R_types HO549.out BK554.out (by decide)) (fun _ hk=>hk.2) (.int .i64 t546)) (fun _ hk=>hk.2) (.slice Ao15 t547.length co15)) (fun _ hk=>hk.2) (.slice Ao16 t550.length co16)) (fun _ h_=>h_.1))) (Kd.R_base ho0) hb);have n3_:=Aside0.mk (Kd.R_elder' (by (with_reducible repeat (first|apply Kd.R_alloc|apply Kd.R_drewN|apply Kd.R_drew));exact (Kd.R_mono (Kd.R_far (p:=⟨gb554,2,none⟩) (Kd.R_far (p:=⟨gb554,1,none⟩) (Kd.R_far (p:=⟨gb554,0,none⟩) (Kd.R_types HO552.out BK554.out (by decide)) (fun _ hk=>hk.2) (.int .i64 t546)) (fun _ hk=>hk.2) (.slice Ao15 t547.length co15)) (fun _ hk=>hk.2) (.slice Ao16 t550.length co16)) (fun _ h_=>h_.1))) (Kd.R_base ho1) hb);have n4_:=Aside0.mk (Kd.R_lower (Kd.R_new' ho0 (Kd.R_lt (by (with_reducible repeat (first|apply Kd.R_alloc|apply Kd.R_drewN|apply Kd.R_drew));exact (Kd.R_mono (Kd.R_far (p:=⟨gb554,2,none⟩) (Kd.R_far (p:=⟨gb554,1,none⟩) (Kd.R_far (p:=⟨gb554,0,none⟩) (Kd.R_types HO549.out BK554.out (by decide)) (fun _ hk=>hk.2) (.int .i64 t546)) (fun _ hk=>hk.2) (.slice Ao15 t547.length co15)) (fun _ hk=>hk.2) (.slice Ao16 t550.length co16)) (fun _ h_=>h_.1))))) (below_size bs));have n5_:=Aside0.mk (Kd.R_lower (Kd.R_new' (Kd.R_new' (Kd.R_new' ho1 (Kd.R_lt (by (with_reducible repeat (first|apply Kd.R_alloc|apply Kd.R_drewN|apply Kd.R_drew));exact (Kd.R_mono (Kd.R_far (p:=⟨gb554,2,none⟩) (Kd.R_far (p:=⟨gb554,1,none⟩) (Kd.R_far (p:=⟨gb554,0,none⟩) (Kd.R_types HO543.out BK554.out (by decide)) (fun _ hk=>hk.2) (.int .i64 t546)) (fun _ hk=>hk.2) (.slice Ao15 t547.length co15)) (fun _ hk=>hk.2) (.slice Ao16 t550.length co16)) (fun _ h_=>h_.1))))) (Kd.R_lt (by (with_reducible repeat (first|apply Kd.R_alloc|apply Kd.R_drewN|apply Kd.R_drew));exact (Kd.R_mono (Kd.R_far (p:=⟨gb554,2,none⟩) (Kd.R_far (p:=⟨gb554,1,none⟩) (Kd.R_far (p:=⟨gb554,0,none⟩) (Kd.R_types HO545.out BK554.out (by decide)) (fun _ hk=>hk.2) (.int .i64 t546)) (fun _ hk=>hk.2) (.slice Ao15 t547.length co15)) (fun _ hk=>hk.2) (.slice Ao16 t550.length co16)) (fun _ h_=>h_.1))))) (Kd.R_lt (by (with_reducible repeat (first|apply Kd.R_alloc|apply Kd.R_drewN|apply Kd.R_drew));exact (Kd.R_mono (Kd.R_far (p:=⟨gb554,2,none⟩) (Kd.R_far (p:=⟨gb554,1,none⟩) (Kd.R_far (p:=⟨gb554,0,none⟩) (Kd.R_types HO552.out BK554.out (by decide)) (fun _ hk=>hk.2) (.int .i64 t546)) (fun _ hk=>hk.2) (.slice Ao15 t547.length co15)) (fun _ hk=>hk.2) (.slice Ao16 t550.length co16)) (fun _ h_=>h_.1))))) (below_size bs));have n6_:=Aside0.mk (blk_below (g:=gb554) (o:=.cells #[.int .i64 t546,.slice Ao15 t547.length co15,.slice Ao16 t550.length co16] 29 (0,0)) (by (with_reducible repeat (first|refine blk_drewN ?_ _|refine blk_drew ?_|refine blk_alloc ?_ _));refine blk_put (cs:=#[.int .i64 t546,.slice Ao15 t547.length co15,.slice none 0 0]) ?_ 2 _ rfl;(with_reducible repeat (first|refine blk_drewN ?_ _|refine blk_drew ?_|refine blk_alloc ?_ _));refine blk_put (cs:=#[.int .i64 t546,.slice none 0 0,.slice none 0 0]) ?_ 1 _ rfl;(with_reducible repeat (first|refine blk_drewN ?_ _|refine blk_drew ?_|refine blk_alloc ?_ _));refine blk_put (cs:=#[.int .i64 0,.slice none 0 0,.slice none 0 0]) ?_ 0 _ rfl;(with_reducible repeat (first|refine blk_drewN ?_ _|refine blk_drew ?_|refine blk_alloc ?_ _));exact BK554.out) hb);have n7_:=Aside0.mk (below_step bs hb);clear HO543 HO545 HO549 HO552 BK554 HB;have HO543:=n0_;have HO545:=n1_;have HO549:=n2_;have HO552:=n3_;have HO558:=n4_;have HO561:=n5_;have BK554:=n6_;have HB:=n7_;clear n0_ n1_ n2_ n3_ n4_ n5_ n6_ n7_;(try clear hb);(try clear ho0);(try clear ho1))|((with_reducible refine gate_dst (N:=9) rfl ?_);(try (refine gate_guard (by rfl) ?_;dsimp only));refine box_event ?hg (N:=9) ?hd (cs:=#[.int .i64 0,.slice none 0 0,.slice none 0 0]) (t:=29) ?hr ?_;(case hd=>rfl);(case hg=>rfl);(case hr=>first|(go_simp;done)|(go_simp;rfl));intro gb563 hg w18 hbox hb;have n0_:=Aside0.mk (Kd.R_below (rz HO543.out) hb);have n1_:=Aside0.mk (Kd.R_below (rz HO545.out) hb);have n2_:=Aside0.mk (Kd.R_below (rz HO549.out) hb);have n3_:=Aside0.mk (Kd.R_below (rz HO552.out) hb);have n4_:=Aside0.mk (Kd.R_below (rz HO558.out) hb);have n5_:=Aside0.mk (Kd.R_below (rz HO561.out) hb);have n6_:=Aside0.mk (blk_below (g:=gb554) (o:=.cells #[.int .i64 t546,.slice Ao15 t547.length co15,.slice Ao16 t550.length co16] 29 (0,0)) (kz BK554.out) hb);have n7_:=Aside0.mk (below_step bs hb);have n8_:=Aside0.mk (hbox);have n9_:=Aside0.mk ((by rw [hg];exact (below_size bs) : w.heap.size ≤ gb563));have n10_:=Aside0.mk ((by rw [hg];exact (below_size bs) : w.heap.size ≤ gb563));have n11_:=Aside0.mk ((by rw [hg];exact Nat.ne_of_lt (blk_lt (g:=gb554) (o:=.cells #[.int .i64 t546,.slice Ao15 t547.length co15,.slice Ao16 t550.length co16] 29 (0,0)) (kz BK554.out)) : gb554 ≠ gb563));have n12_:=Aside0.mk ((by rw [hg];exact Nat.ne_of_gt (blk_lt (g:=gb554) (o:=.cells #[.int .i64 t546,.slice Ao15 t547.length co15,.slice Ao16 t550.length co16] 29 (0,0)) (kz BK554.out)) : gb563 ≠ gb554));clear HO543 HO545 HO549 HO552 HO558 HO561 BK554 HB;have HO543:=n0_;have HO545:=n1_;have HO549:=n2_;have HO552:=n3_;have HO558:=n4_;have HO561:=n5_;have BK554:=n6_;have HB:=n7_;have BK563:=n8_;have GW563:=n9_;have GE563:=n10_;have NB554_563:=n11_;have NB563_554:=n12_;clear n0_ n1_ n2_ n3_ n4_ n5_ n6_ n7_ n8_ n9_ n10_ n11_ n12_;clear hb hbox hg;have hnb19:=NB563_554.out;have hnc19:=NB554_563.out;have hcz20_0 : w18.cell? ⟨gb563,0,none⟩ = some (.int .i64 0):=(blk_cell BK563.out 0).trans rfl;have hcz20_1 : w18.cell? ⟨gb563,1,none⟩ = some (.slice none 0 0):=(blk_cell BK563.out 1).trans rfl;have hcz20_2 : w18.cell? ⟨gb563,2,none⟩ = some (.slice none 0 0):=(blk_cell BK563.out 2).trans rfl;have hfz20_0:=blk_frozen BK563.out 0;have hfz20_1:=blk_frozen BK563.out 1;have hfz20_2:=blk_frozen BK563.out 2;obtain ⟨Ao21,co21,eo21⟩:=Kd.R_slice HO558.out;subst eo21;obtain ⟨Ao22,co22,eo22⟩:=Kd.R_slice HO561.out;subst eo22)))
  (try simp only [Act.put,List.setIfInBounds_toArray,List.set_cons_zero,List.set_cons_succ])
  go_cut [45] (fun v45 wc=>∃ (kq : Nat) (x45_7 : Bool),v45 = .bool x45_7 ∧ Aside0 (laws_FnSequences.j0 kq t540 t541 t562 x45_7 t546 t547 t550 = some r) ∧ Aside0 (kq ≤ k) ∧ Aside0 (Kd.R (Kd.int .i64) 3 wc w.heap.size (fun k_=>some k_ ≠ ((.slice Ao11 t541.length co11) : Value).ownBlock ∧ some k_ ≠ ((.slice Ao16 t550.length co16) : Value).ownBlock ∧ some k_ ≠ ((.slice Ao22 t559.length co22) : Value).ownBlock) (.slice Ao10 t540.length co10) t540) ∧ Aside0 (Kd.R (Kd.int .i64) 3 wc w.heap.size (fun k_=>some k_ ≠ ((.slice Ao10 t540.length co10) : Value).ownBlock ∧ some k_ ≠ ((.slice Ao16 t550.length co16) : Value).ownBlock ∧ some k_ ≠ ((.slice Ao22 t559.length co22) : Value).ownBlock) (.slice Ao11 t541.length co11) t541) ∧ Aside0 (Kd.R k73 73 wc w.heap.size (fun k_=>some k_ ≠ ((.slice Ao21 t556.length co21) : Value).ownBlock) (.slice Ao15 t547.length co15) t547) ∧ Aside0 (Kd.R (Kd.int .i64) 3 wc w.heap.size (fun k_=>some k_ ≠ ((.slice Ao10 t540.length co10) : Value).ownBlock ∧ some k_ ≠ ((.slice Ao11 t541.length co11) : Value).ownBlock ∧ some k_ ≠ ((.slice Ao22 t559.length co22) : Value).ownBlock) (.slice Ao16 t550.length co16) t550) ∧ Aside0 (Kd.R k73 73 wc w.heap.size (fun k_=>some k_ ≠ ((.slice Ao15 t547.length co15) : Value).ownBlock) (.slice Ao21 t556.length co21) t556) ∧ Aside0 (Kd.R (Kd.int .i64) 3 wc w.heap.size (fun k_=>some k_ ≠ ((.slice Ao10 t540.length co10) : Value).ownBlock ∧ some k_ ≠ ((.slice Ao11 t541.length co11) : Value).ownBlock ∧ some k_ ≠ ((.slice Ao16 t550.length co16) : Value).ownBlock) (.slice Ao22 t559.length co22) t559) ∧ Aside0 (wc.heap[gb554]? = some (.cells #[.int .i64 t546,(.slice Ao15 t547.length co15),(.slice Ao16 t550.length co16)] 29 (0,0))) ∧ Aside0 (wc.heap[gb563]? = some (.cells #[.int .i64 t555,(.slice Ao21 t556.length co21),(.slice Ao22 t559.length co22)] 29 (0,0))) ∧ Aside0 (Below w.heap.size w wc))
  case first=>
   have H:=HC8.out
   clear HC8
   by_cases c23 : (t553 != t562) = true
   ·rw [if_pos c23] at H
    have c23b0 : (t553 != t562) = true:=c23
    (try (have c23b1 : decide (t553 = t562) = false:=by simpa using c23))
    (try (have c23b2 : (t553 == t562) = false:=by simpa using c23))
    (try (have c23b3 : ¬ (t553 = t562):=by simpa using c23))
    clear c23
    (first|rw [c23b0]|(simp only [i64_w,i32_w];rw [c23b0])|skip)
    have H':=Aside0.mk H
    clear H
    go_wp2
    repeat (go_quiet (fail);try go_wp2)
    go_meet
    case rel=>exact ⟨_,(true),fz,H',⟨by first|omega|exact Nat.le_refl _⟩,⟨by (with_reducible repeat (first|apply Kd.R_alloc|apply Kd.R_drewN|apply Kd.R_drew));exact Kd.R_mono (Kd.R_far (p:=⟨gb563,2,none⟩) (Kd.R_far (p:=⟨gb563,1,none⟩) (Kd.R_far (p:=⟨gb563,0,none⟩) (Kd.R_types HO543.out BK563.out (by decide)) (fun _ hk=>hk.2) (.int .i64 t555)) (fun _ hk=>hk.2) (.slice Ao21 t556.length co21)) (fun _ hk=>hk.2) (.slice Ao22 t559.length co22)) (fun _ hk=>⟨hk.1.1.1,⟨hk.1.1.2,hk.1.2⟩⟩)⟩,⟨by (with_reducible repeat (first|apply Kd.R_alloc|apply Kd.R_drewN|apply Kd.R_drew));exact Kd.R_mono (Kd.R_far (p:=⟨gb563,2,none⟩) (Kd.R_far (p:=⟨gb563,1,none⟩) (Kd.R_far (p:=⟨gb563,0,none⟩) (Kd.R_types HO545.out BK563.out (by decide)) (fun _ hk=>hk.2) (.int .i64 t555)) (fun _ hk=>hk.2) (.slice Ao21 t556.length co21)) (fun _ hk=>hk.2) (.slice Ao22 t559.length co22)) (fun _ hk=>⟨hk.1.1.1,⟨hk.1.1.2,hk.1.2⟩⟩)⟩,⟨by (with_reducible repeat (first|apply Kd.R_alloc|apply Kd.R_drewN|apply Kd.R_drew));exact Kd.R_mono (Kd.R_far (p:=⟨gb563,2,none⟩) (Kd.R_far (p:=⟨gb563,1,none⟩) (Kd.R_far (p:=⟨gb563,0,none⟩) (Kd.R_types HO549.out BK563.out (by decide)) (fun _ hk=>hk.2) (.int .i64 t555)) (fun _ hk=>hk.2) (.slice Ao21 t556.length co21)) (fun _ hk=>hk.2) (.slice Ao22 t559.length co22)) (fun _ hk=>hk.1.2)⟩,⟨by (with_reducible repeat (first|apply Kd.R_alloc|apply Kd.R_drewN|apply Kd.R_drew));exact Kd.R_mono (Kd.R_far (p:=⟨gb563,2,none⟩) (Kd.R_far (p:=⟨gb563,1,none⟩) (Kd.R_far (p:=⟨gb563,0,none⟩) (Kd.R_types HO552.out BK563.out (by decide)) (fun _ hk=>hk.2) (.int .i64 t555)) (fun _ hk=>hk.2) (.slice Ao21 t556.length co21)) (fun _ hk=>hk.2) (.slice Ao22 t559.length co22)) (fun _ hk=>⟨hk.1.1.1.2,⟨hk.1.1.2,hk.1.2⟩⟩)⟩,⟨by (with_reducible repeat (first|apply Kd.R_alloc|apply Kd.R_drewN|apply Kd.R_drew));exact Kd.R_mono (Kd.R_far (p:=⟨gb563,2,none⟩) (Kd.R_far (p:=⟨gb563,1,none⟩) (Kd.R_far (p:=⟨gb563,0,none⟩) (Kd.R_types HO558.out BK563.out (by decide)) (fun _ hk=>hk.2) (.int .i64 t555)) (fun _ hk=>hk.2) (.slice Ao21 t556.length co21)) (fun _ hk=>hk.2) (.slice Ao22 t559.length co22)) (fun _ hk=>hk.1.2)⟩,⟨by (with_reducible repeat (first|apply Kd.R_alloc|apply Kd.R_drewN|apply Kd.R_drew));exact Kd.R_mono (Kd.R_far (p:=⟨gb563,2,none⟩) (Kd.R_far (p:=⟨gb563,1,none⟩) (Kd.R_far (p:=⟨gb563,0,none⟩) (Kd.R_types HO561.out BK563.out (by decide)) (fun _ hk=>hk.2) (.int .i64 t555)) (fun _ hk=>hk.2) (.slice Ao21 t556.length co21)) (fun _ hk=>hk.2) (.slice Ao22 t559.length co22)) (fun _ hk=>⟨hk.1.1.1.2,⟨hk.1.1.2,hk.1.2⟩⟩)⟩,⟨by (with_reducible repeat (first|refine blk_drewN ?_ _|refine blk_drew ?_|refine blk_alloc ?_ _));refine blk_far ?_ NB554_563.out _;(with_reducible repeat (first|refine blk_drewN ?_ _|refine blk_drew ?_|refine blk_alloc ?_ _));refine blk_far ?_ NB554_563.out _;(with_reducible repeat (first|refine blk_drewN ?_ _|refine blk_drew ?_|refine blk_alloc ?_ _));refine blk_far ?_ NB554_563.out _;(with_reducible repeat (first|refine blk_drewN ?_ _|refine blk_drew ?_|refine blk_alloc ?_ _));exact BK554.out⟩,⟨by (with_reducible repeat (first|refine blk_drewN ?_ _|refine blk_drew ?_|refine blk_alloc ?_ _));refine blk_put (cs:=#[.int .i64 t555,.slice Ao21 t556.length co21,.slice none 0 0]) ?_ 2 _ rfl;(with_reducible repeat (first|refine blk_drewN ?_ _|refine blk_drew ?_|refine blk_alloc ?_ _));refine blk_put (cs:=#[.int .i64 t555,.slice none 0 0,.slice none 0 0]) ?_ 1 _ rfl;(with_reducible repeat (first|refine blk_drewN ?_ _|refine blk_drew ?_|refine blk_alloc ?_ _));refine blk_put (cs:=#[.int .i64 0,.slice none 0 0,.slice none 0 0]) ?_ 0 _ rfl;(with_reducible repeat (first|refine blk_drewN ?_ _|refine blk_drew ?_|refine blk_alloc ?_ _));exact BK563.out⟩,⟨by repeat (first|(with_reducible first|exact HB.out|apply below_alloc|apply pw_below_drewN|apply below_drew1|refine below_set ?_ GE554.out|refine below_set ?_ GE563.out)|exact HB.out)⟩⟩
   ·rw [if_neg c23] at H
    have c23b0 : (t553 != t562) = false:=by simpa using c23
    (try (have c23b1 : decide (t553 = t562) = true:=by simpa using c23))
    (try (have c23b2 : (t553 == t562) = true:=by simpa using c23))
    clear c23
    (first|rw [c23b0]|(simp only [i64_w,i32_w];rw [c23b0])|skip)
    replace H:=Option.bind_eq_some_iff.mp H
    obtain ⟨t564,A240,H⟩:=H
    replace H : (laws_FnSequences.j0 k t540 t541 t562 (!t564) t546 t547 t550) = some r:=H
    have A24:=Aside0.mk A240
    clear A240
    have H':=Aside0.mk H
    clear H
    have hnb25:=NB554_563.out
    have hnc25:=NB563_554.out
    have hcz26_0 : w18.cell? ⟨gb554,0,none⟩ = some (.int .i64 t546):=(blk_cell BK554.out 0).trans rfl
    have hcz26_1 : w18.cell? ⟨gb554,1,none⟩ = some (.slice Ao15 t547.length co15):=(blk_cell BK554.out 1).trans rfl
    have hcz26_2 : w18.cell? ⟨gb554,2,none⟩ = some (.slice Ao16 t550.length co16):=(blk_cell BK554.out 2).trans rfl
    have hfz26_0:=blk_frozen BK554.out 0
    have hfz26_1:=blk_frozen BK554.out 1
    have hfz26_2:=blk_frozen BK554.out 2
    have hcz27_0 : w18.cell? ⟨gb563,0,none⟩ = some (.int .i64 0):=(blk_cell BK563.out 0).trans rfl
    have hcz27_1 : w18.cell? ⟨gb563,1,none⟩ = some (.slice none 0 0):=(blk_cell BK563.out 1).trans rfl
    have hcz27_2 : w18.cell? ⟨gb563,2,none⟩ = some (.slice none 0 0):=(blk_cell BK563.out 2).trans rfl
    have hfz27_0:=blk_frozen BK563.out 0
    have hfz27_1:=blk_frozen BK563.out 1
    have hfz27_2:=blk_frozen BK563.out 2
    go_wp2_with (first|(go_at_call 33;(with_reducible refine (laws_pSamePlan.calls k t546 _ _ t547 _ _ t550 t555 _ _ t556 _ _ t559 t564 _ ?side1 ?side2 ?side3 ?side4 ?side5 ?side6 ?side7 ?side8 A24.out).mono ?_);(case side1=>refine (Kd.R_reads' (e:=73) (base:=w.heap.size) (ok:=fun k_=>(True ∧ some k_ ≠ (.slice Ao21 t556.length co21 : Value).ownBlock)) (n:=t547.length) (c:=co15) ?_).2.2;exact (by (with_reducible repeat (first|apply Kd.R_alloc|apply Kd.R_drewN|apply Kd.R_drew));exact (Kd.R_mono (Kd.R_far (p:=⟨gb563,2,none⟩) (Kd.R_far (p:=⟨gb563,1,none⟩) (Kd.R_far (p:=⟨gb563,0,none⟩) (Kd.R_types HO549.out BK563.out (by decide)) (fun _ hk=>hk.2) (.int .i64 t555)) (fun _ hk=>hk.2) (.slice Ao21 t556.length co21)) (fun _ hk=>hk.2) (.slice Ao22 t559.length co22)) (fun _ h_=>h_.1))));(case side2=>exact (Kd.R_reads' HO549.out).2.1);(case side3=>refine (Kd.R_reads' (e:=3) (base:=w.heap.size) (ok:=fun k_=>(((True ∧ some k_ ≠ (.slice Ao10 t540.length co10 : Value).ownBlock) ∧ some k_ ≠ (.slice Ao11 t541.length co11 : Value).ownBlock) ∧ some k_ ≠ (.slice Ao22 t559.length co22 : Value).ownBlock)) (n:=t550.length) (c:=co16) ?_).2.2;exact (by (with_reducible repeat (first|apply Kd.R_alloc|apply Kd.R_drewN|apply Kd.R_drew));exact (Kd.R_mono (Kd.R_far (p:=⟨gb563,2,none⟩) (Kd.R_far (p:=⟨gb563,1,none⟩) (Kd.R_far (p:=⟨gb563,0,none⟩) (Kd.R_types HO552.out BK563.out (by decide)) (fun _ hk=>hk.2) (.int .i64 t555)) (fun _ hk=>hk.2) (.slice Ao21 t556.length co21)) (fun _ hk=>hk.2) (.slice Ao22 t559.length co22)) (fun _ h_=>h_.1))));(case side4=>exact (Kd.R_reads' HO552.out).2.1);(case side5=>refine (Kd.R_reads' (e:=73) (base:=w.heap.size) (ok:=fun k_=>(True ∧ some k_ ≠ (.slice Ao15 t547.length co15 : Value).ownBlock)) (n:=t556.length) (c:=co21) ?_).2.2;exact (by (with_reducible repeat (first|apply Kd.R_alloc|apply Kd.R_drewN|apply Kd.R_drew));exact (Kd.R_mono (Kd.R_far (p:=⟨gb563,2,none⟩) (Kd.R_far (p:=⟨gb563,1,none⟩) (Kd.R_far (p:=⟨gb563,0,none⟩) (Kd.R_types HO558.out BK563.out (by decide)) (fun _ hk=>hk.2) (.int .i64 t555)) (fun _ hk=>hk.2) (.slice Ao21 t556.length co21)) (fun _ hk=>hk.2) (.slice Ao22 t559.length co22)) (fun _ h_=>h_.1))));(case side6=>exact (Kd.R_reads' HO558.out).2.1);(case side7=>refine (Kd.R_reads' (e:=3) (base:=w.heap.size) (ok:=fun k_=>(((True ∧ some k_ ≠ (.slice Ao10 t540.length co10 : Value).ownBlock) ∧ some k_ ≠ (.slice Ao11 t541.length co11 : Value).ownBlock) ∧ some k_ ≠ (.slice Ao16 t550.length co16 : Value).ownBlock)) (n:=t559.length) (c:=co22) ?_).2.2;exact (by (with_reducible repeat (first|apply Kd.R_alloc|apply Kd.R_drewN|apply Kd.R_drew));exact (Kd.R_mono (Kd.R_far (p:=⟨gb563,2,none⟩) (Kd.R_far (p:=⟨gb563,1,none⟩) (Kd.R_far (p:=⟨gb563,0,none⟩) (Kd.R_types HO561.out BK563.out (by decide)) (fun _ hk=>hk.2) (.int .i64 t555)) (fun _ hk=>hk.2) (.slice Ao21 t556.length co21)) (fun _ hk=>hk.2) (.slice Ao22 t559.length co22)) (fun _ h_=>h_.1))));(case side8=>exact (Kd.R_reads' HO561.out).2.1);rintro e w28 ⟨rfl,hb⟩;have n0_:=Aside0.mk (Kd.R_below (by (with_reducible repeat (first|apply Kd.R_alloc|apply Kd.R_drewN|apply Kd.R_drew));exact (Kd.R_mono (Kd.R_far (p:=⟨gb563,2,none⟩) (Kd.R_far (p:=⟨gb563,1,none⟩) (Kd.R_far (p:=⟨gb563,0,none⟩) (Kd.R_types HO543.out BK563.out (by decide)) (fun _ hk=>hk.2) (.int .i64 t555)) (fun _ hk=>hk.2) (.slice Ao21 t556.length co21)) (fun _ hk=>hk.2) (.slice Ao22 t559.length co22)) (fun _ h_=>h_.1))) hb);have n1_:=Aside0.mk (Kd.R_below (by (with_reducible repeat (first|apply Kd.R_alloc|apply Kd.R_drewN|apply Kd.R_drew));exact (Kd.R_mono (Kd.R_far (p:=⟨gb563,2,none⟩) (Kd.R_far (p:=⟨gb563,1,none⟩) (Kd.R_far (p:=⟨gb563,0,none⟩) (Kd.R_types HO545.out BK563.out (by decide)) (fun _ hk=>hk.2) (.int .i64 t555)) (fun _ hk=>hk.2) (.slice Ao21 t556.length co21)) (fun _ hk=>hk.2) (.slice Ao22 t559.length co22)) (fun _ h_=>h_.1))) hb);have n2_:=Aside0.mk (Kd.R_below (by (with_reducible repeat (first|apply Kd.R_alloc|apply Kd.R_drewN|apply Kd.R_drew));exact (Kd.R_mono (Kd.R_far (p:=⟨gb563,2,none⟩) (Kd.R_far (p:=⟨gb563,1,none⟩) (Kd.R_far (p:=⟨gb563,0,none⟩) (Kd.R_types HO549.out BK563.out (by decide)) (fun _ hk=>hk.2) (.int .i64 t555)) (fun _ hk=>hk.2) (.slice Ao21 t556.length co21)) (fun _ hk=>hk.2) (.slice Ao22 t559.length co22)) (fun _ h_=>h_.1))) hb);have n3_:=Aside0.mk (Kd.R_below (by (with_reducible repeat (first|apply Kd.R_alloc|apply Kd.R_drewN|apply Kd.R_drew));exact (Kd.R_mono (Kd.R_far (p:=⟨gb563,2,none⟩) (Kd.R_far (p:=⟨gb563,1,none⟩) (Kd.R_far (p:=⟨gb563,0,none⟩) (Kd.R_types HO552.out BK563.out (by decide)) (fun _ hk=>hk.2) (.int .i64 t555)) (fun _ hk=>hk.2) (.slice Ao21 t556.length co21)) (fun _ hk=>hk.2) (.slice Ao22 t559.length co22)) (fun _ h_=>h_.1))) hb);have n4_:=Aside0.mk (Kd.R_below (by (with_reducible repeat (first|apply Kd.R_alloc|apply Kd.R_drewN|apply Kd.R_drew));exact (Kd.R_mono (Kd.R_far (p:=⟨gb563,2,none⟩) (Kd.R_far (p:=⟨gb563,1,none⟩) (Kd.R_far (p:=⟨gb563,0,none⟩) (Kd.R_types HO558.out BK563.out (by decide)) (fun _ hk=>hk.2) (.int .i64 t555)) (fun _ hk=>hk.2) (.slice Ao21 t556.length co21)) (fun _ hk=>hk.2) (.slice Ao22 t559.length co22)) (fun _ h_=>h_.1))) hb);have n5_:=Aside0.mk (Kd.R_below (by (with_reducible repeat (first|apply Kd.R_alloc|apply Kd.R_drewN|apply Kd.R_drew));exact (Kd.R_mono (Kd.R_far (p:=⟨gb563,2,none⟩) (Kd.R_far (p:=⟨gb563,1,none⟩) (Kd.R_far (p:=⟨gb563,0,none⟩) (Kd.R_types HO561.out BK563.out (by decide)) (fun _ hk=>hk.2) (.int .i64 t555)) (fun _ hk=>hk.2) (.slice Ao21 t556.length co21)) (fun _ hk=>hk.2) (.slice Ao22 t559.length co22)) (fun _ h_=>h_.1))) hb);have n6_:=Aside0.mk (blk_below (g:=gb554) (o:=.cells #[.int .i64 t546,.slice Ao15 t547.length co15,.slice Ao16 t550.length co16] 29 (0,0)) (by (with_reducible repeat (first|refine blk_drewN ?_ _|refine blk_drew ?_|refine blk_alloc ?_ _));refine blk_far ?_ NB554_563.out _;(with_reducible repeat (first|refine blk_drewN ?_ _|refine blk_drew ?_|refine blk_alloc ?_ _));refine blk_far ?_ NB554_563.out _;(with_reducible repeat (first|refine blk_drewN ?_ _|refine blk_drew ?_|refine blk_alloc ?_ _));refine blk_far ?_ NB554_563.out _;(with_reducible repeat (first|refine blk_drewN ?_ _|refine blk_drew ?_|refine blk_alloc ?_ _));exact BK554.out) hb);have n7_:=Aside0.mk (blk_below (g:=gb563) (o:=.cells #[.int .i64 t555,.slice Ao21 t556.length co21,.slice Ao22 t559.length co22] 29 (0,0)) (by (with_reducible repeat (first|refine blk_drewN ?_ _|refine blk_drew ?_|refine blk_alloc ?_ _));refine blk_put (cs:=#[.int .i64 t555,.slice Ao21 t556.length co21,.slice none 0 0]) ?_ 2 _ rfl;(with_reducible repeat (first|refine blk_drewN ?_ _|refine blk_drew ?_|refine blk_alloc ?_ _));refine blk_put (cs:=#[.int .i64 t555,.slice none 0 0,.slice none 0 0]) ?_ 1 _ rfl;(with_reducible repeat (first|refine blk_drewN ?_ _|refine blk_drew ?_|refine blk_alloc ?_ _));refine blk_put (cs:=#[.int .i64 0,.slice none 0 0,.slice none 0 0]) ?_ 0 _ rfl;(with_reducible repeat (first|refine blk_drewN ?_ _|refine blk_drew ?_|refine blk_alloc ?_ _));exact BK563.out) hb);have n8_:=Aside0.mk (below_step bs hb);clear HO543 HO545 HO549 HO552 HO558 HO561 BK554 BK563 HB;have HO543:=n0_;have HO545:=n1_;have HO549:=n2_;have HO552:=n3_;have HO558:=n4_;have HO561:=n5_;have BK554:=n6_;have BK563:=n7_;have HB:=n8_;clear n0_ n1_ n2_ n3_ n4_ n5_ n6_ n7_ n8_;(try clear hb)))
    repeat (go_quiet (first|(go_at_call 33;(with_reducible refine (laws_pSamePlan.calls k t546 _ _ t547 _ _ t550 t555 _ _ t556 _ _ t559 t564 _ ?side1 ?side2 ?side3 ?side4 ?side5 ?side6 ?side7 ?side8 A24.out).mono ?_);(case side1=>refine (Kd.R_reads' (e:=73) (base:=w.heap.size) (ok:=fun k_=>(True ∧ some k_ ≠ (.slice Ao21 t556.length co21 : Value).ownBlock)) (n:=t547.length) (c:=co15) ?_).2.2;exact (by (with_reducible repeat (first|apply Kd.R_alloc|apply Kd.R_drewN|apply Kd.R_drew));exact (Kd.R_mono (Kd.R_far (p:=⟨gb563,2,none⟩) (Kd.R_far (p:=⟨gb563,1,none⟩) (Kd.R_far (p:=⟨gb563,0,none⟩) (Kd.R_types HO549.out BK563.out (by decide)) (fun _ hk=>hk.2) (.int .i64 t555)) (fun _ hk=>hk.2) (.slice Ao21 t556.length co21)) (fun _ hk=>hk.2) (.slice Ao22 t559.length co22)) (fun _ h_=>h_.1))));(case side2=>exact (Kd.R_reads' HO549.out).2.1);(case side3=>refine (Kd.R_reads' (e:=3) (base:=w.heap.size) (ok:=fun k_=>(((True ∧ some k_ ≠ (.slice Ao10 t540.length co10 : Value).ownBlock) ∧ some k_ ≠ (.slice Ao11 t541.length co11 : Value).ownBlock) ∧ some k_ ≠ (.slice Ao22 t559.length co22 : Value).ownBlock)) (n:=t550.length) (c:=co16) ?_).2.2;exact (by (with_reducible repeat (first|apply Kd.R_alloc|apply Kd.R_drewN|apply Kd.R_drew));exact (Kd.R_mono (Kd.R_far (p:=⟨gb563,2,none⟩) (Kd.R_far (p:=⟨gb563,1,none⟩) (Kd.R_far (p:=⟨gb563,0,none⟩) (Kd.R_types HO552.out BK563.out (by decide)) (fun _ hk=>hk.2) (.int .i64 t555)) (fun _ hk=>hk.2) (.slice Ao21 t556.length co21)) (fun _ hk=>hk.2) (.slice Ao22 t559.length co22)) (fun _ h_=>h_.1))));(case side4=>exact (Kd.R_reads' HO552.out).2.1);(case side5=>refine (Kd.R_reads' (e:=73) (base:=w.heap.size) (ok:=fun k_=>(True ∧ some k_ ≠ (.slice Ao15 t547.length co15 : Value).ownBlock)) (n:=t556.length) (c:=co21) ?_).2.2;exact (by (with_reducible repeat (first|apply Kd.R_alloc|apply Kd.R_drewN|apply Kd.R_drew));exact (Kd.R_mono (Kd.R_far (p:=⟨gb563,2,none⟩) (Kd.R_far (p:=⟨gb563,1,none⟩) (Kd.R_far (p:=⟨gb563,0,none⟩) (Kd.R_types HO558.out BK563.out (by decide)) (fun _ hk=>hk.2) (.int .i64 t555)) (fun _ hk=>hk.2) (.slice Ao21 t556.length co21)) (fun _ hk=>hk.2) (.slice Ao22 t559.length co22)) (fun _ h_=>h_.1))));(case side6=>exact (Kd.R_reads' HO558.out).2.1);(case side7=>refine (Kd.R_reads' (e:=3) (base:=w.heap.size) (ok:=fun k_=>(((True ∧ some k_ ≠ (.slice Ao10 t540.length co10 : Value).ownBlock) ∧ some k_ ≠ (.slice Ao11 t541.length co11 : Value).ownBlock) ∧ some k_ ≠ (.slice Ao16 t550.length co16 : Value).ownBlock)) (n:=t559.length) (c:=co22) ?_).2.2;exact (by (with_reducible repeat (first|apply Kd.R_alloc|apply Kd.R_drewN|apply Kd.R_drew));exact (Kd.R_mono (Kd.R_far (p:=⟨gb563,2,none⟩) (Kd.R_far (p:=⟨gb563,1,none⟩) (Kd.R_far (p:=⟨gb563,0,none⟩) (Kd.R_types HO561.out BK563.out (by decide)) (fun _ hk=>hk.2) (.int .i64 t555)) (fun _ hk=>hk.2) (.slice Ao21 t556.length co21)) (fun _ hk=>hk.2) (.slice Ao22 t559.length co22)) (fun _ h_=>h_.1))));(case side8=>exact (Kd.R_reads' HO561.out).2.1);rintro e w28 ⟨rfl,hb⟩;have n0_:=Aside0.mk (Kd.R_below (by (with_reducible repeat (first|apply Kd.R_alloc|apply Kd.R_drewN|apply Kd.R_drew));exact (Kd.R_mono (Kd.R_far (p:=⟨gb563,2,none⟩) (Kd.R_far (p:=⟨gb563,1,none⟩) (Kd.R_far (p:=⟨gb563,0,none⟩) (Kd.R_types HO543.out BK563.out (by decide)) (fun _ hk=>hk.2) (.int .i64 t555)) (fun _ hk=>hk.2) (.slice Ao21 t556.length co21)) (fun _ hk=>hk.2) (.slice Ao22 t559.length co22)) (fun _ h_=>h_.1))) hb);have n1_:=Aside0.mk (Kd.R_below (by (with_reducible repeat (first|apply Kd.R_alloc|apply Kd.R_drewN|apply Kd.R_drew));exact (Kd.R_mono (Kd.R_far (p:=⟨gb563,2,none⟩) (Kd.R_far (p:=⟨gb563,1,none⟩) (Kd.R_far (p:=⟨gb563,0,none⟩) (Kd.R_types HO545.out BK563.out (by decide)) (fun _ hk=>hk.2) (.int .i64 t555)) (fun _ hk=>hk.2) (.slice Ao21 t556.length co21)) (fun _ hk=>hk.2) (.slice Ao22 t559.length co22)) (fun _ h_=>h_.1))) hb);have n2_:=Aside0.mk (Kd.R_below (by (with_reducible repeat (first|apply Kd.R_alloc|apply Kd.R_drewN|apply Kd.R_drew));exact (Kd.R_mono (Kd.R_far (p:=⟨gb563,2,none⟩) (Kd.R_far (p:=⟨gb563,1,none⟩) (Kd.R_far (p:=⟨gb563,0,none⟩) (Kd.R_types HO549.out BK563.out (by decide)) (fun _ hk=>hk.2) (.int .i64 t555)) (fun _ hk=>hk.2) (.slice Ao21 t556.length co21)) (fun _ hk=>hk.2) (.slice Ao22 t559.length co22)) (fun _ h_=>h_.1))) hb);have n3_:=Aside0.mk (Kd.R_below (by (with_reducible repeat (first|apply Kd.R_alloc|apply Kd.R_drewN|apply Kd.R_drew));exact (Kd.R_mono (Kd.R_far (p:=⟨gb563,2,none⟩) (Kd.R_far (p:=⟨gb563,1,none⟩) (Kd.R_far (p:=⟨gb563,0,none⟩) (Kd.R_types HO552.out BK563.out (by decide)) (fun _ hk=>hk.2) (.int .i64 t555)) (fun _ hk=>hk.2) (.slice Ao21 t556.length co21)) (fun _ hk=>hk.2) (.slice Ao22 t559.length co22)) (fun _ h_=>h_.1))) hb);have n4_:=Aside0.mk (Kd.R_below (by (with_reducible repeat (first|apply Kd.R_alloc|apply Kd.R_drewN|apply Kd.R_drew));exact (Kd.R_mono (Kd.R_far (p:=⟨gb563,2,none⟩) (Kd.R_far (p:=⟨gb563,1,none⟩) (Kd.R_far (p:=⟨gb563,0,none⟩) (Kd.R_types HO558.out BK563.out (by decide)) (fun _ hk=>hk.2) (.int .i64 t555)) (fun _ hk=>hk.2) (.slice Ao21 t556.length co21)) (fun _ hk=>hk.2) (.slice Ao22 t559.length co22)) (fun _ h_=>h_.1))) hb);have n5_:=Aside0.mk (Kd.R_below (by (with_reducible repeat (first|apply Kd.R_alloc|apply Kd.R_drewN|apply Kd.R_drew));exact (Kd.R_mono (Kd.R_far (p:=⟨gb563,2,none⟩) (Kd.R_far (p:=⟨gb563,1,none⟩) (Kd.R_far (p:=⟨gb563,0,none⟩) (Kd.R_types HO561.out BK563.out (by decide)) (fun _ hk=>hk.2) (.int .i64 t555)) (fun _ hk=>hk.2) (.slice Ao21 t556.length co21)) (fun _ hk=>hk.2) (.slice Ao22 t559.length co22)) (fun _ h_=>h_.1))) hb);have n6_:=Aside0.mk (blk_below (g:=gb554) (o:=.cells #[.int .i64 t546,.slice Ao15 t547.length co15,.slice Ao16 t550.length co16] 29 (0,0)) (by (with_reducible repeat (first|refine blk_drewN ?_ _|refine blk_drew ?_|refine blk_alloc ?_ _));refine blk_far ?_ NB554_563.out _;(with_reducible repeat (first|refine blk_drewN ?_ _|refine blk_drew ?_|refine blk_alloc ?_ _));refine blk_far ?_ NB554_563.out _;(with_reducible repeat (first|refine blk_drewN ?_ _|refine blk_drew ?_|refine blk_alloc ?_ _));refine blk_far ?_ NB554_563.out _;(with_reducible repeat (first|refine blk_drewN ?_ _|refine blk_drew ?_|refine blk_alloc ?_ _));exact BK554.out) hb);have n7_:=Aside0.mk (blk_below (g:=gb563) (o:=.cells #[.int .i64 t555,.slice Ao21 t556.length co21,.slice Ao22 t559.length co22] 29 (0,0)) (by (with_reducible repeat (first|refine blk_drewN ?_ _|refine blk_drew ?_|refine blk_alloc ?_ _));refine blk_put (cs:=#[.int .i64 t555,.slice Ao21 t556.length co21,.slice none 0 0]) ?_ 2 _ rfl;(with_reducible repeat (first|refine blk_drewN ?_ _|refine blk_drew ?_|refine blk_alloc ?_ _));refine blk_put (cs:=#[.int .i64 t555,.slice none 0 0,.slice none 0 0]) ?_ 1 _ rfl;(with_reducible repeat (first|refine blk_drewN ?_ _|refine blk_drew ?_|refine blk_alloc ?_ _));refine blk_put (cs:=#[.int .i64 0,.slice none 0 0,.slice none 0 0]) ?_ 0 _ rfl;(with_reducible repeat (first|refine blk_drewN ?_ _|refine blk_drew ?_|refine blk_alloc ?_ _));exact BK563.out) hb);have n8_:=Aside0.mk (below_step bs hb);clear HO543 HO545 HO549 HO552 HO558 HO561 BK554 BK563 HB;have HO543:=n0_;have HO545:=n1_;have HO549:=n2_;have HO552:=n3_;have HO558:=n4_;have HO561:=n5_;have BK554:=n6_;have BK563:=n7_;have HB:=n8_;clear n0_ n1_ n2_ n3_ n4_ n5_ n6_ n7_ n8_;(try clear hb)));try go_wp2_with (first|(go_at_call 33;(with_reducible refine (laws_pSamePlan.calls k t546 _ _ t547 _ _ t550 t555 _ _ t556 _ _ t559 t564 _ ?side1 ?side2 ?side3 ?side4 ?side5 ?side6 ?side7 ?side8 A24.out).mono ?_);(case side1=>refine (Kd.R_reads' (e:=73) (base:=w.heap.size) (ok:=fun k_=>(True ∧ some k_ ≠ (.slice Ao21 t556.length co21 : Value).ownBlock)) (n:=t547.length) (c:=co15) ?_).2.2;exact (by (with_reducible repeat (first|apply Kd.R_alloc|apply Kd.R_drewN|apply Kd.R_drew));exact (Kd.R_mono (Kd.R_far (p:=⟨gb563,2,none⟩) (Kd.R_far (p:=⟨gb563,1,none⟩) (Kd.R_far (p:=⟨gb563,0,none⟩) (Kd.R_types HO549.out BK563.out (by decide)) (fun _ hk=>hk.2) (.int .i64 t555)) (fun _ hk=>hk.2) (.slice Ao21 t556.length co21)) (fun _ hk=>hk.2) (.slice Ao22 t559.length co22)) (fun _ h_=>h_.1))));(case side2=>exact (Kd.R_reads' HO549.out).2.1);(case side3=>refine (Kd.R_reads' (e:=3) (base:=w.heap.size) (ok:=fun k_=>(((True ∧ some k_ ≠ (.slice Ao10 t540.length co10 : Value).ownBlock) ∧ some k_ ≠ (.slice Ao11 t541.length co11 : Value).ownBlock) ∧ some k_ ≠ (.slice Ao22 t559.length co22 : Value).ownBlock)) (n:=t550.length) (c:=co16) ?_).2.2;exact (by (with_reducible repeat (first|apply Kd.R_alloc|apply Kd.R_drewN|apply Kd.R_drew));exact (Kd.R_mono (Kd.R_far (p:=⟨gb563,2,none⟩) (Kd.R_far (p:=⟨gb563,1,none⟩) (Kd.R_far (p:=⟨gb563,0,none⟩) (Kd.R_types HO552.out BK563.out (by decide)) (fun _ hk=>hk.2) (.int .i64 t555)) (fun _ hk=>hk.2) (.slice Ao21 t556.length co21)) (fun _ hk=>hk.2) (.slice Ao22 t559.length co22)) (fun _ h_=>h_.1))));(case side4=>exact (Kd.R_reads' HO552.out).2.1);(case side5=>refine (Kd.R_reads' (e:=73) (base:=w.heap.size) (ok:=fun k_=>(True ∧ some k_ ≠ (.slice Ao15 t547.length co15 : Value).ownBlock)) (n:=t556.length) (c:=co21) ?_).2.2;exact (by (with_reducible repeat (first|apply Kd.R_alloc|apply Kd.R_drewN|apply Kd.R_drew));exact (Kd.R_mono (Kd.R_far (p:=⟨gb563,2,none⟩) (Kd.R_far (p:=⟨gb563,1,none⟩) (Kd.R_far (p:=⟨gb563,0,none⟩) (Kd.R_types HO558.out BK563.out (by decide)) (fun _ hk=>hk.2) (.int .i64 t555)) (fun _ hk=>hk.2) (.slice Ao21 t556.length co21)) (fun _ hk=>hk.2) (.slice Ao22 t559.length co22)) (fun _ h_=>h_.1))));(case side6=>exact (Kd.R_reads' HO558.out).2.1);(case side7=>refine (Kd.R_reads' (e:=3) (base:=w.heap.size) (ok:=fun k_=>(((True ∧ some k_ ≠ (.slice Ao10 t540.length co10 : Value).ownBlock) ∧ some k_ ≠ (.slice Ao11 t541.length co11 : Value).ownBlock) ∧ some k_ ≠ (.slice Ao16 t550.length co16 : Value).ownBlock)) (n:=t559.length) (c:=co22) ?_).2.2;exact (by (with_reducible repeat (first|apply Kd.R_alloc|apply Kd.R_drewN|apply Kd.R_drew));exact (Kd.R_mono (Kd.R_far (p:=⟨gb563,2,none⟩) (Kd.R_far (p:=⟨gb563,1,none⟩) (Kd.R_far (p:=⟨gb563,0,none⟩) (Kd.R_types HO561.out BK563.out (by decide)) (fun _ hk=>hk.2) (.int .i64 t555)) (fun _ hk=>hk.2) (.slice Ao21 t556.length co21)) (fun _ hk=>hk.2) (.slice Ao22 t559.length co22)) (fun _ h_=>h_.1))));(case side8=>exact (Kd.R_reads' HO561.out).2.1);rintro e w28 ⟨rfl,hb⟩;have n0_:=Aside0.mk (Kd.R_below (by (with_reducible repeat (first|apply Kd.R_alloc|apply Kd.R_drewN|apply Kd.R_drew));exact (Kd.R_mono (Kd.R_far (p:=⟨gb563,2,none⟩) (Kd.R_far (p:=⟨gb563,1,none⟩) (Kd.R_far (p:=⟨gb563,0,none⟩) (Kd.R_types HO543.out BK563.out (by decide)) (fun _ hk=>hk.2) (.int .i64 t555)) (fun _ hk=>hk.2) (.slice Ao21 t556.length co21)) (fun _ hk=>hk.2) (.slice Ao22 t559.length co22)) (fun _ h_=>h_.1))) hb);have n1_:=Aside0.mk (Kd.R_below (by (with_reducible repeat (first|apply Kd.R_alloc|apply Kd.R_drewN|apply Kd.R_drew));exact (Kd.R_mono (Kd.R_far (p:=⟨gb563,2,none⟩) (Kd.R_far (p:=⟨gb563,1,none⟩) (Kd.R_far (p:=⟨gb563,0,none⟩) (Kd.R_types HO545.out BK563.out (by decide)) (fun _ hk=>hk.2) (.int .i64 t555)) (fun _ hk=>hk.2) (.slice Ao21 t556.length co21)) (fun _ hk=>hk.2) (.slice Ao22 t559.length co22)) (fun _ h_=>h_.1))) hb);have n2_:=Aside0.mk (Kd.R_below (by (with_reducible repeat (first|apply Kd.R_alloc|apply Kd.R_drewN|apply Kd.R_drew));exact (Kd.R_mono (Kd.R_far (p:=⟨gb563,2,none⟩) (Kd.R_far (p:=⟨gb563,1,none⟩) (Kd.R_far (p:=⟨gb563,0,none⟩) (Kd.R_types HO549.out BK563.out (by decide)) (fun _ hk=>hk.2) (.int .i64 t555)) (fun _ hk=>hk.2) (.slice Ao21 t556.length co21)) (fun _ hk=>hk.2) (.slice Ao22 t559.length co22)) (fun _ h_=>h_.1))) hb);have n3_:=Aside0.mk (Kd.R_below (by (with_reducible repeat (first|apply Kd.R_alloc|apply Kd.R_drewN|apply Kd.R_drew));exact (Kd.R_mono (Kd.R_far (p:=⟨gb563,2,none⟩) (Kd.R_far (p:=⟨gb563,1,none⟩) (Kd.R_far (p:=⟨gb563,0,none⟩) (Kd.R_types HO552.out BK563.out (by decide)) (fun _ hk=>hk.2) (.int .i64 t555)) (fun _ hk=>hk.2) (.slice Ao21 t556.length co21)) (fun _ hk=>hk.2) (.slice Ao22 t559.length co22)) (fun _ h_=>h_.1))) hb);have n4_:=Aside0.mk (Kd.R_below (by (with_reducible repeat (first|apply Kd.R_alloc|apply Kd.R_drewN|apply Kd.R_drew));exact (Kd.R_mono (Kd.R_far (p:=⟨gb563,2,none⟩) (Kd.R_far (p:=⟨gb563,1,none⟩) (Kd.R_far (p:=⟨gb563,0,none⟩) (Kd.R_types HO558.out BK563.out (by decide)) (fun _ hk=>hk.2) (.int .i64 t555)) (fun _ hk=>hk.2) (.slice Ao21 t556.length co21)) (fun _ hk=>hk.2) (.slice Ao22 t559.length co22)) (fun _ h_=>h_.1))) hb);have n5_:=Aside0.mk (Kd.R_below (by (with_reducible repeat (first|apply Kd.R_alloc|apply Kd.R_drewN|apply Kd.R_drew));exact (Kd.R_mono (Kd.R_far (p:=⟨gb563,2,none⟩) (Kd.R_far (p:=⟨gb563,1,none⟩) (Kd.R_far (p:=⟨gb563,0,none⟩) (Kd.R_types HO561.out BK563.out (by decide)) (fun _ hk=>hk.2) (.int .i64 t555)) (fun _ hk=>hk.2) (.slice Ao21 t556.length co21)) (fun _ hk=>hk.2) (.slice Ao22 t559.length co22)) (fun _ h_=>h_.1))) hb);have n6_:=Aside0.mk (blk_below (g:=gb554) (o:=.cells #[.int .i64 t546,.slice Ao15 t547.length co15,.slice Ao16 t550.length co16] 29 (0,0)) (by (with_reducible repeat (first|refine blk_drewN ?_ _|refine blk_drew ?_|refine blk_alloc ?_ _));refine blk_far ?_ NB554_563.out _;(with_reducible repeat (first|refine blk_drewN ?_ _|refine blk_drew ?_|refine blk_alloc ?_ _));refine blk_far ?_ NB554_563.out _;(with_reducible repeat (first|refine blk_drewN ?_ _|refine blk_drew ?_|refine blk_alloc ?_ _));refine blk_far ?_ NB554_563.out _;(with_reducible repeat (first|refine blk_drewN ?_ _|refine blk_drew ?_|refine blk_alloc ?_ _));exact BK554.out) hb);have n7_:=Aside0.mk (blk_below (g:=gb563) (o:=.cells #[.int .i64 t555,.slice Ao21 t556.length co21,.slice Ao22 t559.length co22] 29 (0,0)) (by (with_reducible repeat (first|refine blk_drewN ?_ _|refine blk_drew ?_|refine blk_alloc ?_ _));refine blk_put (cs:=#[.int .i64 t555,.slice Ao21 t556.length co21,.slice none 0 0]) ?_ 2 _ rfl;(with_reducible repeat (first|refine blk_drewN ?_ _|refine blk_drew ?_|refine blk_alloc ?_ _));refine blk_put (cs:=#[.int .i64 t555,.slice none 0 0,.slice none 0 0]) ?_ 1 _ rfl;(with_reducible repeat (first|refine blk_drewN ?_ _|refine blk_drew ?_|refine blk_alloc ?_ _));refine blk_put (cs:=#[.int .i64 0,.slice none 0 0,.slice none 0 0]) ?_ 0 _ rfl;(with_reducible repeat (first|refine blk_drewN ?_ _|refine blk_drew ?_|refine blk_alloc ?_ _));exact BK563.out) hb);have n8_:=Aside0.mk (below_step bs hb);clear HO543 HO545 HO549 HO552 HO558 HO561 BK554 BK563 HB;have HO543:=n0_;have HO545:=n1_;have HO549:=n2_;have HO552:=n3_;have HO558:=n4_;have HO561:=n5_;have BK554:=n6_;have BK563:=n7_;have HB:=n8_;clear n0_ n1_ n2_ n3_ n4_ n5_ n6_ n7_ n8_;(try clear hb))))
    go_meet
    case rel=>exact ⟨_,(!t564),fz,H',⟨by first|omega|exact Nat.le_refl _⟩,⟨by (with_reducible repeat (first|apply Kd.R_alloc|apply Kd.R_drewN|apply Kd.R_drew));exact Kd.R_mono HO543.out (fun _ hk=>⟨hk.1.1,⟨hk.1.2,hk.2⟩⟩)⟩,⟨by (with_reducible repeat (first|apply Kd.R_alloc|apply Kd.R_drewN|apply Kd.R_drew));exact Kd.R_mono HO545.out (fun _ hk=>⟨hk.1.1,⟨hk.1.2,hk.2⟩⟩)⟩,⟨by (with_reducible repeat (first|apply Kd.R_alloc|apply Kd.R_drewN|apply Kd.R_drew));exact Kd.R_mono HO549.out (fun _ hk=>hk.2)⟩,⟨by (with_reducible repeat (first|apply Kd.R_alloc|apply Kd.R_drewN|apply Kd.R_drew));exact Kd.R_mono HO552.out (fun _ hk=>⟨hk.1.1.2,⟨hk.1.2,hk.2⟩⟩)⟩,⟨by (with_reducible repeat (first|apply Kd.R_alloc|apply Kd.R_drewN|apply Kd.R_drew));exact Kd.R_mono HO558.out (fun _ hk=>hk.2)⟩,⟨by (with_reducible repeat (first|apply Kd.R_alloc|apply Kd.R_drewN|apply Kd.R_drew));exact Kd.R_mono HO561.out (fun _ hk=>⟨hk.1.1.2,⟨hk.1.2,hk.2⟩⟩)⟩,⟨by (with_reducible repeat (first|refine blk_drewN ?_ _|refine blk_drew ?_|refine blk_alloc ?_ _));exact BK554.out⟩,⟨by (with_reducible repeat (first|refine blk_drewN ?_ _|refine blk_drew ?_|refine blk_alloc ?_ _));exact BK563.out⟩,⟨by repeat (first|(with_reducible first|exact HB.out|apply below_alloc|apply pw_below_drewN|apply below_drew1|refine below_set ?_ GE554.out|refine below_set ?_ GE563.out)|exact HB.out)⟩⟩
  case rest=>
   clear HC8
   try clear c1
   try clear c2
   try clear p2
   try clear c4
   try clear c9
   try clear c19
   try clear c23
   try clear c23b0
   try clear c23b1
   try clear c23b2
   try clear c25
   try clear hcz14_0
   try clear hcz14_1
   try clear hcz14_2
   try clear hcz20_0
   try clear hcz20_1
   try clear hcz20_2
   try clear hcz26_0
   try clear hcz26_1
   try clear hcz26_2
   try clear hcz27_0
   try clear hcz27_1
   try clear hcz27_2
   try clear hfz14_0
   try clear hfz14_1
   try clear hfz14_2
   try clear hfz20_0
   try clear hfz20_1
   try clear hfz20_2
   try clear hfz26_0
   try clear hfz26_1
   try clear hfz26_2
   try clear hfz27_0
   try clear hfz27_1
   try clear hfz27_2
   obtain ⟨kq,x45_7,rfl,HA,HJ7,HO_5,HO_6,HO_555001,HO_555002,HO_564001,HO_564002,BK554,BK563,HB⟩:=hcut
   cases kq with
   | zero=>exact absurd HA.out (by simp [laws_FnSequences.j0])
   | succ kj7=>
    have H:=HA.out
    clear HA
    simp only [laws_FnSequences.j0] at H
    by_cases c29 : x45_7 = true
    ·subst c29
     have H1 : (some false) = some r:=by rw [if_pos rfl] at H;exact H
     clear H
     have H:=H1
     clear H1
     obtain rfl:=Option.some.inj H
     go_wp2
     repeat (go_quiet (fail);try go_wp2)
     go_ret
     exact ⟨by first|rfl|(simp [errW_none,errW_some] <;> rfl)|(simp [*,errW_none,errW_some] <;> rfl),by repeat (first|(with_reducible first|exact HB.out|apply below_alloc|apply pw_below_drewN|apply below_drew1|refine below_set ?_ GE554.out|refine below_set ?_ GE563.out)|exact HB.out)⟩
    ·replace c29:=Bool.eq_false_iff.mpr c29
     subst c29
     have H1 : (if t562 = true then ((impl_OutputExponents.f kj7 t546 t547 t550).bind fun bt565=>((impl_IsTrim.f kj7 t546 t547 t550).bind fun bt569=>(if bt565.2 = true then (if bt569.2 = true then (if bt569.1 = true then (if (bt565.1.length : Int) = (t541.length : Int) then (laws_FnSequences.j1 kj7 t541 bt565.1 (decide ((t547.length : Int) > (wrap64 ((t540.length : Int) - 1))))) else (laws_FnSequences.j1 kj7 t541 bt565.1 true)) else (laws_FnSequences.j1 kj7 t541 bt565.1 true)) else (laws_FnSequences.j1 kj7 t541 bt565.1 true)) else (laws_FnSequences.j1 kj7 t541 bt565.1 true)))) else (some true)) = some r:=by rw [if_neg (show ¬ (false = true) by decide)] at H;exact H
     clear H
     have H:=H1
     clear H1
     by_cases c30 : t562 = true
     ·subst c30
      have H1 : ((impl_OutputExponents.f kj7 t546 t547 t550).bind fun bt565=>((impl_IsTrim.f kj7 t546 t547 t550).bind fun bt569=>(if bt565.2 = true then (if bt569.2 = true then (if bt569.1 = true then (if (bt565.1.length : Int) = (t541.length : Int) then (laws_FnSequences.j1 kj7 t541 bt565.1 (decide ((t547.length : Int) > (wrap64 ((t540.length : Int) - 1))))) else (laws_FnSequences.j1 kj7 t541 bt565.1 true)) else (laws_FnSequences.j1 kj7 t541 bt565.1 true)) else (laws_FnSequences.j1 kj7 t541 bt565.1 true)) else (laws_FnSequences.j1 kj7 t541 bt565.1 true)))) = some r:=by rw [if_pos rfl] at H;exact H
      clear H
      have H:=H1
      clear H1
      replace H:=Option.bind_eq_some_iff.mp H
      obtain ⟨⟨t565,t568⟩,A310,H⟩:=H
      replace H : ((impl_IsTrim.f kj7 t546 t547 t550).bind fun bt569=>(if t568 = true then (if bt569.2 = true then (if bt569.1 = true then (if (t565.length : Int) = (t541.length : Int) then (laws_FnSequences.j1 kj7 t541 t565 (decide ((t547.length : Int) > (wrap64 ((t540.length : Int) - 1))))) else (laws_FnSequences.j1 kj7 t541 t565 true)) else (laws_FnSequences.j1 kj7 t541 t565 true)) else (laws_FnSequences.j1 kj7 t541 t565 true)) else (laws_FnSequences.j1 kj7 t541 t565 true))) = some r:=H
      have A31:=Aside0.mk A310
      clear A310
      replace H:=Option.bind_eq_some_iff.mp H
      obtain ⟨⟨t569,t570⟩,A320,H⟩:=H
      replace H : (if t568 = true then (if t570 = true then (if t569 = true then (if (t565.length : Int) = (t541.length : Int) then (laws_FnSequences.j1 kj7 t541 t565 (decide ((t547.length : Int) > (wrap64 ((t540.length : Int) - 1))))) else (laws_FnSequences.j1 kj7 t541 t565 true)) else (laws_FnSequences.j1 kj7 t541 t565 true)) else (laws_FnSequences.j1 kj7 t541 t565 true)) else (laws_FnSequences.j1 kj7 t541 t565 true)) = some r:=H
      have A32:=Aside0.mk A320
      clear A320
      have HC33:=Aside0.mk H
      clear H
      have hnb34:=NB554_563.out
      have hnc34:=NB563_554.out
      have hcz35_0 : wc.cell? ⟨gb554,0,none⟩ = some (.int .i64 t546):=(blk_cell BK554.out 0).trans rfl
      have hcz35_1 : wc.cell? ⟨gb554,1,none⟩ = some (.slice Ao15 t547.length co15):=(blk_cell BK554.out 1).trans rfl
      have hcz35_2 : wc.cell? ⟨gb554,2,none⟩ = some (.slice Ao16 t550.length co16):=(blk_cell BK554.out 2).trans rfl
      have hfz35_0:=blk_frozen BK554.out 0
      have hfz35_1:=blk_frozen BK554.out 1
      have hfz35_2:=blk_frozen BK554.out 2
      go_upto_region 12 with (first|(go_at_call 34;(with_reducible refine (impl_OutputExponents.calls kj7 t546 _ _ t547 _ _ t550 t565 t568 _ ?side1 ?side2 ?side3 ?side4 A31.out).mono ?_);(case side1=>exact cz (Kd.R_reads' HO_555001.out).2.2);(case side2=>exact (Kd.R_reads' HO_555001.out).2.1);(case side3=>exact cz (Kd.R_reads' HO_555002.out).2.2);(case side4=>exact (Kd.R_reads' HO_555002.out).2.1);rintro e w36 ⟨v566,rfl,ho0,hb⟩;have n0_:=Aside0.mk (Kd.R_below (rz HO_5.out) hb);have n1_:=Aside0.mk (Kd.R_below (rz HO_6.out) hb);have n2_:=Aside0.mk (Kd.R_below (rz HO_555001.out) hb);have n3_:=Aside0.mk (Kd.R_below (rz HO_555002.out) hb);have n4_:=Aside0.mk (Kd.R_below (rz HO_564001.out) hb);have n5_:=Aside0.mk (Kd.R_below (rz HO_564002.out) hb);have n6_:=Aside0.mk (Kd.S_lower (Kd.S_new' (Kd.S_new' (Kd.S_new' (Kd.S_new' ho0 (Kd.R_lt (rz HO_5.out))) (Kd.R_lt (rz HO_6.out))) (Kd.R_lt (rz HO_555002.out))) (Kd.R_lt (rz HO_564002.out))) (below_size bs));have n7_:=Aside0.mk (blk_below (g:=gb554) (o:=.cells #[.int .i64 t546,.slice Ao15 t547.length co15,.slice Ao16 t550.length co16] 29 (0,0)) (kz BK554.out) hb);have n8_:=Aside0.mk (blk_below (g:=gb563) (o:=.cells #[.int .i64 t555,.slice Ao21 t556.length co21,.slice Ao22 t559.length co22] 29 (0,0)) (kz BK563.out) hb);have n9_:=Aside0.mk (below_step bs hb);clear HO_5 HO_6 HO_555001 HO_555002 HO_564001 HO_564002 BK554 BK563 HB;have HO_5:=n0_;have HO_6:=n1_;have HO_555001:=n2_;have HO_555002:=n3_;have HO_564001:=n4_;have HO_564002:=n5_;have HO567:=n6_;have BK554:=n7_;have BK563:=n8_;have HB:=n9_;clear n0_ n1_ n2_ n3_ n4_ n5_ n6_ n7_ n8_ n9_;(try clear hb);(try clear ho0);have hcz37_0 : w36.cell? ⟨gb554,0,none⟩ = some (.int .i64 t546):=(blk_cell BK554.out 0).trans rfl;have hcz37_1 : w36.cell? ⟨gb554,1,none⟩ = some (.slice Ao15 t547.length co15):=(blk_cell BK554.out 1).trans rfl;have hcz37_2 : w36.cell? ⟨gb554,2,none⟩ = some (.slice Ao16 t550.length co16):=(blk_cell BK554.out 2).trans rfl;have hfz37_0:=blk_frozen BK554.out 0;have hfz37_1:=blk_frozen BK554.out 1;have hfz37_2:=blk_frozen BK554.out 2)|(go_at_call 35;(with_reducible refine (impl_IsTrim.calls kj7 t546 _ _ t547 _ _ t550 t569 t570 _ ?side1 ?side2 ?side3 ?side4 A32.out).mono ?_);(case side1=>exact cz (Kd.R_reads' HO_555001.out).2.2);(case side2=>exact (Kd.R_reads' HO_555001.out).2.1);(case side3=>exact cz (Kd.R_reads' HO_555002.out).2.2);(case side4=>exact (Kd.R_reads' HO_555002.out).2.1);rintro e w38 ⟨rfl,hb⟩;have n0_:=Aside0.mk (Kd.R_below (rz HO_5.out) hb);have n1_:=Aside0.mk (Kd.R_below (rz HO_6.out) hb);have n2_:=Aside0.mk (Kd.R_below (rz HO_555001.out) hb);have n3_:=Aside0.mk (Kd.R_below (rz HO_555002.out) hb);have n4_:=Aside0.mk (Kd.R_below (rz HO_564001.out) hb);have n5_:=Aside0.mk (Kd.R_below (rz HO_564002.out) hb);have n6_:=Aside0.mk (Kd.S_below (by (with_reducible repeat (first|apply Kd.S_alloc|apply Kd.S_drewN|apply Kd.S_drew));exact HO567.out) hb);have n7_:=Aside0.mk (blk_below (g:=gb554) (o:=.cells #[.int .i64 t546,.slice Ao15 t547.length co15,.slice Ao16 t550.length co16] 29 (0,0)) (kz BK554.out) hb);have n8_:=Aside0.mk (blk_below (g:=gb563) (o:=.cells #[.int .i64 t555,.slice Ao21 t556.length co21,.slice Ao22 t559.length co22] 29 (0,0)) (kz BK563.out) hb);have n9_:=Aside0.mk (below_step bs hb);clear HO_5 HO_6 HO_555001 HO_555002 HO_564001 HO_564002 HO567 BK554 BK563 HB;have HO_5:=n0_;have HO_6:=n1_;have HO_555001:=n2_;have HO_555002:=n3_;have HO_564001:=n4_;have HO_564002:=n5_;have HO567:=n6_;have BK554:=n7_;have BK563:=n8_;have HB:=n9_;clear n0_ n1_ n2_ n3_ n4_ n5_ n6_ n7_ n8_ n9_;(try clear hb)))
      repeat (go_quiet (first|(go_at_call 34;(with_reducible refine (impl_OutputExponents.calls kj7 t546 _ _ t547 _ _ t550 t565 t568 _ ?side1 ?side2 ?side3 ?side4 A31.out).mono ?_);(case side1=>exact cz (Kd.R_reads' HO_555001.out).2.2);(case side2=>exact (Kd.R_reads' HO_555001.out).2.1);(case side3=>exact cz (Kd.R_reads' HO_555002.out).2.2);(case side4=>exact (Kd.R_reads' HO_555002.out).2.1);rintro e w36 ⟨v566,rfl,ho0,hb⟩;have n0_:=Aside0.mk (Kd.R_below (rz HO_5.out) hb);have n1_:=Aside0.mk (Kd.R_below (rz HO_6.out) hb);have n2_:=Aside0.mk (Kd.R_below (rz HO_555001.out) hb);have n3_:=Aside0.mk (Kd.R_below (rz HO_555002.out) hb);have n4_:=Aside0.mk (Kd.R_below (rz HO_564001.out) hb);have n5_:=Aside0.mk (Kd.R_below (rz HO_564002.out) hb);have n6_:=Aside0.mk (Kd.S_lower (Kd.S_new' (Kd.S_new' (Kd.S_new' (Kd.S_new' ho0 (Kd.R_lt (rz HO_5.out))) (Kd.R_lt (rz HO_6.out))) (Kd.R_lt (rz HO_555002.out))) (Kd.R_lt (rz HO_564002.out))) (below_size bs));have n7_:=Aside0.mk (blk_below (g:=gb554) (o:=.cells #[.int .i64 t546,.slice Ao15 t547.length co15,.slice Ao16 t550.length co16] 29 (0,0)) (kz BK554.out) hb);have n8_:=Aside0.mk (blk_below (g:=gb563) (o:=.cells #[.int .i64 t555,.slice Ao21 t556.length co21,.slice Ao22 t559.length co22] 29 (0,0)) (kz BK563.out) hb);have n9_:=Aside0.mk (below_step bs hb);clear HO_5 HO_6 HO_555001 HO_555002 HO_564001 HO_564002 BK554 BK563 HB;have HO_5:=n0_;have HO_6:=n1_;have HO_555001:=n2_;have HO_555002:=n3_;have HO_564001:=n4_;have HO_564002:=n5_;have HO567:=n6_;have BK554:=n7_;have BK563:=n8_;have HB:=n9_;clear n0_ n1_ n2_ n3_ n4_ n5_ n6_ n7_ n8_ n9_;(try clear hb);(try clear ho0);have hcz37_0 : w36.cell? ⟨gb554,0,none⟩ = some (.int .i64 t546):=(blk_cell BK554.out 0).trans rfl;have hcz37_1 : w36.cell? ⟨gb554,1,none⟩ = some (.slice Ao15 t547.length co15):=(blk_cell BK554.out 1).trans rfl;have hcz37_2 : w36.cell? ⟨gb554,2,none⟩ = some (.slice Ao16 t550.length co16):=(blk_cell BK554.out 2).trans rfl;have hfz37_0:=blk_frozen BK554.out 0;have hfz37_1:=blk_frozen BK554.out 1;have hfz37_2:=blk_frozen BK554.out 2)|(go_at_call 35;(with_reducible refine (impl_IsTrim.calls kj7 t546 _ _ t547 _ _ t550 t569 t570 _ ?side1 ?side2 ?side3 ?side4 A32.out).mono ?_);(case side1=>exact cz (Kd.R_reads' HO_555001.out).2.2);(case side2=>exact (Kd.R_reads' HO_555001.out).2.1);(case side3=>exact cz (Kd.R_reads' HO_555002.out).2.2);(case side4=>exact (Kd.R_reads' HO_555002.out).2.1);rintro e w38 ⟨rfl,hb⟩;have n0_:=Aside0.mk (Kd.R_below (rz HO_5.out) hb);have n1_:=Aside0.mk (Kd.R_below (rz HO_6.out) hb);have n2_:=Aside0.mk (Kd.R_below (rz HO_555001.out) hb);have n3_:=Aside0.mk (Kd.R_below (rz HO_555002.out) hb);have n4_:=Aside0.mk (Kd.R_below (rz HO_564001.out) hb);have n5_:=Aside0.mk (Kd.R_below (rz HO_564002.out) hb);have n6_:=Aside0.mk (Kd.S_below (by (with_reducible repeat (first|apply Kd.S_alloc|apply Kd.S_drewN|apply Kd.S_drew));exact HO567.out) hb);have n7_:=Aside0.mk (blk_below (g:=gb554) (o:=.cells #[.int .i64 t546,.slice Ao15 t547.length co15,.slice Ao16 t550.length co16] 29 (0,0)) (kz BK554.out) hb);have n8_:=Aside0.mk (blk_below (g:=gb563) (o:=.cells #[.int .i64 t555,.slice Ao21 t556.length co21,.slice Ao22 t559.length co22] 29 (0,0)) (kz BK563.out) hb);have n9_:=Aside0.mk (below_step bs hb);clear HO_5 HO_6 HO_555001 HO_555002 HO_564001 HO_564002 HO567 BK554 BK563 HB;have HO_5:=n0_;have HO_6:=n1_;have HO_555001:=n2_;have HO_555002:=n3_;have HO_564001:=n4_;have HO_564002:=n5_;have HO567:=n6_;have BK554:=n7_;have BK563:=n8_;have HB:=n9_;clear n0_ n1_ n2_ n3_ n4_ n5_ n6_ n7_ n8_ n9_;(try clear hb)));go_upto_region 12 with (first|(go_at_call 34;(with_reducible refine (impl_OutputExponents.calls kj7 t546 _ _ t547 _ _ t550 t565 t568 _ ?side1 ?side2 ?side3 ?side4 A31.out).mono ?_);(case side1=>exact cz (Kd.R_reads' HO_555001.out).2.2);(case side2=>exact (Kd.R_reads' HO_555001.out).2.1);(case side3=>exact cz (Kd.R_reads' HO_555002.out).2.2);(case side4=>exact (Kd.R_reads' HO_555002.out).2.1);rintro e w36 ⟨v566,rfl,ho0,hb⟩;have n0_:=Aside0.mk (Kd.R_below (rz HO_5.out) hb);have n1_:=Aside0.mk (Kd.R_below (rz HO_6.out) hb);have n2_:=Aside0.mk (Kd.R_below (rz HO_555001.out) hb);have n3_:=Aside0.mk (Kd.R_below (rz HO_555002.out) hb);have n4_:=Aside0.mk (Kd.R_below (rz HO_564001.out) hb);have n5_:=Aside0.mk (Kd.R_below (rz HO_564002.out) hb);have n6_:=Aside0.mk (Kd.S_lower (Kd.S_new' (Kd.S_new' (Kd.S_new' (Kd.S_new' ho0 (Kd.R_lt (rz HO_5.out))) (Kd.R_lt (rz HO_6.out))) (Kd.R_lt (rz HO_555002.out))) (Kd.R_lt (rz HO_564002.out))) (below_size bs));have n7_:=Aside0.mk (blk_below (g:=gb554) (o:=.cells #[.int .i64 t546,.slice Ao15 t547.length co15,.slice Ao16 t550.length co16] 29 (0,0)) (kz BK554.out) hb);have n8_:=Aside0.mk (blk_below (g:=gb563) (o:=.cells #[.int .i64 t555,.slice Ao21 t556.length co21,.slice Ao22 t559.length co22] 29 (0,0)) (kz BK563.out) hb);have n9_:=Aside0.mk (below_step bs hb);clear HO_5 HO_6 HO_555001 HO_555002 HO_564001 HO_564002 BK554 BK563 HB;have HO_5:=n0_;have HO_6:=n1_;have HO_555001:=n2_;have HO_555002:=n3_;have HO_564001:=n4_;have HO_564002:=n5_;have HO567:=n6_;have BK554:=n7_;have BK563:=n8_;have HB:=n9_;clear n0_ n1_ n2_ n3_ n4_ n5_ n6_ n7_ n8_ n9_;(try clear hb);(try clear ho0);have hcz37_0 : w36.cell? ⟨gb554,0,none⟩ = some (.int .i64 t546):=(blk_cell BK554.out 0).trans rfl;have hcz37_1 : w36.cell? ⟨gb554,1,none⟩ = some (.slice Ao15 t547.length co15):=(blk_cell BK554.out 1).trans rfl;have hcz37_2 : w36.cell? ⟨gb554,2,none⟩ = some (.slice Ao16 t550.length co16):=(blk_cell BK554.out 2).trans rfl;have hfz37_0:=blk_frozen BK554.out 0;have hfz37_1:=blk_frozen BK554.out 1;have hfz37_2:=blk_frozen BK554.out 2)|(go_at_call 35;(with_reducible refine (impl_IsTrim.calls kj7 t546 _ _ t547 _ _ t550 t569 t570 _ ?side1 ?side2 ?side3 ?side4 A32.out).mono ?_);(case side1=>exact cz (Kd.R_reads' HO_555001.out).2.2);(case side2=>exact (Kd.R_reads' HO_555001.out).2.1);(case side3=>exact cz (Kd.R_reads' HO_555002.out).2.2);(case side4=>exact (Kd.R_reads' HO_555002.out).2.1);rintro e w38 ⟨rfl,hb⟩;have n0_:=Aside0.mk (Kd.R_below (rz HO_5.out) hb);have n1_:=Aside0.mk (Kd.R_below (rz HO_6.out) hb);have n2_:=Aside0.mk (Kd.R_below (rz HO_555001.out) hb);have n3_:=Aside0.mk (Kd.R_below (rz HO_555002.out) hb);have n4_:=Aside0.mk (Kd.R_below (rz HO_564001.out) hb);have n5_:=Aside0.mk (Kd.R_below (rz HO_564002.out) hb);have n6_:=Aside0.mk (Kd.S_below (by (with_reducible repeat (first|apply Kd.S_alloc|apply Kd.S_drewN|apply Kd.S_drew));exact HO567.out) hb);have n7_:=Aside0.mk (blk_below (g:=gb554) (o:=.cells #[.int .i64 t546,.slice Ao15 t547.length co15,.slice Ao16 t550.length co16] 29 (0,0)) (kz BK554.out) hb);have n8_:=Aside0.mk (blk_below (g:=gb563) (o:=.cells #[.int .i64 t555,.slice Ao21 t556.length co21,.slice Ao22 t559.length co22] 29 (0,0)) (kz BK563.out) hb);have n9_:=Aside0.mk (below_step bs hb);clear HO_5 HO_6 HO_555001 HO_555002 HO_564001 HO_564002 HO567 BK554 BK563 HB;have HO_5:=n0_;have HO_6:=n1_;have HO_555001:=n2_;have HO_555002:=n3_;have HO_564001:=n4_;have HO_564002:=n5_;have HO567:=n6_;have BK554:=n7_;have BK563:=n8_;have HB:=n9_;clear n0_ n1_ n2_ n3_ n4_ n5_ n6_ n7_ n8_ n9_;(try clear hb))))
      (try simp only [Act.put,List.setIfInBounds_toArray,List.set_cons_zero,List.set_cons_succ])
      go_cut [83] (fun v83 wc=>∃ (kq : Nat) (x83_32 : Bool),v83 = .bool x83_32 ∧ Aside0 (laws_FnSequences.j1 kq t541 t565 x83_32 = some r) ∧ Aside0 (kq ≤ kj7) ∧ Aside0 (Kd.R (Kd.int .i64) 3 wc w.heap.size (fun k_=>some k_ ≠ ((.slice Ao16 t550.length co16) : Value).ownBlock ∧ some k_ ≠ ((.slice Ao22 t559.length co22) : Value).ownBlock) (.slice Ao11 t541.length co11) t541) ∧ Aside0 (Kd.S (Kd.slice 3 (Kd.int .i64)) 23 wc w.heap.size (fun k_=>some k_ ≠ ((.slice Ao11 t541.length co11) : Value).ownBlock ∧ some k_ ≠ ((.slice Ao16 t550.length co16) : Value).ownBlock ∧ some k_ ≠ ((.slice Ao22 t559.length co22) : Value).ownBlock) v566 t565) ∧ Aside0 (Kd.R k73 73 wc w.heap.size (fun k_=>some k_ ≠ ((.slice Ao21 t556.length co21) : Value).ownBlock) (.slice Ao15 t547.length co15) t547) ∧ Aside0 (Kd.R (Kd.int .i64) 3 wc w.heap.size (fun k_=>some k_ ≠ ((.slice Ao11 t541.length co11) : Value).ownBlock ∧ some k_ ≠ ((.slice Ao22 t559.length co22) : Value).ownBlock) (.slice Ao16 t550.length co16) t550) ∧ Aside0 (Kd.R k73 73 wc w.heap.size (fun k_=>some k_ ≠ ((.slice Ao15 t547.length co15) : Value).ownBlock) (.slice Ao21 t556.length co21) t556) ∧ Aside0 (Kd.R (Kd.int .i64) 3 wc w.heap.size (fun k_=>some k_ ≠ ((.slice Ao11 t541.length co11) : Value).ownBlock ∧ some k_ ≠ ((.slice Ao16 t550.length co16) : Value).ownBlock) (.slice Ao22 t559.length co22) t559) ∧ Aside0 (wc.heap[gb554]? = some (.cells #[.int .i64 t546,(.slice Ao15 t547.length co15),(.slice Ao16 t550.length co16)] 29 (0,0))) ∧ Aside0 (wc.heap[gb563]? = some (.cells #[.int .i64 t555,(.slice Ao21 t556.length co21),(.slice Ao22 t559.length co22)] 29 (0,0))) ∧ Aside0 (Below w.heap.size w wc))
      case first=>
       have H:=HC33.out
       clear HC33
       by_cases c39 : t568 = true
       ·subst c39
        have H1 : (if t570 = true then (if t569 = true then (if (t565.length : Int) = (t541.length : Int) then (laws_FnSequences.j1 kj7 t541 t565 (decide ((t547.length : Int) > (wrap64 ((t540.length : Int) - 1))))) else (laws_FnSequences.j1 kj7 t541 t565 true)) else (laws_FnSequences.j1 kj7 t541 t565 true)) else (laws_FnSequences.j1 kj7 t541 t565 true)) = some r:=by rw [if_pos rfl] at H;exact H
        clear H
        have H:=H1
        clear H1
        by_cases c40 : t570 = true
        ·subst c40
         have H1 : (if t569 = true then (if (t565.length : Int) = (t541.length : Int) then (laws_FnSequences.j1 kj7 t541 t565 (decide ((t547.length : Int) > (wrap64 ((t540.length : Int) - 1))))) else (laws_FnSequences.j1 kj7 t541 t565 true)) else (laws_FnSequences.j1 kj7 t541 t565 true)) = some r:=by rw [if_pos rfl] at H;exact H
         clear H
         have H:=H1
         clear H1
         by_cases c41 : t569 = true
         ·subst c41
          have H1 : (if (t565.length : Int) = (t541.length : Int) then (laws_FnSequences.j1 kj7 t541 t565 (decide ((t547.length : Int) > (wrap64 ((t540.length : Int) - 1))))) else (laws_FnSequences.j1 kj7 t541 t565 true)) = some r:=by rw [if_pos rfl] at H;exact H
          clear H
          have H:=H1
          clear H1
          by_cases c42 : (t565.length : Int) = (t541.length : Int)
          ·rw [if_pos c42] at H
           have c42b0 : ((t565.length : Int) == (t541.length : Int)) = true:=beq_iff_eq.mpr c42
           have c42b1 : ((t565.length : Int) != (t541.length : Int)) = false:=bne_eq_false_iff_eq.mpr c42
           have c42b2 : (t565.length == t541.length) = true:=by first|simpa using c42|(simp at c42 ⊢;omega)
           clear c42
           (first|rw [c42b0]|(simp only [i64_w,i32_w];rw [c42b0])|skip)
           have H':=Aside0.mk H
           clear H
           obtain ⟨Ao43,co43,eo43⟩:=Kd.S_slice HO567.out
           subst eo43
           have hnb44:=NB554_563.out
           have hnc44:=NB563_554.out
           have hcz45_0 : w38.cell? ⟨gb554,0,none⟩ = some (.int .i64 t546):=(blk_cell BK554.out 0).trans rfl
           have hcz45_1 : w38.cell? ⟨gb554,1,none⟩ = some (.slice Ao15 t547.length co15):=(blk_cell BK554.out 1).trans rfl
           have hcz45_2 : w38.cell? ⟨gb554,2,none⟩ = some (.slice Ao16 t550.length co16):=(blk_cell BK554.out 2).trans rfl
           have hfz45_0:=blk_frozen BK554.out 0
           have hfz45_1:=blk_frozen BK554.out 1
           have hfz45_2:=blk_frozen BK554.out 2
           go_wp2
           repeat (go_quiet (fail);try go_wp2)
           go_meet
           case rel=>exact ⟨_,(decide ((t547.length : Int) > (wrap64 ((t540.length : Int) - 1)))),fz,H',⟨by have:=HJ7.out;first|omega|exact Nat.le_refl _⟩,⟨by (with_reducible repeat (first|apply Kd.R_alloc|apply Kd.R_drewN|apply Kd.R_drew));exact Kd.R_mono HO_6.out (fun _ hk=>⟨hk.2.1,hk.2.2⟩)⟩,⟨by (with_reducible repeat (first|apply Kd.S_alloc|apply Kd.S_drewN|apply Kd.S_drew));exact Kd.S_mono HO567.out (fun _ hk=>⟨hk.1.1.2,⟨hk.1.2,hk.2⟩⟩)⟩,⟨by (with_reducible repeat (first|apply Kd.R_alloc|apply Kd.R_drewN|apply Kd.R_drew));exact HO_555001.out⟩,⟨by (with_reducible repeat (first|apply Kd.R_alloc|apply Kd.R_drewN|apply Kd.R_drew));exact Kd.R_mono HO_555002.out (fun _ hk=>⟨hk.2.1,hk.2.2⟩)⟩,⟨by (with_reducible repeat (first|apply Kd.R_alloc|apply Kd.R_drewN|apply Kd.R_drew));exact HO_564001.out⟩,⟨by (with_reducible repeat (first|apply Kd.R_alloc|apply Kd.R_drewN|apply Kd.R_drew));exact Kd.R_mono HO_564002.out (fun _ hk=>⟨hk.2.1,hk.2.2⟩)⟩,⟨by (with_reducible repeat (first|refine blk_drewN ?_ _|refine blk_drew ?_|refine blk_alloc ?_ _));exact BK554.out⟩,⟨by (with_reducible repeat (first|refine blk_drewN ?_ _|refine blk_drew ?_|refine blk_alloc ?_ _));exact BK563.out⟩,⟨by repeat (first|(with_reducible first|exact HB.out|apply below_alloc|apply pw_below_drewN|apply below_drew1|refine below_set ?_ GE554.out|refine below_set ?_ GE563.out)|exact HB.out)⟩⟩
          ·rw [if_neg c42] at H
           have c42b0 : ((t565.length : Int) == (t541.length : Int)) = false:=beq_eq_false_iff_ne.mpr c42
           have c42b1 : ((t565.length : Int) != (t541.length : Int)) = true:=bne_iff_ne.mpr c42
           have c42b2 : (t565.length == t541.length) = false:=by first|simpa using c42|(simp at c42 ⊢;omega)
           (first|rw [c42b0]|(simp only [i64_w,i32_w];rw [c42b0])|skip)
           have H':=Aside0.mk H
           clear H
           obtain ⟨Ao46,co46,eo46⟩:=Kd.S_slice HO567.out
           subst eo46
           go_wp2
           repeat (go_quiet (fail);try go_wp2)
           go_meet
           case rel=>exact ⟨_,(true),fz,H',⟨by have:=HJ7.out;first|omega|exact Nat.le_refl _⟩,⟨by (with_reducible repeat (first|apply Kd.R_alloc|apply Kd.R_drewN|apply Kd.R_drew));exact Kd.R_mono HO_6.out (fun _ hk=>⟨hk.2.1,hk.2.2⟩)⟩,⟨by (with_reducible repeat (first|apply Kd.S_alloc|apply Kd.S_drewN|apply Kd.S_drew));exact Kd.S_mono HO567.out (fun _ hk=>⟨hk.1.1.2,⟨hk.1.2,hk.2⟩⟩)⟩,⟨by (with_reducible repeat (first|apply Kd.R_alloc|apply Kd.R_drewN|apply Kd.R_drew));exact HO_555001.out⟩,⟨by (with_reducible repeat (first|apply Kd.R_alloc|apply Kd.R_drewN|apply Kd.R_drew));exact Kd.R_mono HO_555002.out (fun _ hk=>⟨hk.2.1,hk.2.2⟩)⟩,⟨by (with_reducible repeat (first|apply Kd.R_alloc|apply Kd.R_drewN|apply Kd.R_drew));exact HO_564001.out⟩,⟨by (with_reducible repeat (first|apply Kd.R_alloc|apply Kd.R_drewN|apply Kd.R_drew));exact Kd.R_mono HO_564002.out (fun _ hk=>⟨hk.2.1,hk.2.2⟩)⟩,⟨by (with_reducible repeat (first|refine blk_drewN ?_ _|refine blk_drew ?_|refine blk_alloc ?_ _));exact BK554.out⟩,⟨by (with_reducible repeat (first|refine blk_drewN ?_ _|refine blk_drew ?_|refine blk_alloc ?_ _));exact BK563.out⟩,⟨by repeat (first|(with_reducible first|exact HB.out|apply below_alloc|apply pw_below_drewN|apply below_drew1|refine below_set ?_ GE554.out|refine below_set ?_ GE563.out)|exact HB.out)⟩⟩
         ·replace c41:=Bool.eq_false_iff.mpr c41
          subst c41
          have H1 : (laws_FnSequences.j1 kj7 t541 t565 true) = some r:=by rw [if_neg (show ¬ (false = true) by decide)] at H;exact H
          clear H
          have H:=H1
          clear H1
          have H':=Aside0.mk H
          clear H
          go_wp2
          repeat (go_quiet (fail);try go_wp2)
          go_meet
          case rel=>exact ⟨_,(true),fz,H',⟨by have:=HJ7.out;first|omega|exact Nat.le_refl _⟩,⟨by (with_reducible repeat (first|apply Kd.R_alloc|apply Kd.R_drewN|apply Kd.R_drew));exact Kd.R_mono HO_6.out (fun _ hk=>⟨hk.2.1,hk.2.2⟩)⟩,⟨by (with_reducible repeat (first|apply Kd.S_alloc|apply Kd.S_drewN|apply Kd.S_drew));exact Kd.S_mono HO567.out (fun _ hk=>⟨hk.1.1.2,⟨hk.1.2,hk.2⟩⟩)⟩,⟨by (with_reducible repeat (first|apply Kd.R_alloc|apply Kd.R_drewN|apply Kd.R_drew));exact HO_555001.out⟩,⟨by (with_reducible repeat (first|apply Kd.R_alloc|apply Kd.R_drewN|apply Kd.R_drew));exact Kd.R_mono HO_555002.out (fun _ hk=>⟨hk.2.1,hk.2.2⟩)⟩,⟨by (with_reducible repeat (first|apply Kd.R_alloc|apply Kd.R_drewN|apply Kd.R_drew));exact HO_564001.out⟩,⟨by (with_reducible repeat (first|apply Kd.R_alloc|apply Kd.R_drewN|apply Kd.R_drew));exact Kd.R_mono HO_564002.out (fun _ hk=>⟨hk.2.1,hk.2.2⟩)⟩,⟨by (with_reducible repeat (first|refine blk_drewN ?_ _|refine blk_drew ?_|refine blk_alloc ?_ _));exact BK554.out⟩,⟨by (with_reducible repeat (first|refine blk_drewN ?_ _|refine blk_drew ?_|refine blk_alloc ?_ _));exact BK563.out⟩,⟨by repeat (first|(with_reducible first|exact HB.out|apply below_alloc|apply pw_below_drewN|apply below_drew1|refine below_set ?_ GE554.out|refine below_set ?_ GE563.out)|exact HB.out)⟩⟩
        ·replace c40:=Bool.eq_false_iff.mpr c40
         subst c40
         have H1 : (laws_FnSequences.j1 kj7 t541 t565 true) = some r:=by rw [if_neg (show ¬ (false = true) by decide)] at H;exact H
         clear H
         have H:=H1
         clear H1
         have H':=Aside0.mk H
         clear H
         go_wp2
         repeat (go_quiet (fail);try go_wp2)
         go_meet
         case rel=>exact ⟨_,(true),fz,H',⟨by have:=HJ7.out;first|omega|exact Nat.le_refl _⟩,⟨by (with_reducible repeat (first|apply Kd.R_alloc|apply Kd.R_drewN|apply Kd.R_drew));exact Kd.R_mono HO_6.out (fun _ hk=>⟨hk.2.1,hk.2.2⟩)⟩,⟨by (with_reducible repeat (first|apply Kd.S_alloc|apply Kd.S_drewN|apply Kd.S_drew));exact Kd.S_mono HO567.out (fun _ hk=>⟨hk.1.1.2,⟨hk.1.2,hk.2⟩⟩)⟩,⟨by (with_reducible repeat (first|apply Kd.R_alloc|apply Kd.R_drewN|apply Kd.R_drew));exact HO_555001.out⟩,⟨by (with_reducible repeat (first|apply Kd.R_alloc|apply Kd.R_drewN|apply Kd.R_drew));exact Kd.R_mono HO_555002.out (fun _ hk=>⟨hk.2.1,hk.2.2⟩)⟩,⟨by (with_reducible repeat (first|apply Kd.R_alloc|apply Kd.R_drewN|apply Kd.R_drew));exact HO_564001.out⟩,⟨by (with_reducible repeat (first|apply Kd.R_alloc|apply Kd.R_drewN|apply Kd.R_drew));exact Kd.R_mono HO_564002.out (fun _ hk=>⟨hk.2.1,hk.2.2⟩)⟩,⟨by (with_reducible repeat (first|refine blk_drewN ?_ _|refine blk_drew ?_|refine blk_alloc ?_ _));exact BK554.out⟩,⟨by (with_reducible repeat (first|refine blk_drewN ?_ _|refine blk_drew ?_|refine blk_alloc ?_ _));exact BK563.out⟩,⟨by repeat (first|(with_reducible first|exact HB.out|apply below_alloc|apply pw_below_drewN|apply below_drew1|refine below_set ?_ GE554.out|refine below_set ?_ GE563.out)|exact HB.out)⟩⟩
       ·replace c39:=Bool.eq_false_iff.mpr c39
        subst c39
        have H1 : (laws_FnSequences.j1 kj7 t541 t565 true) = some r:=by rw [if_neg (show ¬ (false = true) by decide)] at H;exact H
        clear H
        have H:=H1
        clear H1
        have H':=Aside0.mk H
        clear H
        go_wp2
        repeat (go_quiet (fail);try go_wp2)
        go_meet
        case rel=>exact ⟨_,(true),fz,H',⟨by have:=HJ7.out;first|omega|exact Nat.le_refl _⟩,⟨by (with_reducible repeat (first|apply Kd.R_alloc|apply Kd.R_drewN|apply Kd.R_drew));exact Kd.R_mono HO_6.out (fun _ hk=>⟨hk.2.1,hk.2.2⟩)⟩,⟨by (with_reducible repeat (first|apply Kd.S_alloc|apply Kd.S_drewN|apply Kd.S_drew));exact Kd.S_mono HO567.out (fun _ hk=>⟨hk.1.1.2,⟨hk.1.2,hk.2⟩⟩)⟩,⟨by (with_reducible repeat (first|apply Kd.R_alloc|apply Kd.R_drewN|apply Kd.R_drew));exact HO_555001.out⟩,⟨by (with_reducible repeat (first|apply Kd.R_alloc|apply Kd.R_drewN|apply Kd.R_drew));exact Kd.R_mono HO_555002.out (fun _ hk=>⟨hk.2.1,hk.2.2⟩)⟩,⟨by (with_reducible repeat (first|apply Kd.R_alloc|apply Kd.R_drewN|apply Kd.R_drew));exact HO_564001.out⟩,⟨by (with_reducible repeat (first|apply Kd.R_alloc|apply Kd.R_drewN|apply Kd.R_drew));exact Kd.R_mono HO_564002.out (fun _ hk=>⟨hk.2.1,hk.2.2⟩)⟩,⟨by (with_reducible repeat (first|refine blk_drewN ?_ _|refine blk_drew ?_|refine blk_alloc ?_ _));exact BK554.out⟩,⟨by (with_reducible repeat (first|refine blk_drewN ?_ _|refine blk_drew ?_|refine blk_alloc ?_ _));exact BK563.out⟩,⟨by repeat (first|(with_reducible first|exact HB.out|apply below_alloc|apply pw_below_drewN|apply below_drew1|refine below_set ?_ GE554.out|refine below_set ?_ GE563.out)|exact HB.out)⟩⟩
      case rest=>
       clear HC33
       try clear c1
       try clear c2
       try clear p2
       try clear c3
       try clear c4
       try clear p6
       try clear c9
       try clear c19
       try clear c23
       try clear c23b0
       try clear c23b1
       try clear c23b2
       try clear c25
       try clear c29
       try clear c30
       try clear c34
       try clear c39
       try clear c40
       try clear c41
       try clear c42
       try clear c42b0
       try clear c42b1
       try clear c42b2
       try clear c44
       try clear hcz14_0
       try clear hcz14_1
       try clear hcz14_2
       try clear hcz20_0
       try clear hcz20_1
       try clear hcz20_2
       try clear hcz26_0
       try clear hcz26_1
       try clear hcz26_2
       try clear hcz27_0
       try clear hcz27_1
       try clear hcz27_2
       try clear hcz35_0
       try clear hcz35_1
       try clear hcz35_2
       try clear hcz37_0
       try clear hcz37_1
       try clear hcz37_2
       try clear hcz45_0
       try clear hcz45_1
       try clear hcz45_2
       try clear hfz14_0
       try clear hfz14_1
       try clear hfz14_2
       try clear hfz20_0
       try clear hfz20_1
       try clear hfz20_2
       try clear hfz26_0
       try clear hfz26_1
       try clear hfz26_2
       try clear hfz27_0
       try clear hfz27_1
       try clear hfz27_2
       try clear hfz35_0
       try clear hfz35_1
       try clear hfz35_2
       try clear hfz37_0
       try clear hfz37_1
       try clear hfz37_2
       try clear hfz45_0
       try clear hfz45_1
       try clear hfz45_2
       try clear p2
       obtain ⟨kq,x83_32,rfl,HA,HJ32,HO_6,HO_11,HO_555001,HO_555002,HO_564001,HO_564002,BK554,BK563,HB⟩:=hcut
       cases kq with
       | zero=>exact absurd HA.out (by simp [laws_FnSequences.j1])
       | succ kj32=>
        have H:=HA.out
        clear HA
        simp only [laws_FnSequences.j1] at H
        by_cases c47 : x83_32 = true
        ·subst c47
         have H1 : (some false) = some r:=by rw [if_pos rfl] at H;exact H
         clear H
         have H:=H1
         clear H1
         obtain rfl:=Option.some.inj H
         go_wp2
         repeat (go_quiet (fail);try go_wp2)
         go_ret
         exact ⟨by first|rfl|(simp [errW_none,errW_some] <;> rfl)|(simp [*,errW_none,errW_some] <;> rfl),by repeat (first|(with_reducible first|exact HB.out|apply below_alloc|apply pw_below_drewN|apply below_drew1|refine below_set ?_ GE554.out|refine below_set ?_ GE563.out)|exact HB.out)⟩
        ·replace c47:=Bool.eq_false_iff.mpr c47
         subst c47
         have H1 : (laws_FnSequences.l0 kj32 t541 t565 (t565.length : Int) 0) = some r:=by rw [if_neg (show ¬ (false = true) by decide)] at H;exact H
         clear H
         have H:=H1
         clear H1
         have H':=Aside0.mk H
         clear H
         obtain ⟨Ao48,co48,eo48⟩:=Kd.S_slice HO_11.out
         subst eo48
         go_wp2
         repeat (go_quiet (fail);try go_wp2)
         go_loopg [86] kj32 (fun kq v86 w'=>∃ (x86_3 : Int),v86 = .int .i64 x86_3 ∧ Aside0 (laws_FnSequences.l0 kq t541 t565 (t565.length : Int) x86_3 = some r) ∧ Aside0 (kq ≤ kj32) ∧ Aside0 (Kd.R (Kd.int .i64) 3 w' w.heap.size (fun k_=>some k_ ≠ ((.slice Ao16 t550.length co16) : Value).ownBlock ∧ some k_ ≠ ((.slice Ao22 t559.length co22) : Value).ownBlock) (.slice Ao11 t541.length co11) t541) ∧ Aside0 (Kd.S (Kd.slice 3 (Kd.int .i64)) 23 w' w.heap.size (fun k_=>some k_ ≠ ((.slice Ao11 t541.length co11) : Value).ownBlock ∧ some k_ ≠ ((.slice Ao16 t550.length co16) : Value).ownBlock ∧ some k_ ≠ ((.slice Ao22 t559.length co22) : Value).ownBlock) (.slice Ao48 t565.length co48) t565) ∧ Aside0 (Kd.R k73 73 w' w.heap.size (fun k_=>some k_ ≠ ((.slice Ao21 t556.length co21) : Value).ownBlock) (.slice Ao15 t547.length co15) t547) ∧ Aside0 (Kd.R (Kd.int .i64) 3 w' w.heap.size (fun k_=>some k_ ≠ ((.slice Ao11 t541.length co11) : Value).ownBlock ∧ some k_ ≠ ((.slice Ao22 t559.length co22) : Value).ownBlock) (.slice Ao16 t550.length co16) t550) ∧ Aside0 (Kd.R k73 73 w' w.heap.size (fun k_=>some k_ ≠ ((.slice Ao15 t547.length co15) : Value).ownBlock) (.slice Ao21 t556.length co21) t556) ∧ Aside0 (Kd.R (Kd.int .i64) 3 w' w.heap.size (fun k_=>some k_ ≠ ((.slice Ao11 t541.length co11) : Value).ownBlock ∧ some k_ ≠ ((.slice Ao16 t550.length co16) : Value).ownBlock) (.slice Ao22 t559.length co22) t559) ∧ Aside0 (w'.heap[gb554]? = some (.cells #[.int .i64 t546,(.slice Ao15 t547.length co15),(.slice Ao16 t550.length co16)] 29 (0,0))) ∧ Aside0 (w'.heap[gb563]? = some (.cells #[.int .i64 t555,(.slice Ao21 t556.length co21),(.slice Ao22 t559.length co22)] 29 (0,0))) ∧ Aside0 (Below w.heap.size w w'))
         case atStart=>exact ⟨(0),fz,H',⟨Nat.le_refl _⟩,⟨by (with_reducible repeat (first|apply Kd.R_alloc|apply Kd.R_drewN|apply Kd.R_drew));exact HO_6.out⟩,⟨by (with_reducible repeat (first|apply Kd.S_alloc|apply Kd.S_drewN|apply Kd.S_drew));exact HO_11.out⟩,⟨by (with_reducible repeat (first|apply Kd.R_alloc|apply Kd.R_drewN|apply Kd.R_drew));exact HO_555001.out⟩,⟨by (with_reducible repeat (first|apply Kd.R_alloc|apply Kd.R_drewN|apply Kd.R_drew));exact HO_555002.out⟩,⟨by (with_reducible repeat (first|apply Kd.R_alloc|apply Kd.R_drewN|apply Kd.R_drew));exact HO_564001.out⟩,⟨by (with_reducible repeat (first|apply Kd.R_alloc|apply Kd.R_drewN|apply Kd.R_drew));exact HO_564002.out⟩,⟨by (with_reducible repeat (first|refine blk_drewN ?_ _|refine blk_drew ?_|refine blk_alloc ?_ _));exact BK554.out⟩,⟨by (with_reducible repeat (first|refine blk_drewN ?_ _|refine blk_drew ?_|refine blk_alloc ?_ _));exact BK563.out⟩,⟨by repeat (first|(with_reducible first|exact HB.out|apply below_alloc|apply pw_below_drewN|apply below_drew1|refine below_set ?_ GE554.out|refine below_set ?_ GE563.out)|exact HB.out)⟩⟩
         case round=>
          clear H'
          try clear c1
          try clear c2
          try clear p2
          try clear c3
          try clear c4
          try clear p6
          try clear c9
          try clear c19
          try clear c23
          try clear c23b0
          try clear c23b1
          try clear c23b2
          try clear c25
          try clear c29
          try clear c30
          try clear c34
          try clear c39
          try clear c40
          try clear c41
          try clear c42
          try clear c42b0
          try clear c42b1
          try clear c42b2
          try clear c44
          try clear c47
          try clear hcz14_0
          try clear hcz14_1
          try clear hcz14_2
          try clear hcz20_0
          try clear hcz20_1
          try clear hcz20_2
          try clear hcz26_0
          try clear hcz26_1
          try clear hcz26_2
          try clear hcz27_0
          try clear hcz27_1
          try clear hcz27_2
          try clear hcz35_0
          try clear hcz35_1
          try clear hcz35_2
          try clear hcz37_0
          try clear hcz37_1
          try clear hcz37_2
          try clear hcz45_0
          try clear hcz45_1
          try clear hcz45_2
          try clear hfz14_0
          try clear hfz14_1
          try clear hfz14_2
          try clear hfz20_0
          try clear hfz20_1
          try clear hfz20_2
          try clear hfz26_0
          try clear hfz26_1
          try clear hfz26_2
          try clear hfz27_0
          try clear hfz27_1
          try clear hfz27_2
          try clear hfz35_0
          try clear hfz35_1
          try clear hfz35_2
          try clear hfz37_0
          try clear hfz37_1
          try clear hfz37_2
          try clear hfz45_0
          try clear hfz45_1
          try clear hfz45_2
          try clear p2
          try clear p6
          obtain ⟨x86_3,rfl,HA,HK3,HO_6,HO_84,HO_555001,HO_555002,HO_564001,HO_564002,BK554,BK563,HB⟩:=hrel
          cases gk with
          | zero=>exact absurd HA.out (by simp [laws_FnSequences.l0])
          | succ k3=>
           have H:=HA.out
           clear HA
           simp only [laws_FnSequences.l0] at H
           by_cases c49 : x86_3 < (t565.length : Int)
           ·rw [if_pos c49] at H
            have c49b0 : decide (x86_3 < (t565.length : Int)) = true:=decide_eq_true c49
            clear c49
            by_cases c50 : 0 ≤ x86_3
            ·rw [if_pos c50] at H
             have c50b0 : decide (0 ≤ x86_3) = true:=decide_eq_true c50
             clear c50
             by_cases c51 : x86_3 < (t565.length : Int)
             ·rw [if_pos c51] at H
              have c51b0 : decide (x86_3 < (t565.length : Int)) = true:=decide_eq_true c51
              clear c51
              by_cases c52 : 0 < ((rd_L4 t565 x86_3).length : Int)
              ·rw [if_pos c52] at H
               have c52b0 : decide (0 < ((rd_L4 t565 x86_3).length : Int)) = true:=decide_eq_true c52
               have c52b1 : decide (0 < (rd_L4 t565 x86_3).length) = true:=decide_eq_true (by omega)
               clear c52
               by_cases c53 : x86_3 < (t541.length : Int)
               ·rw [if_pos c53] at H
                have c53b0 : decide (x86_3 < (t541.length : Int)) = true:=decide_eq_true c53
                clear c53
                by_cases c54 : (rd (rd_L4 t565 x86_3) 0) = (rd t541 x86_3)
                ·rw [if_pos c54] at H
                 have c54b0 : ((rd (rd_L4 t565 x86_3) 0) == (rd t541 x86_3)) = true:=beq_iff_eq.mpr c54
                 have c54b1 : ((rd (rd_L4 t565 x86_3) 0) != (rd t541 x86_3)) = false:=bne_eq_false_iff_eq.mpr c54
                 clear c54
                 have H':=Aside0.mk H
                 clear H
                 have p571 : 0 ≤ (x86_3 : Int):=of_decide_eq_true az
                 have q571 : x86_3 < (t565.length : Int):=of_decide_eq_true az
                 obtain ⟨ad571,A571_0,c571_0,e571,hx571_0,hl571_0,hi571_0⟩:=at_L4 (Kd.S_reads' HO_84.out).2.2 x86_3 p571 q571
                 cases e571
                 obtain ⟨ce571,hce571,hMe571,hcc571⟩:=Kd.S_get HO_84.out [] x86_3 p571 (by first|exact q571|exact of_decide_eq_true az|(have e_:=(Kd.S_reads' HO_84.out).1;omega))
                 obtain ⟨ve571_0,rfl,ge571_0⟩:=hMe571
                 have hv571_0:=hcc571 0 _ rfl
                 rw [Nat.add_zero,show ((Kd.slice 3 (Kd.int .i64))).sz = 1 from rfl,Nat.mul_one] at hv571_0
                 replace hv571_0:=Option.some.inj (hv571_0.symm.trans hx571_0)
                 rw [hv571_0] at ge571_0
                 have HL571_0:=Aside0.mk (show Kd.R (Kd.int .i64) 3 _ _ _ _ (rd_L4 t565 x86_3) from ge571_0)
                 clear hv571_0 ge571_0
                 clear hcc571 hce571
                 have HR571_0:=Aside0.mk hi571_0
                 have HC571_0:=Aside0.mk hl571_0
                 clear hi571_0 hl571_0
                 replace p571:=eq_true p571
                 replace q571:=eq_true q571
                 have p572 : 0 ≤ (0 : Int):=(by omega)
                 have q572 : 0 < ((rd_L4 t565 x86_3).length : Int):=of_decide_eq_true az
                 obtain ⟨ad572,e572,hx572_0⟩:=Kd.at_int (by repeat (first|(with_reducible exact HR571_0.out)|(with_reducible refine Kd.C_alloc ?_ _)|(with_reducible refine Kd.C_drewN ?_ _)|(with_reducible refine Kd.C_drew ?_)|exact HR571_0.out)) 0 p572 q572
                 cases e572
                 have qi572 : (0 < (rd_L4 t565 x86_3).length) = True:=eq_true (by omega)
                 (try rw [show ((0 : Int)).toNat = 0 from rfl] at hx572_0)
                 (try rw [Addr.add_zero'] at hx572_0)
                 replace p572:=eq_true p572
                 replace q572:=eq_true q572
                 have p573 : 0 ≤ (x86_3 : Int):=of_decide_eq_true az
                 have q573 : x86_3 < (t541.length : Int):=of_decide_eq_true az
                 obtain ⟨ad573,e573,hx573_0⟩:=Kd.at_int (Kd.R_reads' HO_6.out).2.2 x86_3 p573 q573
                 cases e573
                 replace p573:=eq_true p573
                 replace q573:=eq_true q573
                 go_wp2
                 repeat (go_quiet (fail);try go_wp2)
                 go_roundg k3
                 case measure=>have:=HJ7.out;have:=HJ32.out;have:=HK3.out;omega
                 case rel=>exact ⟨(wrap64 (x86_3 + 1)),fz,H',⟨by have:=HJ7.out;have:=HJ32.out;have:=HK3.out;omega⟩,⟨by (with_reducible repeat (first|apply Kd.R_alloc|apply Kd.R_drewN|apply Kd.R_drew));exact HO_6.out⟩,⟨by (with_reducible repeat (first|apply Kd.S_alloc|apply Kd.S_drewN|apply Kd.S_drew));exact HO_84.out⟩,⟨by (with_reducible repeat (first|apply Kd.R_alloc|apply Kd.R_drewN|apply Kd.R_drew));exact HO_555001.out⟩,⟨by (with_reducible repeat (first|apply Kd.R_alloc|apply Kd.R_drewN|apply Kd.R_drew));exact HO_555002.out⟩,⟨by (with_reducible repeat (first|apply Kd.R_alloc|apply Kd.R_drewN|apply Kd.R_drew));exact HO_564001.out⟩,⟨by (with_reducible repeat (first|apply Kd.R_alloc|apply Kd.R_drewN|apply Kd.R_drew));exact HO_564002.out⟩,⟨by (with_reducible repeat (first|refine blk_drewN ?_ _|refine blk_drew ?_|refine blk_alloc ?_ _));exact BK554.out⟩,⟨by (with_reducible repeat (first|refine blk_drewN ?_ _|refine blk_drew ?_|refine blk_alloc ?_ _));exact BK563.out⟩,⟨by repeat (first|(with_reducible first|exact HB.out|apply below_alloc|apply pw_below_drewN|apply below_drew1|refine below_set ?_ GE554.out|refine below_set ?_ GE563.out)|exact HB.out)⟩⟩
                ·rw [if_neg c54] at H
                 have c54b0 : ((rd (rd_L4 t565 x86_3) 0) == (rd t541 x86_3)) = false:=beq_eq_false_iff_ne.mpr c54
                 have c54b1 : ((rd (rd_L4 t565 x86_3) 0) != (rd t541 x86_3)) = true:=bne_iff_ne.mpr c54
                 obtain rfl:=Option.some.inj H
                 have p571 : 0 ≤ (x86_3 : Int):=of_decide_eq_true az
                 have q571 : x86_3 < (t565.length : Int):=of_decide_eq_true az
                 obtain ⟨ad571,A571_0,c571_0,e571,hx571_0,hl571_0,hi571_0⟩:=at_L4 (Kd.S_reads' HO_84.out).2.2 x86_3 p571 q571
                 cases e571
                 obtain ⟨ce571,hce571,hMe571,hcc571⟩:=Kd.S_get HO_84.out [] x86_3 p571 (by first|exact q571|exact of_decide_eq_true az|(have e_:=(Kd.S_reads' HO_84.out).1;omega))
                 obtain ⟨ve571_0,rfl,ge571_0⟩:=hMe571
                 have hv571_0:=hcc571 0 _ rfl
                 rw [Nat.add_zero,show ((Kd.slice 3 (Kd.int .i64))).sz = 1 from rfl,Nat.mul_one] at hv571_0
                 replace hv571_0:=Option.some.inj (hv571_0.symm.trans hx571_0)
                 rw [hv571_0] at ge571_0
                 have HL571_0:=Aside0.mk (show Kd.R (Kd.int .i64) 3 _ _ _ _ (rd_L4 t565 x86_3) from ge571_0)
                 clear hv571_0 ge571_0
                 clear hcc571 hce571
                 have HR571_0:=Aside0.mk hi571_0
                 have HC571_0:=Aside0.mk hl571_0
                 clear hi571_0 hl571_0
                 replace p571:=eq_true p571
                 replace q571:=eq_true q571
                 have p572 : 0 ≤ (0 : Int):=(by omega)
                 have q572 : 0 < ((rd_L4 t565 x86_3).length : Int):=of_decide_eq_true az
                 obtain ⟨ad572,e572,hx572_0⟩:=Kd.at_int (by repeat (first|(with_reducible exact HR571_0.out)|(with_reducible refine Kd.C_alloc ?_ _)|(with_reducible refine Kd.C_drewN ?_ _)|(with_reducible refine Kd.C_drew ?_)|exact HR571_0.out)) 0 p572 q572
                 cases e572
                 have qi572 : (0 < (rd_L4 t565 x86_3).length) = True:=eq_true (by omega)
                 (try rw [show ((0 : Int)).toNat = 0 from rfl] at hx572_0)
                 (try rw [Addr.add_zero'] at hx572_0)
                 replace p572:=eq_true p572
                 replace q572:=eq_true q572
                 have p573 : 0 ≤ (x86_3 : Int):=of_decide_eq_true az
                 have q573 : x86_3 < (t541.length : Int):=of_decide_eq_true az
                 obtain ⟨ad573,e573,hx573_0⟩:=Kd.at_int (Kd.R_reads' HO_6.out).2.2 x86_3 p573 q573
                 cases e573
                 replace p573:=eq_true p573
                 replace q573:=eq_true q573
                 go_wp2
                 repeat (go_quiet (fail);try go_wp2)
                 go_ret
                 exact ⟨by first|rfl|(simp [errW_none,errW_some] <;> rfl)|(simp [*,errW_none,errW_some] <;> rfl),by repeat (first|(with_reducible first|exact HB.out|apply below_alloc|apply pw_below_drewN|apply below_drew1|refine below_set ?_ GE554.out|refine below_set ?_ GE563.out)|exact HB.out)⟩
               ·rw [if_neg c53] at H
                exact absurd H (by simp)
              ·rw [if_neg c52] at H
               exact absurd H (by simp)
             ·rw [if_neg c51] at H
              exact absurd H (by simp)
            ·rw [if_neg c50] at H
             exact absurd H (by simp)
           ·rw [if_neg c49] at H
            have c49b0 : decide (x86_3 < (t565.length : Int)) = false:=decide_eq_false c49
            clear c49
            obtain rfl:=Option.some.inj H
            go_wp2
            repeat (go_quiet (fail);try go_wp2)
            go_ret
            exact ⟨by first|rfl|(simp [errW_none,errW_some] <;> rfl)|(simp [*,errW_none,errW_some] <;> rfl),by repeat (first|(with_reducible first|exact HB.out|apply below_alloc|apply pw_below_drewN|apply below_drew1|refine below_set ?_ GE554.out|refine below_set ?_ GE563.out)|exact HB.out)⟩
     ·replace c30:=Bool.eq_false_iff.mpr c30
      subst c30
      have H1 : (some true) = some r:=by rw [if_neg (show ¬ (false = true) by decide)] at H;exact H
      clear H
      have H:=H1
      clear H1
      obtain rfl:=Option.some.inj H
      go_wp2
      repeat (go_quiet (fail);try go_wp2)
      go_ret
      exact ⟨by first|rfl|(simp [errW_none,errW_some] <;> rfl)|(simp [*,errW_none,errW_some] <;> rfl),by repeat (first|(with_reducible first|exact HB.out|apply below_alloc|apply pw_below_drewN|apply below_drew1|refine below_set ?_ GE554.out|refine below_set ?_ GE563.out)|exact HB.out)⟩
/-- THE ONE PURE STATEMENT of laws_FnSequences: yours. -/
def laws_FnSequences.Pure : Prop:=∀ (l0 : List Int) (l1 : List Int),l0.length ≤ maxLen → l0.length * 1 ≤ 140737488351232 → (∀ x ∈ l0,(Lit.int .u8 x).wf = true) → l1.length ≤ maxLen → l1.length * 1 ≤ 140737488351232 → (∀ x ∈ l1,(Lit.int .u8 x).wf = true) → ∃ k,laws_FnSequences.f k l0 l1 = some true
theorem laws_FnSequences.walk (P : laws_FnSequences.Pure) (a0 : Option Addr) (len0 cap0 : Nat) (z0 : List Int) (a1 : Option Addr) (len1 cap1 : Nat) (z1 : List Int) (w : World) (w0 : (a0 = none ∧ len0 = 0 ∧ cap0 = 0 ∧ z0 = []) ∨ ∃ x,a0 = some x ∧ len0 ≤ cap0 ∧ cap0 ≤ maxLen ∧ z0.length = cap0 ∧ (∀ i,i < z0.length → w.cell? (x.add i) = some (.int .u8 (z0.getD i 0))) ∧ ∀ n ∈ z0,(Lit.int .u8 n).wf = true) (y0 : len0 * 1 ≤ 140737488351232) (w1 : (a1 = none ∧ len1 = 0 ∧ cap1 = 0 ∧ z1 = []) ∨ ∃ x,a1 = some x ∧ len1 ≤ cap1 ∧ cap1 ≤ maxLen ∧ z1.length = cap1 ∧ (∀ i,i < z1.length → w.cell? (x.add i) = some (.int .u8 (z1.getD i 0))) ∧ ∀ n ∈ z1,(Lit.int .u8 n).wf = true) (y1 : len1 * 1 ≤ 140737488351232) :
  Calls Try.prog 9 #[.slice a0 len0 cap0,.slice a1 len1 cap1] w fun e w'=>e = .returned (.bool true) ∧ Below w.heap.size w w':=by
 obtain ⟨l0,rfl,hr0,hm0,hw0,hc0⟩:=ReadsInt.ofRowC w0
 obtain ⟨l1,rfl,hr1,hm1,hw1,hc1⟩:=ReadsInt.ofRowC w1
 obtain ⟨k,h⟩:=P l0 l1 hm0 y0 hw0 hm1 y1 hw1
 refine (laws_FnSequences.calls k _ _ l0 _ _ l1 true w (Kd.C_of_reads (d:=(0 : Int)) (h1:=fun _=>rfl) hr0) hc0 (Kd.C_of_reads (d:=(0 : Int)) (h1:=fun _=>rfl) hr1) hc1 h).mono ?_
 rintro e w' ⟨rfl,hd⟩
 exact ⟨rfl,hd⟩
end Go.Proofs.Ytdcdaoancmpbeaa.MFnSequences
--sq
