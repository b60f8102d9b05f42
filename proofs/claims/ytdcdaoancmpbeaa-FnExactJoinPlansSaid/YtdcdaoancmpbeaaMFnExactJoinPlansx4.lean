import Derived.Test.YtdcdaoancmpbeaaMFnExactJoinPlansx0
import Derived.Test.YtdcdaoancmpbeaaMFnExactJoinPlansx3
namespace Go.Proofs.Ytdcdaoancmpbeaa.MFnExactJoinPlans
open Go.RowKit Go.Proofs.YtdcdaoancmpbeaaW.PrintWords Go.Proofs.YtdcdaoancmpbeaaW.PrintLast Go.Proofs.YtdcdaoancmpbeaaW.PrintMore Go.Proofs.YtdcdaoancmpbeaaV Go.Proofs.YtdcdaoancmpbeaaZ
attribute [local go_sem] max2_int min2_int max_two min_two max_three min_three max_four min_four   -- for this text's walks alone
set_option linter.unusedVariables false
set_option linter.unusedSimpArgs false
/-! ### spec_plThen: function 39 -/
mutual
def spec_plThen.l0 : Nat → Int → List Int → List (S73) → List (S73) → Int → Int → Int → List (S73) → List Int → Option ((List (S73)) × List Int)
 | 0,_,_,_,_,_,_,_,_,_=>none
 | k + 1,x1,x10,x11,x23,x24,x25,x151000,x151001,x151002=>if x25 < x24 then (if 0 ≤ x25 then (if x25 < (x23.length : Int) then (if 0 ≤ ((rd_T73 x23 x25).f0) then (if ((rd_T73 x23 x25).f0) < (x10.length : Int) then (if 0 ≤ ((rd_T73 x23 x25).f1) then (if ((rd_T73 x23 x25).f1) < (x10.length : Int) then ((spec_plStep.f (rd x10 ((rd_T73 x23 x25).f0)) (rd x10 ((rd_T73 x23 x25).f1))).bind fun bt164=>(if x11.length < 8796093022208 then ((some (x11 ++ [(⟨bt164.1,bt164.2⟩ : S73)] : List (S73))).bind fun y166=>(if x10.length < 17592186044416 then (spec_plThen.l0 k x1 (x10 ++ [wrap64 ((wrap64 (x1 + (y166.length : Int))) - 1)]) y166 x23 x24 (wrap64 (x25 + 1)) x151000 x151001 x151002) else (none))) else (none))) else (none)) else (none)) else (none)) else (none)) else (none)) else (none)) else (spec_plThen.l1 k x10 x11 ([] : List Int) x151002 (x151002.length : Int) 0)
def spec_plThen.l1 : Nat → List Int → List (S73) → List Int → List Int → Int → Int → Option ((List (S73)) × List Int)
 | 0,_,_,_,_,_,_=>none
 | k + 1,x10,x11,x14,x53,x54,x55=>if x55 < x54 then (if 0 ≤ x55 then (if x55 < (x53.length : Int) then (if 0 ≤ (rd x53 x55) then (if (rd x53 x55) < (x10.length : Int) then (if x14.length < 17592186044416 then (spec_plThen.l1 k x10 x11 (x14 ++ [rd x10 (rd x53 x55)]) x53 x54 (wrap64 (x55 + 1))) else (none)) else (none)) else (none)) else (none)) else (none)) else (some (x11,x14))
end
def spec_plThen.f (k : Nat) (l0 : List (S73)) (a1 : Int) (a2_0 : Int) (l2_1 : List (S73)) (l2_2 : List Int) (l3 : List Int) : Option ((List (S73)) × List Int):=(spec_l1Own.f l3).bind fun t151=>((some (([] : List (S73)) : List (S73))).bind fun y154=>(if y154.length + l0.length < 8796093022208 then (spec_plThen.l0 k a1 t151 (y154 ++ l0) l2_1 (l2_1.length : Int) 0 a2_0 l2_1 l2_2) else (none)))
theorem spec_plThen.mono_l : ∀ k,(∀ y0 y1 y2 y3 y4 y5 y6 y7 y8,LeO (spec_plThen.l0 k y0 y1 y2 y3 y4 y5 y6 y7 y8) (spec_plThen.l0 (k + 1) y0 y1 y2 y3 y4 y5 y6 y7 y8)) ∧ (∀ y0 y1 y2 y3 y4 y5,LeO (spec_plThen.l1 k y0 y1 y2 y3 y4 y5) (spec_plThen.l1 (k + 1) y0 y1 y2 y3 y4 y5))
 | 0=>⟨fun _ _ _ _ _ _ _ _ _ r h=>by simp [spec_plThen.l0] at h,fun _ _ _ _ _ _ r h=>by simp [spec_plThen.l1] at h⟩
 | k + 1=>by
  obtain ⟨ih0,ih1⟩:=spec_plThen.mono_l k
  refine ⟨?_,?_⟩
  ·intro y0 y1 y2 y3 y4 y5 y6 y7 y8
   unfold spec_plThen.l0
   repeat' first
   | (with_reducible exact ih0 _ _ _ _ _ _ _ _ _)
   | (with_reducible exact ih1 _ _ _ _ _ _)
   | (with_reducible exact LeO.refl _)
   | (with_reducible exact LeO.none _)
   | (with_reducible refine LeO.ite ?_ ?_)
   | (with_reducible refine LeO.bind ?_ (fun _=>?_))
   | exact ih0 _ _ _ _ _ _ _ _ _
   | exact ih1 _ _ _ _ _ _
   | exact LeO.none _
   | refine LeO.ite ?_ ?_
   | refine LeO.bind ?_ (fun _=>?_)
  ·intro y0 y1 y2 y3 y4 y5
   unfold spec_plThen.l1
   repeat' first
   | (with_reducible exact ih0 _ _ _ _ _ _ _ _ _)
   | (with_reducible exact ih1 _ _ _ _ _ _)
   | (with_reducible exact LeO.refl _)
   | (with_reducible exact LeO.none _)
   | (with_reducible refine LeO.ite ?_ ?_)
   | (with_reducible refine LeO.bind ?_ (fun _=>?_))
   | exact ih0 _ _ _ _ _ _ _ _ _
   | exact ih1 _ _ _ _ _ _
   | exact LeO.none _
   | refine LeO.ite ?_ ?_
   | refine LeO.bind ?_ (fun _=>?_)
theorem spec_plThen.mono : ∀ a0 a1 a2 a3 a4 a5 k,LeO (spec_plThen.f k a0 a1 a2 a3 a4 a5) (spec_plThen.f (k + 1) a0 a1 a2 a3 a4 a5):=by
 intro a0 a1 a2 a3 a4 a5 k
 obtain ⟨ih0,ih1⟩:=spec_plThen.mono_l k
 unfold spec_plThen.f
 repeat' first
   | (with_reducible exact ih0 _ _ _ _ _ _ _ _ _)
   | (with_reducible exact ih1 _ _ _ _ _ _)
   | (with_reducible exact LeO.refl _)
   | (with_reducible exact LeO.none _)
   | (with_reducible refine LeO.ite ?_ ?_)
   | (with_reducible refine LeO.bind ?_ (fun _=>?_))
   | exact ih0 _ _ _ _ _ _ _ _ _
   | exact ih1 _ _ _ _ _ _
   | exact LeO.none _
   | refine LeO.ite ?_ ?_
   | refine LeO.bind ?_ (fun _=>?_)
def spec_plThen.T6 : Bool × List (List Nat × List Nat):=(true,[([],[]),([],[]),([],[]),([2],[2]),([1,3],[1,3]),([4],[4]),([],[]),([],[]),([7],[7]),([6,8],[6,8]),([9],[9]),([5,10],[5,10]),([11],[11]),([0,12,11],[0,12]),([13,13,0,1,2,3,4,5,6,7,8,9,10,11,12,13],[0,13])])
def spec_plThen.B6 : List Nat:=[0,0,0,4,14,30,0,0,128,448,960,2046,4094,8191,16383]
theorem spec_plThen.tab6 : rtab .any (opsOf Try.f39 6) = spec_plThen.T6:=by kernel_rfl
theorem spec_plThen.bits6 : waitsOk spec_plThen.T6.2 spec_plThen.B6 = true:=by kernel_rfl
set_option maxHeartbeats 8000000 in
set_option maxRecDepth 100000 in
theorem spec_plThen.calls (k : Nat) (A0 : Option Addr) (c0 : Nat) (l0 : List (S73)) (a1 : Int) (a2_0 : Int) (A2_1 : Option Addr) (c2_1 : Nat) (l2_1 : List (S73)) (A2_2 : Option Addr) (c2_2 : Nat) (l2_2 : List Int) (A3 : Option Addr) (c3 : Nat) (l3 : List Int) (r1 : List (S73)) (r2 : List Int) (w : World) (hr0 : Kd.C k73 w A0 l0.length l0) (hc0 : l0.length ≤ c0) (hr2_1 : Kd.C k73 w A2_1 l2_1.length l2_1) (hc2_1 : l2_1.length ≤ c2_1) (hr2_2 : Kd.C (Kd.int .i64) w A2_2 l2_2.length l2_2) (hc2_2 : l2_2.length ≤ c2_2) (hr3 : Kd.C (Kd.int .i64) w A3 l3.length l3) (hc3 : l3.length ≤ c3) (h : spec_plThen.f k l0 a1 a2_0 l2_1 l2_2 l3 = some (r1,r2)) :
  Calls Try.prog 39 #[.slice A0 l0.length c0,.int .i64 a1,.agg #[.int .i64 a2_0,.slice A2_1 l2_1.length c2_1,.slice A2_2 l2_2.length c2_2],.slice A3 l3.length c3] w fun e w'=>∃ v0_ v1_ : Value,e = .returned (.tuple #[v0_,v1_]) ∧ Kd.R k73 73 w' w.heap.size (fun _=>True) v0_ r1 ∧ Kd.R (Kd.int .i64) 3 w' w.heap.size (fun _=>True) v1_ r2 ∧ Below w.heap.size w w':=by
 have hu29:=Try.underlying29
 have hu73:=Try.underlying73
 have HR0:=Aside0.mk hr0
 have HC0:=Aside0.mk hc0
 clear hr0 hc0
 have HR2_1:=Aside0.mk hr2_1
 have HC2_1:=Aside0.mk hc2_1
 clear hr2_1 hc2_1
 have HR2_2:=Aside0.mk hr2_2
 have HC2_2:=Aside0.mk hc2_2
 clear hr2_2 hc2_2
 have HR3:=Aside0.mk hr3
 have HC3:=Aside0.mk hc3
 clear hr3 hc3
 have HB:=Aside0.mk (Below.refl w.heap.size w)
 have H : ((spec_l1Own.f l3).bind fun t151=>((some (([] : List (S73)) : List (S73))).bind fun y154=>(if y154.length + l0.length < 8796093022208 then (spec_plThen.l0 k a1 t151 (y154 ++ l0) l2_1 (l2_1.length : Int) 0 a2_0 l2_1 l2_2) else (none)))) = some (r1,r2):=h
 clear h
 obtain ⟨t151,A5,H⟩:=bd H
 obtain ⟨y154,hy154⟩ : ∃ y_ : List (S73),y_ = (([] : List (S73))):=⟨_,rfl⟩
 replace H : (if y154.length + l0.length < 8796093022208 then (spec_plThen.l0 k a1 t151 (y154 ++ l0) l2_1 (l2_1.length : Int) 0 a2_0 l2_1 l2_2) else (none)) = some (r1,r2):=by first|(rw [hy154];with_reducible exact H)|(have H2_:=(Option.bind_some _ _).symm.trans H;rw [hy154];with_reducible exact H2_)|(have H2_:=(Option.bind_some _ _).symm.trans H;with_reducible exact H2_)|with_reducible exact H|(rw [hy154];exact H)|exact H
 have Ny154:=Aside0.mk hy154
 clear hy154
 by_cases c6 : y154.length + l0.length < 8796093022208
 ·rw [if_pos c6] at H
  have LMc6:=Aside0.mk c6
  clear c6
  obtain ⟨y157,hy157⟩ : ∃ y_ : List (S73),y_ = (y154 ++ l0):=⟨_,rfl⟩
  replace H : (spec_plThen.l0 k a1 t151 y157 l2_1 (l2_1.length : Int) 0 a2_0 l2_1 l2_2) = some (r1,r2):=by first|(rw [hy157];with_reducible exact H)|(have H2_:=(Option.bind_some _ _).symm.trans H;rw [hy157];with_reducible exact H2_)|(have H2_:=(Option.bind_some _ _).symm.trans H;with_reducible exact H2_)|with_reducible exact H|(rw [hy157];exact H)|exact H
  have Ny157:=Aside0.mk hy157
  clear hy157
  have H':=Aside0.mk H
  clear H
  go_enter Try.func39,Try.ntmps39
  go_wp2_with (first|((with_reducible refine gate_dst (N:=6) rfl ?_);refine box_event ?hg (N:=6) ?hd (cs:=#[.int .i64 a2_0,.slice A2_1 l2_1.length c2_1,.slice A2_2 l2_2.length c2_2]) (t:=29) ?hr ?_;(case hd=>rfl);(case hg=>rfl);(case hr=>first|(go_simp;done)|(go_simp;rfl));intro gb150 hg w7 hbox hb;have n0_:=Aside0.mk (below_step bz hb);have n1_:=Aside0.mk (hbox);have n2_:=Aside0.mk ((by rw [hg];exact (below_size bz) : w.heap.size ≤ gb150));have n3_:=Aside0.mk ((by rw [hg];exact (below_size bz) : w.heap.size ≤ gb150));clear HB;have HB:=n0_;have BK150:=n1_;have GW150:=n2_;have GE150:=n3_;clear n0_ n1_ n2_ n3_;clear hb hbox hg)|((with_reducible refine gate_callee (f:=42) rfl ?_);refine goesL_ (some 18) rfl rfl Try.func42 (by kernel_rfl) rfl #[.slice A3 l3.length c3] rfl mz ?_;(with_reducible refine (spec_l1Own.calls _ _ l3 t151 _ ?side1 ?side2 A5.out).mono ?_);(case side1=>exact cz (Kd.C_below HR3.out HB.out));(case side2=>exact HC3.out);rintro e w8 ⟨v152,rfl,ho0,hb⟩;refine ⟨_,rfl,?_⟩;have n0_:=Aside0.mk (Kd.R_lower ho0 (below_size bs));have n1_:=Aside0.mk (kb BK150.out hb);have n2_:=Aside0.mk (below_step bs hb);clear BK150 HB;have HO153:=n0_;have BK150:=n1_;have HB:=n2_;clear n0_ n1_ n2_;(try clear hb);(try clear ho0))|((with_reducible refine gate_dst (N:=19) rfl ?_);refine Kd.R_lit k73 _ 73 ?hg (N:=19) ?hd (xs:=([] : List (S73))) (inner:=[]) (ok:=fun _=>True) (okp:=fun _=>True) ?hr ?hp (fun _ hk=>hk) trivial (Below.refl _ _) (Nat.le_refl _) (by simp) ?_;(case hd=>rfl);(case hg=>rfl);(case hr=>first|(go_simp;done)|(go_simp;rfl));(case hp=>exact (Reps.none _ _));intro v155 w9 ho10 hb hg_ hnew_;clear hg_ hnew_;(first|rw [← Ny154.out] at ho10|(simp only [Int.reduceToNat] at ho10;rw [← Ny154.out] at ho10));have n0_:=Aside0.mk (Kd.R_below (rz HO153.out) hb);have n1_:=Aside0.mk (Kd.R_lower ho10 (below_size bs));have n2_:=Aside0.mk (kb BK150.out hb);have n3_:=Aside0.mk (below_step bs hb);clear HO153 BK150 HB;have HO153:=n0_;have HO156:=n1_;have BK150:=n2_;have HB:=n3_;clear n0_ n1_ n2_ n3_;clear hb ho10)|((with_reducible refine gate_builtin (b:=.append) (xs:=#[.tmp 19,.tmp 20]) rfl ?_);at_builtin;refine Kd.R_append_rows k73 (w0:=w) w.heap.size rfl (.tmp 19) (.tmp 20) 27 73 (.agg #[(.int .i64 0),(.int .i64 0)]) 16 rfl Try.underlying27 info73 rfl (by decide) (by omega) v155 y154 l0 _ _ _ (fun _=>True) (fun _=>False) rfl rfl ?aO ?aR (fun _ _ h=>h) (fun _ h=>h.elim) ?aF ?aB ?aS ?aL ?_;(case aR=>repeat (first|exact (Kd.C_below HR0.out HB.out)|(with_reducible refine Kd.C_alloc ?_ _)|(with_reducible refine Kd.C_drewN ?_ _)|(with_reducible refine Kd.C_drew ?_)));(case aB=>exact bs);(case aF=>exact (fun _ _=>trivial));(case aO=>exact (rz HO156.out));(case aS=>exact (below_size bs));(case aL=>have:=LMc6.out;omega);intro v158 w11 ho hb hg hat;rw [← Ny157.out] at ho;have n0_:=Aside0.mk (blk_grown (g:=gb150) (o:=.cells #[.int .i64 a2_0,.slice A2_1 l2_1.length c2_1,.slice A2_2 l2_2.length c2_2] 29 (0,0)) (kz BK150.out) hg (Kd.R_ne HO156.out BK150.out (by decide)));have n1_:=Aside0.mk (Kd.R_over' (rz HO153.out) (Kd.R_typed (rz HO156.out)) (by decide) hg);have n2_:=Aside0.mk (hb);have n3_:=Aside0.mk (ho);clear BK150 HO153 HB HO156;have BK150:=n0_;have HO153:=n1_;have HB:=n2_;have HO159:=n3_;clear n0_ n1_ n2_ n3_;clear ho hb hg hat;have hcz12_0 : w11.cell? ⟨gb150,0,none⟩ = some (.int .i64 a2_0):=(blk_cell BK150.out 0).trans rfl;have hcz12_1 : w11.cell? ⟨gb150,1,none⟩ = some (.slice A2_1 l2_1.length c2_1):=(blk_cell BK150.out 1).trans rfl;have hcz12_2 : w11.cell? ⟨gb150,2,none⟩ = some (.slice A2_2 l2_2.length c2_2):=(blk_cell BK150.out 2).trans rfl;have hfz12_0:=blk_frozen BK150.out 0;have hfz12_1:=blk_frozen BK150.out 1;have hfz12_2:=blk_frozen BK150.out 2))
  go_loopg [10,11,25] k (fun kq v10 v11 v25 w'=>∃ (x10_1 : List Int) (x11_1 : List (S73)) (x25_1 : Int),v25 = .int .i64 x25_1 ∧ Aside0 (spec_plThen.l0 kq a1 x10_1 x11_1 l2_1 (l2_1.length : Int) x25_1 a2_0 l2_1 l2_2 = some (r1,r2)) ∧ Aside0 (kq ≤ k) ∧ Aside0 (Kd.R (Kd.int .i64) 3 w' w.heap.size (fun _=>True) v10 x10_1) ∧ Aside0 (Kd.R k73 73 w' w.heap.size (fun _=>True) v11 x11_1) ∧ Aside0 (w'.heap[gb150]? = some (.cells #[.int .i64 a2_0,(.slice A2_1 l2_1.length c2_1),(.slice A2_2 l2_2.length c2_2)] 29 (0,0))) ∧ Aside0 (Below w.heap.size w w'))
  case atStart=>exact ⟨(t151),(y157),(0),fz,H',⟨Nat.le_refl _⟩,⟨by (with_reducible repeat (first|apply Kd.R_alloc|apply Kd.R_drewN|apply Kd.R_drew));exact HO153.out⟩,⟨by (with_reducible repeat (first|apply Kd.R_alloc|apply Kd.R_drewN|apply Kd.R_drew));exact HO159.out⟩,⟨by (with_reducible repeat (first|refine blk_drewN ?_ _|refine blk_drew ?_|refine blk_alloc ?_ _));exact BK150.out⟩,⟨by repeat (first|(with_reducible first|exact HB.out|apply below_alloc|apply pw_below_drewN|apply below_drew1|refine below_set ?_ GE150.out)|exact HB.out)⟩⟩
  case round=>
   clear H'
   try clear c2
   try clear p2
   try clear c3
   try clear c4
   try clear c6
   try clear hcz12_0
   try clear hcz12_1
   try clear hcz12_2
   try clear hfz12_0
   try clear hfz12_1
   try clear hfz12_2
   obtain ⟨x10_1,x11_1,x25_1,rfl,HA,HK1,HO_10,HO_11,BK150,HB⟩:=hrel
   cases gk with
   | zero=>exact absurd HA.out (by simp [spec_plThen.l0])
   | succ k1=>
    have H:=HA.out
    clear HA
    simp only [spec_plThen.l0] at H
    by_cases c13 : x25_1 < (l2_1.length : Int)
    ·rw [if_pos c13] at H
     have c13b0 : decide (x25_1 < (l2_1.length : Int)) = true:=decide_eq_true c13
     clear c13
     by_cases c14 : 0 ≤ x25_1
     ·rw [if_pos c14] at H
      have c14b0 : decide (0 ≤ x25_1) = true:=decide_eq_true c14
      clear c14
      by_cases c15 : x25_1 < (l2_1.length : Int)
      ·rw [if_pos c15] at H
       have c15b0 : decide (x25_1 < (l2_1.length : Int)) = true:=decide_eq_true c15
       clear c15
       by_cases c16 : 0 ≤ ((rd_T73 l2_1 x25_1).f0)
       ·rw [if_pos c16] at H
        have c16b0 : decide (0 ≤ ((rd_T73 l2_1 x25_1).f0)) = true:=decide_eq_true c16
        clear c16
        by_cases c17 : ((rd_T73 l2_1 x25_1).f0) < (x10_1.length : Int)
        ·rw [if_pos c17] at H
         have c17b0 : decide (((rd_T73 l2_1 x25_1).f0) < (x10_1.length : Int)) = true:=decide_eq_true c17
         clear c17
         by_cases c18 : 0 ≤ ((rd_T73 l2_1 x25_1).f1)
         ·rw [if_pos c18] at H
          have c18b0 : decide (0 ≤ ((rd_T73 l2_1 x25_1).f1)) = true:=decide_eq_true c18
          clear c18
          by_cases c19 : ((rd_T73 l2_1 x25_1).f1) < (x10_1.length : Int)
          ·rw [if_pos c19] at H
           have c19b0 : decide (((rd_T73 l2_1 x25_1).f1) < (x10_1.length : Int)) = true:=decide_eq_true c19
           clear c19
           obtain ⟨⟨t164,t165⟩,A20,H⟩:=bd H
           try dsimp only at H
           by_cases c21 : x11_1.length < 8796093022208
           ·rw [if_pos c21] at H
            have LMc21:=Aside0.mk c21
            clear c21
            obtain ⟨y166,hy166⟩ : ∃ y_ : List (S73),y_ = (x11_1 ++ [(⟨t164,t165⟩ : S73)]):=⟨_,rfl⟩
            replace H : (if x10_1.length < 17592186044416 then (spec_plThen.l0 k1 a1 (x10_1 ++ [wrap64 ((wrap64 (a1 + (y166.length : Int))) - 1)]) y166 l2_1 (l2_1.length : Int) (wrap64 (x25_1 + 1)) a2_0 l2_1 l2_2) else (none)) = some (r1,r2):=by first|(rw [hy166];with_reducible exact H)|(have H2_:=(Option.bind_some _ _).symm.trans H;rw [hy166];with_reducible exact H2_)|(have H2_:=(Option.bind_some _ _).symm.trans H;with_reducible exact H2_)|with_reducible exact H|(rw [hy166];exact H)|exact H
            have Ny166:=Aside0.mk hy166
            clear hy166
            by_cases c22 : x10_1.length < 17592186044416
            ·rw [if_pos c22] at H
             have LMc22:=Aside0.mk c22
             clear c22
             obtain ⟨y169,hy169⟩ : ∃ y_ : List Int,y_ = (x10_1 ++ [wrap64 ((wrap64 (a1 + (y166.length : Int))) - 1)]):=⟨_,rfl⟩
             replace H : (spec_plThen.l0 k1 a1 y169 y166 l2_1 (l2_1.length : Int) (wrap64 (x25_1 + 1)) a2_0 l2_1 l2_2) = some (r1,r2):=by first|(rw [hy169];with_reducible exact H)|(have H2_:=(Option.bind_some _ _).symm.trans H;rw [hy169];with_reducible exact H2_)|(have H2_:=(Option.bind_some _ _).symm.trans H;with_reducible exact H2_)|with_reducible exact H|(rw [hy169];exact H)|exact H
             have Ny169:=Aside0.mk hy169
             clear hy169
             have H':=Aside0.mk H
             clear H
             have p160 : 0 ≤ (x25_1 : Int):=of_decide_eq_true az
             have q160 : x25_1 < (l2_1.length : Int):=of_decide_eq_true az
             obtain ⟨ad160,e160,hx160_0,hx160_1⟩:=at_T73 HR2_1.out x25_1 p160 q160
             cases e160
             replace hx160_0:=(HB.out.cell (World.block_lt_of_cell? w _ hx160_0)).trans hx160_0
             replace hx160_1:=(HB.out.cell (World.block_lt_of_cell? w _ hx160_1)).trans hx160_1
             replace p160:=eq_true p160
             replace q160:=eq_true q160
             try go_wp2_with (first|((with_reducible refine gate_dst (N:=13) rfl ?_);refine box_event ?hg (N:=13) ?hd (cs:=#[.int .i64 0,.int .i64 0]) (t:=73) ?hr ?_;(case hd=>rfl);(case hg=>rfl);(case hr=>first|(go_simp;done)|(go_simp;rfl));intro gb161 hg w23 hbox hb;have n0_:=Aside0.mk (Kd.R_below (rz HO_10.out) hb);have n1_:=Aside0.mk (Kd.R_below (Kd.R_elderB (rz HO_11.out) gb161 (Nat.le_of_eq hg.symm)) hb);have n2_:=Aside0.mk (kb BK150.out hb);have n3_:=Aside0.mk (below_step bs hb);have n4_:=Aside0.mk (hbox);have n5_:=Aside0.mk ((by rw [hg];exact (below_size bs) : w.heap.size ≤ gb161));have n6_:=Aside0.mk ((by rw [hg];exact (below_size bs) : w.heap.size ≤ gb161));have n7_:=Aside0.mk (kn hg BK150.out);have n8_:=Aside0.mk (km hg BK150.out);clear HO_10 HO_11 BK150 HB;have HO_10:=n0_;have HO_11:=n1_;have BK150:=n2_;have HB:=n3_;have BK161:=n4_;have GW161:=n5_;have GE161:=n6_;have NB150_161:=n7_;have NB161_150:=n8_;clear n0_ n1_ n2_ n3_ n4_ n5_ n6_ n7_ n8_;clear hb hbox hg;have hnb24:=NB161_150.out;have hnc24:=NB150_161.out;have hcz25_0 : w23.cell? ⟨gb161,0,none⟩ = some (.int .i64 0):=(blk_cell BK161.out 0).trans rfl;have hcz25_1 : w23.cell? ⟨gb161,1,none⟩ = some (.int .i64 0):=(blk_cell BK161.out 1).trans rfl;have hfz25_0:=blk_frozen BK161.out 0;have hfz25_1:=blk_frozen BK161.out 1))
             have n0_ : Aside0 (Kd.R (Kd.int .i64) 3 ((w23.setCell ⟨gb161,0,none⟩ (.int .i64 ((rd_T73 l2_1 x25_1).f0))).setCell ⟨gb161,1,none⟩ (.int .i64 ((rd_T73 l2_1 x25_1).f1))) w.heap.size (fun _=>True) u10 x10_1):=⟨by (with_reducible repeat (first|apply Kd.R_alloc|apply Kd.R_drewN|apply Kd.R_drew));exact Kd.R_mono (Kd.R_far (p:=⟨gb161,1,none⟩) (Kd.R_far (p:=⟨gb161,0,none⟩) (Kd.R_types HO_10.out BK161.out (by decide)) (fun _ hk=>hk.2) (.int .i64 ((rd_T73 l2_1 x25_1).f0))) (fun _ hk=>hk.2) (.int .i64 ((rd_T73 l2_1 x25_1).f1))) (fun _ hk=>trivial)⟩
             have n1_ : Aside0 (Kd.R k73 73 ((w23.setCell ⟨gb161,0,none⟩ (.int .i64 ((rd_T73 l2_1 x25_1).f0))).setCell ⟨gb161,1,none⟩ (.int .i64 ((rd_T73 l2_1 x25_1).f1))) w.heap.size (fun k_=>k_ ≠ gb161) u11 x11_1):=⟨by (with_reducible repeat (first|apply Kd.R_alloc|apply Kd.R_drewN|apply Kd.R_drew));exact Kd.R_mono (Kd.R_far (p:=⟨gb161,1,none⟩) (Kd.R_far (p:=⟨gb161,0,none⟩) (Kd.R_mono HO_11.out (fun k_ hk=>(⟨hk,hk.2⟩ : _ ∧ k_ ≠ gb161))) (fun _ hk=>hk.2) (.int .i64 ((rd_T73 l2_1 x25_1).f0))) (fun _ hk=>hk.2) (.int .i64 ((rd_T73 l2_1 x25_1).f1))) (fun _ hk=>hk.1.2)⟩
             have n2_ : Aside0 (((w23.setCell ⟨gb161,0,none⟩ (.int .i64 ((rd_T73 l2_1 x25_1).f0))).setCell ⟨gb161,1,none⟩ (.int .i64 ((rd_T73 l2_1 x25_1).f1))).heap[gb150]? = some (.cells #[.int .i64 a2_0,.slice (some ad160) l2_1.length c2_1,.slice A2_2 l2_2.length c2_2] 29 (0,0))):=⟨by (with_reducible repeat (first|refine blk_drewN ?_ _|refine blk_drew ?_|refine blk_alloc ?_ _));refine blk_far ?_ NB150_161.out _;(with_reducible repeat (first|refine blk_drewN ?_ _|refine blk_drew ?_|refine blk_alloc ?_ _));refine blk_far ?_ NB150_161.out _;(with_reducible repeat (first|refine blk_drewN ?_ _|refine blk_drew ?_|refine blk_alloc ?_ _));exact BK150.out⟩
             have n3_ : Aside0 (((w23.setCell ⟨gb161,0,none⟩ (.int .i64 ((rd_T73 l2_1 x25_1).f0))).setCell ⟨gb161,1,none⟩ (.int .i64 ((rd_T73 l2_1 x25_1).f1))).heap[gb161]? = some (.cells #[.int .i64 ((rd_T73 l2_1 x25_1).f0),.int .i64 ((rd_T73 l2_1 x25_1).f1)] 73 (0,0))):=⟨by (with_reducible repeat (first|refine blk_drewN ?_ _|refine blk_drew ?_|refine blk_alloc ?_ _));refine blk_put (cs:=#[.int .i64 ((rd_T73 l2_1 x25_1).f0),.int .i64 0]) ?_ 1 _ rfl;(with_reducible repeat (first|refine blk_drewN ?_ _|refine blk_drew ?_|refine blk_alloc ?_ _));refine blk_put (cs:=#[.int .i64 0,.int .i64 0]) ?_ 0 _ rfl;(with_reducible repeat (first|refine blk_drewN ?_ _|refine blk_drew ?_|refine blk_alloc ?_ _));exact BK161.out⟩
             have n4_ : Aside0 (Below w.heap.size w ((w23.setCell ⟨gb161,0,none⟩ (.int .i64 ((rd_T73 l2_1 x25_1).f0))).setCell ⟨gb161,1,none⟩ (.int .i64 ((rd_T73 l2_1 x25_1).f1)))):=⟨by repeat (first|(with_reducible first|exact HB.out|apply below_alloc|apply pw_below_drewN|apply below_drew1|refine below_set ?_ GE150.out|refine below_set ?_ GE161.out)|exact HB.out)⟩
             (try clear HO_10)
             (try clear HO_11)
             (try clear BK150)
             (try clear BK161)
             (try clear HB)
             generalize ((w23.setCell ⟨gb161,0,none⟩ (.int .i64 ((rd_T73 l2_1 x25_1).f0))).setCell ⟨gb161,1,none⟩ (.int .i64 ((rd_T73 l2_1 x25_1).f1))) = w26 at n0_ n1_ n2_ n3_ n4_ ⊢
             have HO_10:=n0_
             have HO_11:=n1_
             have BK150:=n2_
             have BK161:=n3_
             have HB:=n4_
             clear n0_ n1_ n2_ n3_ n4_
             have n0_:=Aside0.mk (Kd.R_drew HO_10.out)
             have n1_:=Aside0.mk (Kd.R_drew HO_11.out)
             have n2_:=Aside0.mk (blk_drew BK150.out)
             have n3_:=Aside0.mk (blk_drew BK161.out)
             have n4_:=Aside0.mk (below_drew1 HB.out)
             clear HO_10
             clear HO_11
             clear BK150
             clear BK161
             clear HB
             have HO_10:=n0_
             have HO_11:=n1_
             have BK150:=n2_
             have BK161:=n3_
             have HB:=n4_
             clear n0_ n1_ n2_ n3_ n4_
             obtain ⟨Ao28,co28,eo28⟩:=Kd.R_slice HO_10.out
             (first|subst eo28|(injection eo28 with f1_ f2_ f3_;have f4_:=f1_.symm;have f5_:=f3_.symm;clear f1_ f2_ f3_;subst f4_;subst f5_))
             have p162 : 0 ≤ (((rd_T73 l2_1 x25_1).f0) : Int):=of_decide_eq_true az
             have q162 : ((rd_T73 l2_1 x25_1).f0) < (x10_1.length : Int):=of_decide_eq_true az
             obtain ⟨ad162,e162,hx162_0⟩:=Kd.at_int (Kd.R_reads' HO_10.out).2.2 ((rd_T73 l2_1 x25_1).f0) p162 q162
             cases e162
             replace p162:=eq_true p162
             replace q162:=eq_true q162
             have p163 : 0 ≤ (((rd_T73 l2_1 x25_1).f1) : Int):=of_decide_eq_true az
             have q163 : ((rd_T73 l2_1 x25_1).f1) < (x10_1.length : Int):=of_decide_eq_true az
             obtain ⟨ad163,e163,hx163_0⟩:=Kd.at_int (Kd.R_reads' HO_10.out).2.2 ((rd_T73 l2_1 x25_1).f1) p163 q163
             obtain rfl : ad162 = ad163:=(by injection e163)
             replace p163:=eq_true p163
             replace q163:=eq_true q163
             refine start_ (n:=15) (S:=fun w'=>w'.cell? ⟨gb161,0,none⟩ = some (.int .i64 ((rd_T73 l2_1 x25_1).f0)) ∧ w'.cell? ⟨gb161,1,none⟩ = some (.int .i64 ((rd_T73 l2_1 x25_1).f1)) ∧ w'.cell? (ad162.add (((rd_T73 l2_1 x25_1).f0)).toNat) = some (.int .i64 (rd x10_1 ((rd_T73 l2_1 x25_1).f0))) ∧ w'.cell? (ad162.add (((rd_T73 l2_1 x25_1).f1)).toNat) = some (.int .i64 (rd x10_1 ((rd_T73 l2_1 x25_1).f1)))) (ds:=[12,13]) #[false,false,false,false,false,false,false,false,false,false,false,false,false,false,false] (by kernel_rfl) rfl rfl ⟨(blk_cell BK161.out 0).trans rfl,(blk_cell BK161.out 1).trans rfl,hx162_0,hx163_0⟩ (fun hHeld=>?_);refine with_tabW spec_plThen.tab6 spec_plThen.bits6 (fun HT_ HW_=>?_)
             generalize w26.drew = w27 at HO_10 HO_11 BK150 BK161 HB hx162_0 hx163_0 hHeld ⊢
             refine pure_ (i:=0) (N:=some 29) (v:=?_) (a':=?_) #[true,false,false,false,false,false,false,false,false,false,false,false,false,false,false] rfl rfl (any_of HT_.out (by kernel_rfl)) (fun _ _ _ h=>h) (Or.inl ⟨by rfl,?_⟩) ?_ ?_
             rotate_left
             ·intro w'
              go_simp
              with_reducible rfl
             rotate_left
             ·simp only [Act.put,xa,xb,xc,i64_w,i32_w]
              rfl
             refine pure_ (i:=1) (N:=some 30) (v:=?_) (a':=?_) #[true,true,false,false,false,false,false,false,false,false,false,false,false,false,false] rfl rfl (any_of HT_.out (by kernel_rfl)) (fun _ _ _ h=>h) (Or.inl ⟨by rfl,?_⟩) ?_ ?_
             rotate_left
             ·intro w'
              go_simp
              with_reducible rfl
             rotate_left
             ·simp only [Act.put,xa,xb,xc,i64_w,i32_w]
              rfl
             refine pure_ (i:=2) (N:=some 31) (v:=?_) (a':=?_) #[true,true,true,false,false,false,false,false,false,false,false,false,false,false,false] rfl rfl (any_of HT_.out (by kernel_rfl)) (fun _ _ _ h=>h) (Or.inl ⟨by rfl,?_⟩) ?_ ?_
             rotate_left
             ·intro w'
              go_simp
              with_reducible rfl
             rotate_left
             ·simp only [Act.put,xa,xb,xc,i64_w,i32_w]
              rfl
             refine pure_ (i:=6) (N:=some 35) (v:=?_) (a':=?_) #[true,true,true,false,false,false,true,false,false,false,false,false,false,false,false] rfl rfl (any_of HT_.out (by kernel_rfl)) (fun _ _ _ h=>h) (Or.inl ⟨by rfl,?_⟩) ?_ ?_
             rotate_left
             ·intro w'
              go_simp
              with_reducible rfl
             rotate_left
             ·simp only [Act.put,xa,xb,xc,i64_w,i32_w]
              rfl
             refine pure_ (i:=7) (N:=some 36) (v:=?_) (a':=?_) #[true,true,true,false,false,false,true,true,false,false,false,false,false,false,false] rfl rfl (any_of HT_.out (by kernel_rfl)) (fun _ _ _ h=>h) (Or.inl ⟨by rfl,?_⟩) ?_ ?_
             rotate_left
             ·intro w'
              go_simp
              with_reducible rfl
             rotate_left
             ·simp only [Act.put,xa,xb,xc,i64_w,i32_w]
              rfl
             refine take_ (i:=3) (N:=some 32) (v:=?_) (a':=?_) #[true,true,true,true,false,false,true,true,false,false,false,false,false,false,false] rfl rfl (take_ofW HT_.out HW_.out (by kernel_rfl)) (fun _ _ _ h=>h) (Or.inl ⟨by rfl,?_⟩) hHeld ?_ ?_
             rotate_left
             ·rintro w' ⟨s0,s1,s2,s3⟩
              go_simp
              with_reducible rfl
             rotate_left
             ·simp only [Act.put,xa,xb,xc,i64_w,i32_w]
              rfl
             refine pure_ (i:=4) (N:=some 33) (v:=?_) (a':=?_) #[true,true,true,true,true,false,true,true,false,false,false,false,false,false,false] rfl rfl (any_of HT_.out (by kernel_rfl)) (fun _ _ _ h=>h) (Or.inl ⟨by rfl,?_⟩) ?_ ?_
             rotate_left
             ·intro w'
              go_simp
              with_reducible rfl
             rotate_left
             ·simp only [Act.put,xa,xb,xc,i64_w,i32_w]
              rfl
             refine take_ (i:=5) (N:=some 34) (v:=?_) (a':=?_) #[true,true,true,true,true,true,true,true,false,false,false,false,false,false,false] rfl rfl (take_ofW HT_.out HW_.out (by kernel_rfl)) (fun _ _ _ h=>h) (Or.inl ⟨by rfl,?_⟩) hHeld ?_ ?_
             rotate_left
             ·rintro w' ⟨s0,s1,s2,s3⟩
              go_simp
              with_reducible rfl
             rotate_left
             ·simp only [Act.put,xa,xb,xc,i64_w,i32_w]
              rfl
             refine take_ (i:=8) (N:=some 37) (v:=?_) (a':=?_) #[true,true,true,true,true,true,true,true,true,false,false,false,false,false,false] rfl rfl (take_ofW HT_.out HW_.out (by kernel_rfl)) (fun _ _ _ h=>h) (Or.inl ⟨by rfl,?_⟩) hHeld ?_ ?_
             rotate_left
             ·rintro w' ⟨s0,s1,s2,s3⟩
              go_simp
              with_reducible rfl
             rotate_left
             ·simp only [Act.put,xa,xb,xc,i64_w,i32_w]
              rfl
             refine pure_ (i:=9) (N:=some 38) (v:=?_) (a':=?_) #[true,true,true,true,true,true,true,true,true,true,false,false,false,false,false] rfl rfl (any_of HT_.out (by kernel_rfl)) (fun _ _ _ h=>h) (Or.inl ⟨by rfl,?_⟩) ?_ ?_
             rotate_left
             ·intro w'
              go_simp
              with_reducible rfl
             rotate_left
             ·simp only [Act.put,xa,xb,xc,i64_w,i32_w]
              rfl
             refine take_ (i:=10) (N:=some 39) (v:=?_) (a':=?_) #[true,true,true,true,true,true,true,true,true,true,true,false,false,false,false] rfl rfl (take_ofW HT_.out HW_.out (by kernel_rfl)) (fun _ _ _ h=>h) (Or.inl ⟨by rfl,?_⟩) hHeld ?_ ?_
             rotate_left
             ·rintro w' ⟨s0,s1,s2,s3⟩
              go_simp
              with_reducible rfl
             rotate_left
             ·simp only [Act.put,xa,xb,xc,i64_w,i32_w]
              rfl
             refine one_ (i:=11) (N:=some 40) #[true,true,true,true,true,true,true,true,true,true,true,true,false,false,false] rfl rfl (one_of HT_.out (by kernel_rfl)) (by decide) (fun K hK=>?_)
             refine goes_ Try.func63 (by kernel_rfl) rfl #[.int .i64 (rd x10_1 ((rd_T73 l2_1 x25_1).f0)),.int .i64 (rd x10_1 ((rd_T73 l2_1 x25_1).f1))] (by rfl) rfl rfl mz ?_
             with_reducible refine (spec_plStep.calls (rd x10_1 ((rd_T73 l2_1 x25_1).f0)) (rd x10_1 ((rd_T73 l2_1 x25_1).f1)) t164 t165 _ A20.out).mono ?_
             rintro e w29 ⟨rfl,hb⟩
             have HS2_:=(hb.cell (World.block_lt_of_cell? _ _ (hHeld.2.2.1))).trans (hHeld.2.2.1)
             have HS3_:=(hb.cell (World.block_lt_of_cell? _ _ (hHeld.2.2.2))).trans (hHeld.2.2.2)
             refine ⟨_,rfl,?_⟩
             have n0_:=Aside0.mk (Kd.R_below (rz HO_10.out) hb)
             have n1_:=Aside0.mk (Kd.R_below (rz HO_11.out) hb)
             have n2_:=Aside0.mk (kb BK150.out hb)
             have n3_:=Aside0.mk (kb BK161.out hb)
             have n4_:=Aside0.mk (below_step bs hb)
             clear HO_10
             clear HO_11
             clear BK150
             clear BK161
             clear HB
             have HO_10:=n0_
             have HO_11:=n1_
             have BK150:=n2_
             have BK161:=n3_
             have HB:=n4_
             clear n0_ n1_ n2_ n3_ n4_
             (try clear hb)
             refine hK.out _ _ ⟨(blk_cell BK161.out 0).trans rfl,(blk_cell BK161.out 1).trans rfl,HS2_,HS3_⟩ (fun hHeld=>?_)
             clear hK K
             refine norm_ (a':=?_) ?_ ?_
             rotate_left
             ·show Act.put _ (some 40) _ = _
              simp only [Act.put,xa,xb,xc,i64_w,i32_w]
              rfl
             refine last_ (i:=12) (N:=some 41) #[true,true,true,true,true,true,true,true,true,true,true,true,true,false,false] rfl rfl (one_of HT_.out (by kernel_rfl)) (by decide) (fun K hK=>?_)
             refine value_ (w1:=?_) (v:=?_) (by rfl) rfl ?_ ?_
             rotate_left 2
             ·go_simp
              constructor
              ·rfl
              ·rfl
             refine hK.out _ _ ?_
             clear hK K
             refine norm_ (a':=?_) ?_ ?_
             rotate_left
             ·show Act.put _ (some 41) _ = _
              simp only [Act.put,xa,xb,xc,i64_w,i32_w]
              rfl
             refine last_ (i:=13) (N:=some 42) #[true,true,true,true,true,true,true,true,true,true,true,true,true,true,false] rfl rfl (one_of HT_.out (by kernel_rfl)) (by decide) (fun K hK=>?_)
             refine Kd.R_append_step k73 (w0:=w) w.heap.size (by rfl) (.tmp 29) (.tmp 41) 27 73 (.agg #[(.int .i64 0),(.int .i64 0)]) 16 rfl Try.underlying27 info73 rfl (by decide) (by omega) u11 x11_1 (⟨t164,t165⟩ : S73) [.int .i64 t164,.int .i64 t165] (fun k_=>k_ ≠ gb161) (fun _=>False) rfl rfl ?aP (fun _ hk=>hk.elim) ?aF ?aO ?aB ?aS ?aL ?_
             (case aP=>exact k73_mkM _ _ _ (⟨t164,t165⟩ : S73))
             (case aB=>exact bs)
             (case aF=>exact (fun k_ hk=>Kd.freshB (g:=gb161) (o:=.cells #[.int .i64 ((rd_T73 l2_1 x25_1).f0),.int .i64 ((rd_T73 l2_1 x25_1).f1)] 73 (0,0)) (kz BK161.out) k_ hk))
             (case aO=>exact (rz HO_11.out))
             (case aS=>exact (below_size bs))
             (case aL=>have:=LMc21.out;omega)
             intro v167 w30 ho hb hg hat
             rw [← Ny166.out] at ho
             have n0_:=Aside0.mk (Kd.R_over' (rz HO_10.out) (Kd.R_typed (rz HO_11.out)) (by decide) hg)
             have n1_:=Aside0.mk (blk_grown (g:=gb150) (o:=.cells #[.int .i64 a2_0,.slice (some ad160) l2_1.length c2_1,.slice A2_2 l2_2.length c2_2] 29 (0,0)) (kz BK150.out) hg (Kd.R_ne HO_11.out BK150.out (by decide)))
             have n2_:=Aside0.mk (blk_grown (g:=gb161) (o:=.cells #[.int .i64 ((rd_T73 l2_1 x25_1).f0),.int .i64 ((rd_T73 l2_1 x25_1).f1)] 73 (0,0)) (kz BK161.out) hg (Kd.R_away HO_11.out (fun _ hk=>hk)))
             have n3_:=Aside0.mk (hb)
             have n4_:=Aside0.mk (ho)
             clear HO_10
             clear BK150
             clear BK161
             clear HB
             clear HO_11
             have HO_10:=n0_
             have BK150:=n1_
             have BK161:=n2_
             have HB:=n3_
             have HO168:=n4_
             clear n0_ n1_ n2_ n3_ n4_
             clear ho hb hg hat
             refine hK.out _ _ ?_
             clear hK K
             refine norm_ (a':=?_) ?_ ?_
             rotate_left
             ·show Act.put _ (some 42) _ = _
              simp only [Act.put,xa,xb,xc,i64_w,i32_w]
              rfl
             refine pure_ (i:=14) (N:=some 11) (v:=?_) (a':=?_) #[true,true,true,true,true,true,true,true,true,true,true,true,true,true,true] rfl rfl (any_of HT_.out (by kernel_rfl)) (fun _ _ _ h=>h) (Or.inl ⟨by rfl,?_⟩) ?_ ?_
             rotate_left
             ·intro w'
              go_simp
              with_reducible rfl
             rotate_left
             ·simp only [Act.put,xa,xb,xc,i64_w,i32_w]
              rfl
             refine done_ (done_of HT_.out (by kernel_rfl)) ?_
             obtain ⟨Ao31,co31,eo31⟩:=Kd.R_slice HO168.out
             subst eo31
             try go_wp2_with (first|((with_reducible refine gate_builtin (b:=.append) (xs:=#[.tmp 43,.tmp 49]) rfl ?_);at_builtin;refine Kd.R_append (Kd.int .i64) (w0:=w) w.heap.size rfl (.tmp 43) (.tmp 49) 23 3 (.int .i64 0) 8 rfl Try.underlying23 info3 rfl (by decide) (by omega) (.slice (some ad162) x10_1.length co28) x10_1 (wrap64 ((wrap64 (a1 + (y166.length : Int))) - 1)) [.int .i64 (wrap64 ((wrap64 (a1 + (y166.length : Int))) - 1))] (fun _=>True) (fun _=>False) rfl rfl ?aP (fun _ hk=>hk.elim) ?aF ?aO ?aB ?aS ?aL ?_;(case aP=>exact rfl);(case aB=>exact bs);(case aF=>exact (fun _ _=>trivial));(case aO=>exact (rz HO_10.out));(case aS=>exact (below_size bs));(case aL=>have:=LMc22.out;omega);intro v170 w32 ho hb hg hat;rw [← Ny169.out] at ho;have n0_:=Aside0.mk (blk_grown (g:=gb150) (o:=.cells #[.int .i64 a2_0,.slice (some ad160) l2_1.length c2_1,.slice A2_2 l2_2.length c2_2] 29 (0,0)) (kz BK150.out) hg (Kd.R_ne HO_10.out BK150.out (by decide)));have n1_:=Aside0.mk (blk_grown (g:=gb161) (o:=.cells #[.int .i64 ((rd_T73 l2_1 x25_1).f0),.int .i64 ((rd_T73 l2_1 x25_1).f1)] 73 (0,0)) (kz BK161.out) hg (Kd.R_ne HO_10.out BK161.out (by decide)));have n2_:=Aside0.mk (Kd.R_over' (rz HO168.out) (Kd.R_typed (rz HO_10.out)) (by decide) hg);have n3_:=Aside0.mk (hb);have n4_:=Aside0.mk (ho);clear BK150 BK161 HO168 HB HO_10;have BK150:=n0_;have BK161:=n1_;have HO168:=n2_;have HB:=n3_;have HO171:=n4_;clear n0_ n1_ n2_ n3_ n4_;clear ho hb hg hat))
             go_roundg k1
             case measure=>have:=HK1.out;omega
             case rel=>exact ⟨(y169),(y166),(wrap64 (x25_1 + 1)),fz,H',⟨by have:=HK1.out;omega⟩,⟨by (with_reducible repeat (first|apply Kd.R_alloc|apply Kd.R_drewN|apply Kd.R_drew));exact HO171.out⟩,⟨by (with_reducible repeat (first|apply Kd.R_alloc|apply Kd.R_drewN|apply Kd.R_drew));exact Kd.R_mono HO168.out (fun _ hk=>trivial)⟩,⟨by (with_reducible repeat (first|refine blk_drewN ?_ _|refine blk_drew ?_|refine blk_alloc ?_ _));exact BK150.out⟩,⟨by repeat (first|(with_reducible first|exact HB.out|apply below_alloc|apply pw_below_drewN|apply below_drew1|refine below_set ?_ GE150.out|refine below_set ?_ GE161.out)|exact HB.out)⟩⟩
            ·rw [if_neg c22] at H
             exact absurd H (by simp)
           ·rw [if_neg c21] at H
            exact absurd H (by simp)
          ·rw [if_neg c19] at H
           exact absurd H (by simp)
         ·rw [if_neg c18] at H
          exact absurd H (by simp)
        ·rw [if_neg c17] at H
         exact absurd H (by simp)
       ·rw [if_neg c16] at H
        exact absurd H (by simp)
      ·rw [if_neg c15] at H
       exact absurd H (by simp)
     ·rw [if_neg c14] at H
      exact absurd H (by simp)
    ·rw [if_neg c13] at H
     have c13b0 : decide (x25_1 < (l2_1.length : Int)) = false:=decide_eq_false c13
     clear c13
     have H':=Aside0.mk H
     clear H
     have hcz33_0 : wr.cell? ⟨gb150,0,none⟩ = some (.int .i64 a2_0):=(blk_cell BK150.out 0).trans rfl
     have hcz33_1 : wr.cell? ⟨gb150,1,none⟩ = some (.slice A2_1 l2_1.length c2_1):=(blk_cell BK150.out 1).trans rfl
     have hcz33_2 : wr.cell? ⟨gb150,2,none⟩ = some (.slice A2_2 l2_2.length c2_2):=(blk_cell BK150.out 2).trans rfl
     have hfz33_0:=blk_frozen BK150.out 0
     have hfz33_1:=blk_frozen BK150.out 1
     have hfz33_2:=blk_frozen BK150.out 2
     go_wp2
     go_loopg [14,55] k1 (fun kq v14 v55 w'=>∃ (x14_2 : List Int) (x55_2 : Int),v55 = .int .i64 x55_2 ∧ Aside0 (spec_plThen.l1 kq x10_1 x11_1 x14_2 l2_2 (l2_2.length : Int) x55_2 = some (r1,r2)) ∧ Aside0 (kq ≤ k1) ∧ Aside0 (Kd.R (Kd.int .i64) 3 w' w.heap.size (fun k_=>some k_ ≠ (v14 : Value).ownBlock) u10 x10_1) ∧ Aside0 (Kd.R k73 73 w' w.heap.size (fun _=>True) u11 x11_1) ∧ Aside0 (Kd.R (Kd.int .i64) 3 w' w.heap.size (fun k_=>some k_ ≠ (u10 : Value).ownBlock) v14 x14_2) ∧ Aside0 (w'.heap[gb150]? = some (.cells #[.int .i64 a2_0,(.slice A2_1 l2_1.length c2_1),(.slice A2_2 l2_2.length c2_2)] 29 (0,0))) ∧ Aside0 (Below w.heap.size w w'))
     case atStart=>exact ⟨(([] : List Int)),(0),fz,H',⟨Nat.le_refl _⟩,⟨by (with_reducible repeat (first|apply Kd.R_alloc|apply Kd.R_drewN|apply Kd.R_drew));exact Kd.R_mono HO_10.out (fun _ hk=>(by simp [Value.ownBlock]))⟩,⟨by (with_reducible repeat (first|apply Kd.R_alloc|apply Kd.R_drewN|apply Kd.R_drew));exact HO_11.out⟩,⟨by first|exact Kd.R_nil _ _ _ _ _|exact Kd.N_nil _ _ _ _ _|exact Kd.V_nil _ _ _ _ _|exact Kd.Q_nil _ _ _ _ _|exact Kd.S_nil _ _ _ _ _⟩,⟨by (with_reducible repeat (first|refine blk_drewN ?_ _|refine blk_drew ?_|refine blk_alloc ?_ _));exact BK150.out⟩,⟨by repeat (first|(with_reducible first|exact HB.out|apply below_alloc|apply pw_below_drewN|apply below_drew1|refine below_set ?_ GE150.out)|exact HB.out)⟩⟩
     case round=>
      clear H'
      try clear c1
      try clear p1
      try clear q1
      try clear hx1
      try clear c2
      try clear p2
      try clear c3
      try clear c4
      try clear c6
      try clear p6
      try clear c13
      try clear c13b0
      try clear c14
      try clear c14b0
      try clear c15
      try clear c15b0
      try clear c16
      try clear c16b0
      try clear p16
      try clear q16
      try clear hx16
      try clear c17
      try clear c17b0
      try clear c18
      try clear c18b0
      try clear c19
      try clear c19b0
      try clear c21
      try clear c22
      try clear c24
      try clear hcz12_0
      try clear hcz12_1
      try clear hcz12_2
      try clear hcz25_0
      try clear hcz25_1
      try clear hcz33_0
      try clear hcz33_1
      try clear hcz33_2
      try clear hfz12_0
      try clear hfz12_1
      try clear hfz12_2
      try clear hfz25_0
      try clear hfz25_1
      try clear hfz33_0
      try clear hfz33_1
      try clear hfz33_2
      try clear hx160_0
      try clear hx160_1
      try clear hx162_0
      try clear hx163_0
      try clear p160
      try clear p162
      try clear p163
      try clear p2
      try clear q160
      try clear q162
      try clear q163
      obtain ⟨x14_2,x55_2,rfl,HA,HK2,HO_10,HO_11,HO_14,BK150,HB⟩:=hrel
      cases gk with
      | zero=>exact absurd HA.out (by simp [spec_plThen.l1])
      | succ k2=>
       have H:=HA.out
       clear HA
       simp only [spec_plThen.l1] at H
       by_cases c34 : x55_2 < (l2_2.length : Int)
       ·rw [if_pos c34] at H
        have c34b0 : decide (x55_2 < (l2_2.length : Int)) = true:=decide_eq_true c34
        clear c34
        by_cases c35 : 0 ≤ x55_2
        ·rw [if_pos c35] at H
         have c35b0 : decide (0 ≤ x55_2) = true:=decide_eq_true c35
         clear c35
         by_cases c36 : x55_2 < (l2_2.length : Int)
         ·rw [if_pos c36] at H
          have c36b0 : decide (x55_2 < (l2_2.length : Int)) = true:=decide_eq_true c36
          clear c36
          by_cases c37 : 0 ≤ (rd l2_2 x55_2)
          ·rw [if_pos c37] at H
           have c37b0 : decide (0 ≤ (rd l2_2 x55_2)) = true:=decide_eq_true c37
           clear c37
           by_cases c38 : (rd l2_2 x55_2) < (x10_1.length : Int)
           ·rw [if_pos c38] at H
            have c38b0 : decide ((rd l2_2 x55_2) < (x10_1.length : Int)) = true:=decide_eq_true c38
            clear c38
            by_cases c39 : x14_2.length < 17592186044416
            ·rw [if_pos c39] at H
             have LMc39:=Aside0.mk c39
             clear c39
             obtain ⟨y174,hy174⟩ : ∃ y_ : List Int,y_ = (x14_2 ++ [rd x10_1 (rd l2_2 x55_2)]):=⟨_,rfl⟩
             replace H : (spec_plThen.l1 k2 x10_1 x11_1 y174 l2_2 (l2_2.length : Int) (wrap64 (x55_2 + 1))) = some (r1,r2):=by first|(rw [hy174];with_reducible exact H)|(have H2_:=(Option.bind_some _ _).symm.trans H;rw [hy174];with_reducible exact H2_)|(have H2_:=(Option.bind_some _ _).symm.trans H;with_reducible exact H2_)|with_reducible exact H|(rw [hy174];exact H)|exact H
             have Ny174:=Aside0.mk hy174
             clear hy174
             have H':=Aside0.mk H
             clear H
             have p172 : 0 ≤ (x55_2 : Int):=of_decide_eq_true az
             have q172 : x55_2 < (l2_2.length : Int):=of_decide_eq_true az
             obtain ⟨ad172,e172,hx172_0⟩:=Kd.at_int HR2_2.out x55_2 p172 q172
             cases e172
             replace hx172_0:=(HB.out.cell (World.block_lt_of_cell? w _ hx172_0)).trans hx172_0
             replace p172:=eq_true p172
             replace q172:=eq_true q172
             obtain ⟨Ao40,co40,eo40⟩:=Kd.R_slice HO_10.out
             subst eo40
             have p173 : 0 ≤ ((rd l2_2 x55_2) : Int):=of_decide_eq_true az
             have q173 : (rd l2_2 x55_2) < (x10_1.length : Int):=of_decide_eq_true az
             obtain ⟨ad173,e173,hx173_0⟩:=Kd.at_int (Kd.R_reads' HO_10.out).2.2 (rd l2_2 x55_2) p173 q173
             cases e173
             replace p173:=eq_true p173
             replace q173:=eq_true q173
             go_wp2_with (first|((with_reducible refine gate_builtin (b:=.append) (xs:=#[.tmp 59,.tmp 64]) rfl ?_);at_builtin;refine Kd.R_append (Kd.int .i64) (w0:=w) w.heap.size rfl (.tmp 59) (.tmp 64) 23 3 (.int .i64 0) 8 rfl Try.underlying23 info3 rfl (by decide) (by omega) u14 x14_2 (rd x10_1 (rd l2_2 x55_2)) [.int .i64 (rd x10_1 (rd l2_2 x55_2))] (fun k_=>some k_ ≠ (.slice (some ad173) x10_1.length co40 : Value).ownBlock) (fun _=>False) rfl rfl ?aP (fun _ hk=>hk.elim) ?aF ?aO ?aB ?aS ?aL ?_;(case aP=>exact rfl);(case aB=>exact bs);(case aF=>exact (fun k_ hk=>Kd.fresh' (Kd.R_lt (rz HO_10.out)) k_ hk));(case aO=>exact (rz HO_14.out));(case aS=>exact (below_size bs));(case aL=>have:=LMc39.out;omega);intro v175 w41 ho hb hg hat;rw [← Ny174.out] at ho;have n0_:=Aside0.mk (Kd.R_after (ok:=(fun _=>True)) (by (with_reducible repeat (first|apply Kd.R_alloc|apply Kd.R_drewN|apply Kd.R_drew));exact Kd.R_mono HO_10.out (fun _ hk=>⟨trivial,hk⟩)) hg hat);have n1_:=Aside0.mk (Kd.R_over' (rz HO_11.out) (Kd.R_typed (rz HO_14.out)) (by decide) hg);have n2_:=Aside0.mk (blk_grown (g:=gb150) (o:=.cells #[.int .i64 a2_0,.slice A2_1 l2_1.length c2_1,.slice (some ad172) l2_2.length c2_2] 29 (0,0)) (kz BK150.out) hg (Kd.R_ne HO_14.out BK150.out (by decide)));have n3_:=Aside0.mk (hb);have n4_:=Aside0.mk (ho);clear HO_10 HO_11 BK150 HB HO_14;have HO_10:=n0_;have HO_11:=n1_;have BK150:=n2_;have HB:=n3_;have HO176:=n4_;clear n0_ n1_ n2_ n3_ n4_;clear ho hb hg hat))
             go_roundg k2
             case measure=>have:=HK1.out;have:=HK2.out;omega
             case rel=>exact ⟨(y174),(wrap64 (x55_2 + 1)),fz,H',⟨by have:=HK1.out;have:=HK2.out;omega⟩,⟨by (with_reducible repeat (first|apply Kd.R_alloc|apply Kd.R_drewN|apply Kd.R_drew));exact Kd.R_mono HO_10.out (fun _ hk=>hk.2)⟩,⟨by (with_reducible repeat (first|apply Kd.R_alloc|apply Kd.R_drewN|apply Kd.R_drew));exact HO_11.out⟩,⟨by (with_reducible repeat (first|apply Kd.R_alloc|apply Kd.R_drewN|apply Kd.R_drew));exact HO176.out⟩,⟨by (with_reducible repeat (first|refine blk_drewN ?_ _|refine blk_drew ?_|refine blk_alloc ?_ _));exact BK150.out⟩,⟨by repeat (first|(with_reducible first|exact HB.out|apply below_alloc|apply pw_below_drewN|apply below_drew1|refine below_set ?_ GE150.out)|exact HB.out)⟩⟩
            ·rw [if_neg c39] at H
             exact absurd H (by simp)
           ·rw [if_neg c38] at H
            exact absurd H (by simp)
          ·rw [if_neg c37] at H
           exact absurd H (by simp)
         ·rw [if_neg c36] at H
          exact absurd H (by simp)
        ·rw [if_neg c35] at H
         exact absurd H (by simp)
       ·rw [if_neg c34] at H
        have c34b0 : decide (x55_2 < (l2_2.length : Int)) = false:=decide_eq_false c34
        clear c34
        simp only [Option.some.injEq,Prod.mk.injEq] at H
        obtain ⟨rfl,rfl⟩:=H
        go_wp2
        go_ret2
        exact ⟨_,_,by first|rfl|(simp [errW_none,errW_some] <;> rfl)|(simp [*,errW_none,errW_some] <;> rfl),by (with_reducible repeat (first|apply Kd.R_alloc|apply Kd.R_drewN|apply Kd.R_drew));exact HO_11.out,by (with_reducible repeat (first|apply Kd.R_alloc|apply Kd.R_drewN|apply Kd.R_drew));exact Kd.R_mono HO_14.out (fun _ hk=>trivial),by repeat (first|(with_reducible first|exact HB.out|apply below_alloc|apply pw_below_drewN|apply below_drew1|refine below_set ?_ GE150.out)|exact HB.out)⟩
 ·rw [if_neg c6] at H
  exact absurd H (by simp)
/-! ### spec_plUpTo: function 40 -/
def spec_plUpTo.l0 : Nat → Int → List Int → Int → Option (List Int)
 | 0,_,_,_=>none
 | k + 1,x0,x3,x4=>if x4 < x0 then (if x3.length < 17592186044416 then (spec_plUpTo.l0 k x0 (x3 ++ [x4]) (wrap64 (x4 + 1))) else (none)) else (some x3)
def spec_plUpTo.f (k : Nat) (a0 : Int) : Option (List Int):=spec_plUpTo.l0 k a0 ([] : List Int) 0
theorem spec_plUpTo.mono_l : ∀ k,(∀ y0 y1 y2,LeO (spec_plUpTo.l0 k y0 y1 y2) (spec_plUpTo.l0 (k + 1) y0 y1 y2))
 | 0=>fun _ _ _ r h=>by simp [spec_plUpTo.l0] at h
 | k + 1=>by
  have ih0:=spec_plUpTo.mono_l k
  ·intro y0 y1 y2
   unfold spec_plUpTo.l0
   repeat' first
   | (with_reducible exact ih0 _ _ _)
   | (with_reducible exact LeO.refl _)
   | (with_reducible exact LeO.none _)
   | (with_reducible refine LeO.ite ?_ ?_)
   | (with_reducible refine LeO.bind ?_ (fun _=>?_))
   | exact ih0 _ _ _
   | exact LeO.none _
   | refine LeO.ite ?_ ?_
   | refine LeO.bind ?_ (fun _=>?_)
theorem spec_plUpTo.mono : ∀ a0 k,LeO (spec_plUpTo.f k a0) (spec_plUpTo.f (k + 1) a0):=by
 intro a0 k
 have ih0:=spec_plUpTo.mono_l k
 unfold spec_plUpTo.f
 repeat' first
   | (with_reducible exact ih0 _ _ _)
   | (with_reducible exact LeO.refl _)
   | (with_reducible exact LeO.none _)
   | (with_reducible refine LeO.ite ?_ ?_)
   | (with_reducible refine LeO.bind ?_ (fun _=>?_))
   | exact ih0 _ _ _
   | exact LeO.none _
   | refine LeO.ite ?_ ?_
   | refine LeO.bind ?_ (fun _=>?_)
set_option maxHeartbeats 8000000 in
set_option maxRecDepth 100000 in
theorem spec_plUpTo.calls (k : Nat) (a0 : Int) (r : List Int) (w : World) (h : spec_plUpTo.f k a0 = some r) :
  Calls Try.prog 40 #[.int .i64 a0] w fun e w'=>∃ v0_ : Value,e = .returned (v0_) ∧ Kd.R (Kd.int .i64) 3 w' w.heap.size (fun _=>True) v0_ r ∧ Below w.heap.size w w':=by
 have HB:=Aside0.mk (Below.refl w.heap.size w)
 have H : (spec_plUpTo.l0 k a0 ([] : List Int) 0) = some r:=h
 clear h
 have H':=Aside0.mk H
 clear H
 go_enter Try.func40,Try.ntmps40
 go_wp2
 go_loopg [3,4] k (fun kq v3 v4 w'=>∃ (x3_1 : List Int) (x4_1 : Int),v4 = .int .i64 x4_1 ∧ Aside0 (spec_plUpTo.l0 kq a0 x3_1 x4_1 = some r) ∧ Aside0 (kq ≤ k) ∧ Aside0 (Kd.R (Kd.int .i64) 3 w' w.heap.size (fun _=>True) v3 x3_1) ∧ Aside0 (Below w.heap.size w w'))
 case atStart=>exact ⟨(([] : List Int)),(0),fz,H',⟨Nat.le_refl _⟩,⟨by first|exact Kd.R_nil _ _ _ _ _|exact Kd.N_nil _ _ _ _ _|exact Kd.V_nil _ _ _ _ _|exact Kd.Q_nil _ _ _ _ _|exact Kd.S_nil _ _ _ _ _⟩,⟨by repeat (first|(with_reducible first|exact HB.out|apply below_alloc|apply pw_below_drewN|apply below_drew1)|exact HB.out)⟩⟩
 case round=>
  clear H'
  obtain ⟨x3_1,x4_1,rfl,HA,HK1,HO_3,HB⟩:=hrel
  cases gk with
  | zero=>exact absurd HA.out (by simp [spec_plUpTo.l0])
  | succ k1=>
   have H:=HA.out
   clear HA
   simp only [spec_plUpTo.l0] at H
   by_cases c2 : x4_1 < a0
   ·rw [if_pos c2] at H
    have c2b0 : decide (x4_1 < a0) = true:=decide_eq_true c2
    clear c2
    by_cases c3 : x3_1.length < 17592186044416
    ·rw [if_pos c3] at H
     have LMc3:=Aside0.mk c3
     clear c3
     obtain ⟨y177,hy177⟩ : ∃ y_ : List Int,y_ = (x3_1 ++ [x4_1]):=⟨_,rfl⟩
     replace H : (spec_plUpTo.l0 k1 a0 y177 (wrap64 (x4_1 + 1))) = some r:=by first|(rw [hy177];with_reducible exact H)|(have H2_:=(Option.bind_some _ _).symm.trans H;rw [hy177];with_reducible exact H2_)|(have H2_:=(Option.bind_some _ _).symm.trans H;with_reducible exact H2_)|with_reducible exact H|(rw [hy177];exact H)|exact H
     have Ny177:=Aside0.mk hy177
     clear hy177
     have H':=Aside0.mk H
     clear H
     go_wp2_with (first|((with_reducible refine gate_builtin (b:=.append) (xs:=#[.tmp 10,.tmp 12]) rfl ?_);at_builtin;refine Kd.R_append (Kd.int .i64) (w0:=w) w.heap.size rfl (.tmp 10) (.tmp 12) 23 3 (.int .i64 0) 8 rfl Try.underlying23 info3 rfl (by decide) (by omega) u3 x3_1 x4_1 [.int .i64 x4_1] (fun _=>True) (fun _=>False) rfl rfl ?aP (fun _ hk=>hk.elim) ?aF ?aO ?aB ?aS ?aL ?_;(case aP=>exact rfl);(case aB=>exact bz);(case aF=>exact (fun _ _=>trivial));(case aO=>exact (rz HO_3.out));(case aS=>exact (below_size bz));(case aL=>have:=LMc3.out;omega);intro v178 w4 ho hb hg hat;rw [← Ny177.out] at ho;have n0_:=Aside0.mk (hb);have n1_:=Aside0.mk (ho);clear HB HO_3;have HB:=n0_;have HO179:=n1_;clear n0_ n1_;clear ho hb hg hat))
     go_roundg k1
     case measure=>have:=HK1.out;omega
     case rel=>exact ⟨(y177),(wrap64 (x4_1 + 1)),fz,H',⟨by have:=HK1.out;omega⟩,⟨by (with_reducible repeat (first|apply Kd.R_alloc|apply Kd.R_drewN|apply Kd.R_drew));exact HO179.out⟩,⟨by repeat (first|(with_reducible first|exact HB.out|apply below_alloc|apply pw_below_drewN|apply below_drew1)|exact HB.out)⟩⟩
    ·rw [if_neg c3] at H
     exact absurd H (by simp)
   ·rw [if_neg c2] at H
    have c2b0 : decide (x4_1 < a0) = false:=decide_eq_false c2
    clear c2
    obtain rfl:=Option.some.inj H
    go_wp2
    go_ret
    exact ⟨_,by first|rfl|(simp [errW_none,errW_some] <;> rfl)|(simp [*,errW_none,errW_some] <;> rfl),by (with_reducible repeat (first|apply Kd.R_alloc|apply Kd.R_drewN|apply Kd.R_drew));exact HO_3.out,by repeat (first|(with_reducible first|exact HB.out|apply below_alloc|apply pw_below_drewN|apply below_drew1)|exact HB.out)⟩
/-! ### spec_plIf: function 41 -/
def spec_plIf.f (k : Nat) (a0_0 : Int) (l0_1 : List (S73)) (l0_2 : List Int) : Option (Int × (List (S73)) × List Int × Bool):=(spec_plGood.f k a0_0 l0_1 l0_2).bind fun t182=>(if t182 = true then (some (a0_0,l0_1,l0_2,true)) else (some (0,([] : List (S73)),([] : List Int),false)))
theorem spec_plIf.mono : ∀ a0 a1 a2 k,LeO (spec_plIf.f k a0 a1 a2) (spec_plIf.f (k + 1) a0 a1 a2):=by
 intro a0 a1 a2 k
 unfold spec_plIf.f
 repeat' first
   | (with_reducible exact spec_plGood.mono _ _ _ _)
   | (with_reducible exact LeO.refl _)
   | (with_reducible exact LeO.none _)
   | (with_reducible refine LeO.ite ?_ ?_)
   | (with_reducible refine LeO.bind ?_ (fun _=>?_))
   | exact spec_plGood.mono _ _ _ _
   | exact LeO.none _
   | refine LeO.ite ?_ ?_
   | refine LeO.bind ?_ (fun _=>?_)
set_option maxHeartbeats 8000000 in
set_option maxRecDepth 100000 in
theorem spec_plIf.calls (k : Nat) (a0_0 : Int) (P0_1_ : Nat → Prop) (u9000_ : Value) (l0_1 : List (S73)) (P0_2_ : Nat → Prop) (u9001_ : Value) (l0_2 : List Int) (r1 : Int) (r2 : List (S73)) (r3 : List Int) (r4 : Bool) (w0 w : World) (hB : Below w0.heap.size w0 w) (ho0_1 : Kd.R k73 73 w w0.heap.size P0_1_ u9000_ l0_1) (ho0_2 : Kd.R (Kd.int .i64) 3 w w0.heap.size P0_2_ u9001_ l0_2) (h : spec_plIf.f k a0_0 l0_1 l0_2 = some (r1,r2,r3,r4)) :
  Calls Try.prog 41 #[.agg #[.int .i64 a0_0,u9000_,u9001_]] w fun e w'=>∃ v1_ v2_ : Value,e = .returned (.tuple #[.agg #[.int .i64 r1,v1_,v2_],.bool r4]) ∧ Kd.R k73 73 w' w0.heap.size (fun k_=>((P0_1_ k_ ∨ P0_2_ k_) ∨ w.heap.size ≤ k_)) v1_ r2 ∧ Kd.R (Kd.int .i64) 3 w' w0.heap.size (fun k_=>((P0_1_ k_ ∨ P0_2_ k_) ∨ w.heap.size ≤ k_)) v2_ r3 ∧ Below w0.heap.size w0 w' ∧ Kept w w' (fun k_=>P0_1_ k_ ∨ P0_2_ k_):=by
 have hu29:=Try.underlying29
 have HO0_1:=Aside0.mk (show Kd.R k73 73 w w0.heap.size (fun k_=>((P0_1_ k_ ∨ P0_2_ k_) ∨ w.heap.size ≤ k_)) u9000_ l0_1 from Kd.R_mono ho0_1 (fun k_ hk=>(.inl (.inl hk))))
 have HO0_2:=Aside0.mk (show Kd.R (Kd.int .i64) 3 w w0.heap.size (fun k_=>((P0_1_ k_ ∨ P0_2_ k_) ∨ w.heap.size ≤ k_)) u9001_ l0_2 from Kd.R_mono ho0_2 (fun k_ hk=>(.inl (.inr hk))))
 have HK:=Aside0.mk (Kept.refl w (fun k_=>P0_1_ k_ ∨ P0_2_ k_))
 have HW0:=Aside0.mk hB.size
 have HB:=Aside0.mk hB
 clear hB
 have H : ((spec_plGood.f k a0_0 l0_1 l0_2).bind fun t182=>(if t182 = true then (some (a0_0,l0_1,l0_2,true)) else (some (0,([] : List (S73)),([] : List Int),false)))) = some (r1,r2,r3,r4):=h
 clear h
 obtain ⟨t182,A2,H⟩:=bd H
 by_cases c3 : t182 = true
 ·subst c3
  rw [if_pos rfl] at H
  simp only [Option.some.injEq,Prod.mk.injEq] at H
  obtain ⟨rfl,rfl,rfl,rfl⟩:=H
  obtain ⟨Ao4,co4,eo4⟩:=Kd.R_slice HO0_1.out
  subst eo4
  obtain ⟨Ao5,co5,eo5⟩:=Kd.R_slice HO0_2.out
  subst eo5
  go_enter Try.func41,Try.ntmps41
  go_wp2_with (first|((with_reducible refine gate_dst (N:=1) rfl ?_);refine box_event ?hg (N:=1) ?hd (cs:=#[.int .i64 a0_0,.slice Ao4 l0_1.length co4,.slice Ao5 l0_2.length co5]) (t:=29) ?hr ?_;(case hd=>rfl);(case hg=>rfl);(case hr=>first|(go_simp;done)|(go_simp;rfl));intro gb180 hg w6 hbox hb;have n0_:=Aside0.mk (Kd.R_below (rz HO0_1.out) hb);have n1_:=Aside0.mk (Kd.R_below (rz HO0_2.out) hb);have n2_:=Aside0.mk (Kept.below (S:=(fun k_=>P0_1_ k_ ∨ P0_2_ k_)) (by repeat (first|(with_reducible first|exact HK.out|apply Kept.alloc|apply Kept.drewN|apply Kept.drew)|exact HK.out)) hb);have n3_:=Aside0.mk (below_step bz hb);have n4_:=Aside0.mk (hbox);have n5_:=Aside0.mk ((by rw [hg];exact (by first|exact HK.out.1|exact (show Kept w _ (fun k_=>P0_1_ k_ ∨ P0_2_ k_) from by repeat (first|(with_reducible first|exact HK.out|apply Kept.alloc|apply Kept.drewN|apply Kept.drew)|exact HK.out)).1) : w.heap.size ≤ gb180));have n6_:=Aside0.mk ((by rw [hg];exact (below_size bz) : w0.heap.size ≤ gb180));clear HO0_1 HO0_2 HK HB;have HO0_1:=n0_;have HO0_2:=n1_;have HK:=n2_;have HB:=n3_;have BK180:=n4_;have GW180:=n5_;have GE180:=n6_;clear n0_ n1_ n2_ n3_ n4_ n5_ n6_;clear hb hbox hg)|((with_reducible refine gate_dst (N:=2) rfl ?_);refine box_event ?hg (N:=2) ?hd (cs:=#[.int .i64 0,.slice none 0 0,.slice none 0 0]) (t:=29) ?hr ?_;(case hd=>rfl);(case hg=>rfl);(case hr=>first|(go_simp;done)|(go_simp;rfl));intro gb181 hg w7 hbox hb;have n0_:=Aside0.mk (Kd.R_below (rz HO0_1.out) hb);have n1_:=Aside0.mk (Kd.R_below (rz HO0_2.out) hb);have n2_:=Aside0.mk (kb BK180.out hb);have n3_:=Aside0.mk (Kept.below (S:=(fun k_=>P0_1_ k_ ∨ P0_2_ k_)) (by repeat (first|(with_reducible first|exact HK.out|apply Kept.alloc|apply Kept.drewN|apply Kept.drew|refine Kept.setCell ?_ (.inr GW180.out) _)|exact HK.out)) hb);have n4_:=Aside0.mk (below_step bs hb);have n5_:=Aside0.mk (hbox);have n6_:=Aside0.mk ((by rw [hg];exact (by first|exact HK.out.1|exact (show Kept w _ (fun k_=>P0_1_ k_ ∨ P0_2_ k_) from by repeat (first|(with_reducible first|exact HK.out|apply Kept.alloc|apply Kept.drewN|apply Kept.drew|refine Kept.setCell ?_ (.inr GW180.out) _)|exact HK.out)).1) : w.heap.size ≤ gb181));have n7_:=Aside0.mk ((by rw [hg];exact (below_size bs) : w0.heap.size ≤ gb181));have n8_:=Aside0.mk (kn hg BK180.out);have n9_:=Aside0.mk (km hg BK180.out);clear HO0_1 HO0_2 BK180 HK HB;have HO0_1:=n0_;have HO0_2:=n1_;have BK180:=n2_;have HK:=n3_;have HB:=n4_;have BK181:=n5_;have GW181:=n6_;have GE181:=n7_;have NB180_181:=n8_;have NB181_180:=n9_;clear n0_ n1_ n2_ n3_ n4_ n5_ n6_ n7_ n8_ n9_;clear hb hbox hg;have hnb8:=NB180_181.out;have hnc8:=NB181_180.out;have hcz9_0 : w7.cell? ⟨gb180,0,none⟩ = some (.int .i64 a0_0):=(blk_cell BK180.out 0).trans rfl;have hcz9_1 : w7.cell? ⟨gb180,1,none⟩ = some (.slice Ao4 l0_1.length co4):=(blk_cell BK180.out 1).trans rfl;have hcz9_2 : w7.cell? ⟨gb180,2,none⟩ = some (.slice Ao5 l0_2.length co5):=(blk_cell BK180.out 2).trans rfl;have hfz9_0:=blk_frozen BK180.out 0;have hfz9_1:=blk_frozen BK180.out 1;have hfz9_2:=blk_frozen BK180.out 2)|((with_reducible refine gate_callee (f:=38) rfl ?_);refine goesL_ (some 5) rfl rfl Try.func38 (by kernel_rfl) rfl #[.agg #[.int .i64 a0_0,.slice Ao4 l0_1.length co4,.slice Ao5 l0_2.length co5]] rfl mz ?_;(with_reducible refine (spec_plGood.calls k a0_0 _ _ l0_1 _ _ l0_2 true _ ?side1 ?side2 ?side3 ?side4 A2.out).mono ?_);(case side1=>exact cz (Kd.R_reads' HO0_1.out).2.2);(case side2=>exact (Kd.R_reads' HO0_1.out).2.1);(case side3=>exact cz (Kd.R_reads' HO0_2.out).2.2);(case side4=>exact (Kd.R_reads' HO0_2.out).2.1);rintro e w10 ⟨rfl,hb⟩;refine ⟨_,rfl,?_⟩;have n0_:=Aside0.mk (Kd.R_below (rz HO0_1.out) hb);have n1_:=Aside0.mk (Kd.R_below (rz HO0_2.out) hb);have n2_:=Aside0.mk (kb BK180.out hb);have n3_:=Aside0.mk (kb BK181.out hb);have n4_:=Aside0.mk (Kept.below (S:=(fun k_=>P0_1_ k_ ∨ P0_2_ k_)) (by repeat (first|(with_reducible first|exact HK.out|apply Kept.alloc|apply Kept.drewN|apply Kept.drew|refine Kept.setCell ?_ (.inr GW180.out) _|refine Kept.setCell ?_ (.inr GW181.out) _)|exact HK.out)) hb);have n5_:=Aside0.mk (below_step bs hb);clear HO0_1 HO0_2 BK180 BK181 HK HB;have HO0_1:=n0_;have HO0_2:=n1_;have BK180:=n2_;have BK181:=n3_;have HK:=n4_;have HB:=n5_;clear n0_ n1_ n2_ n3_ n4_ n5_;(try clear hb);have hcz11_0 : w10.cell? ⟨gb180,0,none⟩ = some (.int .i64 a0_0):=(blk_cell BK180.out 0).trans rfl;have hcz11_1 : w10.cell? ⟨gb180,1,none⟩ = some (.slice Ao4 l0_1.length co4):=(blk_cell BK180.out 1).trans rfl;have hcz11_2 : w10.cell? ⟨gb180,2,none⟩ = some (.slice Ao5 l0_2.length co5):=(blk_cell BK180.out 2).trans rfl;have hfz11_0:=blk_frozen BK180.out 0;have hfz11_1:=blk_frozen BK180.out 1;have hfz11_2:=blk_frozen BK180.out 2;have hcz12_0 : w10.cell? ⟨gb181,0,none⟩ = some (.int .i64 0):=(blk_cell BK181.out 0).trans rfl;have hcz12_1 : w10.cell? ⟨gb181,1,none⟩ = some (.slice none 0 0):=(blk_cell BK181.out 1).trans rfl;have hcz12_2 : w10.cell? ⟨gb181,2,none⟩ = some (.slice none 0 0):=(blk_cell BK181.out 2).trans rfl;have hfz12_0:=blk_frozen BK181.out 0;have hfz12_1:=blk_frozen BK181.out 1;have hfz12_2:=blk_frozen BK181.out 2))
  refine bodyPost_ret (results_ct rfl _ _ gb181 29 #[.int .i64 a0_0,.slice Ao4 l0_1.length co4,.slice Ao5 l0_2.length co5] (0,0) _ rfl (by (with_reducible repeat (first|refine blk_drewN ?_ _|refine blk_drew ?_|refine blk_alloc ?_ _));refine blk_put (cs:=#[.int .i64 a0_0,.slice Ao4 l0_1.length co4,.slice none 0 0]) ?_ 2 _ rfl;(with_reducible repeat (first|refine blk_drewN ?_ _|refine blk_drew ?_|refine blk_alloc ?_ _));refine blk_put (cs:=#[.int .i64 a0_0,.slice none 0 0,.slice none 0 0]) ?_ 1 _ rfl;(with_reducible repeat (first|refine blk_drewN ?_ _|refine blk_drew ?_|refine blk_alloc ?_ _));refine blk_put (cs:=#[.int .i64 0,.slice none 0 0,.slice none 0 0]) ?_ 0 _ rfl;(with_reducible repeat (first|refine blk_drewN ?_ _|refine blk_drew ?_|refine blk_alloc ?_ _));exact BK181.out) Try.underlying29 rfl (by kernel_rfl)) rfl ?_
  exact ⟨_,_,by first|rfl|(simp [errW_none,errW_some] <;> rfl)|(simp [*,errW_none,errW_some] <;> rfl),by (with_reducible repeat (first|apply Kd.R_alloc|apply Kd.R_drewN|apply Kd.R_drew));exact Kd.R_mono (Kd.R_far (p:=⟨gb181,2,none⟩) (Kd.R_far (p:=⟨gb181,1,none⟩) (Kd.R_far (p:=⟨gb181,0,none⟩) (Kd.R_types HO0_1.out BK181.out (by decide)) (fun _ hk=>hk.2) (.int .i64 a0_0)) (fun _ hk=>hk.2) (.slice Ao4 l0_1.length co4)) (fun _ hk=>hk.2) (.slice Ao5 l0_2.length co5)) (fun _ hk=>hk.1),by (with_reducible repeat (first|apply Kd.R_alloc|apply Kd.R_drewN|apply Kd.R_drew));exact Kd.R_mono (Kd.R_far (p:=⟨gb181,2,none⟩) (Kd.R_far (p:=⟨gb181,1,none⟩) (Kd.R_far (p:=⟨gb181,0,none⟩) (Kd.R_types HO0_2.out BK181.out (by decide)) (fun _ hk=>hk.2) (.int .i64 a0_0)) (fun _ hk=>hk.2) (.slice Ao4 l0_1.length co4)) (fun _ hk=>hk.2) (.slice Ao5 l0_2.length co5)) (fun _ hk=>hk.1),by repeat (first|(with_reducible first|exact HB.out|apply below_alloc|apply pw_below_drewN|apply below_drew1|refine below_set ?_ GE180.out|refine below_set ?_ GE181.out)|exact HB.out),by repeat (first|(with_reducible first|exact HK.out|apply Kept.alloc|apply Kept.drewN|apply Kept.drew|refine Kept.setCell ?_ (.inr GW180.out) _|refine Kept.setCell ?_ (.inr GW181.out) _)|exact HK.out)⟩
 ·replace c3:=Bool.eq_false_iff.mpr c3
  subst c3
  rw [if_neg (show ¬ (false = true) by decide)] at H
  simp only [Option.some.injEq,Prod.mk.injEq] at H
  obtain ⟨rfl,rfl,rfl,rfl⟩:=H
  obtain ⟨Ao13,co13,eo13⟩:=Kd.R_slice HO0_1.out
  subst eo13
  obtain ⟨Ao14,co14,eo14⟩:=Kd.R_slice HO0_2.out
  subst eo14
  go_enter Try.func41,Try.ntmps41
  go_wp2_with (first|((with_reducible refine gate_dst (N:=1) rfl ?_);refine box_event ?hg (N:=1) ?hd (cs:=#[.int .i64 a0_0,.slice Ao13 l0_1.length co13,.slice Ao14 l0_2.length co14]) (t:=29) ?hr ?_;(case hd=>rfl);(case hg=>rfl);(case hr=>first|(go_simp;done)|(go_simp;rfl));intro gb180 hg w15 hbox hb;have n0_:=Aside0.mk (Kd.R_below (rz HO0_1.out) hb);have n1_:=Aside0.mk (Kd.R_below (rz HO0_2.out) hb);have n2_:=Aside0.mk (Kept.below (S:=(fun k_=>P0_1_ k_ ∨ P0_2_ k_)) (by repeat (first|(with_reducible first|exact HK.out|apply Kept.alloc|apply Kept.drewN|apply Kept.drew)|exact HK.out)) hb);have n3_:=Aside0.mk (below_step bz hb);have n4_:=Aside0.mk (hbox);have n5_:=Aside0.mk ((by rw [hg];exact (by first|exact HK.out.1|exact (show Kept w _ (fun k_=>P0_1_ k_ ∨ P0_2_ k_) from by repeat (first|(with_reducible first|exact HK.out|apply Kept.alloc|apply Kept.drewN|apply Kept.drew)|exact HK.out)).1) : w.heap.size ≤ gb180));have n6_:=Aside0.mk ((by rw [hg];exact (below_size bz) : w0.heap.size ≤ gb180));clear HO0_1 HO0_2 HK HB;have HO0_1:=n0_;have HO0_2:=n1_;have HK:=n2_;have HB:=n3_;have BK180:=n4_;have GW180:=n5_;have GE180:=n6_;clear n0_ n1_ n2_ n3_ n4_ n5_ n6_;clear hb hbox hg)|((with_reducible refine gate_dst (N:=2) rfl ?_);refine box_event ?hg (N:=2) ?hd (cs:=#[.int .i64 0,.slice none 0 0,.slice none 0 0]) (t:=29) ?hr ?_;(case hd=>rfl);(case hg=>rfl);(case hr=>first|(go_simp;done)|(go_simp;rfl));intro gb181 hg w16 hbox hb;have n0_:=Aside0.mk (Kd.R_below (rz HO0_1.out) hb);have n1_:=Aside0.mk (Kd.R_below (rz HO0_2.out) hb);have n2_:=Aside0.mk (kb BK180.out hb);have n3_:=Aside0.mk (Kept.below (S:=(fun k_=>P0_1_ k_ ∨ P0_2_ k_)) (by repeat (first|(with_reducible first|exact HK.out|apply Kept.alloc|apply Kept.drewN|apply Kept.drew|refine Kept.setCell ?_ (.inr GW180.out) _)|exact HK.out)) hb);have n4_:=Aside0.mk (below_step bs hb);have n5_:=Aside0.mk (hbox);have n6_:=Aside0.mk ((by rw [hg];exact (by first|exact HK.out.1|exact (show Kept w _ (fun k_=>P0_1_ k_ ∨ P0_2_ k_) from by repeat (first|(with_reducible first|exact HK.out|apply Kept.alloc|apply Kept.drewN|apply Kept.drew|refine Kept.setCell ?_ (.inr GW180.out) _)|exact HK.out)).1) : w.heap.size ≤ gb181));have n7_:=Aside0.mk ((by rw [hg];exact (below_size bs) : w0.heap.size ≤ gb181));have n8_:=Aside0.mk (kn hg BK180.out);have n9_:=Aside0.mk (km hg BK180.out);clear HO0_1 HO0_2 BK180 HK HB;have HO0_1:=n0_;have HO0_2:=n1_;have BK180:=n2_;have HK:=n3_;have HB:=n4_;have BK181:=n5_;have GW181:=n6_;have GE181:=n7_;have NB180_181:=n8_;have NB181_180:=n9_;clear n0_ n1_ n2_ n3_ n4_ n5_ n6_ n7_ n8_ n9_;clear hb hbox hg;have hnb17:=NB180_181.out;have hnc17:=NB181_180.out;have hcz18_0 : w16.cell? ⟨gb180,0,none⟩ = some (.int .i64 a0_0):=(blk_cell BK180.out 0).trans rfl;have hcz18_1 : w16.cell? ⟨gb180,1,none⟩ = some (.slice Ao13 l0_1.length co13):=(blk_cell BK180.out 1).trans rfl;have hcz18_2 : w16.cell? ⟨gb180,2,none⟩ = some (.slice Ao14 l0_2.length co14):=(blk_cell BK180.out 2).trans rfl;have hfz18_0:=blk_frozen BK180.out 0;have hfz18_1:=blk_frozen BK180.out 1;have hfz18_2:=blk_frozen BK180.out 2)|((with_reducible refine gate_callee (f:=38) rfl ?_);refine goesL_ (some 5) rfl rfl Try.func38 (by kernel_rfl) rfl #[.agg #[.int .i64 a0_0,.slice Ao13 l0_1.length co13,.slice Ao14 l0_2.length co14]] rfl mz ?_;(with_reducible refine (spec_plGood.calls k a0_0 _ _ l0_1 _ _ l0_2 false _ ?side1 ?side2 ?side3 ?side4 A2.out).mono ?_);(case side1=>exact cz (Kd.R_reads' HO0_1.out).2.2);(case side2=>exact (Kd.R_reads' HO0_1.out).2.1);(case side3=>exact cz (Kd.R_reads' HO0_2.out).2.2);(case side4=>exact (Kd.R_reads' HO0_2.out).2.1);rintro e w19 ⟨rfl,hb⟩;refine ⟨_,rfl,?_⟩;have n0_:=Aside0.mk (Kd.R_below (rz HO0_1.out) hb);have n1_:=Aside0.mk (Kd.R_below (rz HO0_2.out) hb);have n2_:=Aside0.mk (kb BK180.out hb);have n3_:=Aside0.mk (kb BK181.out hb);have n4_:=Aside0.mk (Kept.below (S:=(fun k_=>P0_1_ k_ ∨ P0_2_ k_)) (by repeat (first|(with_reducible first|exact HK.out|apply Kept.alloc|apply Kept.drewN|apply Kept.drew|refine Kept.setCell ?_ (.inr GW180.out) _|refine Kept.setCell ?_ (.inr GW181.out) _)|exact HK.out)) hb);have n5_:=Aside0.mk (below_step bs hb);clear HO0_1 HO0_2 BK180 BK181 HK HB;have HO0_1:=n0_;have HO0_2:=n1_;have BK180:=n2_;have BK181:=n3_;have HK:=n4_;have HB:=n5_;clear n0_ n1_ n2_ n3_ n4_ n5_;(try clear hb);have hcz20_0 : w19.cell? ⟨gb181,0,none⟩ = some (.int .i64 0):=(blk_cell BK181.out 0).trans rfl;have hcz20_1 : w19.cell? ⟨gb181,1,none⟩ = some (.slice none 0 0):=(blk_cell BK181.out 1).trans rfl;have hcz20_2 : w19.cell? ⟨gb181,2,none⟩ = some (.slice none 0 0):=(blk_cell BK181.out 2).trans rfl;have hfz20_0:=blk_frozen BK181.out 0;have hfz20_1:=blk_frozen BK181.out 1;have hfz20_2:=blk_frozen BK181.out 2))
  refine bodyPost_ret (results_ct rfl _ _ gb181 29 #[.int .i64 0,.slice none 0 0,.slice none 0 0] (0,0) _ rfl (by (with_reducible repeat (first|refine blk_drewN ?_ _|refine blk_drew ?_|refine blk_alloc ?_ _));refine blk_put (cs:=#[.int .i64 0,.slice none 0 0,.slice none 0 0]) ?_ 2 _ rfl;(with_reducible repeat (first|refine blk_drewN ?_ _|refine blk_drew ?_|refine blk_alloc ?_ _));refine blk_put (cs:=#[.int .i64 0,.slice none 0 0,.slice none 0 0]) ?_ 1 _ rfl;(with_reducible repeat (first|refine blk_drewN ?_ _|refine blk_drew ?_|refine blk_alloc ?_ _));refine blk_put (cs:=#[.int .i64 0,.slice none 0 0,.slice none 0 0]) ?_ 0 _ rfl;(with_reducible repeat (first|refine blk_drewN ?_ _|refine blk_drew ?_|refine blk_alloc ?_ _));exact BK181.out) Try.underlying29 rfl (by kernel_rfl)) rfl ?_
  exact ⟨_,_,by first|rfl|(simp [errW_none,errW_some] <;> rfl)|(simp [*,errW_none,errW_some] <;> rfl),by first|exact Kd.R_nil _ _ _ _ _|exact Kd.N_nil _ _ _ _ _|exact Kd.V_nil _ _ _ _ _|exact Kd.Q_nil _ _ _ _ _|exact Kd.S_nil _ _ _ _ _,by first|exact Kd.R_nil _ _ _ _ _|exact Kd.N_nil _ _ _ _ _|exact Kd.V_nil _ _ _ _ _|exact Kd.Q_nil _ _ _ _ _|exact Kd.S_nil _ _ _ _ _,by repeat (first|(with_reducible first|exact HB.out|apply below_alloc|apply pw_below_drewN|apply below_drew1|refine below_set ?_ GE180.out|refine below_set ?_ GE181.out)|exact HB.out),by repeat (first|(with_reducible first|exact HK.out|apply Kept.alloc|apply Kept.drewN|apply Kept.drew|refine Kept.setCell ?_ (.inr GW180.out) _|refine Kept.setCell ?_ (.inr GW181.out) _)|exact HK.out)⟩
end Go.Proofs.Ytdcdaoancmpbeaa.MFnExactJoinPlans
--sq
