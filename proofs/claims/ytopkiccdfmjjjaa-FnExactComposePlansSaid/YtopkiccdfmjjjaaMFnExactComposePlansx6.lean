import Derived.Test.YtopkiccdfmjjjaaMFnExactComposePlansx0
import Derived.Test.YtopkiccdfmjjjaaMFnExactComposePlansx5
namespace Go.Proofs.Ytopkiccdfmjjjaa.MFnExactComposePlans
open Go.RowKit Go.Proofs.YtopkiccdfmjjjaaW.PrintWords Go.Proofs.YtopkiccdfmjjjaaW.PrintLast Go.Proofs.YtopkiccdfmjjjaaW.PrintMore Go.Proofs.YtopkiccdfmjjjaaV Go.Proofs.YtopkiccdfmjjjaaZ
attribute [local go_sem] max2_int min2_int max_two min_two max_three min_three max_four min_four   -- for this text's walks alone
set_option linter.unusedVariables false
set_option linter.unusedSimpArgs false
/-! ### spec_plThen: function 88 -/
mutual
def spec_plThen.l0 : Nat → Int → List Int → List (S69) → List (S69) → Int → Int → Int → List (S69) → List Int → Option ((List (S69)) × List Int)
 | 0,_,_,_,_,_,_,_,_,_=>none
 | k + 1,x1,x10,x11,x23,x24,x25,x203000,x203001,x203002=>if x25 < x24 then (if 0 ≤ x25 then (if x25 < (x23.length : Int) then (if 0 ≤ ((rd_T69 x23 x25).f0) then (if ((rd_T69 x23 x25).f0) < (x10.length : Int) then (if 0 ≤ ((rd_T69 x23 x25).f1) then (if ((rd_T69 x23 x25).f1) < (x10.length : Int) then ((spec_plStep.f (rd x10 ((rd_T69 x23 x25).f0)) (rd x10 ((rd_T69 x23 x25).f1))).bind fun bt216=>(if x11.length < 8796093022208 then ((some (x11 ++ [(⟨bt216.1,bt216.2⟩ : S69)] : List (S69))).bind fun y218=>(if x10.length < 17592186044416 then (spec_plThen.l0 k x1 (x10 ++ [wrap64 ((wrap64 (x1 + (y218.length : Int))) - 1)]) y218 x23 x24 (wrap64 (x25 + 1)) x203000 x203001 x203002) else (none))) else (none))) else (none)) else (none)) else (none)) else (none)) else (none)) else (none)) else (spec_plThen.l1 k x10 x11 ([] : List Int) x203002 (x203002.length : Int) 0)
def spec_plThen.l1 : Nat → List Int → List (S69) → List Int → List Int → Int → Int → Option ((List (S69)) × List Int)
 | 0,_,_,_,_,_,_=>none
 | k + 1,x10,x11,x14,x53,x54,x55=>if x55 < x54 then (if 0 ≤ x55 then (if x55 < (x53.length : Int) then (if 0 ≤ (rd x53 x55) then (if (rd x53 x55) < (x10.length : Int) then (if x14.length < 17592186044416 then (spec_plThen.l1 k x10 x11 (x14 ++ [rd x10 (rd x53 x55)]) x53 x54 (wrap64 (x55 + 1))) else (none)) else (none)) else (none)) else (none)) else (none)) else (some (x11,x14))
end
def spec_plThen.f (k : Nat) (l0 : List (S69)) (a1 : Int) (a2_0 : Int) (l2_1 : List (S69)) (l2_2 : List Int) (l3 : List Int) : Option ((List (S69)) × List Int):=(spec_l1Own.f l3).bind fun t203=>((some (([] : List (S69)) : List (S69))).bind fun y206=>(if y206.length + l0.length < 8796093022208 then (spec_plThen.l0 k a1 t203 (y206 ++ l0) l2_1 (l2_1.length : Int) 0 a2_0 l2_1 l2_2) else (none)))
theorem spec_plThen.mono_l : ∀ k,(∀ y0 y1 y2 y3 y4 y5 y6 y7 y8,LeO (spec_plThen.l0 k y0 y1 y2 y3 y4 y5 y6 y7 y8) (spec_plThen.l0 (k + 1) y0 y1 y2 y3 y4 y5 y6 y7 y8)) ∧ (∀ y0 y1 y2 y3 y4 y5,LeO (spec_plThen.l1 k y0 y1 y2 y3 y4 y5) (spec_plThen.l1 (k + 1) y0 y1 y2 y3 y4 y5))
 | 0=>⟨fun _ _ _ _ _ _ _ _ _ r h=>by simp [spec_plThen.l0] at h,fun _ _ _ _ _ _ r h=>by simp [spec_plThen.l1] at h⟩
 | k + 1=>by
  obtain ⟨ih0,ih1⟩:=spec_plThen.mono_l k
  refine ⟨?_,?_⟩
  ·intro y0 y1 y2 y3 y4 y5 y6 y7 y8
   unfold spec_plThen.l0
   repeat' first
   | (with_reducible exact ih0 _ _ _ _ _ _ _ _ _)
   | (with_reducible exact ih1 _ _ _ _ _ _)
   | (with_reducible exact LeO.refl _)
   | (with_reducible exact LeO.none _)
   | (with_reducible refine LeO.ite ?_ ?_)
   | (with_reducible refine LeO.bind ?_ (fun _=>?_))
   | exact ih0 _ _ _ _ _ _ _ _ _
   | exact ih1 _ _ _ _ _ _
   | exact LeO.none _
   | refine LeO.ite ?_ ?_
   | refine LeO.bind ?_ (fun _=>?_)
  ·intro y0 y1 y2 y3 y4 y5
   unfold spec_plThen.l1
   repeat' first
   | (with_reducible exact ih0 _ _ _ _ _ _ _ _ _)
   | (with_reducible exact ih1 _ _ _ _ _ _)
   | (with_reducible exact LeO.refl _)
   | (with_reducible exact LeO.none _)
   | (with_reducible refine LeO.ite ?_ ?_)
   | (with_reducible refine LeO.bind ?_ (fun _=>?_))
   | exact ih0 _ _ _ _ _ _ _ _ _
   | exact ih1 _ _ _ _ _ _
   | exact LeO.none _
   | refine LeO.ite ?_ ?_
   | refine LeO.bind ?_ (fun _=>?_)
theorem spec_plThen.mono : ∀ a0 a1 a2 a3 a4 a5 k,LeO (spec_plThen.f k a0 a1 a2 a3 a4 a5) (spec_plThen.f (k + 1) a0 a1 a2 a3 a4 a5):=by
 intro a0 a1 a2 a3 a4 a5 k
 obtain ⟨ih0,ih1⟩:=spec_plThen.mono_l k
 unfold spec_plThen.f
 repeat' first
   | (with_reducible exact ih0 _ _ _ _ _ _ _ _ _)
   | (with_reducible exact ih1 _ _ _ _ _ _)
   | (with_reducible exact LeO.refl _)
   | (with_reducible exact LeO.none _)
   | (with_reducible refine LeO.ite ?_ ?_)
   | (with_reducible refine LeO.bind ?_ (fun _=>?_))
   | exact ih0 _ _ _ _ _ _ _ _ _
   | exact ih1 _ _ _ _ _ _
   | exact LeO.none _
   | refine LeO.ite ?_ ?_
   | refine LeO.bind ?_ (fun _=>?_)
def spec_plThen.T6 : Bool × List (List Nat × List Nat):=(true,[([],[]),([],[]),([],[]),([2],[2]),([1,3],[1,3]),([4],[4]),([],[]),([],[]),([7],[7]),([6,8],[6,8]),([9],[9]),([5,10],[5,10]),([11],[11]),([0,12,11],[0,12]),([13,13,0,1,2,3,4,5,6,7,8,9,10,11,12,13],[0,13])])
def spec_plThen.B6 : List Nat:=[0,0,0,4,14,30,0,0,128,448,960,2046,4094,8191,16383]
theorem spec_plThen.tab6 : rtab .any (opsOf Try.f88 6) = spec_plThen.T6:=by kernel_rfl
theorem spec_plThen.bits6 : waitsOk spec_plThen.T6.2 spec_plThen.B6 = true:=by kernel_rfl
set_option maxHeartbeats 8000000 in
set_option maxRecDepth 100000 in
theorem spec_plThen.calls (k : Nat) (A0 : Option Addr) (c0 : Nat) (l0 : List (S69)) (a1 : Int) (a2_0 : Int) (A2_1 : Option Addr) (c2_1 : Nat) (l2_1 : List (S69)) (A2_2 : Option Addr) (c2_2 : Nat) (l2_2 : List Int) (A3 : Option Addr) (c3 : Nat) (l3 : List Int) (r1 : List (S69)) (r2 : List Int) (w : World) (hr0 : Kd.C k69 w A0 l0.length l0) (hc0 : l0.length ≤ c0) (hr2_1 : Kd.C k69 w A2_1 l2_1.length l2_1) (hc2_1 : l2_1.length ≤ c2_1) (hr2_2 : Kd.C (Kd.int .i64) w A2_2 l2_2.length l2_2) (hc2_2 : l2_2.length ≤ c2_2) (hr3 : Kd.C (Kd.int .i64) w A3 l3.length l3) (hc3 : l3.length ≤ c3) (h : spec_plThen.f k l0 a1 a2_0 l2_1 l2_2 l3 = some (r1,r2)) :
  Calls Try.prog 88 #[.slice A0 l0.length c0,.int .i64 a1,.agg #[.int .i64 a2_0,.slice A2_1 l2_1.length c2_1,.slice A2_2 l2_2.length c2_2],.slice A3 l3.length c3] w fun e w'=>∃ v0_ v1_ : Value,e = .returned (.tuple #[v0_,v1_]) ∧ Kd.R k69 69 w' w.heap.size (fun _=>True) v0_ r1 ∧ Kd.R (Kd.int .i64) 3 w' w.heap.size (fun _=>True) v1_ r2 ∧ Below w.heap.size w w':=by
 have hu30:=Try.underlying30
 have hu69:=Try.underlying69
 have HR0:=Aside0.mk hr0
 have HC0:=Aside0.mk hc0
 clear hr0 hc0
 have HR2_1:=Aside0.mk hr2_1
 have HC2_1:=Aside0.mk hc2_1
 clear hr2_1 hc2_1
 have HR2_2:=Aside0.mk hr2_2
 have HC2_2:=Aside0.mk hc2_2
 clear hr2_2 hc2_2
 have HR3:=Aside0.mk hr3
 have HC3:=Aside0.mk hc3
 clear hr3 hc3
 have HB:=Aside0.mk (Below.refl w.heap.size w)
 have H : ((spec_l1Own.f l3).bind fun t203=>((some (([] : List (S69)) : List (S69))).bind fun y206=>(if y206.length + l0.length < 8796093022208 then (spec_plThen.l0 k a1 t203 (y206 ++ l0) l2_1 (l2_1.length : Int) 0 a2_0 l2_1 l2_2) else (none)))) = some (r1,r2):=h
 clear h
 obtain ⟨t203,A5,H⟩:=bd H
 obtain ⟨y206,hy206⟩ : ∃ y_ : List (S69),y_ = (([] : List (S69))):=⟨_,rfl⟩
 replace H : (if y206.length + l0.length < 8796093022208 then (spec_plThen.l0 k a1 t203 (y206 ++ l0) l2_1 (l2_1.length : Int) 0 a2_0 l2_1 l2_2) else (none)) = some (r1,r2):=by first|(rw [hy206];with_reducible exact H)|(have H2_:=(Option.bind_some _ _).symm.trans H;rw [hy206];with_reducible exact H2_)|(have H2_:=(Option.bind_some _ _).symm.trans H;with_reducible exact H2_)|with_reducible exact H|(rw [hy206];exact H)|exact H
 have Ny206:=Aside0.mk hy206
 clear hy206
 by_cases c6 : y206.length + l0.length < 8796093022208
 ·rw [if_pos c6] at H
  have LMc6:=Aside0.mk c6
  clear c6
  obtain ⟨y209,hy209⟩ : ∃ y_ : List (S69),y_ = (y206 ++ l0):=⟨_,rfl⟩
  replace H : (spec_plThen.l0 k a1 t203 y209 l2_1 (l2_1.length : Int) 0 a2_0 l2_1 l2_2) = some (r1,r2):=by first|(rw [hy209];with_reducible exact H)|(have H2_:=(Option.bind_some _ _).symm.trans H;rw [hy209];with_reducible exact H2_)|(have H2_:=(Option.bind_some _ _).symm.trans H;with_reducible exact H2_)|with_reducible exact H|(rw [hy209];exact H)|exact H
  have Ny209:=Aside0.mk hy209
  clear hy209
  have H':=Aside0.mk H
  clear H
  go_enter Try.func88,Try.ntmps88
  go_wp2_with (first|((with_reducible refine gate_dst (N:=6) rfl ?_);refine box_event ?hg (N:=6) ?hd (cs:=#[.int .i64 a2_0,.slice A2_1 l2_1.length c2_1,.slice A2_2 l2_2.length c2_2]) (t:=30) ?hr ?_;(case hd=>rfl);(case hg=>rfl);(case hr=>first|(go_simp;done)|(go_simp;rfl));intro gb202 hg w7 hbox hb;have n0_:=Aside0.mk (below_step bz hb);have n1_:=Aside0.mk (hbox);have n2_:=Aside0.mk ((by rw [hg];exact (below_size bz) : w.heap.size ≤ gb202));have n3_:=Aside0.mk ((by rw [hg];exact (below_size bz) : w.heap.size ≤ gb202));clear HB;have HB:=n0_;have BK202:=n1_;have GW202:=n2_;have GE202:=n3_;clear n0_ n1_ n2_ n3_;clear hb hbox hg)|((with_reducible refine gate_callee (f:=100) rfl ?_);refine goesL_ (some 18) rfl rfl Try.func100 (by kernel_rfl) rfl #[.slice A3 l3.length c3] rfl mz ?_;(with_reducible refine (spec_l1Own.calls _ _ l3 t203 _ ?side1 ?side2 A5.out).mono ?_);(case side1=>exact cz (Kd.C_below HR3.out HB.out));(case side2=>exact HC3.out);rintro e w8 ⟨v204,rfl,ho0,hb⟩;refine ⟨_,rfl,?_⟩;have n0_:=Aside0.mk (Kd.R_lower ho0 (below_size bs));have n1_:=Aside0.mk (kb BK202.out hb);have n2_:=Aside0.mk (below_step bs hb);clear BK202 HB;have HO205:=n0_;have BK202:=n1_;have HB:=n2_;clear n0_ n1_ n2_;(try clear hb);(try clear ho0))|((with_reducible refine gate_dst (N:=19) rfl ?_);refine Kd.R_lit k69 _ 69 ?hg (N:=19) ?hd (xs:=([] : List (S69))) (inner:=[]) (ok:=fun _=>True) (okp:=fun _=>True) ?hr ?hp (fun _ hk=>hk) trivial (Below.refl _ _) (Nat.le_refl _) (by simp) ?_;(case hd=>rfl);(case hg=>rfl);(case hr=>first|(go_simp;done)|(go_simp;rfl));(case hp=>exact (Reps.none _ _));intro v207 w9 ho10 hb hg_ hnew_;clear hg_ hnew_;(first|rw [← Ny206.out] at ho10|(simp only [Int.reduceToNat] at ho10;rw [← Ny206.out] at ho10));have n0_:=Aside0.mk (Kd.R_below (rz HO205.out) hb);have n1_:=Aside0.mk (Kd.R_lower ho10 (below_size bs));have n2_:=Aside0.mk (kb BK202.out hb);have n3_:=Aside0.mk (below_step bs hb);clear HO205 BK202 HB;have HO205:=n0_;have HO208:=n1_;have BK202:=n2_;have HB:=n3_;clear n0_ n1_ n2_ n3_;clear hb ho10)|((with_reducible refine gate_builtin (b:=.append) (xs:=#[.tmp 19,.tmp 20]) rfl ?_);at_builtin;refine Kd.R_append_rows k69 (w0:=w) w.heap.size rfl (.tmp 19) (.tmp 20) 28 69 (.agg #[(.int .i64 0),(.int .i64 0)]) 16 rfl Try.underlying28 info69 rfl (by decide) (by omega) v207 y206 l0 _ _ _ (fun _=>True) (fun _=>False) rfl rfl ?aO ?aR (fun _ _ h=>h) (fun _ h=>h.elim) ?aF ?aB ?aS ?aL ?_;(case aR=>repeat (first|exact (Kd.C_below HR0.out HB.out)|(with_reducible refine Kd.C_alloc ?_ _)|(with_reducible refine Kd.C_drewN ?_ _)|(with_reducible refine Kd.C_drew ?_)));(case aB=>exact bs);(case aF=>exact (fun _ _=>trivial));(case aO=>exact (rz HO208.out));(case aS=>exact (below_size bs));(case aL=>have:=LMc6.out;omega);intro v210 w11 ho hb hg hat;rw [← Ny209.out] at ho;have n0_:=Aside0.mk (blk_grown (g:=gb202) (o:=.cells #[.int .i64 a2_0,.slice A2_1 l2_1.length c2_1,.slice A2_2 l2_2.length c2_2] 30 (0,0)) (kz BK202.out) hg (Kd.R_ne HO208.out BK202.out (by decide)));have n1_:=Aside0.mk (Kd.R_over' (rz HO205.out) (Kd.R_typed (rz HO208.out)) (by decide) hg);have n2_:=Aside0.mk (hb);have n3_:=Aside0.mk (ho);clear BK202 HO205 HB HO208;have BK202:=n0_;have HO205:=n1_;have HB:=n2_;have HO211:=n3_;clear n0_ n1_ n2_ n3_;clear ho hb hg hat;have hcz12_0 : w11.cell? ⟨gb202,0,none⟩ = some (.int .i64 a2_0):=(blk_cell BK202.out 0).trans rfl;have hcz12_1 : w11.cell? ⟨gb202,1,none⟩ = some (.slice A2_1 l2_1.length c2_1):=(blk_cell BK202.out 1).trans rfl;have hcz12_2 : w11.cell? ⟨gb202,2,none⟩ = some (.slice A2_2 l2_2.length c2_2):=(blk_cell BK202.out 2).trans rfl;have hfz12_0:=blk_frozen BK202.out 0;have hfz12_1:=blk_frozen BK202.out 1;have hfz12_2:=blk_frozen BK202.out 2))
  go_loopg [10,11,25] k (fun kq v10 v11 v25 w'=>∃ (x10_1 : List Int) (x11_1 : List (S69)) (x25_1 : Int),v25 = .int .i64 x25_1 ∧ Aside0 (spec_plThen.l0 kq a1 x10_1 x11_1 l2_1 (l2_1.length : Int) x25_1 a2_0 l2_1 l2_2 = some (r1,r2)) ∧ Aside0 (kq ≤ k) ∧ Aside0 (Kd.R (Kd.int .i64) 3 w' w.heap.size (fun _=>True) v10 x10_1) ∧ Aside0 (Kd.R k69 69 w' w.heap.size (fun _=>True) v11 x11_1) ∧ Aside0 (w'.heap[gb202]? = some (.cells #[.int .i64 a2_0,(.slice A2_1 l2_1.length c2_1),(.slice A2_2 l2_2.length c2_2)] 30 (0,0))) ∧ Aside0 (Below w.heap.size w w'))
  case atStart=>exact ⟨(t203),(y209),(0),fz,H',⟨Nat.le_refl _⟩,⟨by (with_reducible repeat (first|apply Kd.R_alloc|apply Kd.R_drewN|apply Kd.R_drew));exact HO205.out⟩,⟨by (with_reducible repeat (first|apply Kd.R_alloc|apply Kd.R_drewN|apply Kd.R_drew));exact HO211.out⟩,⟨by (with_reducible repeat (first|refine blk_drewN ?_ _|refine blk_drew ?_|refine blk_alloc ?_ _));exact BK202.out⟩,⟨by repeat (first|(with_reducible first|exact HB.out|apply below_alloc|apply pw_below_drewN|apply below_drew1|refine below_set ?_ GE202.out)|exact HB.out)⟩⟩
  case round=>
   clear H'
   try clear c1
   try clear c2
   try clear p2
   try clear c3
   try clear c6
   try clear c8
   try clear c10
   try clear hcz12_0
   try clear hcz12_1
   try clear hcz12_2
   try clear hfz12_0
   try clear hfz12_1
   try clear hfz12_2
   obtain ⟨x10_1,x11_1,x25_1,rfl,HA,HK1,HO_10,HO_11,BK202,HB⟩:=hrel
   cases gk with
   | zero=>exact absurd HA.out (by simp [spec_plThen.l0])
   | succ k1=>
    have H:=HA.out
    clear HA
    simp only [spec_plThen.l0] at H
    by_cases c13 : x25_1 < (l2_1.length : Int)
    ·rw [if_pos c13] at H
     have c13b0 : decide (x25_1 < (l2_1.length : Int)) = true:=decide_eq_true c13
     clear c13
     by_cases c14 : 0 ≤ x25_1
     ·rw [if_pos c14] at H
      have c14b0 : decide (0 ≤ x25_1) = true:=decide_eq_true c14
      clear c14
      by_cases c15 : x25_1 < (l2_1.length : Int)
      ·rw [if_pos c15] at H
       have c15b0 : decide (x25_1 < (l2_1.length : Int)) = true:=decide_eq_true c15
       clear c15
       by_cases c16 : 0 ≤ ((rd_T69 l2_1 x25_1).f0)
       ·rw [if_pos c16] at H
        have c16b0 : decide (0 ≤ ((rd_T69 l2_1 x25_1).f0)) = true:=decide_eq_true c16
        clear c16
        by_cases c17 : ((rd_T69 l2_1 x25_1).f0) < (x10_1.length : Int)
        ·rw [if_pos c17] at H
         have c17b0 : decide (((rd_T69 l2_1 x25_1).f0) < (x10_1.length : Int)) = true:=decide_eq_true c17
         clear c17
         by_cases c18 : 0 ≤ ((rd_T69 l2_1 x25_1).f1)
         ·rw [if_pos c18] at H
          have c18b0 : decide (0 ≤ ((rd_T69 l2_1 x25_1).f1)) = true:=decide_eq_true c18
          clear c18
          by_cases c19 : ((rd_T69 l2_1 x25_1).f1) < (x10_1.length : Int)
          ·rw [if_pos c19] at H
           have c19b0 : decide (((rd_T69 l2_1 x25_1).f1) < (x10_1.length : Int)) = true:=decide_eq_true c19
           clear c19
           obtain ⟨⟨t216,t217⟩,A20,H⟩:=bd H
           try dsimp only at H
           by_cases c21 : x11_1.length < 8796093022208
           ·rw [if_pos c21] at H
            have LMc21:=Aside0.mk c21
            clear c21
            obtain ⟨y218,hy218⟩ : ∃ y_ : List (S69),y_ = (x11_1 ++ [(⟨t216,t217⟩ : S69)]):=⟨_,rfl⟩
            replace H : (if x10_1.length < 17592186044416 then (spec_plThen.l0 k1 a1 (x10_1 ++ [wrap64 ((wrap64 (a1 + (y218.length : Int))) - 1)]) y218 l2_1 (l2_1.length : Int) (wrap64 (x25_1 + 1)) a2_0 l2_1 l2_2) else (none)) = some (r1,r2):=by first|(rw [hy218];with_reducible exact H)|(have H2_:=(Option.bind_some _ _).symm.trans H;rw [hy218];with_reducible exact H2_)|(have H2_:=(Option.bind_some _ _).symm.trans H;with_reducible exact H2_)|with_reducible exact H|(rw [hy218];exact H)|exact H
            have Ny218:=Aside0.mk hy218
            clear hy218
            by_cases c22 : x10_1.length < 17592186044416
            ·rw [if_pos c22] at H
             have LMc22:=Aside0.mk c22
             clear c22
             obtain ⟨y221,hy221⟩ : ∃ y_ : List Int,y_ = (x10_1 ++ [wrap64 ((wrap64 (a1 + (y218.length : Int))) - 1)]):=⟨_,rfl⟩
             replace H : (spec_plThen.l0 k1 a1 y221 y218 l2_1 (l2_1.length : Int) (wrap64 (x25_1 + 1)) a2_0 l2_1 l2_2) = some (r1,r2):=by first|(rw [hy221];with_reducible exact H)|(have H2_:=(Option.bind_some _ _).symm.trans H;rw [hy221];with_reducible exact H2_)|(have H2_:=(Option.bind_some _ _).symm.trans H;with_reducible exact H2_)|with_reducible exact H|(rw [hy221];exact H)|exact H
             have Ny221:=Aside0.mk hy221
             clear hy221
             have H':=Aside0.mk H
             clear H
             have p212 : 0 ≤ (x25_1 : Int):=of_decide_eq_true az
             have q212 : x25_1 < (l2_1.length : Int):=of_decide_eq_true az
             obtain ⟨ad212,e212,hx212_0,hx212_1⟩:=at_T69 HR2_1.out x25_1 p212 q212
             cases e212
             replace hx212_0:=(HB.out.cell (World.block_lt_of_cell? w _ hx212_0)).trans hx212_0
             replace hx212_1:=(HB.out.cell (World.block_lt_of_cell? w _ hx212_1)).trans hx212_1
             replace p212:=eq_true p212
             replace q212:=eq_true q212
             try go_wp2_with (first|((with_reducible refine gate_dst (N:=13) rfl ?_);refine box_event ?hg (N:=13) ?hd (cs:=#[.int .i64 0,.int .i64 0]) (t:=69) ?hr ?_;(case hd=>rfl);(case hg=>rfl);(case hr=>first|(go_simp;done)|(go_simp;rfl));intro gb213 hg w23 hbox hb;have n0_:=Aside0.mk (Kd.R_below (rz HO_10.out) hb);have n1_:=Aside0.mk (Kd.R_below (Kd.R_elderB (rz HO_11.out) gb213 (Nat.le_of_eq hg.symm)) hb);have n2_:=Aside0.mk (kb BK202.out hb);have n3_:=Aside0.mk (below_step bs hb);have n4_:=Aside0.mk (hbox);have n5_:=Aside0.mk ((by rw [hg];exact (below_size bs) : w.heap.size ≤ gb213));have n6_:=Aside0.mk ((by rw [hg];exact (below_size bs) : w.heap.size ≤ gb213));have n7_:=Aside0.mk (kn hg BK202.out);have n8_:=Aside0.mk (km hg BK202.out);clear HO_10 HO_11 BK202 HB;have HO_10:=n0_;have HO_11:=n1_;have BK202:=n2_;have HB:=n3_;have BK213:=n4_;have GW213:=n5_;have GE213:=n6_;have NB202_213:=n7_;have NB213_202:=n8_;clear n0_ n1_ n2_ n3_ n4_ n5_ n6_ n7_ n8_;clear hb hbox hg;have hnb24:=NB213_202.out;have hnc24:=NB202_213.out;have hcz25_0 : w23.cell? ⟨gb213,0,none⟩ = some (.int .i64 0):=(blk_cell BK213.out 0).trans rfl;have hcz25_1 : w23.cell? ⟨gb213,1,none⟩ = some (.int .i64 0):=(blk_cell BK213.out 1).trans rfl;have hfz25_0:=blk_frozen BK213.out 0;have hfz25_1:=blk_frozen BK213.out 1))
             have n0_ : Aside0 (Kd.R (Kd.int .i64) 3 ((w23.setCell ⟨gb213,0,none⟩ (.int .i64 ((rd_T69 l2_1 x25_1).f0))).setCell ⟨gb213,1,none⟩ (.int .i64 ((rd_T69 l2_1 x25_1).f1))) w.heap.size (fun _=>True) u10 x10_1):=⟨by (with_reducible repeat (first|apply Kd.R_alloc|apply Kd.R_drewN|apply Kd.R_drew));exact Kd.R_mono (Kd.R_far (p:=⟨gb213,1,none⟩) (Kd.R_far (p:=⟨gb213,0,none⟩) (Kd.R_types HO_10.out BK213.out (by decide)) (fun _ hk=>hk.2) (.int .i64 ((rd_T69 l2_1 x25_1).f0))) (fun _ hk=>hk.2) (.int .i64 ((rd_T69 l2_1 x25_1).f1))) (fun _ hk=>trivial)⟩
             have n1_ : Aside0 (Kd.R k69 69 ((w23.setCell ⟨gb213,0,none⟩ (.int .i64 ((rd_T69 l2_1 x25_1).f0))).setCell ⟨gb213,1,none⟩ (.int .i64 ((rd_T69 l2_1 x25_1).f1))) w.heap.size (fun k_=>k_ ≠ gb213) u11 x11_1):=⟨by (with_reducible repeat (first|apply Kd.R_alloc|apply Kd.R_drewN|apply Kd.R_drew));exact Kd.R_mono (Kd.R_far (p:=⟨gb213,1,none⟩) (Kd.R_far (p:=⟨gb213,0,none⟩) (Kd.R_mono HO_11.out (fun k_ hk=>(⟨hk,hk.2⟩ : _ ∧ k_ ≠ gb213))) (fun _ hk=>hk.2) (.int .i64 ((rd_T69 l2_1 x25_1).f0))) (fun _ hk=>hk.2) (.int .i64 ((rd_T69 l2_1 x25_1).f1))) (fun _ hk=>hk.1.2)⟩
             have n2_ : Aside0 (((w23.setCell ⟨gb213,0,none⟩ (.int .i64 ((rd_T69 l2_1 x25_1).f0))).setCell ⟨gb213,1,none⟩ (.int .i64 ((rd_T69 l2_1 x25_1).f1))).heap[gb202]? = some (.cells #[.int .i64 a2_0,.slice (some ad212) l2_1.length c2_1,.slice A2_2 l2_2.length c2_2] 30 (0,0))):=⟨by (with_reducible repeat (first|refine blk_drewN ?_ _|refine blk_drew ?_|refine blk_alloc ?_ _));refine blk_far ?_ NB202_213.out _;(with_reducible repeat (first|refine blk_drewN ?_ _|refine blk_drew ?_|refine blk_alloc ?_ _));refine blk_far ?_ NB202_213.out _;(with_reducible repeat (first|refine blk_drewN ?_ _|refine blk_drew ?_|refine blk_alloc ?_ _));exact BK202.out⟩
             have n3_ : Aside0 (((w23.setCell ⟨gb213,0,none⟩ (.int .i64 ((rd_T69 l2_1 x25_1).f0))).setCell ⟨gb213,1,none⟩ (.int .i64 ((rd_T69 l2_1 x25_1).f1))).heap[gb213]? = some (.cells #[.int .i64 ((rd_T69 l2_1 x25_1).f0),.int .i64 ((rd_T69 l2_1 x25_1).f1)] 69 (0,0))):=⟨by (with_reducible repeat (first|refine blk_drewN ?_ _|refine blk_drew ?_|refine blk_alloc ?_ _));refine blk_put (cs:=#[.int .i64 ((rd_T69 l2_1 x25_1).f0),.int .i64 0]) ?_ 1 _ rfl;(with_reducible repeat (first|refine blk_drewN ?_ _|refine blk_drew ?_|refine blk_alloc ?_ _));refine blk_put (cs:=#[.int .i64 0,.int .i64 0]) ?_ 0 _ rfl;(with_reducible repeat (first|refine blk_drewN ?_ _|refine blk_drew ?_|refine blk_alloc ?_ _));exact BK213.out⟩
             have n4_ : Aside0 (Below w.heap.size w ((w23.setCell ⟨gb213,0,none⟩ (.int .i64 ((rd_T69 l2_1 x25_1).f0))).setCell ⟨gb213,1,none⟩ (.int .i64 ((rd_T69 l2_1 x25_1).f1)))):=⟨by repeat (first|(with_reducible first|exact HB.out|apply below_alloc|apply pw_below_drewN|apply below_drew1|refine below_set ?_ GE202.out|refine below_set ?_ GE213.out)|exact HB.out)⟩
             (try clear HO_10)
             (try clear HO_11)
             (try clear BK202)
             (try clear BK213)
             (try clear HB)
             generalize ((w23.setCell ⟨gb213,0,none⟩ (.int .i64 ((rd_T69 l2_1 x25_1).f0))).setCell ⟨gb213,1,none⟩ (.int .i64 ((rd_T69 l2_1 x25_1).f1))) = w26 at n0_ n1_ n2_ n3_ n4_ ⊢
             have HO_10:=n0_
             have HO_11:=n1_
             have BK202:=n2_
             have BK213:=n3_
             have HB:=n4_
             clear n0_ n1_ n2_ n3_ n4_
             have n0_:=Aside0.mk (Kd.R_drew HO_10.out)
             have n1_:=Aside0.mk (Kd.R_drew HO_11.out)
             have n2_:=Aside0.mk (blk_drew BK202.out)
             have n3_:=Aside0.mk (blk_drew BK213.out)
             have n4_:=Aside0.mk (below_drew1 HB.out)
             clear HO_10
             clear HO_11
             clear BK202
             clear BK213
             clear HB
             have HO_10:=n0_
             have HO_11:=n1_
             have BK202:=n2_
             have BK213:=n3_
             have HB:=n4_
             clear n0_ n1_ n2_ n3_ n4_
             obtain ⟨Ao28,co28,eo28⟩:=Kd.R_slice HO_10.out
             (first|subst eo28|(injection eo28 with f1_ f2_ f3_;have f4_:=f1_.symm;have f5_:=f3_.symm;clear f1_ f2_ f3_;subst f4_;subst f5_))
             have p214 : 0 ≤ (((rd_T69 l2_1 x25_1).f0) : Int):=of_decide_eq_true az
             have q214 : ((rd_T69 l2_1 x25_1).f0) < (x10_1.length : Int):=of_decide_eq_true az
             obtain ⟨ad214,e214,hx214_0⟩:=Kd.at_int (Kd.R_reads' HO_10.out).2.2 ((rd_T69 l2_1 x25_1).f0) p214 q214
             cases e214
             replace p214:=eq_true p214
             replace q214:=eq_true q214
             have p215 : 0 ≤ (((rd_T69 l2_1 x25_1).f1) : Int):=of_decide_eq_true az
             have q215 : ((rd_T69 l2_1 x25_1).f1) < (x10_1.length : Int):=of_decide_eq_true az
             obtain ⟨ad215,e215,hx215_0⟩:=Kd.at_int (Kd.R_reads' HO_10.out).2.2 ((rd_T69 l2_1 x25_1).f1) p215 q215
             obtain rfl : ad214 = ad215:=(by injection e215)
             replace p215:=eq_true p215
             replace q215:=eq_true q215
             refine start_ (n:=15) (S:=fun w'=>w'.cell? ⟨gb213,0,none⟩ = some (.int .i64 ((rd_T69 l2_1 x25_1).f0)) ∧ w'.cell? ⟨gb213,1,none⟩ = some (.int .i64 ((rd_T69 l2_1 x25_1).f1)) ∧ w'.cell? (ad214.add (((rd_T69 l2_1 x25_1).f0)).toNat) = some (.int .i64 (rd x10_1 ((rd_T69 l2_1 x25_1).f0))) ∧ w'.cell? (ad214.add (((rd_T69 l2_1 x25_1).f1)).toNat) = some (.int .i64 (rd x10_1 ((rd_T69 l2_1 x25_1).f1)))) (ds:=[12,13]) #[false,false,false,false,false,false,false,false,false,false,false,false,false,false,false] (by kernel_rfl) rfl rfl ⟨(blk_cell BK213.out 0).trans rfl,(blk_cell BK213.out 1).trans rfl,hx214_0,hx215_0⟩ (fun hHeld=>?_);refine with_tabW spec_plThen.tab6 spec_plThen.bits6 (fun HT_ HW_=>?_)
             generalize w26.drew = w27 at HO_10 HO_11 BK202 BK213 HB hx214_0 hx215_0 hHeld ⊢
             refine pure_ (i:=0) (N:=some 29) (v:=?_) (a':=?_) #[true,false,false,false,false,false,false,false,false,false,false,false,false,false,false] rfl rfl (any_of HT_.out (by kernel_rfl)) (fun _ _ _ h=>h) (Or.inl ⟨by rfl,?_⟩) ?_ ?_
             rotate_left
             ·intro w'
              go_simp
              with_reducible rfl
             rotate_left
             ·simp only [Act.put,xa,xb,xc,i64_w,i32_w]
              rfl
             refine pure_ (i:=1) (N:=some 30) (v:=?_) (a':=?_) #[true,true,false,false,false,false,false,false,false,false,false,false,false,false,false] rfl rfl (any_of HT_.out (by kernel_rfl)) (fun _ _ _ h=>h) (Or.inl ⟨by rfl,?_⟩) ?_ ?_
             rotate_left
             ·intro w'
              go_simp
              with_reducible rfl
             rotate_left
             ·simp only [Act.put,xa,xb,xc,i64_w,i32_w]
              rfl
             refine pure_ (i:=2) (N:=some 31) (v:=?_) (a':=?_) #[true,true,true,false,false,false,false,false,false,false,false,false,false,false,false] rfl rfl (any_of HT_.out (by kernel_rfl)) (fun _ _ _ h=>h) (Or.inl ⟨by rfl,?_⟩) ?_ ?_
             rotate_left
             ·intro w'
              go_simp
              with_reducible rfl
             rotate_left
             ·simp only [Act.put,xa,xb,xc,i64_w,i32_w]
              rfl
             refine pure_ (i:=6) (N:=some 35) (v:=?_) (a':=?_) #[true,true,true,false,false,false,true,false,false,false,false,false,false,false,false] rfl rfl (any_of HT_.out (by kernel_rfl)) (fun _ _ _ h=>h) (Or.inl ⟨by rfl,?_⟩) ?_ ?_
             rotate_left
             ·intro w'
              go_simp
              with_reducible rfl
             rotate_left
             ·simp only [Act.put,xa,xb,xc,i64_w,i32_w]
              rfl
             refine pure_ (i:=7) (N:=some 36) (v:=?_) (a':=?_) #[true,true,true,false,false,false,true,true,false,false,false,false,false,false,false] rfl rfl (any_of HT_.out (by kernel_rfl)) (fun _ _ _ h=>h) (Or.inl ⟨by rfl,?_⟩) ?_ ?_
             rotate_left
             ·intro w'
              go_simp
              with_reducible rfl
             rotate_left
             ·simp only [Act.put,xa,xb,xc,i64_w,i32_w]
              rfl
             refine take_ (i:=3) (N:=some 32) (v:=?_) (a':=?_) #[true,true,true,true,false,false,true,true,false,false,false,false,false,false,false] rfl rfl (take_ofW HT_.out HW_.out (by kernel_rfl)) (fun _ _ _ h=>h) (Or.inl ⟨by rfl,?_⟩) hHeld ?_ ?_
             rotate_left
             ·rintro w' ⟨s0,s1,s2,s3⟩
              go_simp
              with_reducible rfl
             rotate_left
             ·simp only [Act.put,xa,xb,xc,i64_w,i32_w]
              rfl
             refine pure_ (i:=4) (N:=some 33) (v:=?_) (a':=?_) #[true,true,true,true,true,false,true,true,false,false,false,false,false,false,false] rfl rfl (any_of HT_.out (by kernel_rfl)) (fun _ _ _ h=>h) (Or.inl ⟨by rfl,?_⟩) ?_ ?_
             rotate_left
             ·intro w'
              go_simp
              with_reducible rfl
             rotate_left
             ·simp only [Act.put,xa,xb,xc,i64_w,i32_w]
              rfl
             refine take_ (i:=5) (N:=some 34) (v:=?_) (a':=?_) #[true,true,true,true,true,true,true,true,false,false,false,false,false,false,false] rfl rfl (take_ofW HT_.out HW_.out (by kernel_rfl)) (fun _ _ _ h=>h) (Or.inl ⟨by rfl,?_⟩) hHeld ?_ ?_
             rotate_left
             ·rintro w' ⟨s0,s1,s2,s3⟩
              go_simp
              with_reducible rfl
             rotate_left
             ·simp only [Act.put,xa,xb,xc,i64_w,i32_w]
              rfl
             refine take_ (i:=8) (N:=some 37) (v:=?_) (a':=?_) #[true,true,true,true,true,true,true,true,true,false,false,false,false,false,false] rfl rfl (take_ofW HT_.out HW_.out (by kernel_rfl)) (fun _ _ _ h=>h) (Or.inl ⟨by rfl,?_⟩) hHeld ?_ ?_
             rotate_left
             ·rintro w' ⟨s0,s1,s2,s3⟩
              go_simp
              with_reducible rfl
             rotate_left
             ·simp only [Act.put,xa,xb,xc,i64_w,i32_w]
              rfl
             refine pure_ (i:=9) (N:=some 38) (v:=?_) (a':=?_) #[true,true,true,true,true,true,true,true,true,true,false,false,false,false,false] rfl rfl (any_of HT_.out (by kernel_rfl)) (fun _ _ _ h=>h) (Or.inl ⟨by rfl,?_⟩) ?_ ?_
             rotate_left
             ·intro w'
              go_simp
              with_reducible rfl
             rotate_left
             ·simp only [Act.put,xa,xb,xc,i64_w,i32_w]
              rfl
             refine take_ (i:=10) (N:=some 39) (v:=?_) (a':=?_) #[true,true,true,true,true,true,true,true,true,true,true,false,false,false,false] rfl rfl (take_ofW HT_.out HW_.out (by kernel_rfl)) (fun _ _ _ h=>h) (Or.inl ⟨by rfl,?_⟩) hHeld ?_ ?_
             rotate_left
             ·rintro w' ⟨s0,s1,s2,s3⟩
              go_simp
              with_reducible rfl
             rotate_left
             ·simp only [Act.put,xa,xb,xc,i64_w,i32_w]
              rfl
             refine one_ (i:=11) (N:=some 40) #[true,true,true,true,true,true,true,true,true,true,true,true,false,false,false] rfl rfl (one_of HT_.out (by kernel_rfl)) (by decide) (fun K hK=>?_)
             refine goes_ Try.func112 (by kernel_rfl) rfl #[.int .i64 (rd x10_1 ((rd_T69 l2_1 x25_1).f0)),.int .i64 (rd x10_1 ((rd_T69 l2_1 x25_1).f1))] (by rfl) rfl rfl mz ?_
             with_reducible refine (spec_plStep.calls (rd x10_1 ((rd_T69 l2_1 x25_1).f0)) (rd x10_1 ((rd_T69 l2_1 x25_1).f1)) t216 t217 _ A20.out).mono ?_
             rintro e w29 ⟨rfl,hb⟩
             have HS2_:=(hb.cell (World.block_lt_of_cell? _ _ (hHeld.2.2.1))).trans (hHeld.2.2.1)
             have HS3_:=(hb.cell (World.block_lt_of_cell? _ _ (hHeld.2.2.2))).trans (hHeld.2.2.2)
             refine ⟨_,rfl,?_⟩
             have n0_:=Aside0.mk (Kd.R_below (rz HO_10.out) hb)
             have n1_:=Aside0.mk (Kd.R_below (rz HO_11.out) hb)
             have n2_:=Aside0.mk (kb BK202.out hb)
             have n3_:=Aside0.mk (kb BK213.out hb)
             have n4_:=Aside0.mk (below_step bs hb)
             clear HO_10
             clear HO_11
             clear BK202
             clear BK213
             clear HB
             have HO_10:=n0_
             have HO_11:=n1_
             have BK202:=n2_
             have BK213:=n3_
             have HB:=n4_
             clear n0_ n1_ n2_ n3_ n4_
             (try clear hb)
             refine hK.out _ _ ⟨(blk_cell BK213.out 0).trans rfl,(blk_cell BK213.out 1).trans rfl,HS2_,HS3_⟩ (fun hHeld=>?_)
             clear hK K
             refine norm_ (a':=?_) ?_ ?_
             rotate_left
             ·show Act.put _ (some 40) _ = _
              simp only [Act.put,xa,xb,xc,i64_w,i32_w]
              rfl
             refine last_ (i:=12) (N:=some 41) #[true,true,true,true,true,true,true,true,true,true,true,true,true,false,false] rfl rfl (one_of HT_.out (by kernel_rfl)) (by decide) (fun K hK=>?_)
             refine value_ (w1:=?_) (v:=?_) (by rfl) rfl ?_ ?_
             rotate_left 2
             ·go_simp
              constructor
              ·rfl
              ·rfl
             refine hK.out _ _ ?_
             clear hK K
             refine norm_ (a':=?_) ?_ ?_
             rotate_left
             ·show Act.put _ (some 41) _ = _
              simp only [Act.put,xa,xb,xc,i64_w,i32_w]
              rfl
             refine last_ (i:=13) (N:=some 42) #[true,true,true,true,true,true,true,true,true,true,true,true,true,true,false] rfl rfl (one_of HT_.out (by kernel_rfl)) (by decide) (fun K hK=>?_)
             refine Kd.R_append_step k69 (w0:=w) w.heap.size (by rfl) (.tmp 29) (.tmp 41) 28 69 (.agg #[(.int .i64 0),(.int .i64 0)]) 16 rfl Try.underlying28 info69 rfl (by decide) (by omega) u11 x11_1 (⟨t216,t217⟩ : S69) [.int .i64 t216,.int .i64 t217] (fun k_=>k_ ≠ gb213) (fun _=>False) rfl rfl ?aP (fun _ hk=>hk.elim) ?aF ?aO ?aB ?aS ?aL ?_
             (case aP=>exact k69_mkM _ _ _ (⟨t216,t217⟩ : S69))
             (case aB=>exact bs)
             (case aF=>exact (fun k_ hk=>Kd.freshB (g:=gb213) (o:=.cells #[.int .i64 ((rd_T69 l2_1 x25_1).f0),.int .i64 ((rd_T69 l2_1 x25_1).f1)] 69 (0,0)) (kz BK213.out) k_ hk))
             (case aO=>exact (rz HO_11.out))
             (case aS=>exact (below_size bs))
             (case aL=>have:=LMc21.out;omega)
             intro v219 w30 ho hb hg hat
             rw [← Ny218.out] at ho
             have n0_:=Aside0.mk (Kd.R_over' (rz HO_10.out) (Kd.R_typed (rz HO_11.out)) (by decide) hg)
             have n1_:=Aside0.mk (blk_grown (g:=gb202) (o:=.cells #[.int .i64 a2_0,.slice (some ad212) l2_1.length c2_1,.slice A2_2 l2_2.length c2_2] 30 (0,0)) (kz BK202.out) hg (Kd.R_ne HO_11.out BK202.out (by decide)))
             have n2_:=Aside0.mk (blk_grown (g:=gb213) (o:=.cells #[.int .i64 ((rd_T69 l2_1 x25_1).f0),.int .i64 ((rd_T69 l2_1 x25_1).f1)] 69 (0,0)) (kz BK213.out) hg (Kd.R_away HO_11.out (fun _ hk=>hk)))
             have n3_:=Aside0.mk (hb)
             have n4_:=Aside0.mk (ho)
             clear HO_10
             clear BK202
             clear BK213
             clear HB
             clear HO_11
             have HO_10:=n0_
             have BK202:=n1_
             have BK213:=n2_
             have HB:=n3_
             have HO220:=n4_
             clear n0_ n1_ n2_ n3_ n4_
             clear ho hb hg hat
             refine hK.out _ _ ?_
             clear hK K
             refine norm_ (a':=?_) ?_ ?_
             rotate_left
             ·show Act.put _ (some 42) _ = _
              simp only [Act.put,xa,xb,xc,i64_w,i32_w]
              rfl
             refine pure_ (i:=14) (N:=some 11) (v:=?_) (a':=?_) #[true,true,true,true,true,true,true,true,true,true,true,true,true,true,true] rfl rfl (any_of HT_.out (by kernel_rfl)) (fun _ _ _ h=>h) (Or.inl ⟨by rfl,?_⟩) ?_ ?_
             rotate_left
             ·intro w'
              go_simp
              with_reducible rfl
             rotate_left
             ·simp only [Act.put,xa,xb,xc,i64_w,i32_w]
              rfl
             refine done_ (done_of HT_.out (by kernel_rfl)) ?_
             obtain ⟨Ao31,co31,eo31⟩:=Kd.R_slice HO220.out
             subst eo31
             try go_wp2_with (first|((with_reducible refine gate_builtin (b:=.append) (xs:=#[.tmp 43,.tmp 49]) rfl ?_);at_builtin;refine Kd.R_append (Kd.int .i64) (w0:=w) w.heap.size rfl (.tmp 43) (.tmp 49) 23 3 (.int .i64 0) 8 rfl Try.underlying23 info3 rfl (by decide) (by omega) (.slice (some ad214) x10_1.length co28) x10_1 (wrap64 ((wrap64 (a1 + (y218.length : Int))) - 1)) [.int .i64 (wrap64 ((wrap64 (a1 + (y218.length : Int))) - 1))] (fun _=>True) (fun _=>False) rfl rfl ?aP (fun _ hk=>hk.elim) ?aF ?aO ?aB ?aS ?aL ?_;(case aP=>exact rfl);(case aB=>exact bs);(case aF=>exact (fun _ _=>trivial));(case aO=>exact (rz HO_10.out));(case aS=>exact (below_size bs));(case aL=>have:=LMc22.out;omega);intro v222 w32 ho hb hg hat;rw [← Ny221.out] at ho;have n0_:=Aside0.mk (blk_grown (g:=gb202) (o:=.cells #[.int .i64 a2_0,.slice (some ad212) l2_1.length c2_1,.slice A2_2 l2_2.length c2_2] 30 (0,0)) (kz BK202.out) hg (Kd.R_ne HO_10.out BK202.out (by decide)));have n1_:=Aside0.mk (blk_grown (g:=gb213) (o:=.cells #[.int .i64 ((rd_T69 l2_1 x25_1).f0),.int .i64 ((rd_T69 l2_1 x25_1).f1)] 69 (0,0)) (kz BK213.out) hg (Kd.R_ne HO_10.out BK213.out (by decide)));have n2_:=Aside0.mk (Kd.R_over' (rz HO220.out) (Kd.R_typed (rz HO_10.out)) (by decide) hg);have n3_:=Aside0.mk (hb);have n4_:=Aside0.mk (ho);clear BK202 BK213 HO220 HB HO_10;have BK202:=n0_;have BK213:=n1_;have HO220:=n2_;have HB:=n3_;have HO223:=n4_;clear n0_ n1_ n2_ n3_ n4_;clear ho hb hg hat))
             go_roundg k1
             case measure=>have:=HK1.out;omega
             case rel=>exact ⟨(y221),(y218),(wrap64 (x25_1 + 1)),fz,H',⟨by have:=HK1.out;omega⟩,⟨by (with_reducible repeat (first|apply Kd.R_alloc|apply Kd.R_drewN|apply Kd.R_drew));exact HO223.out⟩,⟨by (with_reducible repeat (first|apply Kd.R_alloc|apply Kd.R_drewN|apply Kd.R_drew));exact Kd.R_mono HO220.out (fun _ hk=>trivial)⟩,⟨by (with_reducible repeat (first|refine blk_drewN ?_ _|refine blk_drew ?_|refine blk_alloc ?_ _));exact BK202.out⟩,⟨by repeat (first|(with_reducible first|exact HB.out|apply below_alloc|apply pw_below_drewN|apply below_drew1|refine below_set ?_ GE202.out|refine below_set ?_ GE213.out)|exact HB.out)⟩⟩
            ·rw [if_neg c22] at H
             exact absurd H (by simp)
           ·rw [if_neg c21] at H
            exact absurd H (by simp)
          ·rw [if_neg c19] at H
           exact absurd H (by simp)
         ·rw [if_neg c18] at H
          exact absurd H (by simp)
        ·rw [if_neg c17] at H
         exact absurd H (by simp)
       ·rw [if_neg c16] at H
        exact absurd H (by simp)
      ·rw [if_neg c15] at H
       exact absurd H (by simp)
     ·rw [if_neg c14] at H
      exact absurd H (by simp)
    ·rw [if_neg c13] at H
     have c13b0 : decide (x25_1 < (l2_1.length : Int)) = false:=decide_eq_false c13
     clear c13
     have H':=Aside0.mk H
     clear H
     have hcz33_0 : wr.cell? ⟨gb202,0,none⟩ = some (.int .i64 a2_0):=(blk_cell BK202.out 0).trans rfl
     have hcz33_1 : wr.cell? ⟨gb202,1,none⟩ = some (.slice A2_1 l2_1.length c2_1):=(blk_cell BK202.out 1).trans rfl
     have hcz33_2 : wr.cell? ⟨gb202,2,none⟩ = some (.slice A2_2 l2_2.length c2_2):=(blk_cell BK202.out 2).trans rfl
     have hfz33_0:=blk_frozen BK202.out 0
     have hfz33_1:=blk_frozen BK202.out 1
     have hfz33_2:=blk_frozen BK202.out 2
     go_wp2
     go_loopg [14,55] k1 (fun kq v14 v55 w'=>∃ (x14_2 : List Int) (x55_2 : Int),v55 = .int .i64 x55_2 ∧ Aside0 (spec_plThen.l1 kq x10_1 x11_1 x14_2 l2_2 (l2_2.length : Int) x55_2 = some (r1,r2)) ∧ Aside0 (kq ≤ k1) ∧ Aside0 (Kd.R (Kd.int .i64) 3 w' w.heap.size (fun k_=>some k_ ≠ (v14 : Value).ownBlock) u10 x10_1) ∧ Aside0 (Kd.R k69 69 w' w.heap.size (fun _=>True) u11 x11_1) ∧ Aside0 (Kd.R (Kd.int .i64) 3 w' w.heap.size (fun k_=>some k_ ≠ (u10 : Value).ownBlock) v14 x14_2) ∧ Aside0 (w'.heap[gb202]? = some (.cells #[.int .i64 a2_0,(.slice A2_1 l2_1.length c2_1),(.slice A2_2 l2_2.length c2_2)] 30 (0,0))) ∧ Aside0 (Below w.heap.size w w'))
     case atStart=>exact ⟨(([] : List Int)),(0),fz,H',⟨Nat.le_refl _⟩,⟨by (with_reducible repeat (first|apply Kd.R_alloc|apply Kd.R_drewN|apply Kd.R_drew));exact Kd.R_mono HO_10.out (fun _ hk=>(by simp [Value.ownBlock]))⟩,⟨by (with_reducible repeat (first|apply Kd.R_alloc|apply Kd.R_drewN|apply Kd.R_drew));exact HO_11.out⟩,⟨by first|exact Kd.R_nil _ _ _ _ _|exact Kd.N_nil _ _ _ _ _|exact Kd.V_nil _ _ _ _ _|exact Kd.Q_nil _ _ _ _ _|exact Kd.S_nil _ _ _ _ _⟩,⟨by (with_reducible repeat (first|refine blk_drewN ?_ _|refine blk_drew ?_|refine blk_alloc ?_ _));exact BK202.out⟩,⟨by repeat (first|(with_reducible first|exact HB.out|apply below_alloc|apply pw_below_drewN|apply below_drew1|refine below_set ?_ GE202.out)|exact HB.out)⟩⟩
     case round=>
      clear H'
      try clear c1
      try clear c2
      try clear p2
      try clear q2
      try clear hx2
      try clear c3
      try clear c6
      try clear p6
      try clear c8
      try clear c10
      try clear c11
      try clear c13
      try clear c13b0
      try clear c14
      try clear c14b0
      try clear c15
      try clear c15b0
      try clear c16
      try clear c16b0
      try clear c17
      try clear c17b0
      try clear c18
      try clear c18b0
      try clear c19
      try clear c19b0
      try clear c21
      try clear p21
      try clear q21
      try clear hx21
      try clear c22
      try clear c24
      try clear hcz12_0
      try clear hcz12_1
      try clear hcz12_2
      try clear hcz25_0
      try clear hcz25_1
      try clear hcz33_0
      try clear hcz33_1
      try clear hcz33_2
      try clear hfz12_0
      try clear hfz12_1
      try clear hfz12_2
      try clear hfz25_0
      try clear hfz25_1
      try clear hfz33_0
      try clear hfz33_1
      try clear hfz33_2
      try clear hx212_0
      try clear hx212_1
      try clear hx214_0
      try clear hx215_0
      try clear p2
      try clear p212
      try clear p214
      try clear p215
      try clear q212
      try clear q214
      try clear q215
      obtain ⟨x14_2,x55_2,rfl,HA,HK2,HO_10,HO_11,HO_14,BK202,HB⟩:=hrel
      cases gk with
      | zero=>exact absurd HA.out (by simp [spec_plThen.l1])
      | succ k2=>
       have H:=HA.out
       clear HA
       simp only [spec_plThen.l1] at H
       by_cases c34 : x55_2 < (l2_2.length : Int)
       ·rw [if_pos c34] at H
        have c34b0 : decide (x55_2 < (l2_2.length : Int)) = true:=decide_eq_true c34
        clear c34
        by_cases c35 : 0 ≤ x55_2
        ·rw [if_pos c35] at H
         have c35b0 : decide (0 ≤ x55_2) = true:=decide_eq_true c35
         clear c35
         by_cases c36 : x55_2 < (l2_2.length : Int)
         ·rw [if_pos c36] at H
          have c36b0 : decide (x55_2 < (l2_2.length : Int)) = true:=decide_eq_true c36
          clear c36
          by_cases c37 : 0 ≤ (rd l2_2 x55_2)
          ·rw [if_pos c37] at H
           have c37b0 : decide (0 ≤ (rd l2_2 x55_2)) = true:=decide_eq_true c37
           clear c37
           by_cases c38 : (rd l2_2 x55_2) < (x10_1.length : Int)
           ·rw [if_pos c38] at H
            have c38b0 : decide ((rd l2_2 x55_2) < (x10_1.length : Int)) = true:=decide_eq_true c38
            clear c38
            by_cases c39 : x14_2.length < 17592186044416
            ·rw [if_pos c39] at H
             have LMc39:=Aside0.mk c39
             clear c39
             obtain ⟨y226,hy226⟩ : ∃ y_ : List Int,y_ = (x14_2 ++ [rd x10_1 (rd l2_2 x55_2)]):=⟨_,rfl⟩
             replace H : (spec_plThen.l1 k2 x10_1 x11_1 y226 l2_2 (l2_2.length : Int) (wrap64 (x55_2 + 1))) = some (r1,r2):=by first|(rw [hy226];with_reducible exact H)|(have H2_:=(Option.bind_some _ _).symm.trans H;rw [hy226];with_reducible exact H2_)|(have H2_:=(Option.bind_some _ _).symm.trans H;with_reducible exact H2_)|with_reducible exact H|(rw [hy226];exact H)|exact H
             have Ny226:=Aside0.mk hy226
             clear hy226
             have H':=Aside0.mk H
             clear H
             have p224 : 0 ≤ (x55_2 : Int):=of_decide_eq_true az
             have q224 : x55_2 < (l2_2.length : Int):=of_decide_eq_true az
             obtain ⟨ad224,e224,hx224_0⟩:=Kd.at_int HR2_2.out x55_2 p224 q224
             cases e224
             replace hx224_0:=(HB.out.cell (World.block_lt_of_cell? w _ hx224_0)).trans hx224_0
             replace p224:=eq_true p224
             replace q224:=eq_true q224
             obtain ⟨Ao40,co40,eo40⟩:=Kd.R_slice HO_10.out
             subst eo40
             have p225 : 0 ≤ ((rd l2_2 x55_2) : Int):=of_decide_eq_true az
             have q225 : (rd l2_2 x55_2) < (x10_1.length : Int):=of_decide_eq_true az
             obtain ⟨ad225,e225,hx225_0⟩:=Kd.at_int (Kd.R_reads' HO_10.out).2.2 (rd l2_2 x55_2) p225 q225
             cases e225
             replace p225:=eq_true p225
             replace q225:=eq_true q225
             go_wp2_with (first|((with_reducible refine gate_builtin (b:=.append) (xs:=#[.tmp 59,.tmp 64]) rfl ?_);at_builtin;refine Kd.R_append (Kd.int .i64) (w0:=w) w.heap.size rfl (.tmp 59) (.tmp 64) 23 3 (.int .i64 0) 8 rfl Try.underlying23 info3 rfl (by decide) (by omega) u14 x14_2 (rd x10_1 (rd l2_2 x55_2)) [.int .i64 (rd x10_1 (rd l2_2 x55_2))] (fun k_=>some k_ ≠ (.slice (some ad225) x10_1.length co40 : Value).ownBlock) (fun _=>False) rfl rfl ?aP (fun _ hk=>hk.elim) ?aF ?aO ?aB ?aS ?aL ?_;(case aP=>exact rfl);(case aB=>exact bs);(case aF=>exact (fun k_ hk=>Kd.fresh' (Kd.R_lt (rz HO_10.out)) k_ hk));(case aO=>exact (rz HO_14.out));(case aS=>exact (below_size bs));(case aL=>have:=LMc39.out;omega);intro v227 w41 ho hb hg hat;rw [← Ny226.out] at ho;have n0_:=Aside0.mk (Kd.R_after (ok:=(fun _=>True)) (by (with_reducible repeat (first|apply Kd.R_alloc|apply Kd.R_drewN|apply Kd.R_drew));exact Kd.R_mono HO_10.out (fun _ hk=>⟨trivial,hk⟩)) hg hat);have n1_:=Aside0.mk (Kd.R_over' (rz HO_11.out) (Kd.R_typed (rz HO_14.out)) (by decide) hg);have n2_:=Aside0.mk (blk_grown (g:=gb202) (o:=.cells #[.int .i64 a2_0,.slice A2_1 l2_1.length c2_1,.slice (some ad224) l2_2.length c2_2] 30 (0,0)) (kz BK202.out) hg (Kd.R_ne HO_14.out BK202.out (by decide)));have n3_:=Aside0.mk (hb);have n4_:=Aside0.mk (ho);clear HO_10 HO_11 BK202 HB HO_14;have HO_10:=n0_;have HO_11:=n1_;have BK202:=n2_;have HB:=n3_;have HO228:=n4_;clear n0_ n1_ n2_ n3_ n4_;clear ho hb hg hat))
             go_roundg k2
             case measure=>have:=HK1.out;have:=HK2.out;omega
             case rel=>exact ⟨(y226),(wrap64 (x55_2 + 1)),fz,H',⟨by have:=HK1.out;have:=HK2.out;omega⟩,⟨by (with_reducible repeat (first|apply Kd.R_alloc|apply Kd.R_drewN|apply Kd.R_drew));exact Kd.R_mono HO_10.out (fun _ hk=>hk.2)⟩,⟨by (with_reducible repeat (first|apply Kd.R_alloc|apply Kd.R_drewN|apply Kd.R_drew));exact HO_11.out⟩,⟨by (with_reducible repeat (first|apply Kd.R_alloc|apply Kd.R_drewN|apply Kd.R_drew));exact HO228.out⟩,⟨by (with_reducible repeat (first|refine blk_drewN ?_ _|refine blk_drew ?_|refine blk_alloc ?_ _));exact BK202.out⟩,⟨by repeat (first|(with_reducible first|exact HB.out|apply below_alloc|apply pw_below_drewN|apply below_drew1|refine below_set ?_ GE202.out)|exact HB.out)⟩⟩
            ·rw [if_neg c39] at H
             exact absurd H (by simp)
           ·rw [if_neg c38] at H
            exact absurd H (by simp)
          ·rw [if_neg c37] at H
           exact absurd H (by simp)
         ·rw [if_neg c36] at H
          exact absurd H (by simp)
        ·rw [if_neg c35] at H
         exact absurd H (by simp)
       ·rw [if_neg c34] at H
        have c34b0 : decide (x55_2 < (l2_2.length : Int)) = false:=decide_eq_false c34
        clear c34
        simp only [Option.some.injEq,Prod.mk.injEq] at H
        obtain ⟨rfl,rfl⟩:=H
        go_wp2
        go_ret2
        exact ⟨_,_,by first|rfl|(simp [errW_none,errW_some] <;> rfl)|(simp [*,errW_none,errW_some] <;> rfl),by (with_reducible repeat (first|apply Kd.R_alloc|apply Kd.R_drewN|apply Kd.R_drew));exact HO_11.out,by (with_reducible repeat (first|apply Kd.R_alloc|apply Kd.R_drewN|apply Kd.R_drew));exact Kd.R_mono HO_14.out (fun _ hk=>trivial),by repeat (first|(with_reducible first|exact HB.out|apply below_alloc|apply pw_below_drewN|apply below_drew1|refine below_set ?_ GE202.out)|exact HB.out)⟩
 ·rw [if_neg c6] at H
  exact absurd H (by simp)
/-! ### spec_ComposePlans: function 49 -/
def spec_ComposePlans.j0 : Nat → Bool → Int → List (S69) → List Int → Int → List (S69) → List Int → Option (Int × (List (S69)) × List Int × Bool)
 | 0,_,_,_,_,_,_,_=>none
 | k + 1,x23,x230000,x230001,x230002,x231000,x231001,x231002=>if x23 = true then (some (0,([] : List (S69)),([] : List Int),false)) else ((spec_plThen.f k x230001 x230000 x231000 x231001 x231002 x230002).bind fun bt234=>((spec_plIf.f k x230000 bt234.1 bt234.2).bind fun bt240=>(some (bt240.1,bt240.2.1,bt240.2.2.1,bt240.2.2.2))))
def spec_ComposePlans.f (k : Nat) (a0_0 : Int) (l0_1 : List (S69)) (l0_2 : List Int) (a1_0 : Int) (l1_1 : List (S69)) (l1_2 : List Int) : Option (Int × (List (S69)) × List Int × Bool):=(spec_plGood.f k a0_0 l0_1 l0_2).bind fun t232=>(if t232 = true then ((spec_plGood.f k a1_0 l1_1 l1_2).bind fun t233=>(if t233 = true then (spec_ComposePlans.j0 k ((l0_2.length : Int) != a1_0) a0_0 l0_1 l0_2 a1_0 l1_1 l1_2) else (spec_ComposePlans.j0 k true a0_0 l0_1 l0_2 a1_0 l1_1 l1_2))) else (spec_ComposePlans.j0 k true a0_0 l0_1 l0_2 a1_0 l1_1 l1_2))
theorem spec_ComposePlans.mono_l : ∀ k,(∀ y0 y1 y2 y3 y4 y5 y6,LeO (spec_ComposePlans.j0 k y0 y1 y2 y3 y4 y5 y6) (spec_ComposePlans.j0 (k + 1) y0 y1 y2 y3 y4 y5 y6))
 | 0=>fun _ _ _ _ _ _ _ r h=>by simp [spec_ComposePlans.j0] at h
 | k + 1=>by
  have ih0:=spec_ComposePlans.mono_l k
  ·intro y0 y1 y2 y3 y4 y5 y6
   unfold spec_ComposePlans.j0
   repeat' first
   | (with_reducible exact ih0 _ _ _ _ _ _ _)
   | (with_reducible exact spec_plGood.mono _ _ _ _)
   | (with_reducible exact spec_plIf.mono _ _ _ _)
   | (with_reducible exact spec_plThen.mono _ _ _ _ _ _ _)
   | (with_reducible exact LeO.refl _)
   | (with_reducible exact LeO.none _)
   | (with_reducible refine LeO.ite ?_ ?_)
   | (with_reducible refine LeO.bind ?_ (fun _=>?_))
   | exact ih0 _ _ _ _ _ _ _
   | exact spec_plGood.mono _ _ _ _
   | exact spec_plIf.mono _ _ _ _
   | exact spec_plThen.mono _ _ _ _ _ _ _
   | exact LeO.none _
   | refine LeO.ite ?_ ?_
   | refine LeO.bind ?_ (fun _=>?_)
theorem spec_ComposePlans.mono : ∀ a0 a1 a2 a3 a4 a5 k,LeO (spec_ComposePlans.f k a0 a1 a2 a3 a4 a5) (spec_ComposePlans.f (k + 1) a0 a1 a2 a3 a4 a5):=by
 intro a0 a1 a2 a3 a4 a5 k
 have ih0:=spec_ComposePlans.mono_l k
 unfold spec_ComposePlans.f
 repeat' first
   | (with_reducible exact ih0 _ _ _ _ _ _ _)
   | (with_reducible exact spec_plGood.mono _ _ _ _)
   | (with_reducible exact spec_plIf.mono _ _ _ _)
   | (with_reducible exact spec_plThen.mono _ _ _ _ _ _ _)
   | (with_reducible exact LeO.refl _)
   | (with_reducible exact LeO.none _)
   | (with_reducible refine LeO.ite ?_ ?_)
   | (with_reducible refine LeO.bind ?_ (fun _=>?_))
   | exact ih0 _ _ _ _ _ _ _
   | exact spec_plGood.mono _ _ _ _
   | exact spec_plIf.mono _ _ _ _
   | exact spec_plThen.mono _ _ _ _ _ _ _
   | exact LeO.none _
   | refine LeO.ite ?_ ?_
   | refine LeO.bind ?_ (fun _=>?_)
set_option maxHeartbeats 8000000 in
set_option maxRecDepth 100000 in
theorem spec_ComposePlans.calls (k : Nat) (a0_0 : Int) (A0_1 : Option Addr) (c0_1 : Nat) (l0_1 : List (S69)) (A0_2 : Option Addr) (c0_2 : Nat) (l0_2 : List Int) (a1_0 : Int) (A1_1 : Option Addr) (c1_1 : Nat) (l1_1 : List (S69)) (A1_2 : Option Addr) (c1_2 : Nat) (l1_2 : List Int) (r1 : Int) (r2 : List (S69)) (r3 : List Int) (r4 : Bool) (w : World) (hr0_1 : Kd.C k69 w A0_1 l0_1.length l0_1) (hc0_1 : l0_1.length ≤ c0_1) (hr0_2 : Kd.C (Kd.int .i64) w A0_2 l0_2.length l0_2) (hc0_2 : l0_2.length ≤ c0_2) (hr1_1 : Kd.C k69 w A1_1 l1_1.length l1_1) (hc1_1 : l1_1.length ≤ c1_1) (hr1_2 : Kd.C (Kd.int .i64) w A1_2 l1_2.length l1_2) (hc1_2 : l1_2.length ≤ c1_2) (h : spec_ComposePlans.f k a0_0 l0_1 l0_2 a1_0 l1_1 l1_2 = some (r1,r2,r3,r4)) :
  Calls Try.prog 49 #[.agg #[.int .i64 a0_0,.slice A0_1 l0_1.length c0_1,.slice A0_2 l0_2.length c0_2],.agg #[.int .i64 a1_0,.slice A1_1 l1_1.length c1_1,.slice A1_2 l1_2.length c1_2]] w fun e w'=>∃ v1_ v2_ : Value,e = .returned (.tuple #[.agg #[.int .i64 r1,v1_,v2_],.bool r4]) ∧ Kd.R k69 69 w' w.heap.size (fun _=>True) v1_ r2 ∧ Kd.R (Kd.int .i64) 3 w' w.heap.size (fun _=>True) v2_ r3 ∧ Below w.heap.size w w':=by
 have hu30:=Try.underlying30
 have HR0_1:=Aside0.mk hr0_1
 have HC0_1:=Aside0.mk hc0_1
 clear hr0_1 hc0_1
 have HR0_2:=Aside0.mk hr0_2
 have HC0_2:=Aside0.mk hc0_2
 clear hr0_2 hc0_2
 have HR1_1:=Aside0.mk hr1_1
 have HC1_1:=Aside0.mk hc1_1
 clear hr1_1 hc1_1
 have HR1_2:=Aside0.mk hr1_2
 have HC1_2:=Aside0.mk hc1_2
 clear hr1_2 hc1_2
 have HB:=Aside0.mk (Below.refl w.heap.size w)
 have H : ((spec_plGood.f k a0_0 l0_1 l0_2).bind fun t232=>(if t232 = true then ((spec_plGood.f k a1_0 l1_1 l1_2).bind fun t233=>(if t233 = true then (spec_ComposePlans.j0 k ((l0_2.length : Int) != a1_0) a0_0 l0_1 l0_2 a1_0 l1_1 l1_2) else (spec_ComposePlans.j0 k true a0_0 l0_1 l0_2 a1_0 l1_1 l1_2))) else (spec_ComposePlans.j0 k true a0_0 l0_1 l0_2 a1_0 l1_1 l1_2))) = some (r1,r2,r3,r4):=h
 clear h
 have HC3:=Aside0.mk H
 clear H
 go_enter Try.func49,Try.ntmps49
 go_upto_region 1 with (first|((with_reducible refine gate_dst (N:=2) rfl ?_);(try (refine gate_guard (by rfl) ?_;dsimp only));refine box_event ?hg (N:=2) ?hd (cs:=#[.int .i64 a0_0,.slice A0_1 l0_1.length c0_1,.slice A0_2 l0_2.length c0_2]) (t:=30) ?hr ?_;(case hd=>rfl);(case hg=>rfl);(case hr=>first|(go_simp;done)|(go_simp;rfl));intro gb229 hg w4 hbox hb;have n0_:=Aside0.mk (below_step bz hb);have n1_:=Aside0.mk (hbox);have n2_:=Aside0.mk ((by rw [hg];exact (below_size bz) : w.heap.size ≤ gb229));have n3_:=Aside0.mk ((by rw [hg];exact (below_size bz) : w.heap.size ≤ gb229));clear HB;have HB:=n0_;have BK229:=n1_;have GW229:=n2_;have GE229:=n3_;clear n0_ n1_ n2_ n3_;clear hb hbox hg)|((with_reducible refine gate_dst (N:=3) rfl ?_);(try (refine gate_guard (by rfl) ?_;dsimp only));refine box_event ?hg (N:=3) ?hd (cs:=#[.int .i64 a1_0,.slice A1_1 l1_1.length c1_1,.slice A1_2 l1_2.length c1_2]) (t:=30) ?hr ?_;(case hd=>rfl);(case hg=>rfl);(case hr=>first|(go_simp;done)|(go_simp;rfl));intro gb230 hg w5 hbox hb;have n0_:=Aside0.mk (kb BK229.out hb);have n1_:=Aside0.mk (below_step bs hb);have n2_:=Aside0.mk (hbox);have n3_:=Aside0.mk ((by rw [hg];exact (below_size bs) : w.heap.size ≤ gb230));have n4_:=Aside0.mk ((by rw [hg];exact (below_size bs) : w.heap.size ≤ gb230));have n5_:=Aside0.mk (kn hg BK229.out);have n6_:=Aside0.mk (km hg BK229.out);clear BK229 HB;have BK229:=n0_;have HB:=n1_;have BK230:=n2_;have GW230:=n3_;have GE230:=n4_;have NB229_230:=n5_;have NB230_229:=n6_;clear n0_ n1_ n2_ n3_ n4_ n5_ n6_;clear hb hbox hg)|((with_reducible refine gate_dst (N:=4) rfl ?_);(try (refine gate_guard (by rfl) ?_;dsimp only));refine box_event ?hg (N:=4) ?hd (cs:=#[.int .i64 0,.slice none 0 0,.slice none 0 0]) (t:=30) ?hr ?_;(case hd=>rfl);(case hg=>rfl);(case hr=>first|(go_simp;done)|(go_simp;rfl));intro gb231 hg w6 hbox hb;have n0_:=Aside0.mk (kb BK229.out hb);have n1_:=Aside0.mk (kb BK230.out hb);have n2_:=Aside0.mk (below_step bs hb);have n3_:=Aside0.mk (hbox);have n4_:=Aside0.mk ((by rw [hg];exact (below_size bs) : w.heap.size ≤ gb231));have n5_:=Aside0.mk ((by rw [hg];exact (below_size bs) : w.heap.size ≤ gb231));have n6_:=Aside0.mk (kn hg BK229.out);have n7_:=Aside0.mk (km hg BK229.out);have n8_:=Aside0.mk (kn hg BK230.out);have n9_:=Aside0.mk (km hg BK230.out);clear BK229 BK230 HB;have BK229:=n0_;have BK230:=n1_;have HB:=n2_;have BK231:=n3_;have GW231:=n4_;have GE231:=n5_;have NB229_231:=n6_;have NB231_229:=n7_;have NB230_231:=n8_;have NB231_230:=n9_;clear n0_ n1_ n2_ n3_ n4_ n5_ n6_ n7_ n8_ n9_;clear hb hbox hg))
 (try simp only [Act.put,xa,xb,xc])
 go_cut [23] (fun v23 wc=>∃ (kq : Nat) (x23_2 : Bool),v23 = .bool x23_2 ∧ Aside0 (spec_ComposePlans.j0 kq x23_2 a0_0 l0_1 l0_2 a1_0 l1_1 l1_2 = some (r1,r2,r3,r4)) ∧ Aside0 (kq ≤ k) ∧ Aside0 (wc.heap[gb229]? = some (.cells #[.int .i64 a0_0,(.slice A0_1 l0_1.length c0_1),(.slice A0_2 l0_2.length c0_2)] 30 (0,0))) ∧ Aside0 (wc.heap[gb230]? = some (.cells #[.int .i64 a1_0,(.slice A1_1 l1_1.length c1_1),(.slice A1_2 l1_2.length c1_2)] 30 (0,0))) ∧ Aside0 (wc.heap[gb231]? = some (.cells #[.int .i64 0,(.slice none 0 0),(.slice none 0 0)] 30 (0,0))) ∧ Aside0 (Below w.heap.size w wc))
 case first=>
  have H:=HC3.out
  clear HC3
  obtain ⟨t232,A7,H⟩:=bd H
  by_cases c8 : t232 = true
  ·subst c8
   rw [if_pos rfl] at H
   obtain ⟨t233,A9,H⟩:=bd H
   by_cases c10 : t233 = true
   ·subst c10
    rw [if_pos rfl] at H
    have H':=Aside0.mk H
    clear H
    have hnb11:=NB229_230.out
    have hnc11:=NB230_229.out
    have hnb12:=NB229_231.out
    have hnc12:=NB231_229.out
    have hcz13_0 : w6.cell? ⟨gb229,0,none⟩ = some (.int .i64 a0_0):=(blk_cell BK229.out 0).trans rfl
    have hcz13_1 : w6.cell? ⟨gb229,1,none⟩ = some (.slice A0_1 l0_1.length c0_1):=(blk_cell BK229.out 1).trans rfl
    have hcz13_2 : w6.cell? ⟨gb229,2,none⟩ = some (.slice A0_2 l0_2.length c0_2):=(blk_cell BK229.out 2).trans rfl
    have hfz13_0:=blk_frozen BK229.out 0
    have hfz13_1:=blk_frozen BK229.out 1
    have hfz13_2:=blk_frozen BK229.out 2
    go_wp2_with (first|((with_reducible refine gate_callee (f:=53) rfl ?_);refine goesL_ (some 9) rfl rfl Try.func53 (by kernel_rfl) rfl #[.agg #[.int .i64 a0_0,.slice A0_1 l0_1.length c0_1,.slice A0_2 l0_2.length c0_2]] rfl mz ?_;(with_reducible refine (spec_plGood.calls k a0_0 _ _ l0_1 _ _ l0_2 true _ ?side1 ?side2 ?side3 ?side4 A7.out).mono ?_);(case side1=>exact cz (Kd.C_below HR0_1.out HB.out));(case side2=>exact HC0_1.out);(case side3=>exact cz (Kd.C_below HR0_2.out HB.out));(case side4=>exact HC0_2.out);rintro e w14 ⟨rfl,hb⟩;refine ⟨_,rfl,?_⟩;have n0_:=Aside0.mk (kb BK229.out hb);have n1_:=Aside0.mk (kb BK230.out hb);have n2_:=Aside0.mk (kb BK231.out hb);have n3_:=Aside0.mk (below_step bs hb);clear BK229 BK230 BK231 HB;have BK229:=n0_;have BK230:=n1_;have BK231:=n2_;have HB:=n3_;clear n0_ n1_ n2_ n3_;(try clear hb);have hnb15:=NB230_231.out;have hnc15:=NB231_230.out;have hcz16_0 : w14.cell? ⟨gb230,0,none⟩ = some (.int .i64 a1_0):=(blk_cell BK230.out 0).trans rfl;have hcz16_1 : w14.cell? ⟨gb230,1,none⟩ = some (.slice A1_1 l1_1.length c1_1):=(blk_cell BK230.out 1).trans rfl;have hcz16_2 : w14.cell? ⟨gb230,2,none⟩ = some (.slice A1_2 l1_2.length c1_2):=(blk_cell BK230.out 2).trans rfl;have hfz16_0:=blk_frozen BK230.out 0;have hfz16_1:=blk_frozen BK230.out 1;have hfz16_2:=blk_frozen BK230.out 2)|(go_at_call 53;(with_reducible refine (spec_plGood.calls k a1_0 _ _ l1_1 _ _ l1_2 true _ ?side1 ?side2 ?side3 ?side4 A9.out).mono ?_);(case side1=>exact cz (Kd.C_below HR1_1.out HB.out));(case side2=>exact HC1_1.out);(case side3=>exact cz (Kd.C_below HR1_2.out HB.out));(case side4=>exact HC1_2.out);rintro e w17 ⟨rfl,hb⟩;have n0_:=Aside0.mk (kb BK229.out hb);have n1_:=Aside0.mk (kb BK230.out hb);have n2_:=Aside0.mk (kb BK231.out hb);have n3_:=Aside0.mk (below_step bs hb);clear BK229 BK230 BK231 HB;have BK229:=n0_;have BK230:=n1_;have BK231:=n2_;have HB:=n3_;clear n0_ n1_ n2_ n3_;(try clear hb);have hcz18_0 : w17.cell? ⟨gb229,0,none⟩ = some (.int .i64 a0_0):=(blk_cell BK229.out 0).trans rfl;have hcz18_1 : w17.cell? ⟨gb229,1,none⟩ = some (.slice A0_1 l0_1.length c0_1):=(blk_cell BK229.out 1).trans rfl;have hcz18_2 : w17.cell? ⟨gb229,2,none⟩ = some (.slice A0_2 l0_2.length c0_2):=(blk_cell BK229.out 2).trans rfl;have hfz18_0:=blk_frozen BK229.out 0;have hfz18_1:=blk_frozen BK229.out 1;have hfz18_2:=blk_frozen BK229.out 2;have hcz19_0 : w17.cell? ⟨gb230,0,none⟩ = some (.int .i64 a1_0):=(blk_cell BK230.out 0).trans rfl;have hcz19_1 : w17.cell? ⟨gb230,1,none⟩ = some (.slice A1_1 l1_1.length c1_1):=(blk_cell BK230.out 1).trans rfl;have hcz19_2 : w17.cell? ⟨gb230,2,none⟩ = some (.slice A1_2 l1_2.length c1_2):=(blk_cell BK230.out 2).trans rfl;have hfz19_0:=blk_frozen BK230.out 0;have hfz19_1:=blk_frozen BK230.out 1;have hfz19_2:=blk_frozen BK230.out 2))
    go_meet
    case rel=>exact ⟨_,(((l0_2.length : Int) != a1_0)),fz,H',⟨by first|omega|exact Nat.le_refl _⟩,⟨by (with_reducible repeat (first|refine blk_drewN ?_ _|refine blk_drew ?_|refine blk_alloc ?_ _));exact BK229.out⟩,⟨by (with_reducible repeat (first|refine blk_drewN ?_ _|refine blk_drew ?_|refine blk_alloc ?_ _));exact BK230.out⟩,⟨by (with_reducible repeat (first|refine blk_drewN ?_ _|refine blk_drew ?_|refine blk_alloc ?_ _));exact BK231.out⟩,⟨by repeat (first|(with_reducible first|exact HB.out|apply below_alloc|apply pw_below_drewN|apply below_drew1|refine below_set ?_ GE229.out|refine below_set ?_ GE230.out|refine below_set ?_ GE231.out)|exact HB.out)⟩⟩
   ·replace c10:=Bool.eq_false_iff.mpr c10
    subst c10
    rw [if_neg (show ¬ (false = true) by decide)] at H
    have H':=Aside0.mk H
    clear H
    have hnb20:=NB229_230.out
    have hnc20:=NB230_229.out
    have hnb21:=NB229_231.out
    have hnc21:=NB231_229.out
    have hcz22_0 : w6.cell? ⟨gb229,0,none⟩ = some (.int .i64 a0_0):=(blk_cell BK229.out 0).trans rfl
    have hcz22_1 : w6.cell? ⟨gb229,1,none⟩ = some (.slice A0_1 l0_1.length c0_1):=(blk_cell BK229.out 1).trans rfl
    have hcz22_2 : w6.cell? ⟨gb229,2,none⟩ = some (.slice A0_2 l0_2.length c0_2):=(blk_cell BK229.out 2).trans rfl
    have hfz22_0:=blk_frozen BK229.out 0
    have hfz22_1:=blk_frozen BK229.out 1
    have hfz22_2:=blk_frozen BK229.out 2
    go_wp2_with (first|((with_reducible refine gate_callee (f:=53) rfl ?_);refine goesL_ (some 9) rfl rfl Try.func53 (by kernel_rfl) rfl #[.agg #[.int .i64 a0_0,.slice A0_1 l0_1.length c0_1,.slice A0_2 l0_2.length c0_2]] rfl mz ?_;(with_reducible refine (spec_plGood.calls k a0_0 _ _ l0_1 _ _ l0_2 true _ ?side1 ?side2 ?side3 ?side4 A7.out).mono ?_);(case side1=>exact cz (Kd.C_below HR0_1.out HB.out));(case side2=>exact HC0_1.out);(case side3=>exact cz (Kd.C_below HR0_2.out HB.out));(case side4=>exact HC0_2.out);rintro e w23 ⟨rfl,hb⟩;refine ⟨_,rfl,?_⟩;have n0_:=Aside0.mk (kb BK229.out hb);have n1_:=Aside0.mk (kb BK230.out hb);have n2_:=Aside0.mk (kb BK231.out hb);have n3_:=Aside0.mk (below_step bs hb);clear BK229 BK230 BK231 HB;have BK229:=n0_;have BK230:=n1_;have BK231:=n2_;have HB:=n3_;clear n0_ n1_ n2_ n3_;(try clear hb);have hnb24:=NB230_231.out;have hnc24:=NB231_230.out;have hcz25_0 : w23.cell? ⟨gb230,0,none⟩ = some (.int .i64 a1_0):=(blk_cell BK230.out 0).trans rfl;have hcz25_1 : w23.cell? ⟨gb230,1,none⟩ = some (.slice A1_1 l1_1.length c1_1):=(blk_cell BK230.out 1).trans rfl;have hcz25_2 : w23.cell? ⟨gb230,2,none⟩ = some (.slice A1_2 l1_2.length c1_2):=(blk_cell BK230.out 2).trans rfl;have hfz25_0:=blk_frozen BK230.out 0;have hfz25_1:=blk_frozen BK230.out 1;have hfz25_2:=blk_frozen BK230.out 2)|(go_at_call 53;(with_reducible refine (spec_plGood.calls k a1_0 _ _ l1_1 _ _ l1_2 false _ ?side1 ?side2 ?side3 ?side4 A9.out).mono ?_);(case side1=>exact cz (Kd.C_below HR1_1.out HB.out));(case side2=>exact HC1_1.out);(case side3=>exact cz (Kd.C_below HR1_2.out HB.out));(case side4=>exact HC1_2.out);rintro e w26 ⟨rfl,hb⟩;have n0_:=Aside0.mk (kb BK229.out hb);have n1_:=Aside0.mk (kb BK230.out hb);have n2_:=Aside0.mk (kb BK231.out hb);have n3_:=Aside0.mk (below_step bs hb);clear BK229 BK230 BK231 HB;have BK229:=n0_;have BK230:=n1_;have BK231:=n2_;have HB:=n3_;clear n0_ n1_ n2_ n3_;(try clear hb)))
    go_meet
    case rel=>exact ⟨_,(true),fz,H',⟨by first|omega|exact Nat.le_refl _⟩,⟨by (with_reducible repeat (first|refine blk_drewN ?_ _|refine blk_drew ?_|refine blk_alloc ?_ _));exact BK229.out⟩,⟨by (with_reducible repeat (first|refine blk_drewN ?_ _|refine blk_drew ?_|refine blk_alloc ?_ _));exact BK230.out⟩,⟨by (with_reducible repeat (first|refine blk_drewN ?_ _|refine blk_drew ?_|refine blk_alloc ?_ _));exact BK231.out⟩,⟨by repeat (first|(with_reducible first|exact HB.out|apply below_alloc|apply pw_below_drewN|apply below_drew1|refine below_set ?_ GE229.out|refine below_set ?_ GE230.out|refine below_set ?_ GE231.out)|exact HB.out)⟩⟩
  ·replace c8:=Bool.eq_false_iff.mpr c8
   subst c8
   rw [if_neg (show ¬ (false = true) by decide)] at H
   have H':=Aside0.mk H
   clear H
   have hnb27:=NB229_230.out
   have hnc27:=NB230_229.out
   have hnb28:=NB229_231.out
   have hnc28:=NB231_229.out
   have hcz29_0 : w6.cell? ⟨gb229,0,none⟩ = some (.int .i64 a0_0):=(blk_cell BK229.out 0).trans rfl
   have hcz29_1 : w6.cell? ⟨gb229,1,none⟩ = some (.slice A0_1 l0_1.length c0_1):=(blk_cell BK229.out 1).trans rfl
   have hcz29_2 : w6.cell? ⟨gb229,2,none⟩ = some (.slice A0_2 l0_2.length c0_2):=(blk_cell BK229.out 2).trans rfl
   have hfz29_0:=blk_frozen BK229.out 0
   have hfz29_1:=blk_frozen BK229.out 1
   have hfz29_2:=blk_frozen BK229.out 2
   go_wp2_with (first|((with_reducible refine gate_callee (f:=53) rfl ?_);refine goesL_ (some 9) rfl rfl Try.func53 (by kernel_rfl) rfl #[.agg #[.int .i64 a0_0,.slice A0_1 l0_1.length c0_1,.slice A0_2 l0_2.length c0_2]] rfl mz ?_;(with_reducible refine (spec_plGood.calls k a0_0 _ _ l0_1 _ _ l0_2 false _ ?side1 ?side2 ?side3 ?side4 A7.out).mono ?_);(case side1=>exact cz (Kd.C_below HR0_1.out HB.out));(case side2=>exact HC0_1.out);(case side3=>exact cz (Kd.C_below HR0_2.out HB.out));(case side4=>exact HC0_2.out);rintro e w30 ⟨rfl,hb⟩;refine ⟨_,rfl,?_⟩;have n0_:=Aside0.mk (kb BK229.out hb);have n1_:=Aside0.mk (kb BK230.out hb);have n2_:=Aside0.mk (kb BK231.out hb);have n3_:=Aside0.mk (below_step bs hb);clear BK229 BK230 BK231 HB;have BK229:=n0_;have BK230:=n1_;have BK231:=n2_;have HB:=n3_;clear n0_ n1_ n2_ n3_;(try clear hb)))
   go_meet
   case rel=>exact ⟨_,(true),fz,H',⟨by first|omega|exact Nat.le_refl _⟩,⟨by (with_reducible repeat (first|refine blk_drewN ?_ _|refine blk_drew ?_|refine blk_alloc ?_ _));exact BK229.out⟩,⟨by (with_reducible repeat (first|refine blk_drewN ?_ _|refine blk_drew ?_|refine blk_alloc ?_ _));exact BK230.out⟩,⟨by (with_reducible repeat (first|refine blk_drewN ?_ _|refine blk_drew ?_|refine blk_alloc ?_ _));exact BK231.out⟩,⟨by repeat (first|(with_reducible first|exact HB.out|apply below_alloc|apply pw_below_drewN|apply below_drew1|refine below_set ?_ GE229.out|refine below_set ?_ GE230.out|refine below_set ?_ GE231.out)|exact HB.out)⟩⟩
 case rest=>
  clear HC3
  try clear c1
  try clear c2
  try clear p2
  try clear c4
  try clear c5
  try clear c8
  try clear c10
  try clear c11
  try clear c12
  try clear c15
  try clear c20
  try clear c21
  try clear c24
  try clear c27
  try clear c28
  try clear hcz13_0
  try clear hcz13_1
  try clear hcz13_2
  try clear hcz16_0
  try clear hcz16_1
  try clear hcz16_2
  try clear hcz18_0
  try clear hcz18_1
  try clear hcz18_2
  try clear hcz19_0
  try clear hcz19_1
  try clear hcz19_2
  try clear hcz22_0
  try clear hcz22_1
  try clear hcz22_2
  try clear hcz25_0
  try clear hcz25_1
  try clear hcz25_2
  try clear hcz29_0
  try clear hcz29_1
  try clear hcz29_2
  try clear hfz13_0
  try clear hfz13_1
  try clear hfz13_2
  try clear hfz16_0
  try clear hfz16_1
  try clear hfz16_2
  try clear hfz18_0
  try clear hfz18_1
  try clear hfz18_2
  try clear hfz19_0
  try clear hfz19_1
  try clear hfz19_2
  try clear hfz22_0
  try clear hfz22_1
  try clear hfz22_2
  try clear hfz25_0
  try clear hfz25_1
  try clear hfz25_2
  try clear hfz29_0
  try clear hfz29_1
  try clear hfz29_2
  obtain ⟨kq,x23_2,rfl,HA,HJ2,BK229,BK230,BK231,HB⟩:=hcut
  cases kq with
  | zero=>exact absurd HA.out (by simp [spec_ComposePlans.j0])
  | succ kj2=>
   have H:=HA.out
   clear HA
   simp only [spec_ComposePlans.j0] at H
   by_cases c31 : x23_2 = true
   ·subst c31
    rw [if_pos rfl] at H
    simp only [Option.some.injEq,Prod.mk.injEq] at H
    obtain ⟨rfl,rfl,rfl,rfl⟩:=H
    have hnb32:=NB231_229.out
    have hnc32:=NB229_231.out
    have hnb33:=NB231_230.out
    have hnc33:=NB230_231.out
    have hcz34_0 : wc.cell? ⟨gb231,0,none⟩ = some (.int .i64 0):=(blk_cell BK231.out 0).trans rfl
    have hcz34_1 : wc.cell? ⟨gb231,1,none⟩ = some (.slice none 0 0):=(blk_cell BK231.out 1).trans rfl
    have hcz34_2 : wc.cell? ⟨gb231,2,none⟩ = some (.slice none 0 0):=(blk_cell BK231.out 2).trans rfl
    have hfz34_0:=blk_frozen BK231.out 0
    have hfz34_1:=blk_frozen BK231.out 1
    have hfz34_2:=blk_frozen BK231.out 2
    go_wp2
    refine bodyPost_ret (results_ct rfl _ _ gb231 30 #[.int .i64 0,.slice none 0 0,.slice none 0 0] (0,0) _ rfl (by (with_reducible repeat (first|refine blk_drewN ?_ _|refine blk_drew ?_|refine blk_alloc ?_ _));refine blk_put (cs:=#[.int .i64 0,.slice none 0 0,.slice none 0 0]) ?_ 2 _ rfl;(with_reducible repeat (first|refine blk_drewN ?_ _|refine blk_drew ?_|refine blk_alloc ?_ _));refine blk_put (cs:=#[.int .i64 0,.slice none 0 0,.slice none 0 0]) ?_ 1 _ rfl;(with_reducible repeat (first|refine blk_drewN ?_ _|refine blk_drew ?_|refine blk_alloc ?_ _));refine blk_put (cs:=#[.int .i64 0,.slice none 0 0,.slice none 0 0]) ?_ 0 _ rfl;(with_reducible repeat (first|refine blk_drewN ?_ _|refine blk_drew ?_|refine blk_alloc ?_ _));exact BK231.out) Try.underlying30 rfl (by kernel_rfl)) rfl ?_
    exact ⟨_,_,by first|rfl|(simp [errW_none,errW_some] <;> rfl)|(simp [*,errW_none,errW_some] <;> rfl),by first|exact Kd.R_nil _ _ _ _ _|exact Kd.N_nil _ _ _ _ _|exact Kd.V_nil _ _ _ _ _|exact Kd.Q_nil _ _ _ _ _|exact Kd.S_nil _ _ _ _ _,by first|exact Kd.R_nil _ _ _ _ _|exact Kd.N_nil _ _ _ _ _|exact Kd.V_nil _ _ _ _ _|exact Kd.Q_nil _ _ _ _ _|exact Kd.S_nil _ _ _ _ _,by repeat (first|(with_reducible first|exact HB.out|apply below_alloc|apply pw_below_drewN|apply below_drew1|refine below_set ?_ GE229.out|refine below_set ?_ GE230.out|refine below_set ?_ GE231.out)|exact HB.out)⟩
   ·replace c31:=Bool.eq_false_iff.mpr c31
    subst c31
    rw [if_neg (show ¬ (false = true) by decide)] at H
    obtain ⟨⟨t234,t237⟩,A35,H⟩:=bd H
    try dsimp only at H
    obtain ⟨⟨t240,t241,t244,t247⟩,A36,H⟩:=bd H
    try dsimp only at H
    simp only [Option.some.injEq,Prod.mk.injEq] at H
    obtain ⟨rfl,rfl,rfl,rfl⟩:=H
    have hnb37:=NB229_230.out
    have hnc37:=NB230_229.out
    have hnb38:=NB229_231.out
    have hnc38:=NB231_229.out
    have hcz39_0 : wc.cell? ⟨gb229,0,none⟩ = some (.int .i64 a0_0):=(blk_cell BK229.out 0).trans rfl
    have hcz39_1 : wc.cell? ⟨gb229,1,none⟩ = some (.slice A0_1 l0_1.length c0_1):=(blk_cell BK229.out 1).trans rfl
    have hcz39_2 : wc.cell? ⟨gb229,2,none⟩ = some (.slice A0_2 l0_2.length c0_2):=(blk_cell BK229.out 2).trans rfl
    have hfz39_0:=blk_frozen BK229.out 0
    have hfz39_1:=blk_frozen BK229.out 1
    have hfz39_2:=blk_frozen BK229.out 2
    have hnb40:=NB230_231.out
    have hnc40:=NB231_230.out
    have hcz41_0 : wc.cell? ⟨gb230,0,none⟩ = some (.int .i64 a1_0):=(blk_cell BK230.out 0).trans rfl
    have hcz41_1 : wc.cell? ⟨gb230,1,none⟩ = some (.slice A1_1 l1_1.length c1_1):=(blk_cell BK230.out 1).trans rfl
    have hcz41_2 : wc.cell? ⟨gb230,2,none⟩ = some (.slice A1_2 l1_2.length c1_2):=(blk_cell BK230.out 2).trans rfl
    have hfz41_0:=blk_frozen BK230.out 0
    have hfz41_1:=blk_frozen BK230.out 1
    have hfz41_2:=blk_frozen BK230.out 2
    go_wp2_with (first|((with_reducible refine gate_callee (f:=88) rfl ?_);refine goesL_ (some 33) rfl rfl Try.func88 (by kernel_rfl) rfl #[.slice A0_1 l0_1.length c0_1,.int .i64 a0_0,.agg #[.int .i64 a1_0,.slice A1_1 l1_1.length c1_1,.slice A1_2 l1_2.length c1_2],.slice A0_2 l0_2.length c0_2] rfl mz ?_;(with_reducible refine (spec_plThen.calls kj2 _ _ l0_1 a0_0 a1_0 _ _ l1_1 _ _ l1_2 _ _ l0_2 t234 t237 _ ?side1 ?side2 ?side3 ?side4 ?side5 ?side6 ?side7 ?side8 A35.out).mono ?_);(case side1=>exact cz (Kd.C_below HR0_1.out HB.out));(case side2=>exact HC0_1.out);(case side3=>exact cz (Kd.C_below HR1_1.out HB.out));(case side4=>exact HC1_1.out);(case side5=>exact cz (Kd.C_below HR1_2.out HB.out));(case side6=>exact HC1_2.out);(case side7=>exact cz (Kd.C_below HR0_2.out HB.out));(case side8=>exact HC0_2.out);rintro e w42 ⟨v235,v238,rfl,ho0,ho1,hb⟩;refine ⟨_,rfl,?_⟩;have n0_:=Aside0.mk (Kd.R_lower ho0 (below_size bs));have n1_:=Aside0.mk (Kd.R_lower ho1 (below_size bs));have n2_:=Aside0.mk (kb BK229.out hb);have n3_:=Aside0.mk (kb BK230.out hb);have n4_:=Aside0.mk (kb BK231.out hb);have n5_:=Aside0.mk (below_step bs hb);clear BK229 BK230 BK231 HB;have HO236:=n0_;have HO239:=n1_;have BK229:=n2_;have BK230:=n3_;have BK231:=n4_;have HB:=n5_;clear n0_ n1_ n2_ n3_ n4_ n5_;(try clear hb);(try clear ho0);(try clear ho1);have hcz43_0 : w42.cell? ⟨gb229,0,none⟩ = some (.int .i64 a0_0):=(blk_cell BK229.out 0).trans rfl;have hcz43_1 : w42.cell? ⟨gb229,1,none⟩ = some (.slice A0_1 l0_1.length c0_1):=(blk_cell BK229.out 1).trans rfl;have hcz43_2 : w42.cell? ⟨gb229,2,none⟩ = some (.slice A0_2 l0_2.length c0_2):=(blk_cell BK229.out 2).trans rfl;have hfz43_0:=blk_frozen BK229.out 0;have hfz43_1:=blk_frozen BK229.out 1;have hfz43_2:=blk_frozen BK229.out 2;obtain ⟨Ao44,co44,eo44⟩:=Kd.R_slice HO239.out;subst eo44;obtain ⟨Ao45,co45,eo45⟩:=Kd.R_slice HO236.out;subst eo45)|((with_reducible refine gate_callee (f:=83) rfl ?_);refine goesL_ (some 41) rfl rfl Try.func83 (by kernel_rfl) rfl #[.agg #[.int .i64 a0_0,.slice Ao45 t234.length co45,.slice Ao44 t237.length co44]] rfl mz ?_;(with_reducible refine (spec_plIf.calls kj2 a0_0 (fun k_=>some k_ = (.slice Ao45 t234.length co45 : Value).ownBlock) (.slice Ao45 t234.length co45) t234 (fun k_=>some k_ = (.slice Ao44 t237.length co44 : Value).ownBlock) (.slice Ao44 t237.length co44) t237 t240 t241 t244 t247 w _ ?side1 ?side2 ?side3 A36.out).mono ?_);(case side1=>repeat (first|(with_reducible first|exact HB.out|apply below_alloc|apply pw_below_drewN|apply below_drew1|refine below_set ?_ GE229.out|refine below_set ?_ GE230.out|refine below_set ?_ GE231.out)|exact HB.out));(case side2=>exact Kd.R_tight rfl HO236.out);(case side3=>exact Kd.R_tight rfl HO239.out);rintro e w46 ⟨v242,v245,rfl,ho0,ho1,hb,hkp⟩;refine ⟨_,rfl,?_⟩;have n0_:=Aside0.mk (blk_kept (kz BK229.out) hkp (fun hs_=>Or.elim hs_ (fun e_=>(fun e_=>(Kd.R_ne HO236.out BK229.out (by decide)) e_) e_) (fun e_=>(fun e_=>(Kd.R_ne HO239.out BK229.out (by decide)) e_) e_)));have n1_:=Aside0.mk (blk_kept (kz BK230.out) hkp (fun hs_=>Or.elim hs_ (fun e_=>(fun e_=>(Kd.R_ne HO236.out BK230.out (by decide)) e_) e_) (fun e_=>(fun e_=>(Kd.R_ne HO239.out BK230.out (by decide)) e_) e_)));have n2_:=Aside0.mk (blk_kept (kz BK231.out) hkp (fun hs_=>Or.elim hs_ (fun e_=>(fun e_=>(Kd.R_ne HO236.out BK231.out (by decide)) e_) e_) (fun e_=>(fun e_=>(Kd.R_ne HO239.out BK231.out (by decide)) e_) e_)));have n3_:=Aside0.mk (Kd.R_mono (ok':=fun k_=>True) ho0 (fun k_ hk_=>trivial));have n4_:=Aside0.mk (Kd.R_mono (ok':=fun k_=>True) ho1 (fun k_ hk_=>trivial));have n5_:=Aside0.mk (hb);clear BK229 BK230 BK231 HB HO236 HO239;have BK229:=n0_;have BK230:=n1_;have BK231:=n2_;have HO243:=n3_;have HO246:=n4_;have HB:=n5_;clear n0_ n1_ n2_ n3_ n4_ n5_;(try clear hb);(try clear hkp);(try clear ho0);(try clear ho1);have hcz47_0 : w46.cell? ⟨gb231,0,none⟩ = some (.int .i64 0):=(blk_cell BK231.out 0).trans rfl;have hcz47_1 : w46.cell? ⟨gb231,1,none⟩ = some (.slice none 0 0):=(blk_cell BK231.out 1).trans rfl;have hcz47_2 : w46.cell? ⟨gb231,2,none⟩ = some (.slice none 0 0):=(blk_cell BK231.out 2).trans rfl;have hfz47_0:=blk_frozen BK231.out 0;have hfz47_1:=blk_frozen BK231.out 1;have hfz47_2:=blk_frozen BK231.out 2;obtain ⟨Ao48,co48,eo48⟩:=Kd.R_slice HO243.out;subst eo48;obtain ⟨Ao49,co49,eo49⟩:=Kd.R_slice HO246.out;subst eo49))
    refine bodyPost_ret (results_ct rfl _ _ gb231 30 #[.int .i64 t240,.slice Ao48 t241.length co48,.slice Ao49 t244.length co49] (0,0) _ rfl (by (with_reducible repeat (first|refine blk_drewN ?_ _|refine blk_drew ?_|refine blk_alloc ?_ _));refine blk_put (cs:=#[.int .i64 t240,.slice Ao48 t241.length co48,.slice none 0 0]) ?_ 2 _ rfl;(with_reducible repeat (first|refine blk_drewN ?_ _|refine blk_drew ?_|refine blk_alloc ?_ _));refine blk_put (cs:=#[.int .i64 t240,.slice none 0 0,.slice none 0 0]) ?_ 1 _ rfl;(with_reducible repeat (first|refine blk_drewN ?_ _|refine blk_drew ?_|refine blk_alloc ?_ _));refine blk_put (cs:=#[.int .i64 0,.slice none 0 0,.slice none 0 0]) ?_ 0 _ rfl;(with_reducible repeat (first|refine blk_drewN ?_ _|refine blk_drew ?_|refine blk_alloc ?_ _));exact BK231.out) Try.underlying30 rfl (by kernel_rfl)) rfl ?_
    exact ⟨_,_,by first|rfl|(simp [errW_none,errW_some] <;> rfl)|(simp [*,errW_none,errW_some] <;> rfl),by (with_reducible repeat (first|apply Kd.R_alloc|apply Kd.R_drewN|apply Kd.R_drew));exact Kd.R_mono (Kd.R_far (p:=⟨gb231,2,none⟩) (Kd.R_far (p:=⟨gb231,1,none⟩) (Kd.R_far (p:=⟨gb231,0,none⟩) (Kd.R_types HO243.out BK231.out (by decide)) (fun _ hk=>hk.2) (.int .i64 t240)) (fun _ hk=>hk.2) (.slice Ao48 t241.length co48)) (fun _ hk=>hk.2) (.slice Ao49 t244.length co49)) (fun _ hk=>trivial),by (with_reducible repeat (first|apply Kd.R_alloc|apply Kd.R_drewN|apply Kd.R_drew));exact Kd.R_mono (Kd.R_far (p:=⟨gb231,2,none⟩) (Kd.R_far (p:=⟨gb231,1,none⟩) (Kd.R_far (p:=⟨gb231,0,none⟩) (Kd.R_types HO246.out BK231.out (by decide)) (fun _ hk=>hk.2) (.int .i64 t240)) (fun _ hk=>hk.2) (.slice Ao48 t241.length co48)) (fun _ hk=>hk.2) (.slice Ao49 t244.length co49)) (fun _ hk=>trivial),by repeat (first|(with_reducible first|exact HB.out|apply below_alloc|apply pw_below_drewN|apply below_drew1|refine below_set ?_ GE229.out|refine below_set ?_ GE230.out|refine below_set ?_ GE231.out)|exact HB.out)⟩
end Go.Proofs.Ytopkiccdfmjjjaa.MFnExactComposePlans
--sq
