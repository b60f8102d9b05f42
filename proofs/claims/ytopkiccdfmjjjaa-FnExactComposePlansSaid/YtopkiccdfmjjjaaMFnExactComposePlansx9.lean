import Derived.Test.YtopkiccdfmjjjaaMFnExactComposePlansx0
import Derived.Test.YtopkiccdfmjjjaaMFnExactComposePlansx7
import Derived.Test.YtopkiccdfmjjjaaMFnExactComposePlansx8
import Derived.Test.YtopkiccdfmjjjaaMFnExactComposePlansx1
import Derived.Test.YtopkiccdfmjjjaaMFnExactComposePlansx2
import Derived.Test.YtopkiccdfmjjjaaMFnExactComposePlansx3
import Derived.Test.YtopkiccdfmjjjaaMFnExactComposePlansx4
import Derived.Test.YtopkiccdfmjjjaaMFnExactComposePlansx5
import Derived.Test.YtopkiccdfmjjjaaMFnExactComposePlansx6
namespace Go.Proofs.Ytopkiccdfmjjjaa.MFnExactComposePlans
open Go.RowKit Go.Proofs.YtopkiccdfmjjjaaW.PrintWords Go.Proofs.YtopkiccdfmjjjaaW.PrintLast Go.Proofs.YtopkiccdfmjjjaaW.PrintMore Go.Proofs.YtopkiccdfmjjjaaV Go.Proofs.YtopkiccdfmjjjaaZ
attribute [local go_sem] max2_int min2_int max_two min_two max_three min_three max_four min_four   -- for this text's walks alone
set_option linter.unusedVariables false
set_option linter.unusedSimpArgs false
/-! ### impl_Plan_behind: function 89 -/
def impl_Plan_behind.l0 : Nat → List Int → List (S69) → Int → Int → Int → List (S69) → List Int → Option (List Int × Int × (List (S69)) × List Int)
 | 0,_,_,_,_,_,_,_=>none
 | k + 1,x7,x15,x16,x17,x296000,x296001,x296002=>if x17 < x16 then (if 0 ≤ x17 then (if x17 < (x15.length : Int) then ((impl_Plan_many.f x296000 x296001 x296002).bind fun t301=>(if x7.length < 17592186044416 then ((some (x7 ++ [t301] : List Int)).bind fun y302=>(if 0 ≤ ((rd_T69 x15 x17).f0) then (if ((rd_T69 x15 x17).f0) < (y302.length : Int) then (if 0 ≤ ((rd_T69 x15 x17).f1) then (if ((rd_T69 x15 x17).f1) < (y302.length : Int) then ((impl_step.f (rd y302 ((rd_T69 x15 x17).f0)) (rd y302 ((rd_T69 x15 x17).f1))).bind fun bt307=>(if x296001.length < 8796093022208 then (impl_Plan_behind.l0 k y302 x15 x16 (wrap64 (x17 + 1)) x296000 (x296001 ++ [(⟨bt307.1,bt307.2⟩ : S69)]) x296002) else (none))) else (none)) else (none)) else (none)) else (none))) else (none))) else (none)) else (none)) else (some (x7,x296000,x296001,x296002))
def impl_Plan_behind.f (k : Nat) (a0_0 : Int) (l0_1 : List (S69)) (l0_2 : List Int) (a1_0 : Int) (l1_1 : List (S69)) (l1_2 : List Int) (l2 : List Int) : Option (List Int × Int × (List (S69)) × List Int):=(slices_Clone_int_int.f l2).bind fun t296=>(impl_Plan_behind.l0 k t296 l1_1 (l1_1.length : Int) 0 a0_0 l0_1 l0_2)
theorem impl_Plan_behind.mono_l : ∀ k,(∀ y0 y1 y2 y3 y4 y5 y6,LeO (impl_Plan_behind.l0 k y0 y1 y2 y3 y4 y5 y6) (impl_Plan_behind.l0 (k + 1) y0 y1 y2 y3 y4 y5 y6))
 | 0=>fun _ _ _ _ _ _ _ r h=>by simp [impl_Plan_behind.l0] at h
 | k + 1=>by
  have ih0:=impl_Plan_behind.mono_l k
  ·intro y0 y1 y2 y3 y4 y5 y6
   unfold impl_Plan_behind.l0
   repeat' first
   | (with_reducible exact ih0 _ _ _ _ _ _ _)
   | (with_reducible exact LeO.refl _)
   | (with_reducible exact LeO.none _)
   | (with_reducible refine LeO.ite ?_ ?_)
   | (with_reducible refine LeO.bind ?_ (fun _=>?_))
   | exact ih0 _ _ _ _ _ _ _
   | exact LeO.none _
   | refine LeO.ite ?_ ?_
   | refine LeO.bind ?_ (fun _=>?_)
theorem impl_Plan_behind.mono : ∀ a0 a1 a2 a3 a4 a5 a6 k,LeO (impl_Plan_behind.f k a0 a1 a2 a3 a4 a5 a6) (impl_Plan_behind.f (k + 1) a0 a1 a2 a3 a4 a5 a6):=by
 intro a0 a1 a2 a3 a4 a5 a6 k
 have ih0:=impl_Plan_behind.mono_l k
 unfold impl_Plan_behind.f
 repeat' first
   | (with_reducible exact ih0 _ _ _ _ _ _ _)
   | (with_reducible exact LeO.refl _)
   | (with_reducible exact LeO.none _)
   | (with_reducible refine LeO.ite ?_ ?_)
   | (with_reducible refine LeO.bind ?_ (fun _=>?_))
   | exact ih0 _ _ _ _ _ _ _
   | exact LeO.none _
   | refine LeO.ite ?_ ?_
   | refine LeO.bind ?_ (fun _=>?_)
def impl_Plan_behind.T6 : Bool × List (List Nat × List Nat):=(true,[([],[]),([],[]),([1],[1]),([2],[2]),([3],[3]),([],[]),([],[]),([6],[6]),([5,7],[5,7]),([8],[8]),([],[]),([],[]),([11],[11]),([10,12],[10,12]),([13],[13]),([9,14],[9,14]),([15],[15]),([4,16,15],[4,16]),([0,0,1,2,3,4,5,6,7,8,9,10,11,12,13,14,15,16,17],[0]),([18,0,1,2,3,4,5,6,7,8,9,10,11,12,13,14,15,16,17],[18]),([19,17,17,0,1,2,3,4,5,6,7,8,9,10,11,12,13,14,15,16,17],[17,19])])
def impl_Plan_behind.B6 : List Nat:=[0,0,2,6,14,0,0,64,224,480,0,0,2048,7168,15360,32736,65504,131070,262143,524287,1048575]
theorem impl_Plan_behind.tab6 : rtab .any (opsOf Try.f89 6) = impl_Plan_behind.T6:=by kernel_rfl
theorem impl_Plan_behind.bits6 : waitsOk impl_Plan_behind.T6.2 impl_Plan_behind.B6 = true:=by kernel_rfl
set_option maxHeartbeats 8000000 in
set_option maxRecDepth 100000 in
theorem impl_Plan_behind.calls (k : Nat) (gb295 : Nat) (a0_0 : Int) (P0_1_ : Nat → Prop) (u9000_ : Value) (l0_1 : List (S69)) (P0_2_ : Nat → Prop) (u9001_ : Value) (l0_2 : List Int) (g1_ : Nat) (a1_0 : Int) (A1_1 : Option Addr) (c1_1 : Nat) (l1_1 : List (S69)) (A1_2 : Option Addr) (c1_2 : Nat) (l1_2 : List Int) (A2 : Option Addr) (c2 : Nat) (l2 : List Int) (r1 : List Int) (r2 : Int) (r3 : List (S69)) (r4 : List Int) (w0 w : World) (hB : Below w0.heap.size w0 w) (hxp_ : w.heap[gb295]? = some (.cells #[.int .i64 a0_0,u9000_,u9001_] 30 (0,0))) (hgp_ : w0.heap.size ≤ gb295) (hPp_ : P0_1_ gb295) (hne_ : g1_ ≠ gb295) (hx1_ : w.heap[g1_]? = some (.cells #[.int .i64 a1_0,.slice A1_1 l1_1.length c1_1,.slice A1_2 l1_2.length c1_2] 30 (0,0))) (ho0_1 : Kd.R k69 69 w w0.heap.size P0_1_ u9000_ l0_1) (ho0_2 : Kd.R (Kd.int .i64) 3 w w0.heap.size P0_2_ u9001_ l0_2) (hr1_1 : ∀ W_,Kept w W_ (fun k_=>P0_1_ k_ ∨ P0_2_ k_) → Kd.C k69 W_ A1_1 l1_1.length l1_1) (hc1_1 : l1_1.length ≤ c1_1) (hr1_2 : ∀ W_,Kept w W_ (fun k_=>P0_1_ k_ ∨ P0_2_ k_) → Kd.C (Kd.int .i64) W_ A1_2 l1_2.length l1_2) (hc1_2 : l1_2.length ≤ c1_2) (hr2 : ∀ W_,Kept w W_ (fun k_=>P0_1_ k_ ∨ P0_2_ k_) → Kd.C (Kd.int .i64) W_ A2 l2.length l2) (hc2 : l2.length ≤ c2) (h : impl_Plan_behind.f k a0_0 l0_1 l0_2 a1_0 l1_1 l1_2 l2 = some (r1,r2,r3,r4)) :
  Calls Try.prog 89 #[.pointer (some ⟨gb295,0,none⟩),.pointer (some ⟨g1_,0,none⟩),.slice A2 l2.length c2] w fun e w'=>∃ v0_ v2_ v3_ : Value,e = .returned v0_ ∧ Aside0 (u9001_ = v3_ ∧ a0_0 = r2 ∧ l0_2 = r4) ∧ w'.heap[gb295]? = some (.cells #[.int .i64 r2,v2_,v3_] 30 (0,0)) ∧ Kd.R (Kd.int .i64) 3 w' w0.heap.size (fun k_=>((P0_1_ k_ ∨ P0_2_ k_) ∨ w.heap.size ≤ k_) ∧ some k_ ≠ (v3_ : Value).ownBlock) v0_ r1 ∧ Kd.R k69 69 w' w0.heap.size (fun k_=>((P0_1_ k_ ∨ P0_2_ k_) ∨ w.heap.size ≤ k_)) v2_ r3 ∧ Kd.R (Kd.int .i64) 3 w' w0.heap.size (fun k_=>((P0_1_ k_ ∨ P0_2_ k_) ∨ w.heap.size ≤ k_) ∧ some k_ ≠ (v0_ : Value).ownBlock) v3_ r4 ∧ Below w0.heap.size w0 w' ∧ Kept w w' (fun k_=>P0_1_ k_ ∨ P0_2_ k_):=by
 have hu30:=Try.underlying30
 have hu69:=Try.underlying69
 have HO0_1:=Aside0.mk (show Kd.R k69 69 w w0.heap.size (fun k_=>((P0_1_ k_ ∨ P0_2_ k_) ∨ w.heap.size ≤ k_)) u9000_ l0_1 from Kd.R_mono ho0_1 (fun k_ hk=>(.inl (.inl hk))))
 have HO0_2:=Aside0.mk (show Kd.R (Kd.int .i64) 3 w w0.heap.size (fun k_=>((P0_1_ k_ ∨ P0_2_ k_) ∨ w.heap.size ≤ k_)) u9001_ l0_2 from Kd.R_mono ho0_2 (fun k_ hk=>(.inl (.inr hk))))
 have HR1_1:=Aside0.mk hr1_1
 have HC1_1:=Aside0.mk hc1_1
 clear hr1_1 hc1_1
 have HR1_2:=Aside0.mk hr1_2
 have HC1_2:=Aside0.mk hc1_2
 clear hr1_2 hc1_2
 have HR2:=Aside0.mk hr2
 have HC2:=Aside0.mk hc2
 clear hr2 hc2
 have BK1:=Aside0.mk hx1_
 clear hx1_
 have HK:=Aside0.mk (Kept.refl w (fun k_=>P0_1_ k_ ∨ P0_2_ k_))
 have HW0:=Aside0.mk hB.size
 have HB:=Aside0.mk hB
 clear hB
 have BK295:=Aside0.mk hxp_
 have GW295:=Aside0.mk (show (P0_1_ gb295 ∨ P0_2_ gb295) from .inl hPp_)
 have GE295:=Aside0.mk hgp_
 have NB1_295:=Aside0.mk hne_
 have NB295_1:=Aside0.mk (Ne.symm hne_)
 clear hxp_ hgp_ hPp_ hne_
 have H : ((slices_Clone_int_int.f l2).bind fun t296=>(impl_Plan_behind.l0 k t296 l1_1 (l1_1.length : Int) 0 a0_0 l0_1 l0_2)) = some (r1,r2,r3,r4):=h
 clear h
 obtain ⟨t296,A4,H⟩:=bd H
 have H':=Aside0.mk H
 clear H
 obtain ⟨Ao5,co5,eo5⟩:=Kd.R_slice HO0_1.out
 subst eo5
 obtain ⟨Ao6,co6,eo6⟩:=Kd.R_slice HO0_2.out
 subst eo6
 go_enter Try.func89,Try.ntmps89
 go_wp2_with (first|((with_reducible refine gate_callee (f:=108) rfl ?_);refine goesL_ (some 11) rfl rfl Try.func108 (by kernel_rfl) rfl #[.slice A2 l2.length c2] rfl mz ?_;(with_reducible refine (slices_Clone_int_int.calls _ _ l2 t296 _ ?side1 ?side2 A4.out).mono ?_);(case side1=>exact Kd.C_kept_now HR2.out (by repeat (first|(with_reducible first|exact HK.out|apply Kept.alloc|apply Kept.drewN|apply Kept.drew|refine Kept.setCell ?_ (.inr GW1.out) _|refine Kept.setCell ?_ (.inl GW295.out) _)|exact HK.out)));(case side2=>exact HC2.out);rintro e w8 ⟨v297,rfl,ho0,hb⟩;refine ⟨_,rfl,?_⟩;have n0_:=Aside0.mk (Kd.R_below (rz HO0_1.out) hb);have n1_:=Aside0.mk (Kd.R_elder' (rz HO0_2.out) (Kd.R_base ho0) hb);have n2_:=Aside0.mk (Kd.R_lower (Kd.R_new' (Kd.R_newM (M:=fun k_=>((P0_1_ k_ ∨ P0_2_ k_) ∨ w.heap.size ≤ k_)) ho0 (by first|exact HK.out.1|exact (show Kept w _ (fun k_=>P0_1_ k_ ∨ P0_2_ k_) from by repeat (first|(with_reducible first|exact HK.out|apply Kept.alloc|apply Kept.drewN|apply Kept.drew|refine Kept.setCell ?_ (.inr GW1.out) _|refine Kept.setCell ?_ (.inl GW295.out) _)|exact HK.out)).1) (fun k_ h_=>.inr h_)) (Kd.R_lt (rz HO0_2.out))) (below_size bs));have n3_:=Aside0.mk (kb BK1.out hb);have n4_:=Aside0.mk (kb BK295.out hb);have n5_:=Aside0.mk (Kept.below (S:=(fun k_=>P0_1_ k_ ∨ P0_2_ k_)) (by repeat (first|(with_reducible first|exact HK.out|apply Kept.alloc|apply Kept.drewN|apply Kept.drew|refine Kept.setCell ?_ (.inr GW1.out) _|refine Kept.setCell ?_ (.inl GW295.out) _)|exact HK.out)) hb);have n6_:=Aside0.mk (below_step bs hb);clear HO0_1 HO0_2 BK1 BK295 HK HB;have HO0_1:=n0_;have HO0_2:=n1_;have HO298:=n2_;have BK1:=n3_;have BK295:=n4_;have HK:=n5_;have HB:=n6_;clear n0_ n1_ n2_ n3_ n4_ n5_ n6_;(try clear hb);(try clear ho0);have hnb9:=NB1_295.out;have hnc9:=NB295_1.out;have hcz10_0 : w8.cell? ⟨g1_,0,none⟩ = some (.int .i64 a1_0):=(blk_cell BK1.out 0).trans rfl;have hcz10_1 : w8.cell? ⟨g1_,1,none⟩ = some (.slice A1_1 l1_1.length c1_1):=(blk_cell BK1.out 1).trans rfl;have hcz10_2 : w8.cell? ⟨g1_,2,none⟩ = some (.slice A1_2 l1_2.length c1_2):=(blk_cell BK1.out 2).trans rfl;have hfz10_0:=blk_frozen BK1.out 0;have hfz10_1:=blk_frozen BK1.out 1;have hfz10_2:=blk_frozen BK1.out 2))
 go_loopg [7,17] k (fun kq v7 v17 w'=>∃ (x7_1 : List Int) (x17_1 : Int) (x296001_1 : List (S69)) (u296001 : Value),v17 = .int .i64 x17_1 ∧ Aside0 (impl_Plan_behind.l0 kq x7_1 l1_1 (l1_1.length : Int) x17_1 a0_0 x296001_1 l0_2 = some (r1,r2,r3,r4)) ∧ Aside0 (kq ≤ k) ∧ Aside0 (Kd.R (Kd.int .i64) 3 w' w0.heap.size (fun k_=>((P0_1_ k_ ∨ P0_2_ k_) ∨ w.heap.size ≤ k_) ∧ some k_ ≠ ((.slice Ao6 l0_2.length co6) : Value).ownBlock) v7 x7_1) ∧ Aside0 (Kd.R k69 69 w' w0.heap.size (fun k_=>((P0_1_ k_ ∨ P0_2_ k_) ∨ w.heap.size ≤ k_)) u296001 x296001_1) ∧ Aside0 (Kd.R (Kd.int .i64) 3 w' w0.heap.size (fun k_=>((P0_1_ k_ ∨ P0_2_ k_) ∨ w.heap.size ≤ k_) ∧ some k_ ≠ (v7 : Value).ownBlock) (.slice Ao6 l0_2.length co6) l0_2) ∧ Aside0 (w'.heap[g1_]? = some (.cells #[.int .i64 a1_0,(.slice A1_1 l1_1.length c1_1),(.slice A1_2 l1_2.length c1_2)] 30 (0,0))) ∧ Aside0 (w'.heap[gb295]? = some (.cells #[.int .i64 a0_0,u296001,(.slice Ao6 l0_2.length co6)] 30 (0,0))) ∧ Aside0 (Kept w w' (fun k_=>P0_1_ k_ ∨ P0_2_ k_)) ∧ Aside0 (Below w0.heap.size w0 w'))
 case atStart=>exact ⟨(t296),(0),(l0_1),(.slice Ao5 l0_1.length co5),fz,H',⟨Nat.le_refl _⟩,⟨by (with_reducible repeat (first|apply Kd.R_alloc|apply Kd.R_drewN|apply Kd.R_drew));exact Kd.R_mono HO298.out (fun _ hk=>⟨hk.1.1,hk.2⟩)⟩,⟨by (with_reducible repeat (first|apply Kd.R_alloc|apply Kd.R_drewN|apply Kd.R_drew));exact HO0_1.out⟩,⟨by (with_reducible repeat (first|apply Kd.R_alloc|apply Kd.R_drewN|apply Kd.R_drew));exact HO0_2.out⟩,⟨by (with_reducible repeat (first|refine blk_drewN ?_ _|refine blk_drew ?_|refine blk_alloc ?_ _));exact BK1.out⟩,⟨by (with_reducible repeat (first|refine blk_drewN ?_ _|refine blk_drew ?_|refine blk_alloc ?_ _));exact BK295.out⟩,⟨by repeat (first|(with_reducible first|exact HK.out|apply Kept.alloc|apply Kept.drewN|apply Kept.drew|refine Kept.setCell ?_ (.inr GW1.out) _|refine Kept.setCell ?_ (.inl GW295.out) _)|exact HK.out)⟩,⟨by repeat (first|(with_reducible first|exact HB.out|apply below_alloc|apply pw_below_drewN|apply below_drew1|refine below_set ?_ GE1.out|refine below_set ?_ GE295.out)|exact HB.out)⟩⟩
 case round=>
  clear H'
  try clear c1
  try clear hx1
  try clear c2
  try clear p2
  try clear c8
  try clear c9
  try clear c10
  try clear hcz10_0
  try clear hcz10_1
  try clear hcz10_2
  try clear hfz10_0
  try clear hfz10_1
  try clear hfz10_2
  obtain ⟨x7_1,x17_1,x296001_1,u296001,rfl,HA,HK1,HO_7,HO_296001,HO_296002,BK1,BK295,HK,HB⟩:=hrel
  cases gk with
  | zero=>exact absurd HA.out (by simp [impl_Plan_behind.l0])
  | succ k1=>
   have H:=HA.out
   clear HA
   simp only [impl_Plan_behind.l0] at H
   by_cases c11 : x17_1 < (l1_1.length : Int)
   ·rw [if_pos c11] at H
    have c11b0 : decide (x17_1 < (l1_1.length : Int)) = true:=decide_eq_true c11
    clear c11
    by_cases c12 : 0 ≤ x17_1
    ·rw [if_pos c12] at H
     have c12b0 : decide (0 ≤ x17_1) = true:=decide_eq_true c12
     clear c12
     by_cases c13 : x17_1 < (l1_1.length : Int)
     ·rw [if_pos c13] at H
      have c13b0 : decide (x17_1 < (l1_1.length : Int)) = true:=decide_eq_true c13
      clear c13
      obtain ⟨t301,A14,H⟩:=bd H
      by_cases c15 : x7_1.length < 17592186044416
      ·rw [if_pos c15] at H
       have LMc15:=Aside0.mk c15
       clear c15
       obtain ⟨y302,hy302⟩ : ∃ y_ : List Int,y_ = (x7_1 ++ [t301]):=⟨_,rfl⟩
       replace H : (if 0 ≤ ((rd_T69 l1_1 x17_1).f0) then (if ((rd_T69 l1_1 x17_1).f0) < (y302.length : Int) then (if 0 ≤ ((rd_T69 l1_1 x17_1).f1) then (if ((rd_T69 l1_1 x17_1).f1) < (y302.length : Int) then ((impl_step.f (rd y302 ((rd_T69 l1_1 x17_1).f0)) (rd y302 ((rd_T69 l1_1 x17_1).f1))).bind fun bt307=>(if x296001_1.length < 8796093022208 then (impl_Plan_behind.l0 k1 y302 l1_1 (l1_1.length : Int) (wrap64 (x17_1 + 1)) a0_0 (x296001_1 ++ [(⟨bt307.1,bt307.2⟩ : S69)]) l0_2) else (none))) else (none)) else (none)) else (none)) else (none)) = some (r1,r2,r3,r4):=by first|(rw [hy302];with_reducible exact H)|(have H2_:=(Option.bind_some _ _).symm.trans H;rw [hy302];with_reducible exact H2_)|(have H2_:=(Option.bind_some _ _).symm.trans H;with_reducible exact H2_)|with_reducible exact H|(rw [hy302];exact H)|exact H
       have Ny302:=Aside0.mk hy302
       clear hy302
       by_cases c16 : 0 ≤ ((rd_T69 l1_1 x17_1).f0)
       ·rw [if_pos c16] at H
        have c16b0 : decide (0 ≤ ((rd_T69 l1_1 x17_1).f0)) = true:=decide_eq_true c16
        clear c16
        by_cases c17 : ((rd_T69 l1_1 x17_1).f0) < (y302.length : Int)
        ·rw [if_pos c17] at H
         have c17b0 : decide (((rd_T69 l1_1 x17_1).f0) < (y302.length : Int)) = true:=decide_eq_true c17
         clear c17
         by_cases c18 : 0 ≤ ((rd_T69 l1_1 x17_1).f1)
         ·rw [if_pos c18] at H
          have c18b0 : decide (0 ≤ ((rd_T69 l1_1 x17_1).f1)) = true:=decide_eq_true c18
          clear c18
          by_cases c19 : ((rd_T69 l1_1 x17_1).f1) < (y302.length : Int)
          ·rw [if_pos c19] at H
           have c19b0 : decide (((rd_T69 l1_1 x17_1).f1) < (y302.length : Int)) = true:=decide_eq_true c19
           clear c19
           obtain ⟨⟨t307,t308⟩,A20,H⟩:=bd H
           try dsimp only at H
           by_cases c21 : x296001_1.length < 8796093022208
           ·rw [if_pos c21] at H
            have LMc21:=Aside0.mk c21
            clear c21
            obtain ⟨y309,hy309⟩ : ∃ y_ : List (S69),y_ = (x296001_1 ++ [(⟨t307,t308⟩ : S69)]):=⟨_,rfl⟩
            replace H : (impl_Plan_behind.l0 k1 y302 l1_1 (l1_1.length : Int) (wrap64 (x17_1 + 1)) a0_0 y309 l0_2) = some (r1,r2,r3,r4):=by first|(rw [hy309];with_reducible exact H)|(have H2_:=(Option.bind_some _ _).symm.trans H;rw [hy309];with_reducible exact H2_)|(have H2_:=(Option.bind_some _ _).symm.trans H;with_reducible exact H2_)|with_reducible exact H|(rw [hy309];exact H)|exact H
            have Ny309:=Aside0.mk hy309
            clear hy309
            have H':=Aside0.mk H
            clear H
            have p299 : 0 ≤ (x17_1 : Int):=of_decide_eq_true az
            have q299 : x17_1 < (l1_1.length : Int):=of_decide_eq_true az
            obtain ⟨ad299,e299,hx299_0,hx299_1⟩:=at_T69 (Kd.C_kept_now HR1_1.out HK.out) x17_1 p299 q299
            cases e299
            replace p299:=eq_true p299
            replace q299:=eq_true q299
            try go_wp2_with (first|((with_reducible refine gate_dst (N:=9) rfl ?_);refine box_event ?hg (N:=9) ?hd (cs:=#[.int .i64 0,.int .i64 0]) (t:=69) ?hr ?_;(case hd=>rfl);(case hg=>rfl);(case hr=>first|(go_simp;done)|(go_simp;rfl));intro gb300 hg w22 hbox hb;have n0_:=Aside0.mk (Kd.R_below (rz HO_7.out) hb);have n1_:=Aside0.mk (Kd.R_below (Kd.R_elderB (rz HO_296001.out) gb300 (Nat.le_of_eq hg.symm)) hb);have n2_:=Aside0.mk (Kd.R_below (rz HO_296002.out) hb);have n3_:=Aside0.mk (kb BK1.out hb);have n4_:=Aside0.mk (kb BK295.out hb);have n5_:=Aside0.mk (Kept.below (S:=(fun k_=>P0_1_ k_ ∨ P0_2_ k_)) (by repeat (first|(with_reducible first|exact HK.out|apply Kept.alloc|apply Kept.drewN|apply Kept.drew|refine Kept.setCell ?_ (.inr GW1.out) _|refine Kept.setCell ?_ (.inl GW295.out) _)|exact HK.out)) hb);have n6_:=Aside0.mk (below_step bs hb);have n7_:=Aside0.mk (hbox);have n8_:=Aside0.mk ((by rw [hg];exact (by first|exact HK.out.1|exact (show Kept w _ (fun k_=>P0_1_ k_ ∨ P0_2_ k_) from by repeat (first|(with_reducible first|exact HK.out|apply Kept.alloc|apply Kept.drewN|apply Kept.drew|refine Kept.setCell ?_ (.inr GW1.out) _|refine Kept.setCell ?_ (.inl GW295.out) _)|exact HK.out)).1) : w.heap.size ≤ gb300));have n9_:=Aside0.mk ((by rw [hg];exact (below_size bs) : w0.heap.size ≤ gb300));have n10_:=Aside0.mk (kn hg BK1.out);have n11_:=Aside0.mk (km hg BK1.out);have n12_:=Aside0.mk (kn hg BK295.out);have n13_:=Aside0.mk (km hg BK295.out);clear HO_7 HO_296001 HO_296002 BK1 BK295 HK HB;have HO_7:=n0_;have HO_296001:=n1_;have HO_296002:=n2_;have BK1:=n3_;have BK295:=n4_;have HK:=n5_;have HB:=n6_;have BK300:=n7_;have GW300:=n8_;have GE300:=n9_;have NB1_300:=n10_;have NB300_1:=n11_;have NB295_300:=n12_;have NB300_295:=n13_;clear n0_ n1_ n2_ n3_ n4_ n5_ n6_ n7_ n8_ n9_ n10_ n11_ n12_ n13_;clear hb hbox hg;have hnb23:=NB300_1.out;have hnc23:=NB1_300.out;have hnb24:=NB300_295.out;have hnc24:=NB295_300.out;have hcz25_0 : w22.cell? ⟨gb300,0,none⟩ = some (.int .i64 0):=(blk_cell BK300.out 0).trans rfl;have hcz25_1 : w22.cell? ⟨gb300,1,none⟩ = some (.int .i64 0):=(blk_cell BK300.out 1).trans rfl;have hfz25_0:=blk_frozen BK300.out 0;have hfz25_1:=blk_frozen BK300.out 1;obtain ⟨Ao26,co26,eo26⟩:=Kd.R_slice HO_296001.out;subst eo26)|((with_reducible refine gate_callee (f:=65) rfl ?_);refine goesL_ (some 23) rfl rfl Try.func65 (by kernel_rfl) rfl #[.pointer (some ⟨gb295,0,none⟩)] rfl mz ?_;(with_reducible refine (impl_Plan_many.calls gb295 a0_0 Ao26 co26 x296001_1 Ao6 co6 l0_2 t301 _ ?side1 ?side2 ?side3 ?side4 ?side5 A14.out).mono ?_);(case side1=>exact by (with_reducible repeat (first|refine blk_drewN ?_ _|refine blk_drew ?_|refine blk_alloc ?_ _));refine blk_far ?_ NB295_300.out _;(with_reducible repeat (first|refine blk_drewN ?_ _|refine blk_drew ?_|refine blk_alloc ?_ _));refine blk_far ?_ NB295_300.out _;(with_reducible repeat (first|refine blk_drewN ?_ _|refine blk_drew ?_|refine blk_alloc ?_ _));exact BK295.out);(case side2=>refine (Kd.R_reads' (e:=69) (base:=w0.heap.size) (ok:=fun k_=>(((P0_1_ k_ ∨ P0_2_ k_) ∨ w.heap.size ≤ k_) ∧ k_ ≠ gb300)) (n:=x296001_1.length) (c:=co26) ?_).2.2;exact (by (with_reducible repeat (first|apply Kd.R_alloc|apply Kd.R_drewN|apply Kd.R_drew));exact (Kd.R_mono (Kd.R_far (p:=⟨gb300,1,none⟩) (Kd.R_far (p:=⟨gb300,0,none⟩) (Kd.R_mono HO_296001.out (fun k_ hk=>(⟨hk,hk.2⟩ : _ ∧ k_ ≠ gb300))) (fun _ hk=>hk.2) (.int .i64 ((rd_T69 l1_1 x17_1).f0))) (fun _ hk=>hk.2) (.int .i64 ((rd_T69 l1_1 x17_1).f1))) (fun _ h_=>h_.1))));(case side3=>exact (Kd.R_reads' HO_296001.out).2.1);(case side4=>refine (Kd.R_reads' (e:=3) (base:=w0.heap.size) (ok:=fun k_=>(((P0_1_ k_ ∨ P0_2_ k_) ∨ w.heap.size ≤ k_) ∧ some k_ ≠ (u7 : Value).ownBlock)) (n:=l0_2.length) (c:=co6) ?_).2.2;exact (by (with_reducible repeat (first|apply Kd.R_alloc|apply Kd.R_drewN|apply Kd.R_drew));exact (Kd.R_mono (Kd.R_far (p:=⟨gb300,1,none⟩) (Kd.R_far (p:=⟨gb300,0,none⟩) (Kd.R_types HO_296002.out BK300.out (by decide)) (fun _ hk=>hk.2) (.int .i64 ((rd_T69 l1_1 x17_1).f0))) (fun _ hk=>hk.2) (.int .i64 ((rd_T69 l1_1 x17_1).f1))) (fun _ h_=>h_.1))));(case side5=>exact (Kd.R_reads' HO_296002.out).2.1);rintro e w27 ⟨rfl,hb⟩;refine ⟨_,rfl,?_⟩;have n0_:=Aside0.mk (Kd.R_below (by (with_reducible repeat (first|apply Kd.R_alloc|apply Kd.R_drewN|apply Kd.R_drew));exact (Kd.R_mono (Kd.R_far (p:=⟨gb300,1,none⟩) (Kd.R_far (p:=⟨gb300,0,none⟩) (Kd.R_types HO_7.out BK300.out (by decide)) (fun _ hk=>hk.2) (.int .i64 ((rd_T69 l1_1 x17_1).f0))) (fun _ hk=>hk.2) (.int .i64 ((rd_T69 l1_1 x17_1).f1))) (fun _ h_=>h_.1))) hb);have n1_:=Aside0.mk (Kd.R_below (by (with_reducible repeat (first|apply Kd.R_alloc|apply Kd.R_drewN|apply Kd.R_drew));exact (Kd.R_mono (Kd.R_far (p:=⟨gb300,1,none⟩) (Kd.R_far (p:=⟨gb300,0,none⟩) (Kd.R_mono HO_296001.out (fun k_ hk=>(⟨hk,hk.2⟩ : _ ∧ k_ ≠ gb300))) (fun _ hk=>hk.2) (.int .i64 ((rd_T69 l1_1 x17_1).f0))) (fun _ hk=>hk.2) (.int .i64 ((rd_T69 l1_1 x17_1).f1))) (fun _ h_=>h_.1))) hb);have n2_:=Aside0.mk (Kd.R_below (by (with_reducible repeat (first|apply Kd.R_alloc|apply Kd.R_drewN|apply Kd.R_drew));exact (Kd.R_mono (Kd.R_far (p:=⟨gb300,1,none⟩) (Kd.R_far (p:=⟨gb300,0,none⟩) (Kd.R_types HO_296002.out BK300.out (by decide)) (fun _ hk=>hk.2) (.int .i64 ((rd_T69 l1_1 x17_1).f0))) (fun _ hk=>hk.2) (.int .i64 ((rd_T69 l1_1 x17_1).f1))) (fun _ h_=>h_.1))) hb);have n3_:=Aside0.mk (blk_below (g:=g1_) (o:=.cells #[.int .i64 a1_0,.slice (some ad299) l1_1.length c1_1,.slice A1_2 l1_2.length c1_2] 30 (0,0)) (by (with_reducible repeat (first|refine blk_drewN ?_ _|refine blk_drew ?_|refine blk_alloc ?_ _));refine blk_far ?_ NB1_300.out _;(with_reducible repeat (first|refine blk_drewN ?_ _|refine blk_drew ?_|refine blk_alloc ?_ _));refine blk_far ?_ NB1_300.out _;(with_reducible repeat (first|refine blk_drewN ?_ _|refine blk_drew ?_|refine blk_alloc ?_ _));exact BK1.out) hb);have n4_:=Aside0.mk (blk_below (g:=gb295) (o:=.cells #[.int .i64 a0_0,.slice Ao26 x296001_1.length co26,.slice Ao6 l0_2.length co6] 30 (0,0)) (by (with_reducible repeat (first|refine blk_drewN ?_ _|refine blk_drew ?_|refine blk_alloc ?_ _));refine blk_far ?_ NB295_300.out _;(with_reducible repeat (first|refine blk_drewN ?_ _|refine blk_drew ?_|refine blk_alloc ?_ _));refine blk_far ?_ NB295_300.out _;(with_reducible repeat (first|refine blk_drewN ?_ _|refine blk_drew ?_|refine blk_alloc ?_ _));exact BK295.out) hb);have n5_:=Aside0.mk (blk_below (g:=gb300) (o:=.cells #[.int .i64 ((rd_T69 l1_1 x17_1).f0),.int .i64 ((rd_T69 l1_1 x17_1).f1)] 69 (0,0)) (by (with_reducible repeat (first|refine blk_drewN ?_ _|refine blk_drew ?_|refine blk_alloc ?_ _));refine blk_put (cs:=#[.int .i64 ((rd_T69 l1_1 x17_1).f0),.int .i64 0]) ?_ 1 _ rfl;(with_reducible repeat (first|refine blk_drewN ?_ _|refine blk_drew ?_|refine blk_alloc ?_ _));refine blk_put (cs:=#[.int .i64 0,.int .i64 0]) ?_ 0 _ rfl;(with_reducible repeat (first|refine blk_drewN ?_ _|refine blk_drew ?_|refine blk_alloc ?_ _));exact BK300.out) hb);have n6_:=Aside0.mk (Kept.below (S:=(fun k_=>P0_1_ k_ ∨ P0_2_ k_)) (by repeat (first|(with_reducible first|exact HK.out|apply Kept.alloc|apply Kept.drewN|apply Kept.drew|refine Kept.setCell ?_ (.inr GW1.out) _|refine Kept.setCell ?_ (.inl GW295.out) _|refine Kept.setCell ?_ (.inr GW300.out) _)|exact HK.out)) hb);have n7_:=Aside0.mk (below_step bs hb);clear HO_7 HO_296001 HO_296002 BK1 BK295 BK300 HK HB;have HO_7:=n0_;have HO_296001:=n1_;have HO_296002:=n2_;have BK1:=n3_;have BK295:=n4_;have BK300:=n5_;have HK:=n6_;have HB:=n7_;clear n0_ n1_ n2_ n3_ n4_ n5_ n6_ n7_;(try clear hb))|((with_reducible refine gate_builtin (b:=.append) (xs:=#[.tmp 21,.tmp 24]) rfl ?_);at_builtin;refine Kd.R_append (Kd.int .i64) (w0:=w0) w0.heap.size rfl (.tmp 21) (.tmp 24) 23 3 (.int .i64 0) 8 rfl Try.underlying23 info3 rfl (by decide) (by omega) u7 x7_1 t301 [.int .i64 t301] (fun k_=>((P0_1_ k_ ∨ P0_2_ k_) ∨ w.heap.size ≤ k_) ∧ some k_ ≠ (.slice Ao6 l0_2.length co6 : Value).ownBlock) (fun _=>False) rfl rfl ?aP (fun _ hk=>hk.elim) ?aF ?aO ?aB ?aS ?aL ?_;(case aP=>exact rfl);(case aB=>exact bs);(case aF=>exact (fun k_ hk=>⟨(.inr (Nat.le_trans (by first|exact HK.out.1|exact (show Kept w _ (fun k_=>P0_1_ k_ ∨ P0_2_ k_) from by repeat (first|(with_reducible first|exact HK.out|apply Kept.alloc|apply Kept.drewN|apply Kept.drew|refine Kept.setCell ?_ (.inr GW1.out) _|refine Kept.setCell ?_ (.inl GW295.out) _|refine Kept.setCell ?_ (.inr GW300.out) _)|exact HK.out)).1) hk)),Kd.fresh' (Kd.R_lt (rz HO_296002.out)) k_ hk⟩));(case aO=>exact (rz HO_7.out));(case aS=>exact (below_size bs));(case aL=>have:=LMc15.out;omega);intro v303 w28 ho hb hg hat;rw [← Ny302.out] at ho;have n0_:=Aside0.mk (Kd.R_over' (rz HO_296001.out) (Kd.R_typed (rz HO_7.out)) (by decide) hg);have n1_:=Aside0.mk (Kd.R_after (ok:=(fun k_=>((P0_1_ k_ ∨ P0_2_ k_) ∨ w.heap.size ≤ k_))) (rz HO_296002.out) hg hat);have n2_:=Aside0.mk (blk_grown (g:=g1_) (o:=.cells #[.int .i64 a1_0,.slice (some ad299) l1_1.length c1_1,.slice A1_2 l1_2.length c1_2] 30 (0,0)) (kz BK1.out) hg (Kd.R_ne HO_7.out BK1.out (by decide)));have n3_:=Aside0.mk (blk_grown (g:=gb295) (o:=.cells #[.int .i64 a0_0,.slice Ao26 x296001_1.length co26,.slice Ao6 l0_2.length co6] 30 (0,0)) (kz BK295.out) hg (Kd.R_ne HO_7.out BK295.out (by decide)));have n4_:=Aside0.mk (blk_grown (g:=gb300) (o:=.cells #[.int .i64 ((rd_T69 l1_1 x17_1).f0),.int .i64 ((rd_T69 l1_1 x17_1).f1)] 69 (0,0)) (kz BK300.out) hg (Kd.R_ne HO_7.out BK300.out (by decide)));have n5_:=Aside0.mk (hb);have n6_:=Aside0.mk (Kept.of_grown (S:=(fun k_=>P0_1_ k_ ∨ P0_2_ k_)) hg (by repeat (first|(with_reducible first|exact HK.out|apply Kept.alloc|apply Kept.drewN|apply Kept.drew|refine Kept.setCell ?_ (.inr GW1.out) _|refine Kept.setCell ?_ (.inl GW295.out) _|refine Kept.setCell ?_ (.inr GW300.out) _)|exact HK.out)) (fun k_ e_=>(HO_7.out.1 k_ e_).1));have n7_:=Aside0.mk (ho);clear HO_296001 HO_296002 BK1 BK295 BK300 HB HK HO_7;have HO_296001:=n0_;have HO_296002:=n1_;have BK1:=n2_;have BK295:=n3_;have BK300:=n4_;have HB:=n5_;have HK:=n6_;have HO304:=n7_;clear n0_ n1_ n2_ n3_ n4_ n5_ n6_ n7_;clear ho hb hg hat))
            have n0_:=Aside0.mk (Kd.R_drew HO_296001.out)
            have n1_:=Aside0.mk (Kd.R_drew HO_296002.out)
            have n2_:=Aside0.mk (Kd.R_drew HO304.out)
            have n3_:=Aside0.mk (blk_drew BK1.out)
            have n4_:=Aside0.mk (blk_drew BK295.out)
            have n5_:=Aside0.mk (blk_drew BK300.out)
            have n6_:=Aside0.mk (Kept.drew HK.out)
            have n7_:=Aside0.mk (below_drew1 HB.out)
            clear HO_296001
            clear HO_296002
            clear HO304
            clear BK1
            clear BK295
            clear BK300
            clear HK
            clear HB
            have HO_296001:=n0_
            have HO_296002:=n1_
            have HO304:=n2_
            have BK1:=n3_
            have BK295:=n4_
            have BK300:=n5_
            have HK:=n6_
            have HB:=n7_
            clear n0_ n1_ n2_ n3_ n4_ n5_ n6_ n7_
            obtain ⟨Ao30,co30,eo30⟩:=Kd.R_slice HO304.out
            (first|subst eo30|(injection eo30 with f1_ f2_ f3_;have f4_:=f1_.symm;have f5_:=f3_.symm;clear f1_ f2_ f3_;subst f4_;subst f5_))
            have p305 : 0 ≤ (((rd_T69 l1_1 x17_1).f0) : Int):=of_decide_eq_true az
            have q305 : ((rd_T69 l1_1 x17_1).f0) < (y302.length : Int):=of_decide_eq_true az
            obtain ⟨ad305,e305,hx305_0⟩:=Kd.at_int (Kd.R_reads' HO304.out).2.2 ((rd_T69 l1_1 x17_1).f0) p305 q305
            cases e305
            replace p305:=eq_true p305
            replace q305:=eq_true q305
            have p306 : 0 ≤ (((rd_T69 l1_1 x17_1).f1) : Int):=of_decide_eq_true az
            have q306 : ((rd_T69 l1_1 x17_1).f1) < (y302.length : Int):=of_decide_eq_true az
            obtain ⟨ad306,e306,hx306_0⟩:=Kd.at_int (Kd.R_reads' HO304.out).2.2 ((rd_T69 l1_1 x17_1).f1) p306 q306
            obtain rfl : ad305 = ad306:=(by injection e306)
            replace p306:=eq_true p306
            replace q306:=eq_true q306
            refine start_ (n:=21) (S:=fun w'=>w'.cell? ⟨gb295,0,none⟩ = some (.int .i64 a0_0) ∧ w'.cell? ⟨gb295,1,none⟩ = some (.slice Ao26 x296001_1.length co26) ∧ w'.cell? ⟨gb295,2,none⟩ = some (.slice Ao6 l0_2.length co6) ∧ w'.cell? ⟨gb300,0,none⟩ = some (.int .i64 ((rd_T69 l1_1 x17_1).f0)) ∧ w'.cell? ⟨gb300,1,none⟩ = some (.int .i64 ((rd_T69 l1_1 x17_1).f1)) ∧ w'.cell? (ad305.add (((rd_T69 l1_1 x17_1).f0)).toNat) = some (.int .i64 (rd y302 ((rd_T69 l1_1 x17_1).f0))) ∧ w'.cell? (ad305.add (((rd_T69 l1_1 x17_1).f1)).toNat) = some (.int .i64 (rd y302 ((rd_T69 l1_1 x17_1).f1)))) (ds:=[17,20]) #[false,false,false,false,false,false,false,false,false,false,false,false,false,false,false,false,false,false,false,false,false] (by kernel_rfl) rfl rfl ⟨(blk_cell BK295.out 0).trans rfl,(blk_cell BK295.out 1).trans rfl,(blk_cell BK295.out 2).trans rfl,(blk_cell BK300.out 0).trans rfl,(blk_cell BK300.out 1).trans rfl,hx305_0,hx306_0⟩ (fun hHeld=>?_);refine with_tabW impl_Plan_behind.tab6 impl_Plan_behind.bits6 (fun HT_ HW_=>?_)
            generalize w28.drew = w29 at HO_296001 HO_296002 HO304 BK1 BK295 BK300 HK HB hx305_0 hx306_0 hHeld ⊢
            refine pure_ (i:=0) (N:=some 26) (v:=?_) (a':=?_) #[true,false,false,false,false,false,false,false,false,false,false,false,false,false,false,false,false,false,false,false,false] rfl rfl (any_of HT_.out (by kernel_rfl)) (fun _ _ _ h=>h) (Or.inl ⟨by rfl,?_⟩) ?_ ?_
            rotate_left
            ·intro w'
             go_simp
             with_reducible rfl
            rotate_left
            ·simp only [Act.put,xa,xb,xc,i64_w,i32_w]
             rfl
            refine pure_ (i:=1) (N:=some 27) (v:=?_) (a':=?_) #[true,true,false,false,false,false,false,false,false,false,false,false,false,false,false,false,false,false,false,false,false] rfl rfl (any_of HT_.out (by kernel_rfl)) (fun _ _ _ h=>h) (Or.inl ⟨by rfl,?_⟩) ?_ ?_
            rotate_left
            ·intro w'
             go_simp
             with_reducible rfl
            rotate_left
            ·simp only [Act.put,xa,xb,xc,i64_w,i32_w]
             rfl
            refine pure_ (i:=2) (N:=some 28) (v:=?_) (a':=?_) #[true,true,true,false,false,false,false,false,false,false,false,false,false,false,false,false,false,false,false,false,false] rfl rfl (any_of HT_.out (by kernel_rfl)) (fun _ _ _ h=>h) (Or.inl ⟨by rfl,?_⟩) ?_ ?_
            rotate_left
            ·intro w'
             go_simp
             with_reducible rfl
            rotate_left
            ·simp only [Act.put,xa,xb,xc,i64_w,i32_w]
             rfl
            refine pure_ (i:=3) (N:=some 29) (v:=?_) (a':=?_) #[true,true,true,true,false,false,false,false,false,false,false,false,false,false,false,false,false,false,false,false,false] rfl rfl (any_of HT_.out (by kernel_rfl)) (fun _ _ _ h=>h) (Or.inl ⟨by rfl,?_⟩) ?_ ?_
            rotate_left
            ·intro w'
             go_simp
             with_reducible rfl
            rotate_left
            ·simp only [Act.put,xa,xb,xc,i64_w,i32_w]
             rfl
            refine pure_ (i:=5) (N:=some 31) (v:=?_) (a':=?_) #[true,true,true,true,false,true,false,false,false,false,false,false,false,false,false,false,false,false,false,false,false] rfl rfl (any_of HT_.out (by kernel_rfl)) (fun _ _ _ h=>h) (Or.inl ⟨by rfl,?_⟩) ?_ ?_
            rotate_left
            ·intro w'
             go_simp
             with_reducible rfl
            rotate_left
            ·simp only [Act.put,xa,xb,xc,i64_w,i32_w]
             rfl
            refine pure_ (i:=6) (N:=some 32) (v:=?_) (a':=?_) #[true,true,true,true,false,true,true,false,false,false,false,false,false,false,false,false,false,false,false,false,false] rfl rfl (any_of HT_.out (by kernel_rfl)) (fun _ _ _ h=>h) (Or.inl ⟨by rfl,?_⟩) ?_ ?_
            rotate_left
            ·intro w'
             go_simp
             with_reducible rfl
            rotate_left
            ·simp only [Act.put,xa,xb,xc,i64_w,i32_w]
             rfl
            refine pure_ (i:=10) (N:=some 36) (v:=?_) (a':=?_) #[true,true,true,true,false,true,true,false,false,false,true,false,false,false,false,false,false,false,false,false,false] rfl rfl (any_of HT_.out (by kernel_rfl)) (fun _ _ _ h=>h) (Or.inl ⟨by rfl,?_⟩) ?_ ?_
            rotate_left
            ·intro w'
             go_simp
             with_reducible rfl
            rotate_left
            ·simp only [Act.put,xa,xb,xc,i64_w,i32_w]
             rfl
            refine pure_ (i:=11) (N:=some 37) (v:=?_) (a':=?_) #[true,true,true,true,false,true,true,false,false,false,true,true,false,false,false,false,false,false,false,false,false] rfl rfl (any_of HT_.out (by kernel_rfl)) (fun _ _ _ h=>h) (Or.inl ⟨by rfl,?_⟩) ?_ ?_
            rotate_left
            ·intro w'
             go_simp
             with_reducible rfl
            rotate_left
            ·simp only [Act.put,xa,xb,xc,i64_w,i32_w]
             rfl
            refine take_ (i:=4) (N:=some 30) (v:=?_) (a':=?_) #[true,true,true,true,true,true,true,false,false,false,true,true,false,false,false,false,false,false,false,false,false] rfl rfl (take_ofW HT_.out HW_.out (by kernel_rfl)) (fun _ _ _ h=>h) (Or.inl ⟨by rfl,?_⟩) hHeld ?_ ?_
            rotate_left
            ·rintro w' ⟨s0,s1,s2,s3,s4,s5,s6⟩
             go_simp
             with_reducible rfl
            rotate_left
            ·simp only [Act.put,xa,xb,xc,i64_w,i32_w]
             rfl
            refine take_ (i:=7) (N:=some 33) (v:=?_) (a':=?_) #[true,true,true,true,true,true,true,true,false,false,true,true,false,false,false,false,false,false,false,false,false] rfl rfl (take_ofW HT_.out HW_.out (by kernel_rfl)) (fun _ _ _ h=>h) (Or.inl ⟨by rfl,?_⟩) hHeld ?_ ?_
            rotate_left
            ·rintro w' ⟨s0,s1,s2,s3,s4,s5,s6⟩
             go_simp
             with_reducible rfl
            rotate_left
            ·simp only [Act.put,xa,xb,xc,i64_w,i32_w]
             rfl
            refine pure_ (i:=8) (N:=some 34) (v:=?_) (a':=?_) #[true,true,true,true,true,true,true,true,true,false,true,true,false,false,false,false,false,false,false,false,false] rfl rfl (any_of HT_.out (by kernel_rfl)) (fun _ _ _ h=>h) (Or.inl ⟨by rfl,?_⟩) ?_ ?_
            rotate_left
            ·intro w'
             go_simp
             with_reducible rfl
            rotate_left
            ·simp only [Act.put,xa,xb,xc,i64_w,i32_w]
             rfl
            refine take_ (i:=9) (N:=some 35) (v:=?_) (a':=?_) #[true,true,true,true,true,true,true,true,true,true,true,true,false,false,false,false,false,false,false,false,false] rfl rfl (take_ofW HT_.out HW_.out (by kernel_rfl)) (fun _ _ _ h=>h) (Or.inl ⟨by rfl,?_⟩) hHeld ?_ ?_
            rotate_left
            ·rintro w' ⟨s0,s1,s2,s3,s4,s5,s6⟩
             go_simp
             with_reducible rfl
            rotate_left
            ·simp only [Act.put,xa,xb,xc,i64_w,i32_w]
             rfl
            refine take_ (i:=12) (N:=some 38) (v:=?_) (a':=?_) #[true,true,true,true,true,true,true,true,true,true,true,true,true,false,false,false,false,false,false,false,false] rfl rfl (take_ofW HT_.out HW_.out (by kernel_rfl)) (fun _ _ _ h=>h) (Or.inl ⟨by rfl,?_⟩) hHeld ?_ ?_
            rotate_left
            ·rintro w' ⟨s0,s1,s2,s3,s4,s5,s6⟩
             go_simp
             with_reducible rfl
            rotate_left
            ·simp only [Act.put,xa,xb,xc,i64_w,i32_w]
             rfl
            refine pure_ (i:=13) (N:=some 39) (v:=?_) (a':=?_) #[true,true,true,true,true,true,true,true,true,true,true,true,true,true,false,false,false,false,false,false,false] rfl rfl (any_of HT_.out (by kernel_rfl)) (fun _ _ _ h=>h) (Or.inl ⟨by rfl,?_⟩) ?_ ?_
            rotate_left
            ·intro w'
             go_simp
             with_reducible rfl
            rotate_left
            ·simp only [Act.put,xa,xb,xc,i64_w,i32_w]
             rfl
            refine take_ (i:=14) (N:=some 40) (v:=?_) (a':=?_) #[true,true,true,true,true,true,true,true,true,true,true,true,true,true,true,false,false,false,false,false,false] rfl rfl (take_ofW HT_.out HW_.out (by kernel_rfl)) (fun _ _ _ h=>h) (Or.inl ⟨by rfl,?_⟩) hHeld ?_ ?_
            rotate_left
            ·rintro w' ⟨s0,s1,s2,s3,s4,s5,s6⟩
             go_simp
             with_reducible rfl
            rotate_left
            ·simp only [Act.put,xa,xb,xc,i64_w,i32_w]
             rfl
            refine one_ (i:=15) (N:=some 41) #[true,true,true,true,true,true,true,true,true,true,true,true,true,true,true,true,false,false,false,false,false] rfl rfl (one_of HT_.out (by kernel_rfl)) (by decide) (fun K hK=>?_)
            refine goes_ Try.func113 (by kernel_rfl) rfl #[.int .i64 (rd y302 ((rd_T69 l1_1 x17_1).f0)),.int .i64 (rd y302 ((rd_T69 l1_1 x17_1).f1))] (by rfl) rfl rfl mz ?_
            with_reducible refine (impl_step.calls (rd y302 ((rd_T69 l1_1 x17_1).f0)) (rd y302 ((rd_T69 l1_1 x17_1).f1)) t307 t308 _ A20.out).mono ?_
            rintro e w31 ⟨rfl,hb⟩
            have HS5_:=(hb.cell (World.block_lt_of_cell? _ _ (hHeld.2.2.2.2.2.1))).trans (hHeld.2.2.2.2.2.1)
            have HS6_:=(hb.cell (World.block_lt_of_cell? _ _ (hHeld.2.2.2.2.2.2))).trans (hHeld.2.2.2.2.2.2)
            refine ⟨_,rfl,?_⟩
            have n0_:=Aside0.mk (Kd.R_below (rz HO_296001.out) hb)
            have n1_:=Aside0.mk (Kd.R_below (rz HO_296002.out) hb)
            have n2_:=Aside0.mk (Kd.R_below (rz HO304.out) hb)
            have n3_:=Aside0.mk (kb BK1.out hb)
            have n4_:=Aside0.mk (kb BK295.out hb)
            have n5_:=Aside0.mk (kb BK300.out hb)
            have n6_:=Aside0.mk (Kept.below (S:=(fun k_=>P0_1_ k_ ∨ P0_2_ k_)) (by repeat (first|(with_reducible first|exact HK.out|apply Kept.alloc|apply Kept.drewN|apply Kept.drew|refine Kept.setCell ?_ (.inr GW1.out) _|refine Kept.setCell ?_ (.inl GW295.out) _|refine Kept.setCell ?_ (.inr GW300.out) _)|exact HK.out)) hb)
            have n7_:=Aside0.mk (below_step bs hb)
            clear HO_296001
            clear HO_296002
            clear HO304
            clear BK1
            clear BK295
            clear BK300
            clear HK
            clear HB
            have HO_296001:=n0_
            have HO_296002:=n1_
            have HO304:=n2_
            have BK1:=n3_
            have BK295:=n4_
            have BK300:=n5_
            have HK:=n6_
            have HB:=n7_
            clear n0_ n1_ n2_ n3_ n4_ n5_ n6_ n7_
            (try clear hb)
            refine hK.out _ _ ⟨(blk_cell BK295.out 0).trans rfl,(blk_cell BK295.out 1).trans rfl,(blk_cell BK295.out 2).trans rfl,(blk_cell BK300.out 0).trans rfl,(blk_cell BK300.out 1).trans rfl,HS5_,HS6_⟩ (fun hHeld=>?_)
            clear hK K
            refine norm_ (a':=?_) ?_ ?_
            rotate_left
            ·show Act.put _ (some 41) _ = _
             simp only [Act.put,xa,xb,xc,i64_w,i32_w]
             rfl
            refine one_ (i:=16) (N:=some 42) #[true,true,true,true,true,true,true,true,true,true,true,true,true,true,true,true,true,false,false,false,false] rfl rfl (one_of HT_.out (by kernel_rfl)) (by decide) (fun K hK=>?_)
            refine value_ (w1:=?_) (v:=?_) (by rfl) rfl ?_ ?_
            rotate_left 2
            ·go_simp
             constructor
             ·rfl
             ·rfl
            refine hK.out _ _ ⟨(blk_cell (blk_alloc BK295.out _) 0).trans rfl,(blk_cell (blk_alloc BK295.out _) 1).trans rfl,(blk_cell (blk_alloc BK295.out _) 2).trans rfl,(blk_cell (blk_alloc BK300.out _) 0).trans rfl,(blk_cell (blk_alloc BK300.out _) 1).trans rfl,(World.cell?_alloc_lt _ _ _ (World.block_lt_of_cell? _ _ (hHeld.2.2.2.2.2.1))).trans (hHeld.2.2.2.2.2.1),(World.cell?_alloc_lt _ _ _ (World.block_lt_of_cell? _ _ (hHeld.2.2.2.2.2.2))).trans (hHeld.2.2.2.2.2.2)⟩ (fun hHeld=>?_)
            clear hK K
            refine norm_ (a':=?_) ?_ ?_
            rotate_left
            ·show Act.put _ (some 42) _ = _
             simp only [Act.put,xa,xb,xc,i64_w,i32_w]
             rfl
            refine last_ (i:=17) (N:=some 43) #[true,true,true,true,true,true,true,true,true,true,true,true,true,true,true,true,true,true,false,false,false] rfl rfl (one_of HT_.out (by kernel_rfl)) (by decide) (fun K hK=>?_)
            refine Kd.R_append_step k69 (w0:=w0) w0.heap.size (by rfl) (.tmp 30) (.tmp 42) 28 69 (.agg #[(.int .i64 0),(.int .i64 0)]) 16 rfl Try.underlying28 info69 rfl (by decide) (by omega) (.slice Ao26 x296001_1.length co26) x296001_1 (⟨t307,t308⟩ : S69) [.int .i64 t307,.int .i64 t308] (fun k_=>((P0_1_ k_ ∨ P0_2_ k_) ∨ w.heap.size ≤ k_) ∧ k_ ≠ gb300) (fun _=>False) rfl rfl ?aP (fun _ hk=>hk.elim) ?aF ?aO ?aB ?aS ?aL ?_
            (case aP=>exact k69_mkM _ _ _ (⟨t307,t308⟩ : S69))
            (case aB=>exact bs)
            (case aF=>exact (fun k_ hk=>⟨(.inr (Nat.le_trans (by first|exact HK.out.1|exact (show Kept w _ (fun k_=>P0_1_ k_ ∨ P0_2_ k_) from by repeat (first|(with_reducible first|exact HK.out|apply Kept.alloc|apply Kept.drewN|apply Kept.drew|refine Kept.setCell ?_ (.inr GW1.out) _|refine Kept.setCell ?_ (.inl GW295.out) _|refine Kept.setCell ?_ (.inr GW300.out) _)|exact HK.out)).1) hk)),Kd.freshB (g:=gb300) (o:=.cells #[.int .i64 ((rd_T69 l1_1 x17_1).f0),.int .i64 ((rd_T69 l1_1 x17_1).f1)] 69 (0,0)) (kz BK300.out) k_ hk⟩))
            (case aO=>exact (rz HO_296001.out))
            (case aS=>exact (below_size bs))
            (case aL=>have:=LMc21.out;omega)
            intro v310 w32 ho hb hg hat
            rw [← Ny309.out] at ho
            have n0_:=Aside0.mk (Kd.R_over' (rz HO_296002.out) (Kd.R_typed (rz HO_296001.out)) (by decide) hg)
            have n1_:=Aside0.mk (blk_grown (g:=g1_) (o:=.cells #[.int .i64 a1_0,.slice (some ad299) l1_1.length c1_1,.slice A1_2 l1_2.length c1_2] 30 (0,0)) (kz BK1.out) hg (Kd.R_ne HO_296001.out BK1.out (by decide)))
            have n2_:=Aside0.mk (blk_grown (g:=gb295) (o:=.cells #[.int .i64 a0_0,.slice Ao26 x296001_1.length co26,.slice Ao6 l0_2.length co6] 30 (0,0)) (kz BK295.out) hg (Kd.R_ne HO_296001.out BK295.out (by decide)))
            have n3_:=Aside0.mk (blk_grown (g:=gb300) (o:=.cells #[.int .i64 ((rd_T69 l1_1 x17_1).f0),.int .i64 ((rd_T69 l1_1 x17_1).f1)] 69 (0,0)) (kz BK300.out) hg (Kd.R_away HO_296001.out (fun _ hk=>hk.2)))
            have n4_:=Aside0.mk (Kd.R_over' (rz HO304.out) (Kd.R_typed (rz HO_296001.out)) (by decide) hg)
            have n5_:=Aside0.mk (hb)
            have n6_:=Aside0.mk (Kept.of_grown (S:=(fun k_=>P0_1_ k_ ∨ P0_2_ k_)) hg (by repeat (first|(with_reducible first|exact HK.out|apply Kept.alloc|apply Kept.drewN|apply Kept.drew|refine Kept.setCell ?_ (.inr GW1.out) _|refine Kept.setCell ?_ (.inl GW295.out) _|refine Kept.setCell ?_ (.inr GW300.out) _)|exact HK.out)) (fun k_ e_=>(HO_296001.out.1 k_ e_).1))
            have n7_:=Aside0.mk (ho)
            clear HO_296002
            clear BK1
            clear BK295
            clear BK300
            clear HO304
            clear HB
            clear HK
            clear HO_296001
            have HO_296002:=n0_
            have BK1:=n1_
            have BK295:=n2_
            have BK300:=n3_
            have HO304:=n4_
            have HB:=n5_
            have HK:=n6_
            have HO311:=n7_
            clear n0_ n1_ n2_ n3_ n4_ n5_ n6_ n7_
            clear ho hb hg hat
            obtain ⟨Ao33,co33,eo33⟩:=Kd.R_slice HO311.out
            (first|subst eo33|(injection eo33 with f1_ f2_ f3_;have f4_:=f1_.symm;have f5_:=f3_.symm;clear f1_ f2_ f3_;subst f4_;subst f5_))
            refine hK.out _ _ ?_
            clear hK K
            refine norm_ (a':=?_) ?_ ?_
            rotate_left
            ·show Act.put _ (some 43) _ = _
             simp only [Act.put,xa,xb,xc,i64_w,i32_w]
             rfl
            refine pure_ (i:=18) (N:=some 44) (v:=?_) (a':=?_) #[true,true,true,true,true,true,true,true,true,true,true,true,true,true,true,true,true,true,true,false,false] rfl rfl (any_of HT_.out (by kernel_rfl)) (fun _ _ _ h=>h) (Or.inl ⟨by rfl,?_⟩) ?_ ?_
            rotate_left
            ·intro w'
             go_simp
             with_reducible rfl
            rotate_left
            ·simp only [Act.put,xa,xb,xc,i64_w,i32_w]
             rfl
            refine pure_ (i:=19) (N:=some 45) (v:=?_) (a':=?_) #[true,true,true,true,true,true,true,true,true,true,true,true,true,true,true,true,true,true,true,true,false] rfl rfl (any_of HT_.out (by kernel_rfl)) (fun _ _ _ h=>h) (Or.inl ⟨by rfl,?_⟩) ?_ ?_
            rotate_left
            ·intro w'
             go_simp
             with_reducible rfl
            rotate_left
            ·simp only [Act.put,xa,xb,xc,i64_w,i32_w]
             rfl
            refine last_ (i:=20) (N:=none) #[true,true,true,true,true,true,true,true,true,true,true,true,true,true,true,true,true,true,true,true,true] rfl rfl (one_of HT_.out (by kernel_rfl)) (by decide) (fun K hK=>?_)
            have hs34 : w32.cell? ⟨gb295,1,none⟩ = some (.slice Ao26 x296001_1.length co26):=(blk_cell BK295.out 1).trans rfl
            have hfs34:=blk_frozen BK295.out 1
            have hns34_0:=NB1_295.out
            have hns34_2:=NB300_295.out
            have hms34_0:=NB295_1.out
            have hms34_2:=NB295_300.out
            refine skip_ (w1:=?_) (by rfl) rfl ?_ ?_
            rotate_left
            ·go_simp
             rfl
            refine hK.out _ _ ?_
            clear hK K
            refine done_ (done_of HT_.out (by kernel_rfl)) ?_
            try go_wp2
            go_roundg k1
            case measure=>have:=HK1.out;omega
            case rel=>exact ⟨(y302),(wrap64 (x17_1 + 1)),(y309),(.slice Ao33 y309.length co33),fz,H',⟨by have:=HK1.out;omega⟩,⟨by (with_reducible repeat (first|apply Kd.R_alloc|apply Kd.R_drewN|apply Kd.R_drew));exact Kd.R_mono (Kd.R_far (p:=⟨gb295,1,none⟩) (Kd.R_types HO304.out BK295.out (by decide)) (fun _ hk=>hk.2) (.slice Ao33 y309.length co33)) (fun _ hk=>⟨hk.1.1,hk.1.2⟩)⟩,⟨by (with_reducible repeat (first|apply Kd.R_alloc|apply Kd.R_drewN|apply Kd.R_drew));exact Kd.R_mono (Kd.R_far (p:=⟨gb295,1,none⟩) (Kd.R_types HO311.out BK295.out (by decide)) (fun _ hk=>hk.2) (.slice Ao33 y309.length co33)) (fun _ hk=>hk.1.1)⟩,⟨by (with_reducible repeat (first|apply Kd.R_alloc|apply Kd.R_drewN|apply Kd.R_drew));exact Kd.R_mono (Kd.R_far (p:=⟨gb295,1,none⟩) (Kd.R_types HO_296002.out BK295.out (by decide)) (fun _ hk=>hk.2) (.slice Ao33 y309.length co33)) (fun _ hk=>⟨hk.1.1,hk.1.2⟩)⟩,⟨by (with_reducible repeat (first|refine blk_drewN ?_ _|refine blk_drew ?_|refine blk_alloc ?_ _));refine blk_far ?_ NB1_295.out _;(with_reducible repeat (first|refine blk_drewN ?_ _|refine blk_drew ?_|refine blk_alloc ?_ _));exact BK1.out⟩,⟨by (with_reducible repeat (first|refine blk_drewN ?_ _|refine blk_drew ?_|refine blk_alloc ?_ _));refine blk_put (cs:=#[.int .i64 a0_0,.slice Ao26 x296001_1.length co26,.slice Ao6 l0_2.length co6]) ?_ 1 _ rfl;(with_reducible repeat (first|refine blk_drewN ?_ _|refine blk_drew ?_|refine blk_alloc ?_ _));exact BK295.out⟩,⟨by repeat (first|(with_reducible first|exact HK.out|apply Kept.alloc|apply Kept.drewN|apply Kept.drew|refine Kept.setCell ?_ (.inr GW1.out) _|refine Kept.setCell ?_ (.inl GW295.out) _|refine Kept.setCell ?_ (.inr GW300.out) _)|exact HK.out)⟩,⟨by repeat (first|(with_reducible first|exact HB.out|apply below_alloc|apply pw_below_drewN|apply below_drew1|refine below_set ?_ GE1.out|refine below_set ?_ GE295.out|refine below_set ?_ GE300.out)|exact HB.out)⟩⟩
           ·rw [if_neg c21] at H
            exact absurd H (by simp)
          ·rw [if_neg c19] at H
           exact absurd H (by simp)
         ·rw [if_neg c18] at H
          exact absurd H (by simp)
        ·rw [if_neg c17] at H
         exact absurd H (by simp)
       ·rw [if_neg c16] at H
        exact absurd H (by simp)
      ·rw [if_neg c15] at H
       exact absurd H (by simp)
     ·rw [if_neg c13] at H
      exact absurd H (by simp)
    ·rw [if_neg c12] at H
     exact absurd H (by simp)
   ·rw [if_neg c11] at H
    have c11b0 : decide (x17_1 < (l1_1.length : Int)) = false:=decide_eq_false c11
    clear c11
    simp only [Option.some.injEq,Prod.mk.injEq] at H
    obtain ⟨rfl,rfl,rfl,rfl⟩:=H
    go_wp2
    go_ret
    exact ⟨_,rfl,_,_,⟨rfl⟩,by (with_reducible repeat (first|refine blk_drewN ?_ _|refine blk_drew ?_|refine blk_alloc ?_ _));exact BK295.out,by (with_reducible repeat (first|apply Kd.R_alloc|apply Kd.R_drewN|apply Kd.R_drew));exact HO_7.out,by (with_reducible repeat (first|apply Kd.R_alloc|apply Kd.R_drewN|apply Kd.R_drew));exact HO_296001.out,by (with_reducible repeat (first|apply Kd.R_alloc|apply Kd.R_drewN|apply Kd.R_drew));exact HO_296002.out,by repeat (first|(with_reducible first|exact HB.out|apply below_alloc|apply pw_below_drewN|apply below_drew1|refine below_set ?_ GE1.out|refine below_set ?_ GE295.out)|exact HB.out),by repeat (first|(with_reducible first|exact HK.out|apply Kept.alloc|apply Kept.drewN|apply Kept.drew|refine Kept.setCell ?_ (.inr GW1.out) _|refine Kept.setCell ?_ (.inl GW295.out) _)|exact HK.out)⟩
end Go.Proofs.Ytopkiccdfmjjjaa.MFnExactComposePlans
--sq
