import Derived.Test.YtdcdaoancmpbeaaMFnExactJoinPlansx0
import Derived.Test.YtdcdaoancmpbeaaMFnExactJoinPlansx6
import Derived.Test.YtdcdaoancmpbeaaMFnExactJoinPlansx7
import Derived.Test.YtdcdaoancmpbeaaMFnExactJoinPlansx1
import Derived.Test.YtdcdaoancmpbeaaMFnExactJoinPlansx2
import Derived.Test.YtdcdaoancmpbeaaMFnExactJoinPlansx3
import Derived.Test.YtdcdaoancmpbeaaMFnExactJoinPlansx4
import Derived.Test.YtdcdaoancmpbeaaMFnExactJoinPlansx5
namespace Go.Proofs.Ytdcdaoancmpbeaa.MFnExactJoinPlans
open Go.RowKit Go.Proofs.YtdcdaoancmpbeaaW.PrintWords Go.Proofs.YtdcdaoancmpbeaaW.PrintLast Go.Proofs.YtdcdaoancmpbeaaW.PrintMore Go.Proofs.YtdcdaoancmpbeaaV Go.Proofs.YtdcdaoancmpbeaaZ
attribute [local go_sem] max2_int min2_int max_two min_two max_three min_three max_four min_four   -- for this text's walks alone
set_option linter.unusedVariables false
set_option linter.unusedSimpArgs false
/-! ### impl_Plan_behind: function 47 -/
def impl_Plan_behind.l0 : Nat → List Int → List (S73) → Int → Int → Int → List (S73) → List Int → Option (List Int × Int × (List (S73)) × List Int)
 | 0,_,_,_,_,_,_,_=>none
 | k + 1,x7,x15,x16,x17,x280000,x280001,x280002=>if x17 < x16 then (if 0 ≤ x17 then (if x17 < (x15.length : Int) then ((impl_Plan_many.f x280000 x280001 x280002).bind fun t285=>(if x7.length < 17592186044416 then ((some (x7 ++ [t285] : List Int)).bind fun y286=>(if 0 ≤ ((rd_T73 x15 x17).f0) then (if ((rd_T73 x15 x17).f0) < (y286.length : Int) then (if 0 ≤ ((rd_T73 x15 x17).f1) then (if ((rd_T73 x15 x17).f1) < (y286.length : Int) then ((impl_step.f (rd y286 ((rd_T73 x15 x17).f0)) (rd y286 ((rd_T73 x15 x17).f1))).bind fun bt291=>(if x280001.length < 8796093022208 then (impl_Plan_behind.l0 k y286 x15 x16 (wrap64 (x17 + 1)) x280000 (x280001 ++ [(⟨bt291.1,bt291.2⟩ : S73)]) x280002) else (none))) else (none)) else (none)) else (none)) else (none))) else (none))) else (none)) else (none)) else (some (x7,x280000,x280001,x280002))
def impl_Plan_behind.f (k : Nat) (a0_0 : Int) (l0_1 : List (S73)) (l0_2 : List Int) (a1_0 : Int) (l1_1 : List (S73)) (l1_2 : List Int) (l2 : List Int) : Option (List Int × Int × (List (S73)) × List Int):=(slices_Clone_int_int.f l2).bind fun t280=>(impl_Plan_behind.l0 k t280 l1_1 (l1_1.length : Int) 0 a0_0 l0_1 l0_2)
theorem impl_Plan_behind.mono_l : ∀ k,(∀ y0 y1 y2 y3 y4 y5 y6,LeO (impl_Plan_behind.l0 k y0 y1 y2 y3 y4 y5 y6) (impl_Plan_behind.l0 (k + 1) y0 y1 y2 y3 y4 y5 y6))
 | 0=>fun _ _ _ _ _ _ _ r h=>by simp [impl_Plan_behind.l0] at h
 | k + 1=>by
  have ih0:=impl_Plan_behind.mono_l k
  ·intro y0 y1 y2 y3 y4 y5 y6
   unfold impl_Plan_behind.l0
   repeat' first
   | (with_reducible exact ih0 _ _ _ _ _ _ _)
   | (with_reducible exact LeO.refl _)
   | (with_reducible exact LeO.none _)
   | (with_reducible refine LeO.ite ?_ ?_)
   | (with_reducible refine LeO.bind ?_ (fun _=>?_))
   | exact ih0 _ _ _ _ _ _ _
   | exact LeO.none _
   | refine LeO.ite ?_ ?_
   | refine LeO.bind ?_ (fun _=>?_)
theorem impl_Plan_behind.mono : ∀ a0 a1 a2 a3 a4 a5 a6 k,LeO (impl_Plan_behind.f k a0 a1 a2 a3 a4 a5 a6) (impl_Plan_behind.f (k + 1) a0 a1 a2 a3 a4 a5 a6):=by
 intro a0 a1 a2 a3 a4 a5 a6 k
 have ih0:=impl_Plan_behind.mono_l k
 unfold impl_Plan_behind.f
 repeat' first
   | (with_reducible exact ih0 _ _ _ _ _ _ _)
   | (with_reducible exact LeO.refl _)
   | (with_reducible exact LeO.none _)
   | (with_reducible refine LeO.ite ?_ ?_)
   | (with_reducible refine LeO.bind ?_ (fun _=>?_))
   | exact ih0 _ _ _ _ _ _ _
   | exact LeO.none _
   | refine LeO.ite ?_ ?_
   | refine LeO.bind ?_ (fun _=>?_)
def impl_Plan_behind.T6 : Bool × List (List Nat × List Nat):=(true,[([],[]),([],[]),([1],[1]),([2],[2]),([3],[3]),([],[]),([],[]),([6],[6]),([5,7],[5,7]),([8],[8]),([],[]),([],[]),([11],[11]),([10,12],[10,12]),([13],[13]),([9,14],[9,14]),([15],[15]),([4,16,15],[4,16]),([0,0,1,2,3,4,5,6,7,8,9,10,11,12,13,14,15,16,17],[0]),([18,0,1,2,3,4,5,6,7,8,9,10,11,12,13,14,15,16,17],[18]),([19,17,17,0,1,2,3,4,5,6,7,8,9,10,11,12,13,14,15,16,17],[17,19])])
def impl_Plan_behind.B6 : List Nat:=[0,0,2,6,14,0,0,64,224,480,0,0,2048,7168,15360,32736,65504,131070,262143,524287,1048575]
theorem impl_Plan_behind.tab6 : rtab .any (opsOf Try.f47 6) = impl_Plan_behind.T6:=by kernel_rfl
theorem impl_Plan_behind.bits6 : waitsOk impl_Plan_behind.T6.2 impl_Plan_behind.B6 = true:=by kernel_rfl
set_option maxHeartbeats 8000000 in
set_option maxRecDepth 100000 in
theorem impl_Plan_behind.calls (k : Nat) (gb279 : Nat) (a0_0 : Int) (P0_1_ : Nat → Prop) (u9000_ : Value) (l0_1 : List (S73)) (P0_2_ : Nat → Prop) (u9001_ : Value) (l0_2 : List Int) (g1_ : Nat) (a1_0 : Int) (A1_1 : Option Addr) (c1_1 : Nat) (l1_1 : List (S73)) (A1_2 : Option Addr) (c1_2 : Nat) (l1_2 : List Int) (A2 : Option Addr) (c2 : Nat) (l2 : List Int) (r1 : List Int) (r2 : Int) (r3 : List (S73)) (r4 : List Int) (w0 w : World) (hB : Below w0.heap.size w0 w) (hxp_ : w.heap[gb279]? = some (.cells #[.int .i64 a0_0,u9000_,u9001_] 29 (0,0))) (hgp_ : w0.heap.size ≤ gb279) (hPp_ : P0_1_ gb279) (hne_ : g1_ ≠ gb279) (hx1_ : w.heap[g1_]? = some (.cells #[.int .i64 a1_0,.slice A1_1 l1_1.length c1_1,.slice A1_2 l1_2.length c1_2] 29 (0,0))) (ho0_1 : Kd.R k73 73 w w0.heap.size P0_1_ u9000_ l0_1) (ho0_2 : Kd.R (Kd.int .i64) 3 w w0.heap.size P0_2_ u9001_ l0_2) (hr1_1 : ∀ W_,Kept w W_ (fun k_=>P0_1_ k_ ∨ P0_2_ k_) → Kd.C k73 W_ A1_1 l1_1.length l1_1) (hc1_1 : l1_1.length ≤ c1_1) (hr1_2 : ∀ W_,Kept w W_ (fun k_=>P0_1_ k_ ∨ P0_2_ k_) → Kd.C (Kd.int .i64) W_ A1_2 l1_2.length l1_2) (hc1_2 : l1_2.length ≤ c1_2) (hr2 : ∀ W_,Kept w W_ (fun k_=>P0_1_ k_ ∨ P0_2_ k_) → Kd.C (Kd.int .i64) W_ A2 l2.length l2) (hc2 : l2.length ≤ c2) (h : impl_Plan_behind.f k a0_0 l0_1 l0_2 a1_0 l1_1 l1_2 l2 = some (r1,r2,r3,r4)) :
  Calls Try.prog 47 #[.pointer (some ⟨gb279,0,none⟩),.pointer (some ⟨g1_,0,none⟩),.slice A2 l2.length c2] w fun e w'=>∃ v0_ v2_ v3_ : Value,e = .returned v0_ ∧ Aside0 (u9001_ = v3_ ∧ a0_0 = r2 ∧ l0_2 = r4) ∧ w'.heap[gb279]? = some (.cells #[.int .i64 r2,v2_,v3_] 29 (0,0)) ∧ Kd.R (Kd.int .i64) 3 w' w0.heap.size (fun k_=>((P0_1_ k_ ∨ P0_2_ k_) ∨ w.heap.size ≤ k_) ∧ some k_ ≠ (v3_ : Value).ownBlock) v0_ r1 ∧ Kd.R k73 73 w' w0.heap.size (fun k_=>((P0_1_ k_ ∨ P0_2_ k_) ∨ w.heap.size ≤ k_)) v2_ r3 ∧ Kd.R (Kd.int .i64) 3 w' w0.heap.size (fun k_=>((P0_1_ k_ ∨ P0_2_ k_) ∨ w.heap.size ≤ k_) ∧ some k_ ≠ (v0_ : Value).ownBlock) v3_ r4 ∧ Below w0.heap.size w0 w' ∧ Kept w w' (fun k_=>P0_1_ k_ ∨ P0_2_ k_):=by
 have hu29:=Try.underlying29
 have hu73:=Try.underlying73
 have HO0_1:=Aside0.mk (show Kd.R k73 73 w w0.heap.size (fun k_=>((P0_1_ k_ ∨ P0_2_ k_) ∨ w.heap.size ≤ k_)) u9000_ l0_1 from Kd.R_mono ho0_1 (fun k_ hk=>(.inl (.inl hk))))
 have HO0_2:=Aside0.mk (show Kd.R (Kd.int .i64) 3 w w0.heap.size (fun k_=>((P0_1_ k_ ∨ P0_2_ k_) ∨ w.heap.size ≤ k_)) u9001_ l0_2 from Kd.R_mono ho0_2 (fun k_ hk=>(.inl (.inr hk))))
 have HR1_1:=Aside0.mk hr1_1
 have HC1_1:=Aside0.mk hc1_1
 clear hr1_1 hc1_1
 have HR1_2:=Aside0.mk hr1_2
 have HC1_2:=Aside0.mk hc1_2
 clear hr1_2 hc1_2
 have HR2:=Aside0.mk hr2
 have HC2:=Aside0.mk hc2
 clear hr2 hc2
 have BK1:=Aside0.mk hx1_
 clear hx1_
 have HK:=Aside0.mk (Kept.refl w (fun k_=>P0_1_ k_ ∨ P0_2_ k_))
 have HW0:=Aside0.mk hB.size
 have HB:=Aside0.mk hB
 clear hB
 have BK279:=Aside0.mk hxp_
 have GW279:=Aside0.mk (show (P0_1_ gb279 ∨ P0_2_ gb279) from .inl hPp_)
 have GE279:=Aside0.mk hgp_
 have NB1_279:=Aside0.mk hne_
 have NB279_1:=Aside0.mk (Ne.symm hne_)
 clear hxp_ hgp_ hPp_ hne_
 have H : ((slices_Clone_int_int.f l2).bind fun t280=>(impl_Plan_behind.l0 k t280 l1_1 (l1_1.length : Int) 0 a0_0 l0_1 l0_2)) = some (r1,r2,r3,r4):=h
 clear h
 obtain ⟨t280,A4,H⟩:=bd H
 have H':=Aside0.mk H
 clear H
 obtain ⟨Ao5,co5,eo5⟩:=Kd.R_slice HO0_1.out
 subst eo5
 obtain ⟨Ao6,co6,eo6⟩:=Kd.R_slice HO0_2.out
 subst eo6
 go_enter Try.func47,Try.ntmps47
 go_wp2_with (first|((with_reducible refine gate_callee (f:=91) rfl ?_);refine goesL_ (some 11) rfl rfl Try.func91 (by kernel_rfl) rfl #[.slice A2 l2.length c2] rfl mz ?_;(with_reducible refine (slices_Clone_int_int.calls _ _ l2 t280 _ ?side1 ?side2 A4.out).mono ?_);(case side1=>exact Kd.C_kept_now HR2.out (by repeat (first|(with_reducible first|exact HK.out|apply Kept.alloc|apply Kept.drewN|apply Kept.drew|refine Kept.setCell ?_ (.inr GW1.out) _|refine Kept.setCell ?_ (.inl GW279.out) _)|exact HK.out)));(case side2=>exact HC2.out);rintro e w8 ⟨v281,rfl,ho0,hb⟩;refine ⟨_,rfl,?_⟩;have n0_:=Aside0.mk (Kd.R_below (rz HO0_1.out) hb);have n1_:=Aside0.mk (Kd.R_elder' (rz HO0_2.out) (Kd.R_base ho0) hb);have n2_:=Aside0.mk (Kd.R_lower (Kd.R_new' (Kd.R_newM (M:=fun k_=>((P0_1_ k_ ∨ P0_2_ k_) ∨ w.heap.size ≤ k_)) ho0 (by first|exact HK.out.1|exact (show Kept w _ (fun k_=>P0_1_ k_ ∨ P0_2_ k_) from by repeat (first|(with_reducible first|exact HK.out|apply Kept.alloc|apply Kept.drewN|apply Kept.drew|refine Kept.setCell ?_ (.inr GW1.out) _|refine Kept.setCell ?_ (.inl GW279.out) _)|exact HK.out)).1) (fun k_ h_=>.inr h_)) (Kd.R_lt (rz HO0_2.out))) (below_size bs));have n3_:=Aside0.mk (kb BK1.out hb);have n4_:=Aside0.mk (kb BK279.out hb);have n5_:=Aside0.mk (Kept.below (S:=(fun k_=>P0_1_ k_ ∨ P0_2_ k_)) (by repeat (first|(with_reducible first|exact HK.out|apply Kept.alloc|apply Kept.drewN|apply Kept.drew|refine Kept.setCell ?_ (.inr GW1.out) _|refine Kept.setCell ?_ (.inl GW279.out) _)|exact HK.out)) hb);have n6_:=Aside0.mk (below_step bs hb);clear HO0_1 HO0_2 BK1 BK279 HK HB;have HO0_1:=n0_;have HO0_2:=n1_;have HO282:=n2_;have BK1:=n3_;have BK279:=n4_;have HK:=n5_;have HB:=n6_;clear n0_ n1_ n2_ n3_ n4_ n5_ n6_;(try clear hb);(try clear ho0);have hnb9:=NB1_279.out;have hnc9:=NB279_1.out;have hcz10_0 : w8.cell? ⟨g1_,0,none⟩ = some (.int .i64 a1_0):=(blk_cell BK1.out 0).trans rfl;have hcz10_1 : w8.cell? ⟨g1_,1,none⟩ = some (.slice A1_1 l1_1.length c1_1):=(blk_cell BK1.out 1).trans rfl;have hcz10_2 : w8.cell? ⟨g1_,2,none⟩ = some (.slice A1_2 l1_2.length c1_2):=(blk_cell BK1.out 2).trans rfl;have hfz10_0:=blk_frozen BK1.out 0;have hfz10_1:=blk_frozen BK1.out 1;have hfz10_2:=blk_frozen BK1.out 2))
 go_loopg [7,17] k (fun kq v7 v17 w'=>∃ (x7_1 : List Int) (x17_1 : Int) (x280001_1 : List (S73)) (u280001 : Value),v17 = .int .i64 x17_1 ∧ Aside0 (impl_Plan_behind.l0 kq x7_1 l1_1 (l1_1.length : Int) x17_1 a0_0 x280001_1 l0_2 = some (r1,r2,r3,r4)) ∧ Aside0 (kq ≤ k) ∧ Aside0 (Kd.R (Kd.int .i64) 3 w' w0.heap.size (fun k_=>((P0_1_ k_ ∨ P0_2_ k_) ∨ w.heap.size ≤ k_) ∧ some k_ ≠ ((.slice Ao6 l0_2.length co6) : Value).ownBlock) v7 x7_1) ∧ Aside0 (Kd.R k73 73 w' w0.heap.size (fun k_=>((P0_1_ k_ ∨ P0_2_ k_) ∨ w.heap.size ≤ k_)) u280001 x280001_1) ∧ Aside0 (Kd.R (Kd.int .i64) 3 w' w0.heap.size (fun k_=>((P0_1_ k_ ∨ P0_2_ k_) ∨ w.heap.size ≤ k_) ∧ some k_ ≠ (v7 : Value).ownBlock) (.slice Ao6 l0_2.length co6) l0_2) ∧ Aside0 (w'.heap[g1_]? = some (.cells #[.int .i64 a1_0,(.slice A1_1 l1_1.length c1_1),(.slice A1_2 l1_2.length c1_2)] 29 (0,0))) ∧ Aside0 (w'.heap[gb279]? = some (.cells #[.int .i64 a0_0,u280001,(.slice Ao6 l0_2.length co6)] 29 (0,0))) ∧ Aside0 (Kept w w' (fun k_=>P0_1_ k_ ∨ P0_2_ k_)) ∧ Aside0 (Below w0.heap.size w0 w'))
 case atStart=>exact ⟨(t280),(0),(l0_1),(.slice Ao5 l0_1.length co5),fz,H',⟨Nat.le_refl _⟩,⟨by (with_reducible repeat (first|apply Kd.R_alloc|apply Kd.R_drewN|apply Kd.R_drew));exact Kd.R_mono HO282.out (fun _ hk=>⟨hk.1.1,hk.2⟩)⟩,⟨by (with_reducible repeat (first|apply Kd.R_alloc|apply Kd.R_drewN|apply Kd.R_drew));exact HO0_1.out⟩,⟨by (with_reducible repeat (first|apply Kd.R_alloc|apply Kd.R_drewN|apply Kd.R_drew));exact HO0_2.out⟩,⟨by (with_reducible repeat (first|refine blk_drewN ?_ _|refine blk_drew ?_|refine blk_alloc ?_ _));exact BK1.out⟩,⟨by (with_reducible repeat (first|refine blk_drewN ?_ _|refine blk_drew ?_|refine blk_alloc ?_ _));exact BK279.out⟩,⟨by repeat (first|(with_reducible first|exact HK.out|apply Kept.alloc|apply Kept.drewN|apply Kept.drew|refine Kept.setCell ?_ (.inr GW1.out) _|refine Kept.setCell ?_ (.inl GW279.out) _)|exact HK.out)⟩,⟨by repeat (first|(with_reducible first|exact HB.out|apply below_alloc|apply pw_below_drewN|apply below_drew1|refine below_set ?_ GE1.out|refine below_set ?_ GE279.out)|exact HB.out)⟩⟩
 case round=>
  clear H'
  try clear c1
  try clear hx1
  try clear c2
  try clear p2
  try clear c4
  try clear c9
  try clear hcz10_0
  try clear hcz10_1
  try clear hcz10_2
  try clear hfz10_0
  try clear hfz10_1
  try clear hfz10_2
  obtain ⟨x7_1,x17_1,x280001_1,u280001,rfl,HA,HK1,HO_7,HO_280001,HO_280002,BK1,BK279,HK,HB⟩:=hrel
  cases gk with
  | zero=>exact absurd HA.out (by simp [impl_Plan_behind.l0])
  | succ k1=>
   have H:=HA.out
   clear HA
   simp only [impl_Plan_behind.l0] at H
   by_cases c11 : x17_1 < (l1_1.length : Int)
   ·rw [if_pos c11] at H
    have c11b0 : decide (x17_1 < (l1_1.length : Int)) = true:=decide_eq_true c11
    clear c11
    by_cases c12 : 0 ≤ x17_1
    ·rw [if_pos c12] at H
     have c12b0 : decide (0 ≤ x17_1) = true:=decide_eq_true c12
     clear c12
     by_cases c13 : x17_1 < (l1_1.length : Int)
     ·rw [if_pos c13] at H
      have c13b0 : decide (x17_1 < (l1_1.length : Int)) = true:=decide_eq_true c13
      clear c13
      obtain ⟨t285,A14,H⟩:=bd H
      by_cases c15 : x7_1.length < 17592186044416
      ·rw [if_pos c15] at H
       have LMc15:=Aside0.mk c15
       clear c15
       obtain ⟨y286,hy286⟩ : ∃ y_ : List Int,y_ = (x7_1 ++ [t285]):=⟨_,rfl⟩
       replace H : (if 0 ≤ ((rd_T73 l1_1 x17_1).f0) then (if ((rd_T73 l1_1 x17_1).f0) < (y286.length : Int) then (if 0 ≤ ((rd_T73 l1_1 x17_1).f1) then (if ((rd_T73 l1_1 x17_1).f1) < (y286.length : Int) then ((impl_step.f (rd y286 ((rd_T73 l1_1 x17_1).f0)) (rd y286 ((rd_T73 l1_1 x17_1).f1))).bind fun bt291=>(if x280001_1.length < 8796093022208 then (impl_Plan_behind.l0 k1 y286 l1_1 (l1_1.length : Int) (wrap64 (x17_1 + 1)) a0_0 (x280001_1 ++ [(⟨bt291.1,bt291.2⟩ : S73)]) l0_2) else (none))) else (none)) else (none)) else (none)) else (none)) = some (r1,r2,r3,r4):=by first|(rw [hy286];with_reducible exact H)|(have H2_:=(Option.bind_some _ _).symm.trans H;rw [hy286];with_reducible exact H2_)|(have H2_:=(Option.bind_some _ _).symm.trans H;with_reducible exact H2_)|with_reducible exact H|(rw [hy286];exact H)|exact H
       have Ny286:=Aside0.mk hy286
       clear hy286
       by_cases c16 : 0 ≤ ((rd_T73 l1_1 x17_1).f0)
       ·rw [if_pos c16] at H
        have c16b0 : decide (0 ≤ ((rd_T73 l1_1 x17_1).f0)) = true:=decide_eq_true c16
        clear c16
        by_cases c17 : ((rd_T73 l1_1 x17_1).f0) < (y286.length : Int)
        ·rw [if_pos c17] at H
         have c17b0 : decide (((rd_T73 l1_1 x17_1).f0) < (y286.length : Int)) = true:=decide_eq_true c17
         clear c17
         by_cases c18 : 0 ≤ ((rd_T73 l1_1 x17_1).f1)
         ·rw [if_pos c18] at H
          have c18b0 : decide (0 ≤ ((rd_T73 l1_1 x17_1).f1)) = true:=decide_eq_true c18
          clear c18
          by_cases c19 : ((rd_T73 l1_1 x17_1).f1) < (y286.length : Int)
          ·rw [if_pos c19] at H
           have c19b0 : decide (((rd_T73 l1_1 x17_1).f1) < (y286.length : Int)) = true:=decide_eq_true c19
           clear c19
           obtain ⟨⟨t291,t292⟩,A20,H⟩:=bd H
           try dsimp only at H
           by_cases c21 : x280001_1.length < 8796093022208
           ·rw [if_pos c21] at H
            have LMc21:=Aside0.mk c21
            clear c21
            obtain ⟨y293,hy293⟩ : ∃ y_ : List (S73),y_ = (x280001_1 ++ [(⟨t291,t292⟩ : S73)]):=⟨_,rfl⟩
            replace H : (impl_Plan_behind.l0 k1 y286 l1_1 (l1_1.length : Int) (wrap64 (x17_1 + 1)) a0_0 y293 l0_2) = some (r1,r2,r3,r4):=by first|(rw [hy293];with_reducible exact H)|(have H2_:=(Option.bind_some _ _).symm.trans H;rw [hy293];with_reducible exact H2_)|(have H2_:=(Option.bind_some _ _).symm.trans H;with_reducible exact H2_)|with_reducible exact H|(rw [hy293];exact H)|exact H
            have Ny293:=Aside0.mk hy293
            clear hy293
            have H':=Aside0.mk H
            clear H
            have p283 : 0 ≤ (x17_1 : Int):=of_decide_eq_true az
            have q283 : x17_1 < (l1_1.length : Int):=of_decide_eq_true az
            obtain ⟨ad283,e283,hx283_0,hx283_1⟩:=at_T73 (Kd.C_kept_now HR1_1.out HK.out) x17_1 p283 q283
            cases e283
            replace p283:=eq_true p283
            replace q283:=eq_true q283
            try go_wp2_with (first|((with_reducible refine gate_dst (N:=9) rfl ?_);refine box_event ?hg (N:=9) ?hd (cs:=#[.int .i64 0,.int .i64 0]) (t:=73) ?hr ?_;(case hd=>rfl);(case hg=>rfl);(case hr=>first|(go_simp;done)|(go_simp;rfl));intro gb284 hg w22 hbox hb;have n0_:=Aside0.mk (Kd.R_below (rz HO_7.out) hb);have n1_:=Aside0.mk (Kd.R_below (Kd.R_elderB (rz HO_280001.out) gb284 (Nat.le_of_eq hg.symm)) hb);have n2_:=Aside0.mk (Kd.R_below (rz HO_280002.out) hb);have n3_:=Aside0.mk (kb BK1.out hb);have n4_:=Aside0.mk (kb BK279.out hb);have n5_:=Aside0.mk (Kept.below (S:=(fun k_=>P0_1_ k_ ∨ P0_2_ k_)) (by repeat (first|(with_reducible first|exact HK.out|apply Kept.alloc|apply Kept.drewN|apply Kept.drew|refine Kept.setCell ?_ (.inr GW1.out) _|refine Kept.setCell ?_ (.inl GW279.out) _)|exact HK.out)) hb);have n6_:=Aside0.mk (below_step bs hb);have n7_:=Aside0.mk (hbox);have n8_:=Aside0.mk ((by rw [hg];exact (by first|exact HK.out.1|exact (show Kept w _ (fun k_=>P0_1_ k_ ∨ P0_2_ k_) from by repeat (first|(with_reducible first|exact HK.out|apply Kept.alloc|apply Kept.drewN|apply Kept.drew|refine Kept.setCell ?_ (.inr GW1.out) _|refine Kept.setCell ?_ (.inl GW279.out) _)|exact HK.out)).1) : w.heap.size ≤ gb284));have n9_:=Aside0.mk ((by rw [hg];exact (below_size bs) : w0.heap.size ≤ gb284));have n10_:=Aside0.mk (kn hg BK1.out);have n11_:=Aside0.mk (km hg BK1.out);have n12_:=Aside0.mk (kn hg BK279.out);have n13_:=Aside0.mk (km hg BK279.out);clear HO_7 HO_280001 HO_280002 BK1 BK279 HK HB;have HO_7:=n0_;have HO_280001:=n1_;have HO_280002:=n2_;have BK1:=n3_;have BK279:=n4_;have HK:=n5_;have HB:=n6_;have BK284:=n7_;have GW284:=n8_;have GE284:=n9_;have NB1_284:=n10_;have NB284_1:=n11_;have NB279_284:=n12_;have NB284_279:=n13_;clear n0_ n1_ n2_ n3_ n4_ n5_ n6_ n7_ n8_ n9_ n10_ n11_ n12_ n13_;clear hb hbox hg;have hnb23:=NB284_1.out;have hnc23:=NB1_284.out;have hnb24:=NB284_279.out;have hnc24:=NB279_284.out;have hcz25_0 : w22.cell? ⟨gb284,0,none⟩ = some (.int .i64 0):=(blk_cell BK284.out 0).trans rfl;have hcz25_1 : w22.cell? ⟨gb284,1,none⟩ = some (.int .i64 0):=(blk_cell BK284.out 1).trans rfl;have hfz25_0:=blk_frozen BK284.out 0;have hfz25_1:=blk_frozen BK284.out 1;obtain ⟨Ao26,co26,eo26⟩:=Kd.R_slice HO_280001.out;subst eo26)|((with_reducible refine gate_callee (f:=92) rfl ?_);refine goesL_ (some 23) rfl rfl Try.func92 (by kernel_rfl) rfl #[.pointer (some ⟨gb279,0,none⟩)] rfl mz ?_;(with_reducible refine (impl_Plan_many.calls gb279 a0_0 Ao26 co26 x280001_1 Ao6 co6 l0_2 t285 _ ?side1 ?side2 ?side3 ?side4 ?side5 A14.out).mono ?_);(case side1=>exact by (with_reducible repeat (first|refine blk_drewN ?_ _|refine blk_drew ?_|refine blk_alloc ?_ _));refine blk_far ?_ NB279_284.out _;(with_reducible repeat (first|refine blk_drewN ?_ _|refine blk_drew ?_|refine blk_alloc ?_ _));refine blk_far ?_ NB279_284.out _;(with_reducible repeat (first|refine blk_drewN ?_ _|refine blk_drew ?_|refine blk_alloc ?_ _));exact BK279.out);(case side2=>refine (Kd.R_reads' (e:=73) (base:=w0.heap.size) (ok:=fun k_=>(((P0_1_ k_ ∨ P0_2_ k_) ∨ w.heap.size ≤ k_) ∧ k_ ≠ gb284)) (n:=x280001_1.length) (c:=co26) ?_).2.2;exact (by (with_reducible repeat (first|apply Kd.R_alloc|apply Kd.R_drewN|apply Kd.R_drew));exact (Kd.R_mono (Kd.R_far (p:=⟨gb284,1,none⟩) (Kd.R_far (p:=⟨gb284,0,none⟩) (Kd.R_mono HO_280001.out (fun k_ hk=>(⟨hk,hk.2⟩ : _ ∧ k_ ≠ gb284))) (fun _ hk=>hk.2) (.int .i64 ((rd_T73 l1_1 x17_1).f0))) (fun _ hk=>hk.2) (.int .i64 ((rd_T73 l1_1 x17_1).f1))) (fun _ h_=>h_.1))));(case side3=>exact (Kd.R_reads' HO_280001.out).2.1);(case side4=>refine (Kd.R_reads' (e:=3) (base:=w0.heap.size) (ok:=fun k_=>(((P0_1_ k_ ∨ P0_2_ k_) ∨ w.heap.size ≤ k_) ∧ some k_ ≠ (u7 : Value).ownBlock)) (n:=l0_2.length) (c:=co6) ?_).2.2;exact (by (with_reducible repeat (first|apply Kd.R_alloc|apply Kd.R_drewN|apply Kd.R_drew));exact (Kd.R_mono (Kd.R_far (p:=⟨gb284,1,none⟩) (Kd.R_far (p:=⟨gb284,0,none⟩) (Kd.R_types HO_280002.out BK284.out (by decide)) (fun _ hk=>hk.2) (.int .i64 ((rd_T73 l1_1 x17_1).f0))) (fun _ hk=>hk.2) (.int .i64 ((rd_T73 l1_1 x17_1).f1))) (fun _ h_=>h_.1))));(case side5=>exact (Kd.R_reads' HO_280002.out).2.1);rintro e w27 ⟨rfl,hb⟩;refine ⟨_,rfl,?_⟩;have n0_:=Aside0.mk (Kd.R_below (by (with_reducible repeat (first|apply Kd.R_alloc|apply Kd.R_drewN|apply Kd.R_drew));exact (Kd.R_mono (Kd.R_far (p:=⟨gb284,1,none⟩) (Kd.R_far (p:=⟨gb284,0,none⟩) (Kd.R_types HO_7.out BK284.out (by decide)) (fun _ hk=>hk.2) (.int .i64 ((rd_T73 l1_1 x17_1).f0))) (fun _ hk=>hk.2) (.int .i64 ((rd_T73 l1_1 x17_1).f1))) (fun _ h_=>h_.1))) hb);have n1_:=Aside0.mk (Kd.R_below (by (with_reducible repeat (first|apply Kd.R_alloc|apply Kd.R_drewN|apply Kd.R_drew));exact (Kd.R_mono (Kd.R_far (p:=⟨gb284,1,none⟩) (Kd.R_far (p:=⟨gb284,0,none⟩) (Kd.R_mono HO_280001.out (fun k_ hk=>(⟨hk,hk.2⟩ : _ ∧ k_ ≠ gb284))) (fun _ hk=>hk.2) (.int .i64 ((rd_T73 l1_1 x17_1).f0))) (fun _ hk=>hk.2) (.int .i64 ((rd_T73 l1_1 x17_1).f1))) (fun _ h_=>h_.1))) hb);have n2_:=Aside0.mk (Kd.R_below (by (with_reducible repeat (first|apply Kd.R_alloc|apply Kd.R_drewN|apply Kd.R_drew));exact (Kd.R_mono (Kd.R_far (p:=⟨gb284,1,none⟩) (Kd.R_far (p:=⟨gb284,0,none⟩) (Kd.R_types HO_280002.out BK284.out (by decide)) (fun _ hk=>hk.2) (.int .i64 ((rd_T73 l1_1 x17_1).f0))) (fun _ hk=>hk.2) (.int .i64 ((rd_T73 l1_1 x17_1).f1))) (fun _ h_=>h_.1))) hb);have n3_:=Aside0.mk (blk_below (g:=g1_) (o:=.cells #[.int .i64 a1_0,.slice (some ad283) l1_1.length c1_1,.slice A1_2 l1_2.length c1_2] 29 (0,0)) (by (with_reducible repeat (first|refine blk_drewN ?_ _|refine blk_drew ?_|refine blk_alloc ?_ _));refine blk_far ?_ NB1_284.out _;(with_reducible repeat (first|refine blk_drewN ?_ _|refine blk_drew ?_|refine blk_alloc ?_ _));refine blk_far ?_ NB1_284.out _;(with_reducible repeat (first|refine blk_drewN ?_ _|refine blk_drew ?_|refine blk_alloc ?_ _));exact BK1.out) hb);have n4_:=Aside0.mk (blk_below (g:=gb279) (o:=.cells #[.int .i64 a0_0,.slice Ao26 x280001_1.length co26,.slice Ao6 l0_2.length co6] 29 (0,0)) (by (with_reducible repeat (first|refine blk_drewN ?_ _|refine blk_drew ?_|refine blk_alloc ?_ _));refine blk_far ?_ NB279_284.out _;(with_reducible repeat (first|refine blk_drewN ?_ _|refine blk_drew ?_|refine blk_alloc ?_ _));refine blk_far ?_ NB279_284.out _;(with_reducible repeat (first|refine blk_drewN ?_ _|refine blk_drew ?_|refine blk_alloc ?_ _));exact BK279.out) hb);have n5_:=Aside0.mk (blk_below (g:=gb284) (o:=.cells #[.int .i64 ((rd_T73 l1_1 x17_1).f0),.int .i64 ((rd_T73 l1_1 x17_1).f1)] 73 (0,0)) (by (with_reducible repeat (first|refine blk_drewN ?_ _|refine blk_drew ?_|refine blk_alloc ?_ _));refine blk_put (cs:=#[.int .i64 ((rd_T73 l1_1 x17_1).f0),.int .i64 0]) ?_ 1 _ rfl;(with_reducible repeat (first|refine blk_drewN ?_ _|refine blk_drew ?_|refine blk_alloc ?_ _));refine blk_put (cs:=#[.int .i64 0,.int .i64 0]) ?_ 0 _ rfl;(with_reducible repeat (first|refine blk_drewN ?_ _|refine blk_drew ?_|refine blk_alloc ?_ _));exact BK284.out) hb);have n6_:=Aside0.mk (Kept.below (S:=(fun k_=>P0_1_ k_ ∨ P0_2_ k_)) (by repeat (first|(with_reducible first|exact HK.out|apply Kept.alloc|apply Kept.drewN|apply Kept.drew|refine Kept.setCell ?_ (.inr GW1.out) _|refine Kept.setCell ?_ (.inl GW279.out) _|refine Kept.setCell ?_ (.inr GW284.out) _)|exact HK.out)) hb);have n7_:=Aside0.mk (below_step bs hb);clear HO_7 HO_280001 HO_280002 BK1 BK279 BK284 HK HB;have HO_7:=n0_;have HO_280001:=n1_;have HO_280002:=n2_;have BK1:=n3_;have BK279:=n4_;have BK284:=n5_;have HK:=n6_;have HB:=n7_;clear n0_ n1_ n2_ n3_ n4_ n5_ n6_ n7_;(try clear hb))|((with_reducible refine gate_builtin (b:=.append) (xs:=#[.tmp 21,.tmp 24]) rfl ?_);at_builtin;refine Kd.R_append (Kd.int .i64) (w0:=w0) w0.heap.size rfl (.tmp 21) (.tmp 24) 23 3 (.int .i64 0) 8 rfl Try.underlying23 info3 rfl (by decide) (by omega) u7 x7_1 t285 [.int .i64 t285] (fun k_=>((P0_1_ k_ ∨ P0_2_ k_) ∨ w.heap.size ≤ k_) ∧ some k_ ≠ (.slice Ao6 l0_2.length co6 : Value).ownBlock) (fun _=>False) rfl rfl ?aP (fun _ hk=>hk.elim) ?aF ?aO ?aB ?aS ?aL ?_;(case aP=>exact rfl);(case aB=>exact bs);(case aF=>exact (fun k_ hk=>⟨(.inr (Nat.le_trans (by first|exact HK.out.1|exact (show Kept w _ (fun k_=>P0_1_ k_ ∨ P0_2_ k_) from by repeat (first|(with_reducible first|exact HK.out|apply Kept.alloc|apply Kept.drewN|apply Kept.drew|refine Kept.setCell ?_ (.inr GW1.out) _|refine Kept.setCell ?_ (.inl GW279.out) _|refine Kept.setCell ?_ (.inr GW284.out) _)|exact HK.out)).1) hk)),Kd.fresh' (Kd.R_lt (rz HO_280002.out)) k_ hk⟩));(case aO=>exact (rz HO_7.out));(case aS=>exact (below_size bs));(case aL=>have:=LMc15.out;omega);intro v287 w28 ho hb hg hat;rw [← Ny286.out] at ho;have n0_:=Aside0.mk (Kd.R_over' (rz HO_280001.out) (Kd.R_typed (rz HO_7.out)) (by decide) hg);have n1_:=Aside0.mk (Kd.R_after (ok:=(fun k_=>((P0_1_ k_ ∨ P0_2_ k_) ∨ w.heap.size ≤ k_))) (rz HO_280002.out) hg hat);have n2_:=Aside0.mk (blk_grown (g:=g1_) (o:=.cells #[.int .i64 a1_0,.slice (some ad283) l1_1.length c1_1,.slice A1_2 l1_2.length c1_2] 29 (0,0)) (kz BK1.out) hg (Kd.R_ne HO_7.out BK1.out (by decide)));have n3_:=Aside0.mk (blk_grown (g:=gb279) (o:=.cells #[.int .i64 a0_0,.slice Ao26 x280001_1.length co26,.slice Ao6 l0_2.length co6] 29 (0,0)) (kz BK279.out) hg (Kd.R_ne HO_7.out BK279.out (by decide)));have n4_:=Aside0.mk (blk_grown (g:=gb284) (o:=.cells #[.int .i64 ((rd_T73 l1_1 x17_1).f0),.int .i64 ((rd_T73 l1_1 x17_1).f1)] 73 (0,0)) (kz BK284.out) hg (Kd.R_ne HO_7.out BK284.out (by decide)));have n5_:=Aside0.mk (hb);have n6_:=Aside0.mk (Kept.of_grown (S:=(fun k_=>P0_1_ k_ ∨ P0_2_ k_)) hg (by repeat (first|(with_reducible first|exact HK.out|apply Kept.alloc|apply Kept.drewN|apply Kept.drew|refine Kept.setCell ?_ (.inr GW1.out) _|refine Kept.setCell ?_ (.inl GW279.out) _|refine Kept.setCell ?_ (.inr GW284.out) _)|exact HK.out)) (fun k_ e_=>(HO_7.out.1 k_ e_).1));have n7_:=Aside0.mk (ho);clear HO_280001 HO_280002 BK1 BK279 BK284 HB HK HO_7;have HO_280001:=n0_;have HO_280002:=n1_;have BK1:=n2_;have BK279:=n3_;have BK284:=n4_;have HB:=n5_;have HK:=n6_;have HO288:=n7_;clear n0_ n1_ n2_ n3_ n4_ n5_ n6_ n7_;clear ho hb hg hat))
            have n0_:=Aside0.mk (Kd.R_drew HO_280001.out)
            have n1_:=Aside0.mk (Kd.R_drew HO_280002.out)
            have n2_:=Aside0.mk (Kd.R_drew HO288.out)
            have n3_:=Aside0.mk (blk_drew BK1.out)
            have n4_:=Aside0.mk (blk_drew BK279.out)
            have n5_:=Aside0.mk (blk_drew BK284.out)
            have n6_:=Aside0.mk (Kept.drew HK.out)
            have n7_:=Aside0.mk (below_drew1 HB.out)
            clear HO_280001
            clear HO_280002
            clear HO288
            clear BK1
            clear BK279
            clear BK284
            clear HK
            clear HB
            have HO_280001:=n0_
            have HO_280002:=n1_
            have HO288:=n2_
            have BK1:=n3_
            have BK279:=n4_
            have BK284:=n5_
            have HK:=n6_
            have HB:=n7_
            clear n0_ n1_ n2_ n3_ n4_ n5_ n6_ n7_
            obtain ⟨Ao30,co30,eo30⟩:=Kd.R_slice HO288.out
            (first|subst eo30|(injection eo30 with f1_ f2_ f3_;have f4_:=f1_.symm;have f5_:=f3_.symm;clear f1_ f2_ f3_;subst f4_;subst f5_))
            have p289 : 0 ≤ (((rd_T73 l1_1 x17_1).f0) : Int):=of_decide_eq_true az
            have q289 : ((rd_T73 l1_1 x17_1).f0) < (y286.length : Int):=of_decide_eq_true az
            obtain ⟨ad289,e289,hx289_0⟩:=Kd.at_int (Kd.R_reads' HO288.out).2.2 ((rd_T73 l1_1 x17_1).f0) p289 q289
            cases e289
            replace p289:=eq_true p289
            replace q289:=eq_true q289
            have p290 : 0 ≤ (((rd_T73 l1_1 x17_1).f1) : Int):=of_decide_eq_true az
            have q290 : ((rd_T73 l1_1 x17_1).f1) < (y286.length : Int):=of_decide_eq_true az
            obtain ⟨ad290,e290,hx290_0⟩:=Kd.at_int (Kd.R_reads' HO288.out).2.2 ((rd_T73 l1_1 x17_1).f1) p290 q290
            obtain rfl : ad289 = ad290:=(by injection e290)
            replace p290:=eq_true p290
            replace q290:=eq_true q290
            refine start_ (n:=21) (S:=fun w'=>w'.cell? ⟨gb279,0,none⟩ = some (.int .i64 a0_0) ∧ w'.cell? ⟨gb279,1,none⟩ = some (.slice Ao26 x280001_1.length co26) ∧ w'.cell? ⟨gb279,2,none⟩ = some (.slice Ao6 l0_2.length co6) ∧ w'.cell? ⟨gb284,0,none⟩ = some (.int .i64 ((rd_T73 l1_1 x17_1).f0)) ∧ w'.cell? ⟨gb284,1,none⟩ = some (.int .i64 ((rd_T73 l1_1 x17_1).f1)) ∧ w'.cell? (ad289.add (((rd_T73 l1_1 x17_1).f0)).toNat) = some (.int .i64 (rd y286 ((rd_T73 l1_1 x17_1).f0))) ∧ w'.cell? (ad289.add (((rd_T73 l1_1 x17_1).f1)).toNat) = some (.int .i64 (rd y286 ((rd_T73 l1_1 x17_1).f1)))) (ds:=[17,20]) #[false,false,false,false,false,false,false,false,false,false,false,false,false,false,false,false,false,false,false,false,false] (by kernel_rfl) rfl rfl ⟨(blk_cell BK279.out 0).trans rfl,(blk_cell BK279.out 1).trans rfl,(blk_cell BK279.out 2).trans rfl,(blk_cell BK284.out 0).trans rfl,(blk_cell BK284.out 1).trans rfl,hx289_0,hx290_0⟩ (fun hHeld=>?_);refine with_tabW impl_Plan_behind.tab6 impl_Plan_behind.bits6 (fun HT_ HW_=>?_)
            generalize w28.drew = w29 at HO_280001 HO_280002 HO288 BK1 BK279 BK284 HK HB hx289_0 hx290_0 hHeld ⊢
            refine pure_ (i:=0) (N:=some 26) (v:=?_) (a':=?_) #[true,false,false,false,false,false,false,false,false,false,false,false,false,false,false,false,false,false,false,false,false] rfl rfl (any_of HT_.out (by kernel_rfl)) (fun _ _ _ h=>h) (Or.inl ⟨by rfl,?_⟩) ?_ ?_
            rotate_left
            ·intro w'
             go_simp
             with_reducible rfl
            rotate_left
            ·simp only [Act.put,xa,xb,xc,i64_w,i32_w]
             rfl
            refine pure_ (i:=1) (N:=some 27) (v:=?_) (a':=?_) #[true,true,false,false,false,false,false,false,false,false,false,false,false,false,false,false,false,false,false,false,false] rfl rfl (any_of HT_.out (by kernel_rfl)) (fun _ _ _ h=>h) (Or.inl ⟨by rfl,?_⟩) ?_ ?_
            rotate_left
            ·intro w'
             go_simp
             with_reducible rfl
            rotate_left
            ·simp only [Act.put,xa,xb,xc,i64_w,i32_w]
             rfl
            refine pure_ (i:=2) (N:=some 28) (v:=?_) (a':=?_) #[true,true,true,false,false,false,false,false,false,false,false,false,false,false,false,false,false,false,false,false,false] rfl rfl (any_of HT_.out (by kernel_rfl)) (fun _ _ _ h=>h) (Or.inl ⟨by rfl,?_⟩) ?_ ?_
            rotate_left
            ·intro w'
             go_simp
             with_reducible rfl
            rotate_left
            ·simp only [Act.put,xa,xb,xc,i64_w,i32_w]
             rfl
            refine pure_ (i:=3) (N:=some 29) (v:=?_) (a':=?_) #[true,true,true,true,false,false,false,false,false,false,false,false,false,false,false,false,false,false,false,false,false] rfl rfl (any_of HT_.out (by kernel_rfl)) (fun _ _ _ h=>h) (Or.inl ⟨by rfl,?_⟩) ?_ ?_
            rotate_left
            ·intro w'
             go_simp
             with_reducible rfl
            rotate_left
            ·simp only [Act.put,xa,xb,xc,i64_w,i32_w]
             rfl
            refine pure_ (i:=5) (N:=some 31) (v:=?_) (a':=?_) #[true,true,true,true,false,true,false,false,false,false,false,false,false,false,false,false,false,false,false,false,false] rfl rfl (any_of HT_.out (by kernel_rfl)) (fun _ _ _ h=>h) (Or.inl ⟨by rfl,?_⟩) ?_ ?_
            rotate_left
            ·intro w'
             go_simp
             with_reducible rfl
            rotate_left
            ·simp only [Act.put,xa,xb,xc,i64_w,i32_w]
             rfl
            refine pure_ (i:=6) (N:=some 32) (v:=?_) (a':=?_) #[true,true,true,true,false,true,true,false,false,false,false,false,false,false,false,false,false,false,false,false,false] rfl rfl (any_of HT_.out (by kernel_rfl)) (fun _ _ _ h=>h) (Or.inl ⟨by rfl,?_⟩) ?_ ?_
            rotate_left
            ·intro w'
             go_simp
             with_reducible rfl
            rotate_left
            ·simp only [Act.put,xa,xb,xc,i64_w,i32_w]
             rfl
            refine pure_ (i:=10) (N:=some 36) (v:=?_) (a':=?_) #[true,true,true,true,false,true,true,false,false,false,true,false,false,false,false,false,false,false,false,false,false] rfl rfl (any_of HT_.out (by kernel_rfl)) (fun _ _ _ h=>h) (Or.inl ⟨by rfl,?_⟩) ?_ ?_
            rotate_left
            ·intro w'
             go_simp
             with_reducible rfl
            rotate_left
            ·simp only [Act.put,xa,xb,xc,i64_w,i32_w]
             rfl
            refine pure_ (i:=11) (N:=some 37) (v:=?_) (a':=?_) #[true,true,true,true,false,true,true,false,false,false,true,true,false,false,false,false,false,false,false,false,false] rfl rfl (any_of HT_.out (by kernel_rfl)) (fun _ _ _ h=>h) (Or.inl ⟨by rfl,?_⟩) ?_ ?_
            rotate_left
            ·intro w'
             go_simp
             with_reducible rfl
            rotate_left
            ·simp only [Act.put,xa,xb,xc,i64_w,i32_w]
             rfl
            refine take_ (i:=4) (N:=some 30) (v:=?_) (a':=?_) #[true,true,true,true,true,true,true,false,false,false,true,true,false,false,false,false,false,false,false,false,false] rfl rfl (take_ofW HT_.out HW_.out (by kernel_rfl)) (fun _ _ _ h=>h) (Or.inl ⟨by rfl,?_⟩) hHeld ?_ ?_
            rotate_left
            ·rintro w' ⟨s0,s1,s2,s3,s4,s5,s6⟩
             go_simp
             with_reducible rfl
            rotate_left
            ·simp only [Act.put,xa,xb,xc,i64_w,i32_w]
             rfl
            refine take_ (i:=7) (N:=some 33) (v:=?_) (a':=?_) #[true,true,true,true,true,true,true,true,false,false,true,true,false,false,false,false,false,false,false,false,false] rfl rfl (take_ofW HT_.out HW_.out (by kernel_rfl)) (fun _ _ _ h=>h) (Or.inl ⟨by rfl,?_⟩) hHeld ?_ ?_
            rotate_left
            ·rintro w' ⟨s0,s1,s2,s3,s4,s5,s6⟩
             go_simp
             with_reducible rfl
            rotate_left
            ·simp only [Act.put,xa,xb,xc,i64_w,i32_w]
             rfl
            refine pure_ (i:=8) (N:=some 34) (v:=?_) (a':=?_) #[true,true,true,true,true,true,true,true,true,false,true,true,false,false,false,false,false,false,false,false,false] rfl rfl (any_of HT_.out (by kernel_rfl)) (fun _ _ _ h=>h) (Or.inl ⟨by rfl,?_⟩) ?_ ?_
            rotate_left
            ·intro w'
             go_simp
             with_reducible rfl
            rotate_left
            ·simp only [Act.put,xa,xb,xc,i64_w,i32_w]
             rfl
            refine take_ (i:=9) (N:=some 35) (v:=?_) (a':=?_) #[true,true,true,true,true,true,true,true,true,true,true,true,false,false,false,false,false,false,false,false,false] rfl rfl (take_ofW HT_.out HW_.out (by kernel_rfl)) (fun _ _ _ h=>h) (Or.inl ⟨by rfl,?_⟩) hHeld ?_ ?_
            rotate_left
            ·rintro w' ⟨s0,s1,s2,s3,s4,s5,s6⟩
             go_simp
             with_reducible rfl
            rotate_left
            ·simp only [Act.put,xa,xb,xc,i64_w,i32_w]
             rfl
            refine take_ (i:=12) (N:=some 38) (v:=?_) (a':=?_) #[true,true,true,true,true,true,true,true,true,true,true,true,true,false,false,false,false,false,false,false,false] rfl rfl (take_ofW HT_.out HW_.out (by kernel_rfl)) (fun _ _ _ h=>h) (Or.inl ⟨by rfl,?_⟩) hHeld ?_ ?_
            rotate_left
            ·rintro w' ⟨s0,s1,s2,s3,s4,s5,s6⟩
             go_simp
             with_reducible rfl
            rotate_left
            ·simp only [Act.put,xa,xb,xc,i64_w,i32_w]
             rfl
            refine pure_ (i:=13) (N:=some 39) (v:=?_) (a':=?_) #[true,true,true,true,true,true,true,true,true,true,true,true,true,true,false,false,false,false,false,false,false] rfl rfl (any_of HT_.out (by kernel_rfl)) (fun _ _ _ h=>h) (Or.inl ⟨by rfl,?_⟩) ?_ ?_
            rotate_left
            ·intro w'
             go_simp
             with_reducible rfl
            rotate_left
            ·simp only [Act.put,xa,xb,xc,i64_w,i32_w]
             rfl
            refine take_ (i:=14) (N:=some 40) (v:=?_) (a':=?_) #[true,true,true,true,true,true,true,true,true,true,true,true,true,true,true,false,false,false,false,false,false] rfl rfl (take_ofW HT_.out HW_.out (by kernel_rfl)) (fun _ _ _ h=>h) (Or.inl ⟨by rfl,?_⟩) hHeld ?_ ?_
            rotate_left
            ·rintro w' ⟨s0,s1,s2,s3,s4,s5,s6⟩
             go_simp
             with_reducible rfl
            rotate_left
            ·simp only [Act.put,xa,xb,xc,i64_w,i32_w]
             rfl
            refine one_ (i:=15) (N:=some 41) #[true,true,true,true,true,true,true,true,true,true,true,true,true,true,true,true,false,false,false,false,false] rfl rfl (one_of HT_.out (by kernel_rfl)) (by decide) (fun K hK=>?_)
            refine goes_ Try.func65 (by kernel_rfl) rfl #[.int .i64 (rd y286 ((rd_T73 l1_1 x17_1).f0)),.int .i64 (rd y286 ((rd_T73 l1_1 x17_1).f1))] (by rfl) rfl rfl mz ?_
            with_reducible refine (impl_step.calls (rd y286 ((rd_T73 l1_1 x17_1).f0)) (rd y286 ((rd_T73 l1_1 x17_1).f1)) t291 t292 _ A20.out).mono ?_
            rintro e w31 ⟨rfl,hb⟩
            have HS5_:=(hb.cell (World.block_lt_of_cell? _ _ (hHeld.2.2.2.2.2.1))).trans (hHeld.2.2.2.2.2.1)
            have HS6_:=(hb.cell (World.block_lt_of_cell? _ _ (hHeld.2.2.2.2.2.2))).trans (hHeld.2.2.2.2.2.2)
            refine ⟨_,rfl,?_⟩
            have n0_:=Aside0.mk (Kd.R_below (rz HO_280001.out) hb)
            have n1_:=Aside0.mk (Kd.R_below (rz HO_280002.out) hb)
            have n2_:=Aside0.mk (Kd.R_below (rz HO288.out) hb)
            have n3_:=Aside0.mk (kb BK1.out hb)
            have n4_:=Aside0.mk (kb BK279.out hb)
            have n5_:=Aside0.mk (kb BK284.out hb)
            have n6_:=Aside0.mk (Kept.below (S:=(fun k_=>P0_1_ k_ ∨ P0_2_ k_)) (by repeat (first|(with_reducible first|exact HK.out|apply Kept.alloc|apply Kept.drewN|apply Kept.drew|refine Kept.setCell ?_ (.inr GW1.out) _|refine Kept.setCell ?_ (.inl GW279.out) _|refine Kept.setCell ?_ (.inr GW284.out) _)|exact HK.out)) hb)
            have n7_:=Aside0.mk (below_step bs hb)
            clear HO_280001
            clear HO_280002
            clear HO288
            clear BK1
            clear BK279
            clear BK284
            clear HK
            clear HB
            have HO_280001:=n0_
            have HO_280002:=n1_
            have HO288:=n2_
            have BK1:=n3_
            have BK279:=n4_
            have BK284:=n5_
            have HK:=n6_
            have HB:=n7_
            clear n0_ n1_ n2_ n3_ n4_ n5_ n6_ n7_
            (try clear hb)
            refine hK.out _ _ ⟨(blk_cell BK279.out 0).trans rfl,(blk_cell BK279.out 1).trans rfl,(blk_cell BK279.out 2).trans rfl,(blk_cell BK284.out 0).trans rfl,(blk_cell BK284.out 1).trans rfl,HS5_,HS6_⟩ (fun hHeld=>?_)
            clear hK K
            refine norm_ (a':=?_) ?_ ?_
            rotate_left
            ·show Act.put _ (some 41) _ = _
             simp only [Act.put,xa,xb,xc,i64_w,i32_w]
             rfl
            refine one_ (i:=16) (N:=some 42) #[true,true,true,true,true,true,true,true,true,true,true,true,true,true,true,true,true,false,false,false,false] rfl rfl (one_of HT_.out (by kernel_rfl)) (by decide) (fun K hK=>?_)
            refine value_ (w1:=?_) (v:=?_) (by rfl) rfl ?_ ?_
            rotate_left 2
            ·go_simp
             constructor
             ·rfl
             ·rfl
            refine hK.out _ _ ⟨(blk_cell (blk_alloc BK279.out _) 0).trans rfl,(blk_cell (blk_alloc BK279.out _) 1).trans rfl,(blk_cell (blk_alloc BK279.out _) 2).trans rfl,(blk_cell (blk_alloc BK284.out _) 0).trans rfl,(blk_cell (blk_alloc BK284.out _) 1).trans rfl,(World.cell?_alloc_lt _ _ _ (World.block_lt_of_cell? _ _ (hHeld.2.2.2.2.2.1))).trans (hHeld.2.2.2.2.2.1),(World.cell?_alloc_lt _ _ _ (World.block_lt_of_cell? _ _ (hHeld.2.2.2.2.2.2))).trans (hHeld.2.2.2.2.2.2)⟩ (fun hHeld=>?_)
            clear hK K
            refine norm_ (a':=?_) ?_ ?_
            rotate_left
            ·show Act.put _ (some 42) _ = _
             simp only [Act.put,xa,xb,xc,i64_w,i32_w]
             rfl
            refine last_ (i:=17) (N:=some 43) #[true,true,true,true,true,true,true,true,true,true,true,true,true,true,true,true,true,true,false,false,false] rfl rfl (one_of HT_.out (by kernel_rfl)) (by decide) (fun K hK=>?_)
            refine Kd.R_append_step k73 (w0:=w0) w0.heap.size (by rfl) (.tmp 30) (.tmp 42) 27 73 (.agg #[(.int .i64 0),(.int .i64 0)]) 16 rfl Try.underlying27 info73 rfl (by decide) (by omega) (.slice Ao26 x280001_1.length co26) x280001_1 (⟨t291,t292⟩ : S73) [.int .i64 t291,.int .i64 t292] (fun k_=>((P0_1_ k_ ∨ P0_2_ k_) ∨ w.heap.size ≤ k_) ∧ k_ ≠ gb284) (fun _=>False) rfl rfl ?aP (fun _ hk=>hk.elim) ?aF ?aO ?aB ?aS ?aL ?_
            (case aP=>exact k73_mkM _ _ _ (⟨t291,t292⟩ : S73))
            (case aB=>exact bs)
            (case aF=>exact (fun k_ hk=>⟨(.inr (Nat.le_trans (by first|exact HK.out.1|exact (show Kept w _ (fun k_=>P0_1_ k_ ∨ P0_2_ k_) from by repeat (first|(with_reducible first|exact HK.out|apply Kept.alloc|apply Kept.drewN|apply Kept.drew|refine Kept.setCell ?_ (.inr GW1.out) _|refine Kept.setCell ?_ (.inl GW279.out) _|refine Kept.setCell ?_ (.inr GW284.out) _)|exact HK.out)).1) hk)),Kd.freshB (g:=gb284) (o:=.cells #[.int .i64 ((rd_T73 l1_1 x17_1).f0),.int .i64 ((rd_T73 l1_1 x17_1).f1)] 73 (0,0)) (kz BK284.out) k_ hk⟩))
            (case aO=>exact (rz HO_280001.out))
            (case aS=>exact (below_size bs))
            (case aL=>have:=LMc21.out;omega)
            intro v294 w32 ho hb hg hat
            rw [← Ny293.out] at ho
            have n0_:=Aside0.mk (Kd.R_over' (rz HO_280002.out) (Kd.R_typed (rz HO_280001.out)) (by decide) hg)
            have n1_:=Aside0.mk (blk_grown (g:=g1_) (o:=.cells #[.int .i64 a1_0,.slice (some ad283) l1_1.length c1_1,.slice A1_2 l1_2.length c1_2] 29 (0,0)) (kz BK1.out) hg (Kd.R_ne HO_280001.out BK1.out (by decide)))
            have n2_:=Aside0.mk (blk_grown (g:=gb279) (o:=.cells #[.int .i64 a0_0,.slice Ao26 x280001_1.length co26,.slice Ao6 l0_2.length co6] 29 (0,0)) (kz BK279.out) hg (Kd.R_ne HO_280001.out BK279.out (by decide)))
            have n3_:=Aside0.mk (blk_grown (g:=gb284) (o:=.cells #[.int .i64 ((rd_T73 l1_1 x17_1).f0),.int .i64 ((rd_T73 l1_1 x17_1).f1)] 73 (0,0)) (kz BK284.out) hg (Kd.R_away HO_280001.out (fun _ hk=>hk.2)))
            have n4_:=Aside0.mk (Kd.R_over' (rz HO288.out) (Kd.R_typed (rz HO_280001.out)) (by decide) hg)
            have n5_:=Aside0.mk (hb)
            have n6_:=Aside0.mk (Kept.of_grown (S:=(fun k_=>P0_1_ k_ ∨ P0_2_ k_)) hg (by repeat (first|(with_reducible first|exact HK.out|apply Kept.alloc|apply Kept.drewN|apply Kept.drew|refine Kept.setCell ?_ (.inr GW1.out) _|refine Kept.setCell ?_ (.inl GW279.out) _|refine Kept.setCell ?_ (.inr GW284.out) _)|exact HK.out)) (fun k_ e_=>(HO_280001.out.1 k_ e_).1))
            have n7_:=Aside0.mk (ho)
            clear HO_280002
            clear BK1
            clear BK279
            clear BK284
            clear HO288
            clear HB
            clear HK
            clear HO_280001
            have HO_280002:=n0_
            have BK1:=n1_
            have BK279:=n2_
            have BK284:=n3_
            have HO288:=n4_
            have HB:=n5_
            have HK:=n6_
            have HO295:=n7_
            clear n0_ n1_ n2_ n3_ n4_ n5_ n6_ n7_
            clear ho hb hg hat
            obtain ⟨Ao33,co33,eo33⟩:=Kd.R_slice HO295.out
            (first|subst eo33|(injection eo33 with f1_ f2_ f3_;have f4_:=f1_.symm;have f5_:=f3_.symm;clear f1_ f2_ f3_;subst f4_;subst f5_))
            refine hK.out _ _ ?_
            clear hK K
            refine norm_ (a':=?_) ?_ ?_
            rotate_left
            ·show Act.put _ (some 43) _ = _
             simp only [Act.put,xa,xb,xc,i64_w,i32_w]
             rfl
            refine pure_ (i:=18) (N:=some 44) (v:=?_) (a':=?_) #[true,true,true,true,true,true,true,true,true,true,true,true,true,true,true,true,true,true,true,false,false] rfl rfl (any_of HT_.out (by kernel_rfl)) (fun _ _ _ h=>h) (Or.inl ⟨by rfl,?_⟩) ?_ ?_
            rotate_left
            ·intro w'
             go_simp
             with_reducible rfl
            rotate_left
            ·simp only [Act.put,xa,xb,xc,i64_w,i32_w]
             rfl
            refine pure_ (i:=19) (N:=some 45) (v:=?_) (a':=?_) #[true,true,true,true,true,true,true,true,true,true,true,true,true,true,true,true,true,true,true,true,false] rfl rfl (any_of HT_.out (by kernel_rfl)) (fun _ _ _ h=>h) (Or.inl ⟨by rfl,?_⟩) ?_ ?_
            rotate_left
            ·intro w'
             go_simp
             with_reducible rfl
            rotate_left
            ·simp only [Act.put,xa,xb,xc,i64_w,i32_w]
             rfl
            refine last_ (i:=20) (N:=none) #[true,true,true,true,true,true,true,true,true,true,true,true,true,true,true,true,true,true,true,true,true] rfl rfl (one_of HT_.out (by kernel_rfl)) (by decide) (fun K hK=>?_)
            have hs34 : w32.cell? ⟨gb279,1,none⟩ = some (.slice Ao26 x280001_1.length co26):=(blk_cell BK279.out 1).trans rfl
            have hfs34:=blk_frozen BK279.out 1
            have hns34_0:=NB1_279.out
            have hns34_2:=NB284_279.out
            have hms34_0:=NB279_1.out
            have hms34_2:=NB279_284.out
            refine skip_ (w1:=?_) (by rfl) rfl ?_ ?_
            rotate_left
            ·go_simp
             rfl
            refine hK.out _ _ ?_
            clear hK K
            refine done_ (done_of HT_.out (by kernel_rfl)) ?_
            try go_wp2
            go_roundg k1
            case measure=>have:=HK1.out;omega
            case rel=>exact ⟨(y286),(wrap64 (x17_1 + 1)),(y293),(.slice Ao33 y293.length co33),fz,H',⟨by have:=HK1.out;omega⟩,⟨by (with_reducible repeat (first|apply Kd.R_alloc|apply Kd.R_drewN|apply Kd.R_drew));exact Kd.R_mono (Kd.R_far (p:=⟨gb279,1,none⟩) (Kd.R_types HO288.out BK279.out (by decide)) (fun _ hk=>hk.2) (.slice Ao33 y293.length co33)) (fun _ hk=>⟨hk.1.1,hk.1.2⟩)⟩,⟨by (with_reducible repeat (first|apply Kd.R_alloc|apply Kd.R_drewN|apply Kd.R_drew));exact Kd.R_mono (Kd.R_far (p:=⟨gb279,1,none⟩) (Kd.R_types HO295.out BK279.out (by decide)) (fun _ hk=>hk.2) (.slice Ao33 y293.length co33)) (fun _ hk=>hk.1.1)⟩,⟨by (with_reducible repeat (first|apply Kd.R_alloc|apply Kd.R_drewN|apply Kd.R_drew));exact Kd.R_mono (Kd.R_far (p:=⟨gb279,1,none⟩) (Kd.R_types HO_280002.out BK279.out (by decide)) (fun _ hk=>hk.2) (.slice Ao33 y293.length co33)) (fun _ hk=>⟨hk.1.1,hk.1.2⟩)⟩,⟨by (with_reducible repeat (first|refine blk_drewN ?_ _|refine blk_drew ?_|refine blk_alloc ?_ _));refine blk_far ?_ NB1_279.out _;(with_reducible repeat (first|refine blk_drewN ?_ _|refine blk_drew ?_|refine blk_alloc ?_ _));exact BK1.out⟩,⟨by (with_reducible repeat (first|refine blk_drewN ?_ _|refine blk_drew ?_|refine blk_alloc ?_ _));refine blk_put (cs:=#[.int .i64 a0_0,.slice Ao26 x280001_1.length co26,.slice Ao6 l0_2.length co6]) ?_ 1 _ rfl;(with_reducible repeat (first|refine blk_drewN ?_ _|refine blk_drew ?_|refine blk_alloc ?_ _));exact BK279.out⟩,⟨by repeat (first|(with_reducible first|exact HK.out|apply Kept.alloc|apply Kept.drewN|apply Kept.drew|refine Kept.setCell ?_ (.inr GW1.out) _|refine Kept.setCell ?_ (.inl GW279.out) _|refine Kept.setCell ?_ (.inr GW284.out) _)|exact HK.out)⟩,⟨by repeat (first|(with_reducible first|exact HB.out|apply below_alloc|apply pw_below_drewN|apply below_drew1|refine below_set ?_ GE1.out|refine below_set ?_ GE279.out|refine below_set ?_ GE284.out)|exact HB.out)⟩⟩
           ·rw [if_neg c21] at H
            exact absurd H (by simp)
          ·rw [if_neg c19] at H
           exact absurd H (by simp)
         ·rw [if_neg c18] at H
          exact absurd H (by simp)
        ·rw [if_neg c17] at H
         exact absurd H (by simp)
       ·rw [if_neg c16] at H
        exact absurd H (by simp)
      ·rw [if_neg c15] at H
       exact absurd H (by simp)
     ·rw [if_neg c13] at H
      exact absurd H (by simp)
    ·rw [if_neg c12] at H
     exact absurd H (by simp)
   ·rw [if_neg c11] at H
    have c11b0 : decide (x17_1 < (l1_1.length : Int)) = false:=decide_eq_false c11
    clear c11
    simp only [Option.some.injEq,Prod.mk.injEq] at H
    obtain ⟨rfl,rfl,rfl,rfl⟩:=H
    go_wp2
    go_ret
    exact ⟨_,rfl,_,_,⟨rfl⟩,by (with_reducible repeat (first|refine blk_drewN ?_ _|refine blk_drew ?_|refine blk_alloc ?_ _));exact BK279.out,by (with_reducible repeat (first|apply Kd.R_alloc|apply Kd.R_drewN|apply Kd.R_drew));exact HO_7.out,by (with_reducible repeat (first|apply Kd.R_alloc|apply Kd.R_drewN|apply Kd.R_drew));exact HO_280001.out,by (with_reducible repeat (first|apply Kd.R_alloc|apply Kd.R_drewN|apply Kd.R_drew));exact HO_280002.out,by repeat (first|(with_reducible first|exact HB.out|apply below_alloc|apply pw_below_drewN|apply below_drew1|refine below_set ?_ GE1.out|refine below_set ?_ GE279.out)|exact HB.out),by repeat (first|(with_reducible first|exact HK.out|apply Kept.alloc|apply Kept.drewN|apply Kept.drew|refine Kept.setCell ?_ (.inr GW1.out) _|refine Kept.setCell ?_ (.inl GW279.out) _)|exact HK.out)⟩
/-! ### impl_firsts: function 48 -/
def impl_firsts.l0 : Nat → List Int → Int → Int → Option (List Int)
 | 0,_,_,_=>none
 | k + 1,x3,x6,x7=>if x7 < x6 then (if x3.length < 17592186044416 then (impl_firsts.l0 k (x3 ++ [x7]) x6 (wrap64 (x7 + 1))) else (none)) else (some x3)
def impl_firsts.f (k : Nat) (a0 : Int) : Option (List Int):=impl_firsts.l0 k (([] : List Int)) a0 0
theorem impl_firsts.mono_l : ∀ k,(∀ y0 y1 y2,LeO (impl_firsts.l0 k y0 y1 y2) (impl_firsts.l0 (k + 1) y0 y1 y2))
 | 0=>fun _ _ _ r h=>by simp [impl_firsts.l0] at h
 | k + 1=>by
  have ih0:=impl_firsts.mono_l k
  ·intro y0 y1 y2
   unfold impl_firsts.l0
   repeat' first
   | (with_reducible exact ih0 _ _ _)
   | (with_reducible exact LeO.refl _)
   | (with_reducible exact LeO.none _)
   | (with_reducible refine LeO.ite ?_ ?_)
   | (with_reducible refine LeO.bind ?_ (fun _=>?_))
   | exact ih0 _ _ _
   | exact LeO.none _
   | refine LeO.ite ?_ ?_
   | refine LeO.bind ?_ (fun _=>?_)
theorem impl_firsts.mono : ∀ a0 k,LeO (impl_firsts.f k a0) (impl_firsts.f (k + 1) a0):=by
 intro a0 k
 have ih0:=impl_firsts.mono_l k
 unfold impl_firsts.f
 repeat' first
   | (with_reducible exact ih0 _ _ _)
   | (with_reducible exact LeO.refl _)
   | (with_reducible exact LeO.none _)
   | (with_reducible refine LeO.ite ?_ ?_)
   | (with_reducible refine LeO.bind ?_ (fun _=>?_))
   | exact ih0 _ _ _
   | exact LeO.none _
   | refine LeO.ite ?_ ?_
   | refine LeO.bind ?_ (fun _=>?_)
set_option maxHeartbeats 8000000 in
set_option maxRecDepth 100000 in
theorem impl_firsts.calls (k : Nat) (a0 : Int) (r : List Int) (w : World) (h : impl_firsts.f k a0 = some r) :
  Calls Try.prog 48 #[.int .i64 a0] w fun e w'=>∃ v0_ : Value,e = .returned (v0_) ∧ Kd.R (Kd.int .i64) 3 w' w.heap.size (fun _=>True) v0_ r ∧ Below w.heap.size w w':=by
 have HB:=Aside0.mk (Below.refl w.heap.size w)
 have H : (impl_firsts.l0 k (([] : List Int)) a0 0) = some r:=h
 clear h
 obtain ⟨y279,hy279⟩ : ∃ y_ : List Int,y_ = (([] : List Int)):=⟨_,rfl⟩
 replace H : (impl_firsts.l0 k y279 a0 0) = some r:=by first|(rw [hy279];with_reducible exact H)|(have H2_:=(Option.bind_some _ _).symm.trans H;rw [hy279];with_reducible exact H2_)|(have H2_:=(Option.bind_some _ _).symm.trans H;with_reducible exact H2_)|with_reducible exact H|(rw [hy279];exact H)|exact H
 have Ny279:=Aside0.mk hy279
 clear hy279
 have H':=Aside0.mk H
 clear H
 go_enter Try.func48,Try.ntmps48
 go_wp2_with (first|((with_reducible refine gate_dst (N:=5) rfl ?_);refine Kd.R_lit (Kd.int .i64) _ 3 ?hg (N:=5) ?hd (xs:=([] : List Int)) (inner:=[]) (ok:=fun _=>True) (okp:=fun _=>True) ?hr ?hp (fun _ hk=>hk) trivial (Below.refl _ _) (Nat.le_refl _) (by simp) ?_;(case hd=>rfl);(case hg=>rfl);(case hr=>first|(go_simp;done)|(go_simp;rfl));(case hp=>exact (Reps.none _ _));intro v280 w2 ho3 hb hg_ hnew_;clear hg_ hnew_;(first|rw [← Ny279.out] at ho3|(simp only [Int.reduceToNat] at ho3;rw [← Ny279.out] at ho3));have n0_:=Aside0.mk (Kd.R_lower ho3 (below_size bz));have n1_:=Aside0.mk (below_step bz hb);clear HB;have HO281:=n0_;have HB:=n1_;clear n0_ n1_;clear hb ho3))
 go_loopg [3,7] k (fun kq v3 v7 w'=>∃ (x3_1 : List Int) (x7_1 : Int),v7 = .int .i64 x7_1 ∧ Aside0 (impl_firsts.l0 kq x3_1 a0 x7_1 = some r) ∧ Aside0 (kq ≤ k) ∧ Aside0 (Kd.R (Kd.int .i64) 3 w' w.heap.size (fun _=>True) v3 x3_1) ∧ Aside0 (Below w.heap.size w w'))
 case atStart=>exact ⟨(y279),(0),fz,H',⟨Nat.le_refl _⟩,⟨by (with_reducible repeat (first|apply Kd.R_alloc|apply Kd.R_drewN|apply Kd.R_drew));exact HO281.out⟩,⟨by repeat (first|(with_reducible first|exact HB.out|apply below_alloc|apply pw_below_drewN|apply below_drew1)|exact HB.out)⟩⟩
 case round=>
  clear H'
  try clear p2
  obtain ⟨x3_1,x7_1,rfl,HA,HK1,HO_3,HB⟩:=hrel
  cases gk with
  | zero=>exact absurd HA.out (by simp [impl_firsts.l0])
  | succ k1=>
   have H:=HA.out
   clear HA
   simp only [impl_firsts.l0] at H
   by_cases c4 : x7_1 < a0
   ·rw [if_pos c4] at H
    have c4b0 : decide (x7_1 < a0) = true:=decide_eq_true c4
    clear c4
    by_cases c5 : x3_1.length < 17592186044416
    ·rw [if_pos c5] at H
     have LMc5:=Aside0.mk c5
     clear c5
     obtain ⟨y282,hy282⟩ : ∃ y_ : List Int,y_ = (x3_1 ++ [x7_1]):=⟨_,rfl⟩
     replace H : (impl_firsts.l0 k1 y282 a0 (wrap64 (x7_1 + 1))) = some r:=by first|(rw [hy282];with_reducible exact H)|(have H2_:=(Option.bind_some _ _).symm.trans H;rw [hy282];with_reducible exact H2_)|(have H2_:=(Option.bind_some _ _).symm.trans H;with_reducible exact H2_)|with_reducible exact H|(rw [hy282];exact H)|exact H
     have Ny282:=Aside0.mk hy282
     clear hy282
     have H':=Aside0.mk H
     clear H
     go_wp2_with (first|((with_reducible refine gate_builtin (b:=.append) (xs:=#[.tmp 10,.tmp 12]) rfl ?_);at_builtin;refine Kd.R_append (Kd.int .i64) (w0:=w) w.heap.size rfl (.tmp 10) (.tmp 12) 23 3 (.int .i64 0) 8 rfl Try.underlying23 info3 rfl (by decide) (by omega) u3 x3_1 x7_1 [.int .i64 x7_1] (fun _=>True) (fun _=>False) rfl rfl ?aP (fun _ hk=>hk.elim) ?aF ?aO ?aB ?aS ?aL ?_;(case aP=>exact rfl);(case aB=>exact bz);(case aF=>exact (fun _ _=>trivial));(case aO=>exact (rz HO_3.out));(case aS=>exact (below_size bz));(case aL=>have:=LMc5.out;omega);intro v283 w6 ho hb hg hat;rw [← Ny282.out] at ho;have n0_:=Aside0.mk (hb);have n1_:=Aside0.mk (ho);clear HB HO_3;have HB:=n0_;have HO284:=n1_;clear n0_ n1_;clear ho hb hg hat))
     go_roundg k1
     case measure=>have:=HK1.out;omega
     case rel=>exact ⟨(y282),(wrap64 (x7_1 + 1)),fz,H',⟨by have:=HK1.out;omega⟩,⟨by (with_reducible repeat (first|apply Kd.R_alloc|apply Kd.R_drewN|apply Kd.R_drew));exact HO284.out⟩,⟨by repeat (first|(with_reducible first|exact HB.out|apply below_alloc|apply pw_below_drewN|apply below_drew1)|exact HB.out)⟩⟩
    ·rw [if_neg c5] at H
     exact absurd H (by simp)
   ·rw [if_neg c4] at H
    have c4b0 : decide (x7_1 < a0) = false:=decide_eq_false c4
    clear c4
    obtain rfl:=Option.some.inj H
    go_wp2
    go_ret
    exact ⟨_,by first|rfl|(simp [errW_none,errW_some] <;> rfl)|(simp [*,errW_none,errW_some] <;> rfl),by (with_reducible repeat (first|apply Kd.R_alloc|apply Kd.R_drewN|apply Kd.R_drew));exact HO_3.out,by repeat (first|(with_reducible first|exact HB.out|apply below_alloc|apply pw_below_drewN|apply below_drew1)|exact HB.out)⟩
/-! ### impl_told: function 49 -/
def impl_told.f (k : Nat) (a0_0 : Int) (l0_1 : List (S73)) (l0_2 : List Int) : Option (Int × (List (S73)) × List Int × Bool):=(impl_IsPlan.f k a0_0 l0_1 l0_2).bind fun t287=>(if t287 = true then (some (a0_0,l0_1,l0_2,true)) else (some (0,([] : List (S73)),([] : List Int),false)))
theorem impl_told.mono : ∀ a0 a1 a2 k,LeO (impl_told.f k a0 a1 a2) (impl_told.f (k + 1) a0 a1 a2):=by
 intro a0 a1 a2 k
 unfold impl_told.f
 repeat' first
   | (with_reducible exact impl_IsPlan.mono _ _ _ _)
   | (with_reducible exact LeO.refl _)
   | (with_reducible exact LeO.none _)
   | (with_reducible refine LeO.ite ?_ ?_)
   | (with_reducible refine LeO.bind ?_ (fun _=>?_))
   | exact impl_IsPlan.mono _ _ _ _
   | exact LeO.none _
   | refine LeO.ite ?_ ?_
   | refine LeO.bind ?_ (fun _=>?_)
set_option maxHeartbeats 8000000 in
set_option maxRecDepth 100000 in
theorem impl_told.calls (k : Nat) (a0_0 : Int) (P0_1_ : Nat → Prop) (u9000_ : Value) (l0_1 : List (S73)) (P0_2_ : Nat → Prop) (u9001_ : Value) (l0_2 : List Int) (r1 : Int) (r2 : List (S73)) (r3 : List Int) (r4 : Bool) (w0 w : World) (hB : Below w0.heap.size w0 w) (ho0_1 : Kd.R k73 73 w w0.heap.size P0_1_ u9000_ l0_1) (ho0_2 : Kd.R (Kd.int .i64) 3 w w0.heap.size P0_2_ u9001_ l0_2) (h : impl_told.f k a0_0 l0_1 l0_2 = some (r1,r2,r3,r4)) :
  Calls Try.prog 49 #[.agg #[.int .i64 a0_0,u9000_,u9001_]] w fun e w'=>∃ v1_ v2_ : Value,e = .returned (.tuple #[.agg #[.int .i64 r1,v1_,v2_],.bool r4]) ∧ Kd.R k73 73 w' w0.heap.size (fun k_=>((P0_1_ k_ ∨ P0_2_ k_) ∨ w.heap.size ≤ k_)) v1_ r2 ∧ Kd.R (Kd.int .i64) 3 w' w0.heap.size (fun k_=>((P0_1_ k_ ∨ P0_2_ k_) ∨ w.heap.size ≤ k_)) v2_ r3 ∧ Below w0.heap.size w0 w' ∧ Kept w w' (fun k_=>P0_1_ k_ ∨ P0_2_ k_):=by
 have hu29:=Try.underlying29
 have HO0_1:=Aside0.mk (show Kd.R k73 73 w w0.heap.size (fun k_=>((P0_1_ k_ ∨ P0_2_ k_) ∨ w.heap.size ≤ k_)) u9000_ l0_1 from Kd.R_mono ho0_1 (fun k_ hk=>(.inl (.inl hk))))
 have HO0_2:=Aside0.mk (show Kd.R (Kd.int .i64) 3 w w0.heap.size (fun k_=>((P0_1_ k_ ∨ P0_2_ k_) ∨ w.heap.size ≤ k_)) u9001_ l0_2 from Kd.R_mono ho0_2 (fun k_ hk=>(.inl (.inr hk))))
 have HK:=Aside0.mk (Kept.refl w (fun k_=>P0_1_ k_ ∨ P0_2_ k_))
 have HW0:=Aside0.mk hB.size
 have HB:=Aside0.mk hB
 clear hB
 have H : ((impl_IsPlan.f k a0_0 l0_1 l0_2).bind fun t287=>(if t287 = true then (some (a0_0,l0_1,l0_2,true)) else (some (0,([] : List (S73)),([] : List Int),false)))) = some (r1,r2,r3,r4):=h
 clear h
 obtain ⟨t287,A2,H⟩:=bd H
 by_cases c3 : t287 = true
 ·subst c3
  rw [if_pos rfl] at H
  simp only [Option.some.injEq,Prod.mk.injEq] at H
  obtain ⟨rfl,rfl,rfl,rfl⟩:=H
  obtain ⟨Ao4,co4,eo4⟩:=Kd.R_slice HO0_1.out
  subst eo4
  obtain ⟨Ao5,co5,eo5⟩:=Kd.R_slice HO0_2.out
  subst eo5
  go_enter Try.func49,Try.ntmps49
  go_wp2_with (first|((with_reducible refine gate_dst (N:=1) rfl ?_);refine box_event ?hg (N:=1) ?hd (cs:=#[.int .i64 a0_0,.slice Ao4 l0_1.length co4,.slice Ao5 l0_2.length co5]) (t:=29) ?hr ?_;(case hd=>rfl);(case hg=>rfl);(case hr=>first|(go_simp;done)|(go_simp;rfl));intro gb285 hg w6 hbox hb;have n0_:=Aside0.mk (Kd.R_below (rz HO0_1.out) hb);have n1_:=Aside0.mk (Kd.R_below (rz HO0_2.out) hb);have n2_:=Aside0.mk (Kept.below (S:=(fun k_=>P0_1_ k_ ∨ P0_2_ k_)) (by repeat (first|(with_reducible first|exact HK.out|apply Kept.alloc|apply Kept.drewN|apply Kept.drew)|exact HK.out)) hb);have n3_:=Aside0.mk (below_step bz hb);have n4_:=Aside0.mk (hbox);have n5_:=Aside0.mk ((by rw [hg];exact (by first|exact HK.out.1|exact (show Kept w _ (fun k_=>P0_1_ k_ ∨ P0_2_ k_) from by repeat (first|(with_reducible first|exact HK.out|apply Kept.alloc|apply Kept.drewN|apply Kept.drew)|exact HK.out)).1) : w.heap.size ≤ gb285));have n6_:=Aside0.mk ((by rw [hg];exact (below_size bz) : w0.heap.size ≤ gb285));clear HO0_1 HO0_2 HK HB;have HO0_1:=n0_;have HO0_2:=n1_;have HK:=n2_;have HB:=n3_;have BK285:=n4_;have GW285:=n5_;have GE285:=n6_;clear n0_ n1_ n2_ n3_ n4_ n5_ n6_;clear hb hbox hg)|((with_reducible refine gate_dst (N:=2) rfl ?_);refine box_event ?hg (N:=2) ?hd (cs:=#[.int .i64 0,.slice none 0 0,.slice none 0 0]) (t:=29) ?hr ?_;(case hd=>rfl);(case hg=>rfl);(case hr=>first|(go_simp;done)|(go_simp;rfl));intro gb286 hg w7 hbox hb;have n0_:=Aside0.mk (Kd.R_below (rz HO0_1.out) hb);have n1_:=Aside0.mk (Kd.R_below (rz HO0_2.out) hb);have n2_:=Aside0.mk (kb BK285.out hb);have n3_:=Aside0.mk (Kept.below (S:=(fun k_=>P0_1_ k_ ∨ P0_2_ k_)) (by repeat (first|(with_reducible first|exact HK.out|apply Kept.alloc|apply Kept.drewN|apply Kept.drew|refine Kept.setCell ?_ (.inr GW285.out) _)|exact HK.out)) hb);have n4_:=Aside0.mk (below_step bs hb);have n5_:=Aside0.mk (hbox);have n6_:=Aside0.mk ((by rw [hg];exact (by first|exact HK.out.1|exact (show Kept w _ (fun k_=>P0_1_ k_ ∨ P0_2_ k_) from by repeat (first|(with_reducible first|exact HK.out|apply Kept.alloc|apply Kept.drewN|apply Kept.drew|refine Kept.setCell ?_ (.inr GW285.out) _)|exact HK.out)).1) : w.heap.size ≤ gb286));have n7_:=Aside0.mk ((by rw [hg];exact (below_size bs) : w0.heap.size ≤ gb286));have n8_:=Aside0.mk (kn hg BK285.out);have n9_:=Aside0.mk (km hg BK285.out);clear HO0_1 HO0_2 BK285 HK HB;have HO0_1:=n0_;have HO0_2:=n1_;have BK285:=n2_;have HK:=n3_;have HB:=n4_;have BK286:=n5_;have GW286:=n6_;have GE286:=n7_;have NB285_286:=n8_;have NB286_285:=n9_;clear n0_ n1_ n2_ n3_ n4_ n5_ n6_ n7_ n8_ n9_;clear hb hbox hg;have hnb8:=NB285_286.out;have hnc8:=NB286_285.out;have hcz9_0 : w7.cell? ⟨gb285,0,none⟩ = some (.int .i64 a0_0):=(blk_cell BK285.out 0).trans rfl;have hcz9_1 : w7.cell? ⟨gb285,1,none⟩ = some (.slice Ao4 l0_1.length co4):=(blk_cell BK285.out 1).trans rfl;have hcz9_2 : w7.cell? ⟨gb285,2,none⟩ = some (.slice Ao5 l0_2.length co5):=(blk_cell BK285.out 2).trans rfl;have hfz9_0:=blk_frozen BK285.out 0;have hfz9_1:=blk_frozen BK285.out 1;have hfz9_2:=blk_frozen BK285.out 2)|((with_reducible refine gate_callee (f:=44) rfl ?_);refine goesL_ (some 5) rfl rfl Try.func44 (by kernel_rfl) rfl #[.agg #[.int .i64 a0_0,.slice Ao4 l0_1.length co4,.slice Ao5 l0_2.length co5]] rfl mz ?_;(with_reducible refine (impl_IsPlan.calls k a0_0 _ _ l0_1 _ _ l0_2 true _ ?side1 ?side2 ?side3 ?side4 A2.out).mono ?_);(case side1=>exact cz (Kd.R_reads' HO0_1.out).2.2);(case side2=>exact (Kd.R_reads' HO0_1.out).2.1);(case side3=>exact cz (Kd.R_reads' HO0_2.out).2.2);(case side4=>exact (Kd.R_reads' HO0_2.out).2.1);rintro e w10 ⟨rfl,hb⟩;refine ⟨_,rfl,?_⟩;have n0_:=Aside0.mk (Kd.R_below (rz HO0_1.out) hb);have n1_:=Aside0.mk (Kd.R_below (rz HO0_2.out) hb);have n2_:=Aside0.mk (kb BK285.out hb);have n3_:=Aside0.mk (kb BK286.out hb);have n4_:=Aside0.mk (Kept.below (S:=(fun k_=>P0_1_ k_ ∨ P0_2_ k_)) (by repeat (first|(with_reducible first|exact HK.out|apply Kept.alloc|apply Kept.drewN|apply Kept.drew|refine Kept.setCell ?_ (.inr GW285.out) _|refine Kept.setCell ?_ (.inr GW286.out) _)|exact HK.out)) hb);have n5_:=Aside0.mk (below_step bs hb);clear HO0_1 HO0_2 BK285 BK286 HK HB;have HO0_1:=n0_;have HO0_2:=n1_;have BK285:=n2_;have BK286:=n3_;have HK:=n4_;have HB:=n5_;clear n0_ n1_ n2_ n3_ n4_ n5_;(try clear hb);have hcz11_0 : w10.cell? ⟨gb285,0,none⟩ = some (.int .i64 a0_0):=(blk_cell BK285.out 0).trans rfl;have hcz11_1 : w10.cell? ⟨gb285,1,none⟩ = some (.slice Ao4 l0_1.length co4):=(blk_cell BK285.out 1).trans rfl;have hcz11_2 : w10.cell? ⟨gb285,2,none⟩ = some (.slice Ao5 l0_2.length co5):=(blk_cell BK285.out 2).trans rfl;have hfz11_0:=blk_frozen BK285.out 0;have hfz11_1:=blk_frozen BK285.out 1;have hfz11_2:=blk_frozen BK285.out 2;have hcz12_0 : w10.cell? ⟨gb286,0,none⟩ = some (.int .i64 0):=(blk_cell BK286.out 0).trans rfl;have hcz12_1 : w10.cell? ⟨gb286,1,none⟩ = some (.slice none 0 0):=(blk_cell BK286.out 1).trans rfl;have hcz12_2 : w10.cell? ⟨gb286,2,none⟩ = some (.slice none 0 0):=(blk_cell BK286.out 2).trans rfl;have hfz12_0:=blk_frozen BK286.out 0;have hfz12_1:=blk_frozen BK286.out 1;have hfz12_2:=blk_frozen BK286.out 2))
  refine bodyPost_ret (results_ct rfl _ _ gb286 29 #[.int .i64 a0_0,.slice Ao4 l0_1.length co4,.slice Ao5 l0_2.length co5] (0,0) _ rfl (by (with_reducible repeat (first|refine blk_drewN ?_ _|refine blk_drew ?_|refine blk_alloc ?_ _));refine blk_put (cs:=#[.int .i64 a0_0,.slice Ao4 l0_1.length co4,.slice none 0 0]) ?_ 2 _ rfl;(with_reducible repeat (first|refine blk_drewN ?_ _|refine blk_drew ?_|refine blk_alloc ?_ _));refine blk_put (cs:=#[.int .i64 a0_0,.slice none 0 0,.slice none 0 0]) ?_ 1 _ rfl;(with_reducible repeat (first|refine blk_drewN ?_ _|refine blk_drew ?_|refine blk_alloc ?_ _));refine blk_put (cs:=#[.int .i64 0,.slice none 0 0,.slice none 0 0]) ?_ 0 _ rfl;(with_reducible repeat (first|refine blk_drewN ?_ _|refine blk_drew ?_|refine blk_alloc ?_ _));exact BK286.out) Try.underlying29 rfl (by kernel_rfl)) rfl ?_
  exact ⟨_,_,by first|rfl|(simp [errW_none,errW_some] <;> rfl)|(simp [*,errW_none,errW_some] <;> rfl),by (with_reducible repeat (first|apply Kd.R_alloc|apply Kd.R_drewN|apply Kd.R_drew));exact Kd.R_mono (Kd.R_far (p:=⟨gb286,2,none⟩) (Kd.R_far (p:=⟨gb286,1,none⟩) (Kd.R_far (p:=⟨gb286,0,none⟩) (Kd.R_types HO0_1.out BK286.out (by decide)) (fun _ hk=>hk.2) (.int .i64 a0_0)) (fun _ hk=>hk.2) (.slice Ao4 l0_1.length co4)) (fun _ hk=>hk.2) (.slice Ao5 l0_2.length co5)) (fun _ hk=>hk.1),by (with_reducible repeat (first|apply Kd.R_alloc|apply Kd.R_drewN|apply Kd.R_drew));exact Kd.R_mono (Kd.R_far (p:=⟨gb286,2,none⟩) (Kd.R_far (p:=⟨gb286,1,none⟩) (Kd.R_far (p:=⟨gb286,0,none⟩) (Kd.R_types HO0_2.out BK286.out (by decide)) (fun _ hk=>hk.2) (.int .i64 a0_0)) (fun _ hk=>hk.2) (.slice Ao4 l0_1.length co4)) (fun _ hk=>hk.2) (.slice Ao5 l0_2.length co5)) (fun _ hk=>hk.1),by repeat (first|(with_reducible first|exact HB.out|apply below_alloc|apply pw_below_drewN|apply below_drew1|refine below_set ?_ GE285.out|refine below_set ?_ GE286.out)|exact HB.out),by repeat (first|(with_reducible first|exact HK.out|apply Kept.alloc|apply Kept.drewN|apply Kept.drew|refine Kept.setCell ?_ (.inr GW285.out) _|refine Kept.setCell ?_ (.inr GW286.out) _)|exact HK.out)⟩
 ·replace c3:=Bool.eq_false_iff.mpr c3
  subst c3
  rw [if_neg (show ¬ (false = true) by decide)] at H
  simp only [Option.some.injEq,Prod.mk.injEq] at H
  obtain ⟨rfl,rfl,rfl,rfl⟩:=H
  obtain ⟨Ao13,co13,eo13⟩:=Kd.R_slice HO0_1.out
  subst eo13
  obtain ⟨Ao14,co14,eo14⟩:=Kd.R_slice HO0_2.out
  subst eo14
  go_enter Try.func49,Try.ntmps49
  go_wp2_with (first|((with_reducible refine gate_dst (N:=1) rfl ?_);refine box_event ?hg (N:=1) ?hd (cs:=#[.int .i64 a0_0,.slice Ao13 l0_1.length co13,.slice Ao14 l0_2.length co14]) (t:=29) ?hr ?_;(case hd=>rfl);(case hg=>rfl);(case hr=>first|(go_simp;done)|(go_simp;rfl));intro gb285 hg w15 hbox hb;have n0_:=Aside0.mk (Kd.R_below (rz HO0_1.out) hb);have n1_:=Aside0.mk (Kd.R_below (rz HO0_2.out) hb);have n2_:=Aside0.mk (Kept.below (S:=(fun k_=>P0_1_ k_ ∨ P0_2_ k_)) (by repeat (first|(with_reducible first|exact HK.out|apply Kept.alloc|apply Kept.drewN|apply Kept.drew)|exact HK.out)) hb);have n3_:=Aside0.mk (below_step bz hb);have n4_:=Aside0.mk (hbox);have n5_:=Aside0.mk ((by rw [hg];exact (by first|exact HK.out.1|exact (show Kept w _ (fun k_=>P0_1_ k_ ∨ P0_2_ k_) from by repeat (first|(with_reducible first|exact HK.out|apply Kept.alloc|apply Kept.drewN|apply Kept.drew)|exact HK.out)).1) : w.heap.size ≤ gb285));have n6_:=Aside0.mk ((by rw [hg];exact (below_size bz) : w0.heap.size ≤ gb285));clear HO0_1 HO0_2 HK HB;have HO0_1:=n0_;have HO0_2:=n1_;have HK:=n2_;have HB:=n3_;have BK285:=n4_;have GW285:=n5_;have GE285:=n6_;clear n0_ n1_ n2_ n3_ n4_ n5_ n6_;clear hb hbox hg)|((with_reducible refine gate_dst (N:=2) rfl ?_);refine box_event ?hg (N:=2) ?hd (cs:=#[.int .i64 0,.slice none 0 0,.slice none 0 0]) (t:=29) ?hr ?_;(case hd=>rfl);(case hg=>rfl);(case hr=>first|(go_simp;done)|(go_simp;rfl));intro gb286 hg w16 hbox hb;have n0_:=Aside0.mk (Kd.R_below (rz HO0_1.out) hb);have n1_:=Aside0.mk (Kd.R_below (rz HO0_2.out) hb);have n2_:=Aside0.mk (kb BK285.out hb);have n3_:=Aside0.mk (Kept.below (S:=(fun k_=>P0_1_ k_ ∨ P0_2_ k_)) (by repeat (first|(with_reducible first|exact HK.out|apply Kept.alloc|apply Kept.drewN|apply Kept.drew|refine Kept.setCell ?_ (.inr GW285.out) _)|exact HK.out)) hb);have n4_:=Aside0.mk (below_step bs hb);have n5_:=Aside0.mk (hbox);have n6_:=Aside0.mk ((by rw [hg];exact (by first|exact HK.out.1|exact (show Kept w _ (fun k_=>P0_1_ k_ ∨ P0_2_ k_) from by repeat (first|(with_reducible first|exact HK.out|apply Kept.alloc|apply Kept.drewN|apply Kept.drew|refine Kept.setCell ?_ (.inr GW285.out) _)|exact HK.out)).1) : w.heap.size ≤ gb286));have n7_:=Aside0.mk ((by rw [hg];exact (below_size bs) : w0.heap.size ≤ gb286));have n8_:=Aside0.mk (kn hg BK285.out);have n9_:=Aside0.mk (km hg BK285.out);clear HO0_1 HO0_2 BK285 HK HB;have HO0_1:=n0_;have HO0_2:=n1_;have BK285:=n2_;have HK:=n3_;have HB:=n4_;have BK286:=n5_;have GW286:=n6_;have GE286:=n7_;have NB285_286:=n8_;have NB286_285:=n9_;clear n0_ n1_ n2_ n3_ n4_ n5_ n6_ n7_ n8_ n9_;clear hb hbox hg;have hnb17:=NB285_286.out;have hnc17:=NB286_285.out;have hcz18_0 : w16.cell? ⟨gb285,0,none⟩ = some (.int .i64 a0_0):=(blk_cell BK285.out 0).trans rfl;have hcz18_1 : w16.cell? ⟨gb285,1,none⟩ = some (.slice Ao13 l0_1.length co13):=(blk_cell BK285.out 1).trans rfl;have hcz18_2 : w16.cell? ⟨gb285,2,none⟩ = some (.slice Ao14 l0_2.length co14):=(blk_cell BK285.out 2).trans rfl;have hfz18_0:=blk_frozen BK285.out 0;have hfz18_1:=blk_frozen BK285.out 1;have hfz18_2:=blk_frozen BK285.out 2)|((with_reducible refine gate_callee (f:=44) rfl ?_);refine goesL_ (some 5) rfl rfl Try.func44 (by kernel_rfl) rfl #[.agg #[.int .i64 a0_0,.slice Ao13 l0_1.length co13,.slice Ao14 l0_2.length co14]] rfl mz ?_;(with_reducible refine (impl_IsPlan.calls k a0_0 _ _ l0_1 _ _ l0_2 false _ ?side1 ?side2 ?side3 ?side4 A2.out).mono ?_);(case side1=>exact cz (Kd.R_reads' HO0_1.out).2.2);(case side2=>exact (Kd.R_reads' HO0_1.out).2.1);(case side3=>exact cz (Kd.R_reads' HO0_2.out).2.2);(case side4=>exact (Kd.R_reads' HO0_2.out).2.1);rintro e w19 ⟨rfl,hb⟩;refine ⟨_,rfl,?_⟩;have n0_:=Aside0.mk (Kd.R_below (rz HO0_1.out) hb);have n1_:=Aside0.mk (Kd.R_below (rz HO0_2.out) hb);have n2_:=Aside0.mk (kb BK285.out hb);have n3_:=Aside0.mk (kb BK286.out hb);have n4_:=Aside0.mk (Kept.below (S:=(fun k_=>P0_1_ k_ ∨ P0_2_ k_)) (by repeat (first|(with_reducible first|exact HK.out|apply Kept.alloc|apply Kept.drewN|apply Kept.drew|refine Kept.setCell ?_ (.inr GW285.out) _|refine Kept.setCell ?_ (.inr GW286.out) _)|exact HK.out)) hb);have n5_:=Aside0.mk (below_step bs hb);clear HO0_1 HO0_2 BK285 BK286 HK HB;have HO0_1:=n0_;have HO0_2:=n1_;have BK285:=n2_;have BK286:=n3_;have HK:=n4_;have HB:=n5_;clear n0_ n1_ n2_ n3_ n4_ n5_;(try clear hb);have hcz20_0 : w19.cell? ⟨gb286,0,none⟩ = some (.int .i64 0):=(blk_cell BK286.out 0).trans rfl;have hcz20_1 : w19.cell? ⟨gb286,1,none⟩ = some (.slice none 0 0):=(blk_cell BK286.out 1).trans rfl;have hcz20_2 : w19.cell? ⟨gb286,2,none⟩ = some (.slice none 0 0):=(blk_cell BK286.out 2).trans rfl;have hfz20_0:=blk_frozen BK286.out 0;have hfz20_1:=blk_frozen BK286.out 1;have hfz20_2:=blk_frozen BK286.out 2))
  refine bodyPost_ret (results_ct rfl _ _ gb286 29 #[.int .i64 0,.slice none 0 0,.slice none 0 0] (0,0) _ rfl (by (with_reducible repeat (first|refine blk_drewN ?_ _|refine blk_drew ?_|refine blk_alloc ?_ _));refine blk_put (cs:=#[.int .i64 0,.slice none 0 0,.slice none 0 0]) ?_ 2 _ rfl;(with_reducible repeat (first|refine blk_drewN ?_ _|refine blk_drew ?_|refine blk_alloc ?_ _));refine blk_put (cs:=#[.int .i64 0,.slice none 0 0,.slice none 0 0]) ?_ 1 _ rfl;(with_reducible repeat (first|refine blk_drewN ?_ _|refine blk_drew ?_|refine blk_alloc ?_ _));refine blk_put (cs:=#[.int .i64 0,.slice none 0 0,.slice none 0 0]) ?_ 0 _ rfl;(with_reducible repeat (first|refine blk_drewN ?_ _|refine blk_drew ?_|refine blk_alloc ?_ _));exact BK286.out) Try.underlying29 rfl (by kernel_rfl)) rfl ?_
  exact ⟨_,_,by first|rfl|(simp [errW_none,errW_some] <;> rfl)|(simp [*,errW_none,errW_some] <;> rfl),by first|exact Kd.R_nil _ _ _ _ _|exact Kd.N_nil _ _ _ _ _|exact Kd.V_nil _ _ _ _ _|exact Kd.Q_nil _ _ _ _ _|exact Kd.S_nil _ _ _ _ _,by first|exact Kd.R_nil _ _ _ _ _|exact Kd.N_nil _ _ _ _ _|exact Kd.V_nil _ _ _ _ _|exact Kd.Q_nil _ _ _ _ _|exact Kd.S_nil _ _ _ _ _,by repeat (first|(with_reducible first|exact HB.out|apply below_alloc|apply pw_below_drewN|apply below_drew1|refine below_set ?_ GE285.out|refine below_set ?_ GE286.out)|exact HB.out),by repeat (first|(with_reducible first|exact HK.out|apply Kept.alloc|apply Kept.drewN|apply Kept.drew|refine Kept.setCell ?_ (.inr GW285.out) _|refine Kept.setCell ?_ (.inr GW286.out) _)|exact HK.out)⟩
end Go.Proofs.Ytdcdaoancmpbeaa.MFnExactJoinPlans
--sq
