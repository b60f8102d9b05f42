import Derived.Test.YtlefjgpkabijdaaMFnScaledChainsx0
import Derived.Test.YtlefjgpkabijdaaMFnScaledChainsx3
import Derived.Test.YtlefjgpkabijdaaMFnScaledChainsx6
import Derived.Test.YtlefjgpkabijdaaMFnScaledChainsx1
import Derived.Test.YtlefjgpkabijdaaMFnScaledChainsx2
import Derived.Test.YtlefjgpkabijdaaMFnScaledChainsx4
import Derived.Test.YtlefjgpkabijdaaMFnScaledChainsx5
import Derived.Test.YtlefjgpkabijdaaMFnScaledChainsx7
import Derived.Test.YtlefjgpkabijdaaMFnScaledChainsx8
namespace Go.Proofs.Ytlefjgpkabijdaa.MFnScaledChains
open Go.RowKit Go.Proofs.YtlefjgpkabijdaaW.PrintWords Go.Proofs.YtlefjgpkabijdaaW.PrintLast Go.Proofs.YtlefjgpkabijdaaW.PrintMore Go.Proofs.YtlefjgpkabijdaaV Go.Proofs.YtlefjgpkabijdaaZ
attribute [local go_sem] max2_int min2_int max_two min_two max_three min_three max_four min_four   -- for this text's walks alone
set_option linter.unusedVariables false
set_option linter.unusedSimpArgs false
/-! ### impl_renamed: function 61 -/
def impl_renamed.l0 : Nat → List Int → List Int → List Int → Int → Int → Option (List Int)
 | 0,_,_,_,_,_=>none
 | k + 1,x1,x5,x9,x10,x11=>if x11 < x10 then (if 0 ≤ x11 then (if x11 < (x9.length : Int) then (if 0 ≤ (rd x9 x11) then (if (rd x9 x11) < (x1.length : Int) then (if x5.length < 17592186044416 then (impl_renamed.l0 k x1 (x5 ++ [rd x1 (rd x9 x11)]) x9 x10 (wrap64 (x11 + 1))) else (none)) else (none)) else (none)) else (none)) else (none)) else (some x5)
def impl_renamed.f (k : Nat) (l0 : List Int) (l1 : List Int) : Option (List Int):=impl_renamed.l0 k l1 (([] : List Int)) l0 (l0.length : Int) 0
theorem impl_renamed.mono_l : ∀ k,(∀ y0 y1 y2 y3 y4,LeO (impl_renamed.l0 k y0 y1 y2 y3 y4) (impl_renamed.l0 (k + 1) y0 y1 y2 y3 y4))
 | 0=>fun _ _ _ _ _ r h=>by simp [impl_renamed.l0] at h
 | k + 1=>by
  have ih0:=impl_renamed.mono_l k
  ·intro y0 y1 y2 y3 y4
   unfold impl_renamed.l0
   repeat' first
   | (with_reducible exact ih0 _ _ _ _ _)
   | (with_reducible exact LeO.refl _)
   | (with_reducible exact LeO.none _)
   | (with_reducible refine LeO.ite ?_ ?_)
   | (with_reducible refine LeO.bind ?_ (fun _=>?_))
   | exact ih0 _ _ _ _ _
   | exact LeO.none _
   | refine LeO.ite ?_ ?_
   | refine LeO.bind ?_ (fun _=>?_)
theorem impl_renamed.mono : ∀ a0 a1 k,LeO (impl_renamed.f k a0 a1) (impl_renamed.f (k + 1) a0 a1):=by
 intro a0 a1 k
 have ih0:=impl_renamed.mono_l k
 unfold impl_renamed.f
 repeat' first
   | (with_reducible exact ih0 _ _ _ _ _)
   | (with_reducible exact LeO.refl _)
   | (with_reducible exact LeO.none _)
   | (with_reducible refine LeO.ite ?_ ?_)
   | (with_reducible refine LeO.bind ?_ (fun _=>?_))
   | exact ih0 _ _ _ _ _
   | exact LeO.none _
   | refine LeO.ite ?_ ?_
   | refine LeO.bind ?_ (fun _=>?_)
set_option maxHeartbeats 8000000 in
set_option maxRecDepth 100000 in
theorem impl_renamed.calls (k : Nat) (A0 : Option Addr) (c0 : Nat) (l0 : List Int) (A1 : Option Addr) (c1 : Nat) (l1 : List Int) (r : List Int) (w : World) (hr0 : Kd.C (Kd.int .i64) w A0 l0.length l0) (hc0 : l0.length ≤ c0) (hr1 : Kd.C (Kd.int .i64) w A1 l1.length l1) (hc1 : l1.length ≤ c1) (h : impl_renamed.f k l0 l1 = some r) :
  Calls Try.prog 61 #[.slice A0 l0.length c0,.slice A1 l1.length c1] w fun e w'=>∃ v0_ : Value,e = .returned (v0_) ∧ Kd.R (Kd.int .i64) 3 w' w.heap.size (fun _=>True) v0_ r ∧ Below w.heap.size w w':=by
 have HR0:=Aside0.mk hr0
 have HC0:=Aside0.mk hc0
 clear hr0 hc0
 have HR1:=Aside0.mk hr1
 have HC1:=Aside0.mk hc1
 clear hr1 hc1
 have HB:=Aside0.mk (Below.refl w.heap.size w)
 have H : (impl_renamed.l0 k l1 (([] : List Int)) l0 (l0.length : Int) 0) = some r:=h
 clear h
 obtain ⟨y386,hy386⟩ : ∃ y_ : List Int,y_ = (([] : List Int)):=⟨_,rfl⟩
 replace H : (impl_renamed.l0 k l1 y386 l0 (l0.length : Int) 0) = some r:=by first|(rw [hy386];with_reducible exact H)|(have H2_:=(Option.bind_some _ _).symm.trans H;rw [hy386];with_reducible exact H2_)|(have H2_:=(Option.bind_some _ _).symm.trans H;with_reducible exact H2_)|with_reducible exact H|(rw [hy386];exact H)|exact H
 have Ny386:=Aside0.mk hy386
 clear hy386
 have H':=Aside0.mk H
 clear H
 go_enter Try.func61,Try.ntmps61
 go_wp2_with (first|((with_reducible refine gate_dst (N:=8) rfl ?_);refine Kd.R_lit (Kd.int .i64) _ 3 ?hg (N:=8) ?hd (xs:=([] : List Int)) (inner:=[]) (ok:=fun _=>True) (okp:=fun _=>True) ?hr ?hp (fun _ hk=>hk) trivial (Below.refl _ _) (Nat.le_refl _) (by simp) ?_;(case hd=>rfl);(case hg=>rfl);(case hr=>first|(go_simp;done)|(go_simp;rfl));(case hp=>exact (Reps.none _ _));intro v387 w3 ho4 hb hg_ hnew_;clear hg_ hnew_;(first|rw [← Ny386.out] at ho4|(simp only [Int.reduceToNat] at ho4;rw [← Ny386.out] at ho4));have n0_:=Aside0.mk (Kd.R_lower ho4 (below_size bz));have n1_:=Aside0.mk (below_step bz hb);clear HB;have HO388:=n0_;have HB:=n1_;clear n0_ n1_;clear hb ho4))
 go_loopg [5,11] k (fun kq v5 v11 w'=>∃ (x5_1 : List Int) (x11_1 : Int),v11 = .int .i64 x11_1 ∧ Aside0 (impl_renamed.l0 kq l1 x5_1 l0 (l0.length : Int) x11_1 = some r) ∧ Aside0 (kq ≤ k) ∧ Aside0 (Kd.R (Kd.int .i64) 3 w' w.heap.size (fun _=>True) v5 x5_1) ∧ Aside0 (Below w.heap.size w w'))
 case atStart=>exact ⟨(y386),(0),fz,H',⟨Nat.le_refl _⟩,⟨by (with_reducible repeat (first|apply Kd.R_alloc|apply Kd.R_drewN|apply Kd.R_drew));exact HO388.out⟩,⟨by repeat (first|(with_reducible first|exact HB.out|apply below_alloc|apply pw_below_drewN|apply below_drew1)|exact HB.out)⟩⟩
 case round=>
  clear H'
  try clear c1
  try clear p2
  obtain ⟨x5_1,x11_1,rfl,HA,HK1,HO_5,HB⟩:=hrel
  cases gk with
  | zero=>exact absurd HA.out (by simp [impl_renamed.l0])
  | succ k1=>
   have H:=HA.out
   clear HA
   simp only [impl_renamed.l0] at H
   by_cases c5 : x11_1 < (l0.length : Int)
   ·rw [if_pos c5] at H
    have c5b0 : decide (x11_1 < (l0.length : Int)) = true:=decide_eq_true c5
    clear c5
    by_cases c6 : 0 ≤ x11_1
    ·rw [if_pos c6] at H
     have c6b0 : decide (0 ≤ x11_1) = true:=decide_eq_true c6
     clear c6
     by_cases c7 : x11_1 < (l0.length : Int)
     ·rw [if_pos c7] at H
      have c7b0 : decide (x11_1 < (l0.length : Int)) = true:=decide_eq_true c7
      clear c7
      by_cases c8 : 0 ≤ (rd l0 x11_1)
      ·rw [if_pos c8] at H
       have c8b0 : decide (0 ≤ (rd l0 x11_1)) = true:=decide_eq_true c8
       clear c8
       by_cases c9 : (rd l0 x11_1) < (l1.length : Int)
       ·rw [if_pos c9] at H
        have c9b0 : decide ((rd l0 x11_1) < (l1.length : Int)) = true:=decide_eq_true c9
        clear c9
        by_cases c10 : x5_1.length < 17592186044416
        ·rw [if_pos c10] at H
         have LMc10:=Aside0.mk c10
         clear c10
         obtain ⟨y391,hy391⟩ : ∃ y_ : List Int,y_ = (x5_1 ++ [rd l1 (rd l0 x11_1)]):=⟨_,rfl⟩
         replace H : (impl_renamed.l0 k1 l1 y391 l0 (l0.length : Int) (wrap64 (x11_1 + 1))) = some r:=by first|(rw [hy391];with_reducible exact H)|(have H2_:=(Option.bind_some _ _).symm.trans H;rw [hy391];with_reducible exact H2_)|(have H2_:=(Option.bind_some _ _).symm.trans H;with_reducible exact H2_)|with_reducible exact H|(rw [hy391];exact H)|exact H
         have Ny391:=Aside0.mk hy391
         clear hy391
         have H':=Aside0.mk H
         clear H
         have p389 : 0 ≤ (x11_1 : Int):=of_decide_eq_true az
         have q389 : x11_1 < (l0.length : Int):=of_decide_eq_true az
         obtain ⟨ad389,e389,hx389_0⟩:=Kd.at_int HR0.out x11_1 p389 q389
         cases e389
         replace hx389_0:=(HB.out.cell (World.block_lt_of_cell? w _ hx389_0)).trans hx389_0
         replace p389:=eq_true p389
         replace q389:=eq_true q389
         have p390 : 0 ≤ ((rd l0 x11_1) : Int):=of_decide_eq_true az
         have q390 : (rd l0 x11_1) < (l1.length : Int):=of_decide_eq_true az
         obtain ⟨ad390,e390,hx390_0⟩:=Kd.at_int HR1.out (rd l0 x11_1) p390 q390
         cases e390
         replace hx390_0:=(HB.out.cell (World.block_lt_of_cell? w _ hx390_0)).trans hx390_0
         replace p390:=eq_true p390
         replace q390:=eq_true q390
         go_wp2_with (first|((with_reducible refine gate_builtin (b:=.append) (xs:=#[.tmp 15,.tmp 20]) rfl ?_);at_builtin;refine Kd.R_append (Kd.int .i64) (w0:=w) w.heap.size rfl (.tmp 15) (.tmp 20) 24 3 (.int .i64 0) 8 rfl Try.underlying24 info3 rfl (by decide) (by omega) u5 x5_1 (rd l1 (rd l0 x11_1)) [.int .i64 (rd l1 (rd l0 x11_1))] (fun _=>True) (fun _=>False) rfl rfl ?aP (fun _ hk=>hk.elim) ?aF ?aO ?aB ?aS ?aL ?_;(case aP=>exact rfl);(case aB=>exact bz);(case aF=>exact (fun _ _=>trivial));(case aO=>exact (rz HO_5.out));(case aS=>exact (below_size bz));(case aL=>have:=LMc10.out;omega);intro v392 w11 ho hb hg hat;rw [← Ny391.out] at ho;have n0_:=Aside0.mk (hb);have n1_:=Aside0.mk (ho);clear HB HO_5;have HB:=n0_;have HO393:=n1_;clear n0_ n1_;clear ho hb hg hat))
         go_roundg k1
         case measure=>have:=HK1.out;omega
         case rel=>exact ⟨(y391),(wrap64 (x11_1 + 1)),fz,H',⟨by have:=HK1.out;omega⟩,⟨by (with_reducible repeat (first|apply Kd.R_alloc|apply Kd.R_drewN|apply Kd.R_drew));exact HO393.out⟩,⟨by repeat (first|(with_reducible first|exact HB.out|apply below_alloc|apply pw_below_drewN|apply below_drew1)|exact HB.out)⟩⟩
        ·rw [if_neg c10] at H
         exact absurd H (by simp)
       ·rw [if_neg c9] at H
        exact absurd H (by simp)
      ·rw [if_neg c8] at H
       exact absurd H (by simp)
     ·rw [if_neg c7] at H
      exact absurd H (by simp)
    ·rw [if_neg c6] at H
     exact absurd H (by simp)
   ·rw [if_neg c5] at H
    have c5b0 : decide (x11_1 < (l0.length : Int)) = false:=decide_eq_false c5
    clear c5
    obtain rfl:=Option.some.inj H
    go_wp2
    go_ret
    exact ⟨_,by first|rfl|(simp [errW_none,errW_some] <;> rfl)|(simp [*,errW_none,errW_some] <;> rfl),by (with_reducible repeat (first|apply Kd.R_alloc|apply Kd.R_drewN|apply Kd.R_drew));exact HO_5.out,by repeat (first|(with_reducible first|exact HB.out|apply below_alloc|apply pw_below_drewN|apply below_drew1)|exact HB.out)⟩
/-! ### impl_step: function 76 -/
def impl_step.f (a0 : Int) (a1 : Int) : Option (Int × Int):=some (mn a0 a1,mx a0 a1)
set_option maxHeartbeats 8000000 in
set_option maxRecDepth 100000 in
theorem impl_step.calls (a0 : Int) (a1 : Int) (r1 : Int) (r2 : Int) (w : World) (h : impl_step.f a0 a1 = some (r1,r2)) :
  Calls Try.prog 76 #[.int .i64 a0,.int .i64 a1] w fun e w'=>e = .returned (.agg #[.int .i64 r1,.int .i64 r2]) ∧ Below w.heap.size w w':=by
 have hu56:=Try.underlying56
 have HB:=Aside0.mk (Below.refl w.heap.size w)
 have H : (some (mn a0 a1,mx a0 a1)) = some (r1,r2):=h
 clear h
 obtain ⟨ji3,hji3⟩ : ∃ j_ : Int,(mn a0 a1) = j_:=⟨_,rfl⟩
 replace H : (some (ji3,mx a0 a1)) = some (r1,r2):=by first|(rw [hji3] at H;exact H)|(simp only [hji3] at H ⊢;exact H)
 have hji3_ : (if a1 < a0 then a1 else a0) = ji3:=hji3
 obtain ⟨ji4,hji4⟩ : ∃ j_ : Int,(mx a0 a1) = j_:=⟨_,rfl⟩
 replace H : (some (ji3,ji4)) = some (r1,r2):=by first|(rw [hji4] at H;exact H)|(simp only [hji4] at H ⊢;exact H)
 have hji4_ : (if a0 < a1 then a1 else a0) = ji4:=hji4
 simp only [Option.some.injEq,Prod.mk.injEq] at H
 obtain ⟨rfl,rfl⟩:=H
 go_enter Try.func76,Try.ntmps76
 go_wp2_with (first|((with_reducible refine gate_dst (N:=4) rfl ?_);refine box_event ?hg (N:=4) ?hd (cs:=#[.int .i64 0,.int .i64 0]) (t:=56) ?hr ?_;(case hd=>rfl);(case hg=>rfl);(case hr=>first|(go_simp;done)|(go_simp;rfl));intro gb394 hg w5 hbox hb;have n0_:=Aside0.mk (below_step bz hb);have n1_:=Aside0.mk (hbox);have n2_:=Aside0.mk ((by rw [hg];exact (below_size bz) : w.heap.size ≤ gb394));have n3_:=Aside0.mk ((by rw [hg];exact (below_size bz) : w.heap.size ≤ gb394));clear HB;have HB:=n0_;have BK394:=n1_;have GW394:=n2_;have GE394:=n3_;clear n0_ n1_ n2_ n3_;clear hb hbox hg;have hcz6_0 : w5.cell? ⟨gb394,0,none⟩ = some (.int .i64 0):=(blk_cell BK394.out 0).trans rfl;have hcz6_1 : w5.cell? ⟨gb394,1,none⟩ = some (.int .i64 0):=(blk_cell BK394.out 1).trans rfl;have hfz6_0:=blk_frozen BK394.out 0;have hfz6_1:=blk_frozen BK394.out 1))
 refine bodyPost_ret (results_cell_row rfl _ _ gb394 56 #[.int .i64 ji3,.int .i64 ji4] (0,0) _ rfl (by (with_reducible repeat (first|refine blk_drewN ?_ _|refine blk_drew ?_|refine blk_alloc ?_ _));refine blk_put (cs:=#[.int .i64 ji3,.int .i64 0]) ?_ 1 _ rfl;(with_reducible repeat (first|refine blk_drewN ?_ _|refine blk_drew ?_|refine blk_alloc ?_ _));refine blk_put (cs:=#[.int .i64 0,.int .i64 0]) ?_ 0 _ rfl;(with_reducible repeat (first|refine blk_drewN ?_ _|refine blk_drew ?_|refine blk_alloc ?_ _));exact BK394.out) Try.underlying56 rfl (by kernel_rfl)) rfl ?_
 exact ⟨by first|rfl|(simp [errW_none,errW_some] <;> rfl)|(simp only [← hji3,← hji4];first|rfl|(simp [errW_none,errW_some] <;> rfl))|(simp [*,errW_none,errW_some] <;> rfl),by repeat (first|(with_reducible first|exact HB.out|apply below_alloc|apply pw_below_drewN|apply below_drew1|refine below_set ?_ GE394.out)|exact HB.out)⟩
/-! ### impl_Plan_behind: function 62 -/
def impl_Plan_behind.l0 : Nat → List Int → List (S56) → Int → Int → Int → List (S56) → List Int → Option (List Int × Int × (List (S56)) × List Int)
 | 0,_,_,_,_,_,_,_=>none
 | k + 1,x7,x15,x16,x17,x396000,x396001,x396002=>if x17 < x16 then (if 0 ≤ x17 then (if x17 < (x15.length : Int) then ((impl_Plan_many.f x396000 x396001 x396002).bind fun t401=>(if x7.length < 17592186044416 then ((some (x7 ++ [t401] : List Int)).bind fun y402=>(if 0 ≤ ((rd_T56 x15 x17).f0) then (if ((rd_T56 x15 x17).f0) < (y402.length : Int) then (if 0 ≤ ((rd_T56 x15 x17).f1) then (if ((rd_T56 x15 x17).f1) < (y402.length : Int) then ((impl_step.f (rd y402 ((rd_T56 x15 x17).f0)) (rd y402 ((rd_T56 x15 x17).f1))).bind fun bt407=>(if x396001.length < 8796093022208 then (impl_Plan_behind.l0 k y402 x15 x16 (wrap64 (x17 + 1)) x396000 (x396001 ++ [(⟨bt407.1,bt407.2⟩ : S56)]) x396002) else (none))) else (none)) else (none)) else (none)) else (none))) else (none))) else (none)) else (none)) else (some (x7,x396000,x396001,x396002))
def impl_Plan_behind.f (k : Nat) (a0_0 : Int) (l0_1 : List (S56)) (l0_2 : List Int) (a1_0 : Int) (l1_1 : List (S56)) (l1_2 : List Int) (l2 : List Int) : Option (List Int × Int × (List (S56)) × List Int):=(slices_Clone_int_int.f l2).bind fun t396=>(impl_Plan_behind.l0 k t396 l1_1 (l1_1.length : Int) 0 a0_0 l0_1 l0_2)
theorem impl_Plan_behind.mono_l : ∀ k,(∀ y0 y1 y2 y3 y4 y5 y6,LeO (impl_Plan_behind.l0 k y0 y1 y2 y3 y4 y5 y6) (impl_Plan_behind.l0 (k + 1) y0 y1 y2 y3 y4 y5 y6))
 | 0=>fun _ _ _ _ _ _ _ r h=>by simp [impl_Plan_behind.l0] at h
 | k + 1=>by
  have ih0:=impl_Plan_behind.mono_l k
  ·intro y0 y1 y2 y3 y4 y5 y6
   unfold impl_Plan_behind.l0
   repeat' first
   | (with_reducible exact ih0 _ _ _ _ _ _ _)
   | (with_reducible exact LeO.refl _)
   | (with_reducible exact LeO.none _)
   | (with_reducible refine LeO.ite ?_ ?_)
   | (with_reducible refine LeO.bind ?_ (fun _=>?_))
   | exact ih0 _ _ _ _ _ _ _
   | exact LeO.none _
   | refine LeO.ite ?_ ?_
   | refine LeO.bind ?_ (fun _=>?_)
theorem impl_Plan_behind.mono : ∀ a0 a1 a2 a3 a4 a5 a6 k,LeO (impl_Plan_behind.f k a0 a1 a2 a3 a4 a5 a6) (impl_Plan_behind.f (k + 1) a0 a1 a2 a3 a4 a5 a6):=by
 intro a0 a1 a2 a3 a4 a5 a6 k
 have ih0:=impl_Plan_behind.mono_l k
 unfold impl_Plan_behind.f
 repeat' first
   | (with_reducible exact ih0 _ _ _ _ _ _ _)
   | (with_reducible exact LeO.refl _)
   | (with_reducible exact LeO.none _)
   | (with_reducible refine LeO.ite ?_ ?_)
   | (with_reducible refine LeO.bind ?_ (fun _=>?_))
   | exact ih0 _ _ _ _ _ _ _
   | exact LeO.none _
   | refine LeO.ite ?_ ?_
   | refine LeO.bind ?_ (fun _=>?_)
def impl_Plan_behind.T6 : Bool × List (List Nat × List Nat):=(true,[([],[]),([],[]),([1],[1]),([2],[2]),([3],[3]),([],[]),([],[]),([6],[6]),([5,7],[5,7]),([8],[8]),([],[]),([],[]),([11],[11]),([10,12],[10,12]),([13],[13]),([9,14],[9,14]),([15],[15]),([4,16,15],[4,16]),([0,0,1,2,3,4,5,6,7,8,9,10,11,12,13,14,15,16,17],[0]),([18,0,1,2,3,4,5,6,7,8,9,10,11,12,13,14,15,16,17],[18]),([19,17,17,0,1,2,3,4,5,6,7,8,9,10,11,12,13,14,15,16,17],[17,19])])
def impl_Plan_behind.B6 : List Nat:=[0,0,2,6,14,0,0,64,224,480,0,0,2048,7168,15360,32736,65504,131070,262143,524287,1048575]
theorem impl_Plan_behind.tab6 : rtab .any (opsOf Try.f62 6) = impl_Plan_behind.T6:=by kernel_rfl
theorem impl_Plan_behind.bits6 : waitsOk impl_Plan_behind.T6.2 impl_Plan_behind.B6 = true:=by kernel_rfl
set_option maxHeartbeats 8000000 in
set_option maxRecDepth 100000 in
theorem impl_Plan_behind.calls (k : Nat) (gb395 : Nat) (a0_0 : Int) (P0_1_ : Nat → Prop) (u9000_ : Value) (l0_1 : List (S56)) (P0_2_ : Nat → Prop) (u9001_ : Value) (l0_2 : List Int) (g1_ : Nat) (a1_0 : Int) (A1_1 : Option Addr) (c1_1 : Nat) (l1_1 : List (S56)) (A1_2 : Option Addr) (c1_2 : Nat) (l1_2 : List Int) (A2 : Option Addr) (c2 : Nat) (l2 : List Int) (r1 : List Int) (r2 : Int) (r3 : List (S56)) (r4 : List Int) (w0 w : World) (hB : Below w0.heap.size w0 w) (hxp_ : w.heap[gb395]? = some (.cells #[.int .i64 a0_0,u9000_,u9001_] 32 (0,0))) (hgp_ : w0.heap.size ≤ gb395) (hPp_ : P0_1_ gb395) (hne_ : g1_ ≠ gb395) (hx1_ : w.heap[g1_]? = some (.cells #[.int .i64 a1_0,.slice A1_1 l1_1.length c1_1,.slice A1_2 l1_2.length c1_2] 32 (0,0))) (ho0_1 : Kd.R k56 56 w w0.heap.size P0_1_ u9000_ l0_1) (ho0_2 : Kd.R (Kd.int .i64) 3 w w0.heap.size P0_2_ u9001_ l0_2) (hr1_1 : ∀ W_,Kept w W_ (fun k_=>P0_1_ k_ ∨ P0_2_ k_) → Kd.C k56 W_ A1_1 l1_1.length l1_1) (hc1_1 : l1_1.length ≤ c1_1) (hr1_2 : ∀ W_,Kept w W_ (fun k_=>P0_1_ k_ ∨ P0_2_ k_) → Kd.C (Kd.int .i64) W_ A1_2 l1_2.length l1_2) (hc1_2 : l1_2.length ≤ c1_2) (hr2 : ∀ W_,Kept w W_ (fun k_=>P0_1_ k_ ∨ P0_2_ k_) → Kd.C (Kd.int .i64) W_ A2 l2.length l2) (hc2 : l2.length ≤ c2) (h : impl_Plan_behind.f k a0_0 l0_1 l0_2 a1_0 l1_1 l1_2 l2 = some (r1,r2,r3,r4)) :
  Calls Try.prog 62 #[.pointer (some ⟨gb395,0,none⟩),.pointer (some ⟨g1_,0,none⟩),.slice A2 l2.length c2] w fun e w'=>∃ v0_ v2_ v3_ : Value,e = .returned v0_ ∧ Aside0 (u9001_ = v3_ ∧ a0_0 = r2 ∧ l0_2 = r4) ∧ w'.heap[gb395]? = some (.cells #[.int .i64 r2,v2_,v3_] 32 (0,0)) ∧ Kd.R (Kd.int .i64) 3 w' w0.heap.size (fun k_=>((P0_1_ k_ ∨ P0_2_ k_) ∨ w.heap.size ≤ k_) ∧ some k_ ≠ (v3_ : Value).ownBlock) v0_ r1 ∧ Kd.R k56 56 w' w0.heap.size (fun k_=>((P0_1_ k_ ∨ P0_2_ k_) ∨ w.heap.size ≤ k_)) v2_ r3 ∧ Kd.R (Kd.int .i64) 3 w' w0.heap.size (fun k_=>((P0_1_ k_ ∨ P0_2_ k_) ∨ w.heap.size ≤ k_) ∧ some k_ ≠ (v0_ : Value).ownBlock) v3_ r4 ∧ Below w0.heap.size w0 w' ∧ Kept w w' (fun k_=>P0_1_ k_ ∨ P0_2_ k_):=by
 have hu32:=Try.underlying32
 have hu56:=Try.underlying56
 have HO0_1:=Aside0.mk (show Kd.R k56 56 w w0.heap.size (fun k_=>((P0_1_ k_ ∨ P0_2_ k_) ∨ w.heap.size ≤ k_)) u9000_ l0_1 from Kd.R_mono ho0_1 (fun k_ hk=>(.inl (.inl hk))))
 have HO0_2:=Aside0.mk (show Kd.R (Kd.int .i64) 3 w w0.heap.size (fun k_=>((P0_1_ k_ ∨ P0_2_ k_) ∨ w.heap.size ≤ k_)) u9001_ l0_2 from Kd.R_mono ho0_2 (fun k_ hk=>(.inl (.inr hk))))
 have HR1_1:=Aside0.mk hr1_1
 have HC1_1:=Aside0.mk hc1_1
 clear hr1_1 hc1_1
 have HR1_2:=Aside0.mk hr1_2
 have HC1_2:=Aside0.mk hc1_2
 clear hr1_2 hc1_2
 have HR2:=Aside0.mk hr2
 have HC2:=Aside0.mk hc2
 clear hr2 hc2
 have BK1:=Aside0.mk hx1_
 clear hx1_
 have HK:=Aside0.mk (Kept.refl w (fun k_=>P0_1_ k_ ∨ P0_2_ k_))
 have HW0:=Aside0.mk hB.size
 have HB:=Aside0.mk hB
 clear hB
 have BK395:=Aside0.mk hxp_
 have GW395:=Aside0.mk (show (P0_1_ gb395 ∨ P0_2_ gb395) from .inl hPp_)
 have GE395:=Aside0.mk hgp_
 have NB1_395:=Aside0.mk hne_
 have NB395_1:=Aside0.mk (Ne.symm hne_)
 clear hxp_ hgp_ hPp_ hne_
 have H : ((slices_Clone_int_int.f l2).bind fun t396=>(impl_Plan_behind.l0 k t396 l1_1 (l1_1.length : Int) 0 a0_0 l0_1 l0_2)) = some (r1,r2,r3,r4):=h
 clear h
 obtain ⟨t396,A4,H⟩:=bd H
 have H':=Aside0.mk H
 clear H
 obtain ⟨Ao5,co5,eo5⟩:=Kd.R_slice HO0_1.out
 subst eo5
 obtain ⟨Ao6,co6,eo6⟩:=Kd.R_slice HO0_2.out
 subst eo6
 go_enter Try.func62,Try.ntmps62
 go_wp2_with (first|((with_reducible refine gate_callee (f:=53) rfl ?_);refine goesL_ (some 11) rfl rfl Try.func53 (by kernel_rfl) rfl #[.slice A2 l2.length c2] rfl mz ?_;(with_reducible refine (slices_Clone_int_int.calls _ _ l2 t396 _ ?side1 ?side2 A4.out).mono ?_);(case side1=>exact Kd.C_kept_now HR2.out (by repeat (first|(with_reducible first|exact HK.out|apply Kept.alloc|apply Kept.drewN|apply Kept.drew|refine Kept.setCell ?_ (.inr GW1.out) _|refine Kept.setCell ?_ (.inl GW395.out) _)|exact HK.out)));(case side2=>exact HC2.out);rintro e w8 ⟨v397,rfl,ho0,hb⟩;refine ⟨_,rfl,?_⟩;have n0_:=Aside0.mk (Kd.R_below (rz HO0_1.out) hb);have n1_:=Aside0.mk (Kd.R_elder' (rz HO0_2.out) (Kd.R_base ho0) hb);have n2_:=Aside0.mk (Kd.R_lower (Kd.R_new' (Kd.R_newM (M:=fun k_=>((P0_1_ k_ ∨ P0_2_ k_) ∨ w.heap.size ≤ k_)) ho0 (by first|exact HK.out.1|exact (show Kept w _ (fun k_=>P0_1_ k_ ∨ P0_2_ k_) from by repeat (first|(with_reducible first|exact HK.out|apply Kept.alloc|apply Kept.drewN|apply Kept.drew|refine Kept.setCell ?_ (.inr GW1.out) _|refine Kept.setCell ?_ (.inl GW395.out) _)|exact HK.out)).1) (fun k_ h_=>.inr h_)) (Kd.R_lt (rz HO0_2.out))) (below_size bs));have n3_:=Aside0.mk (blk_below (g:=g1_) (o:=.cells #[.int .i64 a1_0,.slice A1_1 l1_1.length c1_1,.slice A1_2 l1_2.length c1_2] 32 (0,0)) (kz BK1.out) hb);have n4_:=Aside0.mk (blk_below (g:=gb395) (o:=.cells #[.int .i64 a0_0,.slice Ao5 l0_1.length co5,.slice Ao6 l0_2.length co6] 32 (0,0)) (kz BK395.out) hb);have n5_:=Aside0.mk (Kept.below (S:=(fun k_=>P0_1_ k_ ∨ P0_2_ k_)) (by repeat (first|(with_reducible first|exact HK.out|apply Kept.alloc|apply Kept.drewN|apply Kept.drew|refine Kept.setCell ?_ (.inr GW1.out) _|refine Kept.setCell ?_ (.inl GW395.out) _)|exact HK.out)) hb);have n6_:=Aside0.mk (below_step bs hb);clear HO0_1 HO0_2 BK1 BK395 HK HB;have HO0_1:=n0_;have HO0_2:=n1_;have HO398:=n2_;have BK1:=n3_;have BK395:=n4_;have HK:=n5_;have HB:=n6_;clear n0_ n1_ n2_ n3_ n4_ n5_ n6_;(try clear hb);(try clear ho0);have hnb9:=NB1_395.out;have hnc9:=NB395_1.out;have hcz10_0 : w8.cell? ⟨g1_,0,none⟩ = some (.int .i64 a1_0):=(blk_cell BK1.out 0).trans rfl;have hcz10_1 : w8.cell? ⟨g1_,1,none⟩ = some (.slice A1_1 l1_1.length c1_1):=(blk_cell BK1.out 1).trans rfl;have hcz10_2 : w8.cell? ⟨g1_,2,none⟩ = some (.slice A1_2 l1_2.length c1_2):=(blk_cell BK1.out 2).trans rfl;have hfz10_0:=blk_frozen BK1.out 0;have hfz10_1:=blk_frozen BK1.out 1;have hfz10_2:=blk_frozen BK1.out 2))
 go_loopg [7,17] k (fun kq v7 v17 w'=>∃ (x7_1 : List Int) (x17_1 : Int) (x396001_1 : List (S56)) (u396001 : Value),v17 = .int .i64 x17_1 ∧ Aside0 (impl_Plan_behind.l0 kq x7_1 l1_1 (l1_1.length : Int) x17_1 a0_0 x396001_1 l0_2 = some (r1,r2,r3,r4)) ∧ Aside0 (kq ≤ k) ∧ Aside0 (Kd.R (Kd.int .i64) 3 w' w0.heap.size (fun k_=>((P0_1_ k_ ∨ P0_2_ k_) ∨ w.heap.size ≤ k_) ∧ some k_ ≠ ((.slice Ao6 l0_2.length co6) : Value).ownBlock) v7 x7_1) ∧ Aside0 (Kd.R k56 56 w' w0.heap.size (fun k_=>((P0_1_ k_ ∨ P0_2_ k_) ∨ w.heap.size ≤ k_)) u396001 x396001_1) ∧ Aside0 (Kd.R (Kd.int .i64) 3 w' w0.heap.size (fun k_=>((P0_1_ k_ ∨ P0_2_ k_) ∨ w.heap.size ≤ k_) ∧ some k_ ≠ (v7 : Value).ownBlock) (.slice Ao6 l0_2.length co6) l0_2) ∧ Aside0 (w'.heap[g1_]? = some (.cells #[.int .i64 a1_0,(.slice A1_1 l1_1.length c1_1),(.slice A1_2 l1_2.length c1_2)] 32 (0,0))) ∧ Aside0 (w'.heap[gb395]? = some (.cells #[.int .i64 a0_0,u396001,(.slice Ao6 l0_2.length co6)] 32 (0,0))) ∧ Aside0 (Kept w w' (fun k_=>P0_1_ k_ ∨ P0_2_ k_)) ∧ Aside0 (Below w0.heap.size w0 w'))
 case atStart=>exact ⟨(t396),(0),(l0_1),(.slice Ao5 l0_1.length co5),fz,H',⟨Nat.le_refl _⟩,⟨by (with_reducible repeat (first|apply Kd.R_alloc|apply Kd.R_drewN|apply Kd.R_drew));exact Kd.R_mono HO398.out (fun _ hk=>⟨hk.1.1,hk.2⟩)⟩,⟨by (with_reducible repeat (first|apply Kd.R_alloc|apply Kd.R_drewN|apply Kd.R_drew));exact HO0_1.out⟩,⟨by (with_reducible repeat (first|apply Kd.R_alloc|apply Kd.R_drewN|apply Kd.R_drew));exact HO0_2.out⟩,⟨by (with_reducible repeat (first|refine blk_drewN ?_ _|refine blk_drew ?_|refine blk_alloc ?_ _));exact BK1.out⟩,⟨by (with_reducible repeat (first|refine blk_drewN ?_ _|refine blk_drew ?_|refine blk_alloc ?_ _));exact BK395.out⟩,⟨by repeat (first|(with_reducible first|exact HK.out|apply Kept.alloc|apply Kept.drewN|apply Kept.drew|refine Kept.setCell ?_ (.inr GW1.out) _|refine Kept.setCell ?_ (.inl GW395.out) _)|exact HK.out)⟩,⟨by repeat (first|(with_reducible first|exact HB.out|apply below_alloc|apply pw_below_drewN|apply below_drew1|refine below_set ?_ GE1.out|refine below_set ?_ GE395.out)|exact HB.out)⟩⟩
 case round=>
  clear H'
  try clear c1
  try clear hx1
  try clear c2
  try clear p2
  try clear c5
  try clear c6
  try clear c9
  try clear hcz10_0
  try clear hcz10_1
  try clear hcz10_2
  try clear hfz10_0
  try clear hfz10_1
  try clear hfz10_2
  obtain ⟨x7_1,x17_1,x396001_1,u396001,rfl,HA,HK1,HO_7,HO_396001,HO_396002,BK1,BK395,HK,HB⟩:=hrel
  cases gk with
  | zero=>exact absurd HA.out (by simp [impl_Plan_behind.l0])
  | succ k1=>
   have H:=HA.out
   clear HA
   simp only [impl_Plan_behind.l0] at H
   by_cases c11 : x17_1 < (l1_1.length : Int)
   ·rw [if_pos c11] at H
    have c11b0 : decide (x17_1 < (l1_1.length : Int)) = true:=decide_eq_true c11
    clear c11
    by_cases c12 : 0 ≤ x17_1
    ·rw [if_pos c12] at H
     have c12b0 : decide (0 ≤ x17_1) = true:=decide_eq_true c12
     clear c12
     by_cases c13 : x17_1 < (l1_1.length : Int)
     ·rw [if_pos c13] at H
      have c13b0 : decide (x17_1 < (l1_1.length : Int)) = true:=decide_eq_true c13
      clear c13
      obtain ⟨t401,A14,H⟩:=bd H
      by_cases c15 : x7_1.length < 17592186044416
      ·rw [if_pos c15] at H
       have LMc15:=Aside0.mk c15
       clear c15
       obtain ⟨y402,hy402⟩ : ∃ y_ : List Int,y_ = (x7_1 ++ [t401]):=⟨_,rfl⟩
       replace H : (if 0 ≤ ((rd_T56 l1_1 x17_1).f0) then (if ((rd_T56 l1_1 x17_1).f0) < (y402.length : Int) then (if 0 ≤ ((rd_T56 l1_1 x17_1).f1) then (if ((rd_T56 l1_1 x17_1).f1) < (y402.length : Int) then ((impl_step.f (rd y402 ((rd_T56 l1_1 x17_1).f0)) (rd y402 ((rd_T56 l1_1 x17_1).f1))).bind fun bt407=>(if x396001_1.length < 8796093022208 then (impl_Plan_behind.l0 k1 y402 l1_1 (l1_1.length : Int) (wrap64 (x17_1 + 1)) a0_0 (x396001_1 ++ [(⟨bt407.1,bt407.2⟩ : S56)]) l0_2) else (none))) else (none)) else (none)) else (none)) else (none)) = some (r1,r2,r3,r4):=by first|(rw [hy402];with_reducible exact H)|(have H2_:=(Option.bind_some _ _).symm.trans H;rw [hy402];with_reducible exact H2_)|(have H2_:=(Option.bind_some _ _).symm.trans H;with_reducible exact H2_)|with_reducible exact H|(rw [hy402];exact H)|exact H
       have Ny402:=Aside0.mk hy402
       clear hy402
       by_cases c16 : 0 ≤ ((rd_T56 l1_1 x17_1).f0)
       ·rw [if_pos c16] at H
        have c16b0 : decide (0 ≤ ((rd_T56 l1_1 x17_1).f0)) = true:=decide_eq_true c16
        clear c16
        by_cases c17 : ((rd_T56 l1_1 x17_1).f0) < (y402.length : Int)
        ·rw [if_pos c17] at H
         have c17b0 : decide (((rd_T56 l1_1 x17_1).f0) < (y402.length : Int)) = true:=decide_eq_true c17
         clear c17
         by_cases c18 : 0 ≤ ((rd_T56 l1_1 x17_1).f1)
         ·rw [if_pos c18] at H
          have c18b0 : decide (0 ≤ ((rd_T56 l1_1 x17_1).f1)) = true:=decide_eq_true c18
          clear c18
          by_cases c19 : ((rd_T56 l1_1 x17_1).f1) < (y402.length : Int)
          ·rw [if_pos c19] at H
           have c19b0 : decide (((rd_T56 l1_1 x17_1).f1) < (y402.length : Int)) = true:=decide_eq_true c19
           clear c19
           replace H:=Option.bind_eq_some_iff.mp H
           obtain ⟨⟨t407,t408⟩,A200,H⟩:=H
           replace H : (if x396001_1.length < 8796093022208 then (impl_Plan_behind.l0 k1 y402 l1_1 (l1_1.length : Int) (wrap64 (x17_1 + 1)) a0_0 (x396001_1 ++ [(⟨t407,t408⟩ : S56)]) l0_2) else (none)) = some (r1,r2,r3,r4):=H
           have A20:=Aside0.mk A200
           clear A200
           by_cases c21 : x396001_1.length < 8796093022208
           ·rw [if_pos c21] at H
            have LMc21:=Aside0.mk c21
            clear c21
            obtain ⟨y409,hy409⟩ : ∃ y_ : List (S56),y_ = (x396001_1 ++ [(⟨t407,t408⟩ : S56)]):=⟨_,rfl⟩
            replace H : (impl_Plan_behind.l0 k1 y402 l1_1 (l1_1.length : Int) (wrap64 (x17_1 + 1)) a0_0 y409 l0_2) = some (r1,r2,r3,r4):=by first|(rw [hy409];with_reducible exact H)|(have H2_:=(Option.bind_some _ _).symm.trans H;rw [hy409];with_reducible exact H2_)|(have H2_:=(Option.bind_some _ _).symm.trans H;with_reducible exact H2_)|with_reducible exact H|(rw [hy409];exact H)|exact H
            have Ny409:=Aside0.mk hy409
            clear hy409
            have H':=Aside0.mk H
            clear H
            have p399 : 0 ≤ (x17_1 : Int):=of_decide_eq_true az
            have q399 : x17_1 < (l1_1.length : Int):=of_decide_eq_true az
            obtain ⟨ad399,e399,hx399_0,hx399_1⟩:=at_T56 (Kd.C_kept_now HR1_1.out HK.out) x17_1 p399 q399
            cases e399
            replace p399:=eq_true p399
            replace q399:=eq_true q399
            try go_wp2_with (first|((with_reducible refine gate_dst (N:=9) rfl ?_);refine box_event ?hg (N:=9) ?hd (cs:=#[.int .i64 0,.int .i64 0]) (t:=56) ?hr ?_;(case hd=>rfl);(case hg=>rfl);(case hr=>first|(go_simp;done)|(go_simp;rfl));intro gb400 hg w22 hbox hb;have n0_:=Aside0.mk (Kd.R_below (rz HO_7.out) hb);have n1_:=Aside0.mk (Kd.R_below (Kd.R_elderB (rz HO_396001.out) gb400 (Nat.le_of_eq hg.symm)) hb);have n2_:=Aside0.mk (Kd.R_below (rz HO_396002.out) hb);have n3_:=Aside0.mk (blk_below (g:=g1_) (o:=.cells #[.int .i64 a1_0,.slice (some ad399) l1_1.length c1_1,.slice A1_2 l1_2.length c1_2] 32 (0,0)) (kz BK1.out) hb);have n4_:=Aside0.mk (blk_below (g:=gb395) (o:=.cells #[.int .i64 a0_0,u396001,.slice Ao6 l0_2.length co6] 32 (0,0)) (kz BK395.out) hb);have n5_:=Aside0.mk (Kept.below (S:=(fun k_=>P0_1_ k_ ∨ P0_2_ k_)) (by repeat (first|(with_reducible first|exact HK.out|apply Kept.alloc|apply Kept.drewN|apply Kept.drew|refine Kept.setCell ?_ (.inr GW1.out) _|refine Kept.setCell ?_ (.inl GW395.out) _)|exact HK.out)) hb);have n6_:=Aside0.mk (below_step bs hb);have n7_:=Aside0.mk (hbox);have n8_:=Aside0.mk ((by rw [hg];exact (by first|exact HK.out.1|exact (show Kept w _ (fun k_=>P0_1_ k_ ∨ P0_2_ k_) from by repeat (first|(with_reducible first|exact HK.out|apply Kept.alloc|apply Kept.drewN|apply Kept.drew|refine Kept.setCell ?_ (.inr GW1.out) _|refine Kept.setCell ?_ (.inl GW395.out) _)|exact HK.out)).1) : w.heap.size ≤ gb400));have n9_:=Aside0.mk ((by rw [hg];exact (below_size bs) : w0.heap.size ≤ gb400));have n10_:=Aside0.mk ((by rw [hg];exact Nat.ne_of_lt (blk_lt (g:=g1_) (o:=.cells #[.int .i64 a1_0,.slice (some ad399) l1_1.length c1_1,.slice A1_2 l1_2.length c1_2] 32 (0,0)) (kz BK1.out)) : g1_ ≠ gb400));have n11_:=Aside0.mk ((by rw [hg];exact Nat.ne_of_gt (blk_lt (g:=g1_) (o:=.cells #[.int .i64 a1_0,.slice (some ad399) l1_1.length c1_1,.slice A1_2 l1_2.length c1_2] 32 (0,0)) (kz BK1.out)) : gb400 ≠ g1_));have n12_:=Aside0.mk ((by rw [hg];exact Nat.ne_of_lt (blk_lt (g:=gb395) (o:=.cells #[.int .i64 a0_0,u396001,.slice Ao6 l0_2.length co6] 32 (0,0)) (kz BK395.out)) : gb395 ≠ gb400));have n13_:=Aside0.mk ((by rw [hg];exact Nat.ne_of_gt (blk_lt (g:=gb395) (o:=.cells #[.int .i64 a0_0,u396001,.slice Ao6 l0_2.length co6] 32 (0,0)) (kz BK395.out)) : gb400 ≠ gb395));clear HO_7 HO_396001 HO_396002 BK1 BK395 HK HB;have HO_7:=n0_;have HO_396001:=n1_;have HO_396002:=n2_;have BK1:=n3_;have BK395:=n4_;have HK:=n5_;have HB:=n6_;have BK400:=n7_;have GW400:=n8_;have GE400:=n9_;have NB1_400:=n10_;have NB400_1:=n11_;have NB395_400:=n12_;have NB400_395:=n13_;clear n0_ n1_ n2_ n3_ n4_ n5_ n6_ n7_ n8_ n9_ n10_ n11_ n12_ n13_;clear hb hbox hg;have hnb23:=NB400_1.out;have hnc23:=NB1_400.out;have hnb24:=NB400_395.out;have hnc24:=NB395_400.out;have hcz25_0 : w22.cell? ⟨gb400,0,none⟩ = some (.int .i64 0):=(blk_cell BK400.out 0).trans rfl;have hcz25_1 : w22.cell? ⟨gb400,1,none⟩ = some (.int .i64 0):=(blk_cell BK400.out 1).trans rfl;have hfz25_0:=blk_frozen BK400.out 0;have hfz25_1:=blk_frozen BK400.out 1;obtain ⟨Ao26,co26,eo26⟩:=Kd.R_slice HO_396001.out;subst eo26)|((with_reducible refine gate_callee (f:=75) rfl ?_);refine goesL_ (some 23) rfl rfl Try.func75 (by kernel_rfl) rfl #[.pointer (some ⟨gb395,0,none⟩)] rfl mz ?_;(with_reducible refine (impl_Plan_many.calls gb395 a0_0 Ao26 co26 x396001_1 Ao6 co6 l0_2 t401 _ ?side1 ?side2 ?side3 ?side4 ?side5 A14.out).mono ?_);(case side1=>exact by (with_reducible repeat (first|refine blk_drewN ?_ _|refine blk_drew ?_|refine blk_alloc ?_ _));refine blk_far ?_ NB395_400.out _;(with_reducible repeat (first|refine blk_drewN ?_ _|refine blk_drew ?_|refine blk_alloc ?_ _));refine blk_far ?_ NB395_400.out _;(with_reducible repeat (first|refine blk_drewN ?_ _|refine blk_drew ?_|refine blk_alloc ?_ _));exact BK395.out);(case side2=>refine (Kd.R_reads' (e:=56) (base:=w0.heap.size) (ok:=fun k_=>(((P0_1_ k_ ∨ P0_2_ k_) ∨ w.heap.size ≤ k_) ∧ k_ ≠ gb400)) (n:=x396001_1.length) (c:=co26) ?_).2.2;exact (by (with_reducible repeat (first|apply Kd.R_alloc|apply Kd.R_drewN|apply Kd.R_drew));exact (Kd.R_mono (Kd.R_far (p:=⟨gb400,1,none⟩) (Kd.R_far (p:=⟨gb400,0,none⟩) (Kd.R_mono HO_396001.out (fun k_ hk=>(⟨hk,hk.2⟩ : _ ∧ k_ ≠ gb400))) (fun _ hk=>hk.2) (.int .i64 ((rd_T56 l1_1 x17_1).f0))) (fun _ hk=>hk.2) (.int .i64 ((rd_T56 l1_1 x17_1).f1))) (fun _ h_=>h_.1))));(case side3=>exact (Kd.R_reads' HO_396001.out).2.1);(case side4=>refine (Kd.R_reads' (e:=3) (base:=w0.heap.size) (ok:=fun k_=>(((P0_1_ k_ ∨ P0_2_ k_) ∨ w.heap.size ≤ k_) ∧ some k_ ≠ (u7 : Value).ownBlock)) (n:=l0_2.length) (c:=co6) ?_).2.2;exact (by (with_reducible repeat (first|apply Kd.R_alloc|apply Kd.R_drewN|apply Kd.R_drew));exact (Kd.R_mono (Kd.R_far (p:=⟨gb400,1,none⟩) (Kd.R_far (p:=⟨gb400,0,none⟩) (Kd.R_types HO_396002.out BK400.out (by decide)) (fun _ hk=>hk.2) (.int .i64 ((rd_T56 l1_1 x17_1).f0))) (fun _ hk=>hk.2) (.int .i64 ((rd_T56 l1_1 x17_1).f1))) (fun _ h_=>h_.1))));(case side5=>exact (Kd.R_reads' HO_396002.out).2.1);rintro e w27 ⟨rfl,hb⟩;refine ⟨_,rfl,?_⟩;have n0_:=Aside0.mk (Kd.R_below (by (with_reducible repeat (first|apply Kd.R_alloc|apply Kd.R_drewN|apply Kd.R_drew));exact (Kd.R_mono (Kd.R_far (p:=⟨gb400,1,none⟩) (Kd.R_far (p:=⟨gb400,0,none⟩) (Kd.R_types HO_7.out BK400.out (by decide)) (fun _ hk=>hk.2) (.int .i64 ((rd_T56 l1_1 x17_1).f0))) (fun _ hk=>hk.2) (.int .i64 ((rd_T56 l1_1 x17_1).f1))) (fun _ h_=>h_.1))) hb);have n1_:=Aside0.mk (Kd.R_below (by (with_reducible repeat (first|apply Kd.R_alloc|apply Kd.R_drewN|apply Kd.R_drew));exact (Kd.R_mono (Kd.R_far (p:=⟨gb400,1,none⟩) (Kd.R_far (p:=⟨gb400,0,none⟩) (Kd.R_mono HO_396001.out (fun k_ hk=>(⟨hk,hk.2⟩ : _ ∧ k_ ≠ gb400))) (fun _ hk=>hk.2) (.int .i64 ((rd_T56 l1_1 x17_1).f0))) (fun _ hk=>hk.2) (.int .i64 ((rd_T56 l1_1 x17_1).f1))) (fun _ h_=>h_.1))) hb);have n2_:=Aside0.mk (Kd.R_below (by (with_reducible repeat (first|apply Kd.R_alloc|apply Kd.R_drewN|apply Kd.R_drew));exact (Kd.R_mono (Kd.R_far (p:=⟨gb400,1,none⟩) (Kd.R_far (p:=⟨gb400,0,none⟩) (Kd.R_types HO_396002.out BK400.out (by decide)) (fun _ hk=>hk.2) (.int .i64 ((rd_T56 l1_1 x17_1).f0))) (fun _ hk=>hk.2) (.int .i64 ((rd_T56 l1_1 x17_1).f1))) (fun _ h_=>h_.1))) hb);have n3_:=Aside0.mk (blk_below (g:=g1_) (o:=.cells #[.int .i64 a1_0,.slice (some ad399) l1_1.length c1_1,.slice A1_2 l1_2.length c1_2] 32 (0,0)) (by (with_reducible repeat (first|refine blk_drewN ?_ _|refine blk_drew ?_|refine blk_alloc ?_ _));refine blk_far ?_ NB1_400.out _;(with_reducible repeat (first|refine blk_drewN ?_ _|refine blk_drew ?_|refine blk_alloc ?_ _));refine blk_far ?_ NB1_400.out _;(with_reducible repeat (first|refine blk_drewN ?_ _|refine blk_drew ?_|refine blk_alloc ?_ _));exact BK1.out) hb);have n4_:=Aside0.mk (blk_below (g:=gb395) (o:=.cells #[.int .i64 a0_0,.slice Ao26 x396001_1.length co26,.slice Ao6 l0_2.length co6] 32 (0,0)) (by (with_reducible repeat (first|refine blk_drewN ?_ _|refine blk_drew ?_|refine blk_alloc ?_ _));refine blk_far ?_ NB395_400.out _;(with_reducible repeat (first|refine blk_drewN ?_ _|refine blk_drew ?_|refine blk_alloc ?_ _));refine blk_far ?_ NB395_400.out _;(with_reducible repeat (first|refine blk_drewN ?_ _|refine blk_drew ?_|refine blk_alloc ?_ _));exact BK395.out) hb);have n5_:=Aside0.mk (blk_below (g:=gb400) (o:=.cells #[.int .i64 ((rd_T56 l1_1 x17_1).f0),.int .i64 ((rd_T56 l1_1 x17_1).f1)] 56 (0,0)) (by (with_reducible repeat (first|refine blk_drewN ?_ _|refine blk_drew ?_|refine blk_alloc ?_ _));refine blk_put (cs:=#[.int .i64 ((rd_T56 l1_1 x17_1).f0),.int .i64 0]) ?_ 1 _ rfl;(with_reducible repeat (first|refine blk_drewN ?_ _|refine blk_drew ?_|refine blk_alloc ?_ _));refine blk_put (cs:=#[.int .i64 0,.int .i64 0]) ?_ 0 _ rfl;(with_reducible repeat (first|refine blk_drewN ?_ _|refine blk_drew ?_|refine blk_alloc ?_ _));exact BK400.out) hb);have n6_:=Aside0.mk (Kept.below (S:=(fun k_=>P0_1_ k_ ∨ P0_2_ k_)) (by repeat (first|(with_reducible first|exact HK.out|apply Kept.alloc|apply Kept.drewN|apply Kept.drew|refine Kept.setCell ?_ (.inr GW1.out) _|refine Kept.setCell ?_ (.inl GW395.out) _|refine Kept.setCell ?_ (.inr GW400.out) _)|exact HK.out)) hb);have n7_:=Aside0.mk (below_step bs hb);clear HO_7 HO_396001 HO_396002 BK1 BK395 BK400 HK HB;have HO_7:=n0_;have HO_396001:=n1_;have HO_396002:=n2_;have BK1:=n3_;have BK395:=n4_;have BK400:=n5_;have HK:=n6_;have HB:=n7_;clear n0_ n1_ n2_ n3_ n4_ n5_ n6_ n7_;(try clear hb))|((with_reducible refine gate_builtin (b:=.append) (xs:=#[.tmp 21,.tmp 24]) rfl ?_);at_builtin;refine Kd.R_append (Kd.int .i64) (w0:=w0) w0.heap.size rfl (.tmp 21) (.tmp 24) 24 3 (.int .i64 0) 8 rfl Try.underlying24 info3 rfl (by decide) (by omega) u7 x7_1 t401 [.int .i64 t401] (fun k_=>((P0_1_ k_ ∨ P0_2_ k_) ∨ w.heap.size ≤ k_) ∧ some k_ ≠ (.slice Ao6 l0_2.length co6 : Value).ownBlock) (fun _=>False) rfl rfl ?aP (fun _ hk=>hk.elim) ?aF ?aO ?aB ?aS ?aL ?_;(case aP=>exact rfl);(case aB=>exact bs);(case aF=>exact (fun k_ hk=>⟨(.inr (Nat.le_trans (by first|exact HK.out.1|exact (show Kept w _ (fun k_=>P0_1_ k_ ∨ P0_2_ k_) from by repeat (first|(with_reducible first|exact HK.out|apply Kept.alloc|apply Kept.drewN|apply Kept.drew|refine Kept.setCell ?_ (.inr GW1.out) _|refine Kept.setCell ?_ (.inl GW395.out) _|refine Kept.setCell ?_ (.inr GW400.out) _)|exact HK.out)).1) hk)),Kd.fresh' (Kd.R_lt (rz HO_396002.out)) k_ hk⟩));(case aO=>exact (rz HO_7.out));(case aS=>exact (below_size bs));(case aL=>have:=LMc15.out;omega);intro v403 w28 ho hb hg hat;rw [← Ny402.out] at ho;have n0_:=Aside0.mk (Kd.R_over' (rz HO_396001.out) (Kd.R_typed (rz HO_7.out)) (by decide) hg);have n1_:=Aside0.mk (Kd.R_after (ok:=(fun k_=>((P0_1_ k_ ∨ P0_2_ k_) ∨ w.heap.size ≤ k_))) (rz HO_396002.out) hg hat);have n2_:=Aside0.mk (blk_grown (g:=g1_) (o:=.cells #[.int .i64 a1_0,.slice (some ad399) l1_1.length c1_1,.slice A1_2 l1_2.length c1_2] 32 (0,0)) (kz BK1.out) hg (Kd.R_ne HO_7.out BK1.out (by decide)));have n3_:=Aside0.mk (blk_grown (g:=gb395) (o:=.cells #[.int .i64 a0_0,.slice Ao26 x396001_1.length co26,.slice Ao6 l0_2.length co6] 32 (0,0)) (kz BK395.out) hg (Kd.R_ne HO_7.out BK395.out (by decide)));have n4_:=Aside0.mk (blk_grown (g:=gb400) (o:=.cells #[.int .i64 ((rd_T56 l1_1 x17_1).f0),.int .i64 ((rd_T56 l1_1 x17_1).f1)] 56 (0,0)) (kz BK400.out) hg (Kd.R_ne HO_7.out BK400.out (by decide)));have n5_:=Aside0.mk (hb);have n6_:=Aside0.mk (Kept.of_grown (S:=(fun k_=>P0_1_ k_ ∨ P0_2_ k_)) hg (by repeat (first|(with_reducible first|exact HK.out|apply Kept.alloc|apply Kept.drewN|apply Kept.drew|refine Kept.setCell ?_ (.inr GW1.out) _|refine Kept.setCell ?_ (.inl GW395.out) _|refine Kept.setCell ?_ (.inr GW400.out) _)|exact HK.out)) (fun k_ e_=>(HO_7.out.1 k_ e_).1));have n7_:=Aside0.mk (ho);clear HO_396001 HO_396002 BK1 BK395 BK400 HB HK HO_7;have HO_396001:=n0_;have HO_396002:=n1_;have BK1:=n2_;have BK395:=n3_;have BK400:=n4_;have HB:=n5_;have HK:=n6_;have HO404:=n7_;clear n0_ n1_ n2_ n3_ n4_ n5_ n6_ n7_;clear ho hb hg hat))
            have n0_:=Aside0.mk (Kd.R_drew HO_396001.out)
            have n1_:=Aside0.mk (Kd.R_drew HO_396002.out)
            have n2_:=Aside0.mk (Kd.R_drew HO404.out)
            have n3_:=Aside0.mk (blk_drew BK1.out)
            have n4_:=Aside0.mk (blk_drew BK395.out)
            have n5_:=Aside0.mk (blk_drew BK400.out)
            have n6_:=Aside0.mk (Kept.drew HK.out)
            have n7_:=Aside0.mk (below_drew1 HB.out)
            clear HO_396001
            clear HO_396002
            clear HO404
            clear BK1
            clear BK395
            clear BK400
            clear HK
            clear HB
            have HO_396001:=n0_
            have HO_396002:=n1_
            have HO404:=n2_
            have BK1:=n3_
            have BK395:=n4_
            have BK400:=n5_
            have HK:=n6_
            have HB:=n7_
            clear n0_ n1_ n2_ n3_ n4_ n5_ n6_ n7_
            obtain ⟨Ao30,co30,eo30⟩:=Kd.R_slice HO404.out
            (first|subst eo30|(injection eo30 with f1_ f2_ f3_;have f4_:=f1_.symm;have f5_:=f3_.symm;clear f1_ f2_ f3_;subst f4_;subst f5_))
            have p405 : 0 ≤ (((rd_T56 l1_1 x17_1).f0) : Int):=of_decide_eq_true az
            have q405 : ((rd_T56 l1_1 x17_1).f0) < (y402.length : Int):=of_decide_eq_true az
            obtain ⟨ad405,e405,hx405_0⟩:=Kd.at_int (Kd.R_reads' HO404.out).2.2 ((rd_T56 l1_1 x17_1).f0) p405 q405
            cases e405
            replace p405:=eq_true p405
            replace q405:=eq_true q405
            have p406 : 0 ≤ (((rd_T56 l1_1 x17_1).f1) : Int):=of_decide_eq_true az
            have q406 : ((rd_T56 l1_1 x17_1).f1) < (y402.length : Int):=of_decide_eq_true az
            obtain ⟨ad406,e406,hx406_0⟩:=Kd.at_int (Kd.R_reads' HO404.out).2.2 ((rd_T56 l1_1 x17_1).f1) p406 q406
            obtain rfl : ad405 = ad406:=(by injection e406)
            replace p406:=eq_true p406
            replace q406:=eq_true q406
            refine start_ (n:=21) (S:=fun w'=>w'.cell? ⟨gb395,0,none⟩ = some (.int .i64 a0_0) ∧ w'.cell? ⟨gb395,1,none⟩ = some (.slice Ao26 x396001_1.length co26) ∧ w'.cell? ⟨gb395,2,none⟩ = some (.slice Ao6 l0_2.length co6) ∧ w'.cell? ⟨gb400,0,none⟩ = some (.int .i64 ((rd_T56 l1_1 x17_1).f0)) ∧ w'.cell? ⟨gb400,1,none⟩ = some (.int .i64 ((rd_T56 l1_1 x17_1).f1)) ∧ w'.cell? (ad405.add (((rd_T56 l1_1 x17_1).f0)).toNat) = some (.int .i64 (rd y402 ((rd_T56 l1_1 x17_1).f0))) ∧ w'.cell? (ad405.add (((rd_T56 l1_1 x17_1).f1)).toNat) = some (.int .i64 (rd y402 ((rd_T56 l1_1 x17_1).f1)))) (ds:=[17,20]) #[false,false,false,false,false,false,false,false,false,false,false,false,false,false,false,false,false,false,false,false,false] (by kernel_rfl) rfl rfl ⟨(blk_cell BK395.out 0).trans rfl,(blk_cell BK395.out 1).trans rfl,(blk_cell BK395.out 2).trans rfl,(blk_cell BK400.out 0).trans rfl,(blk_cell BK400.out 1).trans rfl,hx405_0,hx406_0⟩ (fun hHeld=>?_);refine with_tabW impl_Plan_behind.tab6 impl_Plan_behind.bits6 (fun HT_ HW_=>?_)
            generalize w28.drew = w29 at HO_396001 HO_396002 HO404 BK1 BK395 BK400 HK HB hx405_0 hx406_0 hHeld ⊢
            refine pure_ (i:=0) (N:=some 26) (v:=?_) (a':=?_) #[true,false,false,false,false,false,false,false,false,false,false,false,false,false,false,false,false,false,false,false,false] rfl rfl (any_of HT_.out (by kernel_rfl)) (fun _ _ _ h=>h) (Or.inl ⟨by rfl,?_⟩) ?_ ?_
            rotate_left
            ·intro w'
             go_simp
             with_reducible rfl
            rotate_left
            ·simp only [Act.put,xa,xb,xc,i64_w,i32_w]
             rfl
            refine pure_ (i:=1) (N:=some 27) (v:=?_) (a':=?_) #[true,true,false,false,false,false,false,false,false,false,false,false,false,false,false,false,false,false,false,false,false] rfl rfl (any_of HT_.out (by kernel_rfl)) (fun _ _ _ h=>h) (Or.inl ⟨by rfl,?_⟩) ?_ ?_
            rotate_left
            ·intro w'
             go_simp
             with_reducible rfl
            rotate_left
            ·simp only [Act.put,xa,xb,xc,i64_w,i32_w]
             rfl
            refine pure_ (i:=2) (N:=some 28) (v:=?_) (a':=?_) #[true,true,true,false,false,false,false,false,false,false,false,false,false,false,false,false,false,false,false,false,false] rfl rfl (any_of HT_.out (by kernel_rfl)) (fun _ _ _ h=>h) (Or.inl ⟨by rfl,?_⟩) ?_ ?_
            rotate_left
            ·intro w'
             go_simp
             with_reducible rfl
            rotate_left
            ·simp only [Act.put,xa,xb,xc,i64_w,i32_w]
             rfl
            refine pure_ (i:=3) (N:=some 29) (v:=?_) (a':=?_) #[true,true,true,true,false,false,false,false,false,false,false,false,false,false,false,false,false,false,false,false,false] rfl rfl (any_of HT_.out (by kernel_rfl)) (fun _ _ _ h=>h) (Or.inl ⟨by rfl,?_⟩) ?_ ?_
            rotate_left
            ·intro w'
             go_simp
             with_reducible rfl
            rotate_left
            ·simp only [Act.put,xa,xb,xc,i64_w,i32_w]
             rfl
            refine pure_ (i:=5) (N:=some 31) (v:=?_) (a':=?_) #[true,true,true,true,false,true,false,false,false,false,false,false,false,false,false,false,false,false,false,false,false] rfl rfl (any_of HT_.out (by kernel_rfl)) (fun _ _ _ h=>h) (Or.inl ⟨by rfl,?_⟩) ?_ ?_
            rotate_left
            ·intro w'
             go_simp
             with_reducible rfl
            rotate_left
            ·simp only [Act.put,xa,xb,xc,i64_w,i32_w]
             rfl
            refine pure_ (i:=6) (N:=some 32) (v:=?_) (a':=?_) #[true,true,true,true,false,true,true,false,false,false,false,false,false,false,false,false,false,false,false,false,false] rfl rfl (any_of HT_.out (by kernel_rfl)) (fun _ _ _ h=>h) (Or.inl ⟨by rfl,?_⟩) ?_ ?_
            rotate_left
            ·intro w'
             go_simp
             with_reducible rfl
            rotate_left
            ·simp only [Act.put,xa,xb,xc,i64_w,i32_w]
             rfl
            refine pure_ (i:=10) (N:=some 36) (v:=?_) (a':=?_) #[true,true,true,true,false,true,true,false,false,false,true,false,false,false,false,false,false,false,false,false,false] rfl rfl (any_of HT_.out (by kernel_rfl)) (fun _ _ _ h=>h) (Or.inl ⟨by rfl,?_⟩) ?_ ?_
            rotate_left
            ·intro w'
             go_simp
             with_reducible rfl
            rotate_left
            ·simp only [Act.put,xa,xb,xc,i64_w,i32_w]
             rfl
            refine pure_ (i:=11) (N:=some 37) (v:=?_) (a':=?_) #[true,true,true,true,false,true,true,false,false,false,true,true,false,false,false,false,false,false,false,false,false] rfl rfl (any_of HT_.out (by kernel_rfl)) (fun _ _ _ h=>h) (Or.inl ⟨by rfl,?_⟩) ?_ ?_
            rotate_left
            ·intro w'
             go_simp
             with_reducible rfl
            rotate_left
            ·simp only [Act.put,xa,xb,xc,i64_w,i32_w]
             rfl
            refine take_ (i:=4) (N:=some 30) (v:=?_) (a':=?_) #[true,true,true,true,true,true,true,false,false,false,true,true,false,false,false,false,false,false,false,false,false] rfl rfl (take_ofW HT_.out HW_.out (by kernel_rfl)) (fun _ _ _ h=>h) (Or.inl ⟨by rfl,?_⟩) hHeld ?_ ?_
            rotate_left
            ·rintro w' ⟨s0,s1,s2,s3,s4,s5,s6⟩
             go_simp
             with_reducible rfl
            rotate_left
            ·simp only [Act.put,xa,xb,xc,i64_w,i32_w]
             rfl
            refine take_ (i:=7) (N:=some 33) (v:=?_) (a':=?_) #[true,true,true,true,true,true,true,true,false,false,true,true,false,false,false,false,false,false,false,false,false] rfl rfl (take_ofW HT_.out HW_.out (by kernel_rfl)) (fun _ _ _ h=>h) (Or.inl ⟨by rfl,?_⟩) hHeld ?_ ?_
            rotate_left
            ·rintro w' ⟨s0,s1,s2,s3,s4,s5,s6⟩
             go_simp
             with_reducible rfl
            rotate_left
            ·simp only [Act.put,xa,xb,xc,i64_w,i32_w]
             rfl
            refine pure_ (i:=8) (N:=some 34) (v:=?_) (a':=?_) #[true,true,true,true,true,true,true,true,true,false,true,true,false,false,false,false,false,false,false,false,false] rfl rfl (any_of HT_.out (by kernel_rfl)) (fun _ _ _ h=>h) (Or.inl ⟨by rfl,?_⟩) ?_ ?_
            rotate_left
            ·intro w'
             go_simp
             with_reducible rfl
            rotate_left
            ·simp only [Act.put,xa,xb,xc,i64_w,i32_w]
             rfl
            refine take_ (i:=9) (N:=some 35) (v:=?_) (a':=?_) #[true,true,true,true,true,true,true,true,true,true,true,true,false,false,false,false,false,false,false,false,false] rfl rfl (take_ofW HT_.out HW_.out (by kernel_rfl)) (fun _ _ _ h=>h) (Or.inl ⟨by rfl,?_⟩) hHeld ?_ ?_
            rotate_left
            ·rintro w' ⟨s0,s1,s2,s3,s4,s5,s6⟩
             go_simp
             with_reducible rfl
            rotate_left
            ·simp only [Act.put,xa,xb,xc,i64_w,i32_w]
             rfl
            refine take_ (i:=12) (N:=some 38) (v:=?_) (a':=?_) #[true,true,true,true,true,true,true,true,true,true,true,true,true,false,false,false,false,false,false,false,false] rfl rfl (take_ofW HT_.out HW_.out (by kernel_rfl)) (fun _ _ _ h=>h) (Or.inl ⟨by rfl,?_⟩) hHeld ?_ ?_
            rotate_left
            ·rintro w' ⟨s0,s1,s2,s3,s4,s5,s6⟩
             go_simp
             with_reducible rfl
            rotate_left
            ·simp only [Act.put,xa,xb,xc,i64_w,i32_w]
             rfl
            refine pure_ (i:=13) (N:=some 39) (v:=?_) (a':=?_) #[true,true,true,true,true,true,true,true,true,true,true,true,true,true,false,false,false,false,false,false,false] rfl rfl (any_of HT_.out (by kernel_rfl)) (fun _ _ _ h=>h) (Or.inl ⟨by rfl,?_⟩) ?_ ?_
            rotate_left
            ·intro w'
             go_simp
             with_reducible rfl
            rotate_left
            ·simp only [Act.put,xa,xb,xc,i64_w,i32_w]
             rfl
            refine take_ (i:=14) (N:=some 40) (v:=?_) (a':=?_) #[true,true,true,true,true,true,true,true,true,true,true,true,true,true,true,false,false,false,false,false,false] rfl rfl (take_ofW HT_.out HW_.out (by kernel_rfl)) (fun _ _ _ h=>h) (Or.inl ⟨by rfl,?_⟩) hHeld ?_ ?_
            rotate_left
            ·rintro w' ⟨s0,s1,s2,s3,s4,s5,s6⟩
             go_simp
             with_reducible rfl
            rotate_left
            ·simp only [Act.put,xa,xb,xc,i64_w,i32_w]
             rfl
            refine one_ (i:=15) (N:=some 41) #[true,true,true,true,true,true,true,true,true,true,true,true,true,true,true,true,false,false,false,false,false] rfl rfl (one_of HT_.out (by kernel_rfl)) (by decide) (fun K hK=>?_)
            refine goes_ Try.func76 (by kernel_rfl) rfl #[.int .i64 (rd y402 ((rd_T56 l1_1 x17_1).f0)),.int .i64 (rd y402 ((rd_T56 l1_1 x17_1).f1))] (by rfl) rfl rfl mz ?_
            with_reducible refine (impl_step.calls (rd y402 ((rd_T56 l1_1 x17_1).f0)) (rd y402 ((rd_T56 l1_1 x17_1).f1)) t407 t408 _ A20.out).mono ?_
            rintro e w31 ⟨rfl,hb⟩
            have HS5_:=(hb.cell (World.block_lt_of_cell? _ _ (hHeld.2.2.2.2.2.1))).trans (hHeld.2.2.2.2.2.1)
            have HS6_:=(hb.cell (World.block_lt_of_cell? _ _ (hHeld.2.2.2.2.2.2))).trans (hHeld.2.2.2.2.2.2)
            refine ⟨_,rfl,?_⟩
            have n0_:=Aside0.mk (Kd.R_below (rz HO_396001.out) hb)
            have n1_:=Aside0.mk (Kd.R_below (rz HO_396002.out) hb)
            have n2_:=Aside0.mk (Kd.R_below (rz HO404.out) hb)
            have n3_:=Aside0.mk (blk_below (g:=g1_) (o:=.cells #[.int .i64 a1_0,.slice (some ad399) l1_1.length c1_1,.slice A1_2 l1_2.length c1_2] 32 (0,0)) (kz BK1.out) hb)
            have n4_:=Aside0.mk (blk_below (g:=gb395) (o:=.cells #[.int .i64 a0_0,.slice Ao26 x396001_1.length co26,.slice Ao6 l0_2.length co6] 32 (0,0)) (kz BK395.out) hb)
            have n5_:=Aside0.mk (blk_below (g:=gb400) (o:=.cells #[.int .i64 ((rd_T56 l1_1 x17_1).f0),.int .i64 ((rd_T56 l1_1 x17_1).f1)] 56 (0,0)) (kz BK400.out) hb)
            have n6_:=Aside0.mk (Kept.below (S:=(fun k_=>P0_1_ k_ ∨ P0_2_ k_)) (by repeat (first|(with_reducible first|exact HK.out|apply Kept.alloc|apply Kept.drewN|apply Kept.drew|refine Kept.setCell ?_ (.inr GW1.out) _|refine Kept.setCell ?_ (.inl GW395.out) _|refine Kept.setCell ?_ (.inr GW400.out) _)|exact HK.out)) hb)
            have n7_:=Aside0.mk (below_step bs hb)
            clear HO_396001
            clear HO_396002
            clear HO404
            clear BK1
            clear BK395
            clear BK400
            clear HK
            clear HB
            have HO_396001:=n0_
            have HO_396002:=n1_
            have HO404:=n2_
            have BK1:=n3_
            have BK395:=n4_
            have BK400:=n5_
            have HK:=n6_
            have HB:=n7_
            clear n0_ n1_ n2_ n3_ n4_ n5_ n6_ n7_
            (try clear hb)
            refine hK.out _ _ ⟨(blk_cell BK395.out 0).trans rfl,(blk_cell BK395.out 1).trans rfl,(blk_cell BK395.out 2).trans rfl,(blk_cell BK400.out 0).trans rfl,(blk_cell BK400.out 1).trans rfl,HS5_,HS6_⟩ (fun hHeld=>?_)
            clear hK K
            refine norm_ (a':=?_) ?_ ?_
            rotate_left
            ·show Act.put _ (some 41) _ = _
             simp only [Act.put,xa,xb,xc,i64_w,i32_w]
             rfl
            refine one_ (i:=16) (N:=some 42) #[true,true,true,true,true,true,true,true,true,true,true,true,true,true,true,true,true,false,false,false,false] rfl rfl (one_of HT_.out (by kernel_rfl)) (by decide) (fun K hK=>?_)
            refine value_ (w1:=?_) (v:=?_) (by rfl) rfl ?_ ?_
            rotate_left 2
            ·go_simp
             constructor
             ·rfl
             ·rfl
            refine hK.out _ _ ⟨(blk_cell (blk_alloc BK395.out _) 0).trans rfl,(blk_cell (blk_alloc BK395.out _) 1).trans rfl,(blk_cell (blk_alloc BK395.out _) 2).trans rfl,(blk_cell (blk_alloc BK400.out _) 0).trans rfl,(blk_cell (blk_alloc BK400.out _) 1).trans rfl,(World.cell?_alloc_lt _ _ _ (World.block_lt_of_cell? _ _ (hHeld.2.2.2.2.2.1))).trans (hHeld.2.2.2.2.2.1),(World.cell?_alloc_lt _ _ _ (World.block_lt_of_cell? _ _ (hHeld.2.2.2.2.2.2))).trans (hHeld.2.2.2.2.2.2)⟩ (fun hHeld=>?_)
            clear hK K
            refine norm_ (a':=?_) ?_ ?_
            rotate_left
            ·show Act.put _ (some 42) _ = _
             simp only [Act.put,xa,xb,xc,i64_w,i32_w]
             rfl
            refine last_ (i:=17) (N:=some 43) #[true,true,true,true,true,true,true,true,true,true,true,true,true,true,true,true,true,true,false,false,false] rfl rfl (one_of HT_.out (by kernel_rfl)) (by decide) (fun K hK=>?_)
            refine Kd.R_append_step k56 (w0:=w0) w0.heap.size (by rfl) (.tmp 30) (.tmp 42) 30 56 (.agg #[(.int .i64 0),(.int .i64 0)]) 16 rfl Try.underlying30 info56 rfl (by decide) (by omega) (.slice Ao26 x396001_1.length co26) x396001_1 (⟨t407,t408⟩ : S56) [.int .i64 t407,.int .i64 t408] (fun k_=>((P0_1_ k_ ∨ P0_2_ k_) ∨ w.heap.size ≤ k_) ∧ k_ ≠ gb400) (fun _=>False) rfl rfl ?aP (fun _ hk=>hk.elim) ?aF ?aO ?aB ?aS ?aL ?_
            (case aP=>exact k56_mkM _ _ _ (⟨t407,t408⟩ : S56))
            (case aB=>exact bs)
            (case aF=>exact (fun k_ hk=>⟨(.inr (Nat.le_trans (by first|exact HK.out.1|exact (show Kept w _ (fun k_=>P0_1_ k_ ∨ P0_2_ k_) from by repeat (first|(with_reducible first|exact HK.out|apply Kept.alloc|apply Kept.drewN|apply Kept.drew|refine Kept.setCell ?_ (.inr GW1.out) _|refine Kept.setCell ?_ (.inl GW395.out) _|refine Kept.setCell ?_ (.inr GW400.out) _)|exact HK.out)).1) hk)),Kd.freshB (g:=gb400) (o:=.cells #[.int .i64 ((rd_T56 l1_1 x17_1).f0),.int .i64 ((rd_T56 l1_1 x17_1).f1)] 56 (0,0)) (kz BK400.out) k_ hk⟩))
            (case aO=>exact (rz HO_396001.out))
            (case aS=>exact (below_size bs))
            (case aL=>have:=LMc21.out;omega)
            intro v410 w32 ho hb hg hat
            rw [← Ny409.out] at ho
            have n0_:=Aside0.mk (Kd.R_over' (rz HO_396002.out) (Kd.R_typed (rz HO_396001.out)) (by decide) hg)
            have n1_:=Aside0.mk (blk_grown (g:=g1_) (o:=.cells #[.int .i64 a1_0,.slice (some ad399) l1_1.length c1_1,.slice A1_2 l1_2.length c1_2] 32 (0,0)) (kz BK1.out) hg (Kd.R_ne HO_396001.out BK1.out (by decide)))
            have n2_:=Aside0.mk (blk_grown (g:=gb395) (o:=.cells #[.int .i64 a0_0,.slice Ao26 x396001_1.length co26,.slice Ao6 l0_2.length co6] 32 (0,0)) (kz BK395.out) hg (Kd.R_ne HO_396001.out BK395.out (by decide)))
            have n3_:=Aside0.mk (blk_grown (g:=gb400) (o:=.cells #[.int .i64 ((rd_T56 l1_1 x17_1).f0),.int .i64 ((rd_T56 l1_1 x17_1).f1)] 56 (0,0)) (kz BK400.out) hg (Kd.R_away HO_396001.out (fun _ hk=>hk.2)))
            have n4_:=Aside0.mk (Kd.R_over' (rz HO404.out) (Kd.R_typed (rz HO_396001.out)) (by decide) hg)
            have n5_:=Aside0.mk (hb)
            have n6_:=Aside0.mk (Kept.of_grown (S:=(fun k_=>P0_1_ k_ ∨ P0_2_ k_)) hg (by repeat (first|(with_reducible first|exact HK.out|apply Kept.alloc|apply Kept.drewN|apply Kept.drew|refine Kept.setCell ?_ (.inr GW1.out) _|refine Kept.setCell ?_ (.inl GW395.out) _|refine Kept.setCell ?_ (.inr GW400.out) _)|exact HK.out)) (fun k_ e_=>(HO_396001.out.1 k_ e_).1))
            have n7_:=Aside0.mk (ho)
            clear HO_396002
            clear BK1
            clear BK395
            clear BK400
            clear HO404
            clear HB
            clear HK
            clear HO_396001
            have HO_396002:=n0_
            have BK1:=n1_
            have BK395:=n2_
            have BK400:=n3_
            have HO404:=n4_
            have HB:=n5_
            have HK:=n6_
            have HO411:=n7_
            clear n0_ n1_ n2_ n3_ n4_ n5_ n6_ n7_
            clear ho hb hg hat
            obtain ⟨Ao33,co33,eo33⟩:=Kd.R_slice HO411.out
            (first|subst eo33|(injection eo33 with f1_ f2_ f3_;have f4_:=f1_.symm;have f5_:=f3_.symm;clear f1_ f2_ f3_;subst f4_;subst f5_))
            refine hK.out _ _ ?_
            clear hK K
            refine norm_ (a':=?_) ?_ ?_
            rotate_left
            ·show Act.put _ (some 43) _ = _
             simp only [Act.put,xa,xb,xc,i64_w,i32_w]
             rfl
            refine pure_ (i:=18) (N:=some 44) (v:=?_) (a':=?_) #[true,true,true,true,true,true,true,true,true,true,true,true,true,true,true,true,true,true,true,false,false] rfl rfl (any_of HT_.out (by kernel_rfl)) (fun _ _ _ h=>h) (Or.inl ⟨by rfl,?_⟩) ?_ ?_
            rotate_left
            ·intro w'
             go_simp
             with_reducible rfl
            rotate_left
            ·simp only [Act.put,xa,xb,xc,i64_w,i32_w]
             rfl
            refine pure_ (i:=19) (N:=some 45) (v:=?_) (a':=?_) #[true,true,true,true,true,true,true,true,true,true,true,true,true,true,true,true,true,true,true,true,false] rfl rfl (any_of HT_.out (by kernel_rfl)) (fun _ _ _ h=>h) (Or.inl ⟨by rfl,?_⟩) ?_ ?_
            rotate_left
            ·intro w'
             go_simp
             with_reducible rfl
            rotate_left
            ·simp only [Act.put,xa,xb,xc,i64_w,i32_w]
             rfl
            refine last_ (i:=20) (N:=none) #[true,true,true,true,true,true,true,true,true,true,true,true,true,true,true,true,true,true,true,true,true] rfl rfl (one_of HT_.out (by kernel_rfl)) (by decide) (fun K hK=>?_)
            have hs34 : w32.cell? ⟨gb395,1,none⟩ = some (.slice Ao26 x396001_1.length co26):=(blk_cell BK395.out 1).trans rfl
            have hfs34:=blk_frozen BK395.out 1
            have hns34_0:=NB1_395.out
            have hns34_2:=NB400_395.out
            have hms34_0:=NB395_1.out
            have hms34_2:=NB395_400.out
            refine skip_ (w1:=?_) (by rfl) rfl ?_ ?_
            rotate_left
            ·go_simp
             rfl
            refine hK.out _ _ ?_
            clear hK K
            refine done_ (done_of HT_.out (by kernel_rfl)) ?_
            try go_wp2
            go_roundg k1
            case measure=>have:=HK1.out;omega
            case rel=>exact ⟨(y402),(wrap64 (x17_1 + 1)),(y409),(.slice Ao33 y409.length co33),fz,H',⟨by have:=HK1.out;omega⟩,⟨by (with_reducible repeat (first|apply Kd.R_alloc|apply Kd.R_drewN|apply Kd.R_drew));exact Kd.R_mono (Kd.R_far (p:=⟨gb395,1,none⟩) (Kd.R_types HO404.out BK395.out (by decide)) (fun _ hk=>hk.2) (.slice Ao33 y409.length co33)) (fun _ hk=>⟨hk.1.1,hk.1.2⟩)⟩,⟨by (with_reducible repeat (first|apply Kd.R_alloc|apply Kd.R_drewN|apply Kd.R_drew));exact Kd.R_mono (Kd.R_far (p:=⟨gb395,1,none⟩) (Kd.R_types HO411.out BK395.out (by decide)) (fun _ hk=>hk.2) (.slice Ao33 y409.length co33)) (fun _ hk=>hk.1.1)⟩,⟨by (with_reducible repeat (first|apply Kd.R_alloc|apply Kd.R_drewN|apply Kd.R_drew));exact Kd.R_mono (Kd.R_far (p:=⟨gb395,1,none⟩) (Kd.R_types HO_396002.out BK395.out (by decide)) (fun _ hk=>hk.2) (.slice Ao33 y409.length co33)) (fun _ hk=>⟨hk.1.1,hk.1.2⟩)⟩,⟨by (with_reducible repeat (first|refine blk_drewN ?_ _|refine blk_drew ?_|refine blk_alloc ?_ _));refine blk_far ?_ NB1_395.out _;(with_reducible repeat (first|refine blk_drewN ?_ _|refine blk_drew ?_|refine blk_alloc ?_ _));exact BK1.out⟩,⟨by (with_reducible repeat (first|refine blk_drewN ?_ _|refine blk_drew ?_|refine blk_alloc ?_ _));refine blk_put (cs:=#[.int .i64 a0_0,.slice Ao26 x396001_1.length co26,.slice Ao6 l0_2.length co6]) ?_ 1 _ rfl;(with_reducible repeat (first|refine blk_drewN ?_ _|refine blk_drew ?_|refine blk_alloc ?_ _));exact BK395.out⟩,⟨by repeat (first|(with_reducible first|exact HK.out|apply Kept.alloc|apply Kept.drewN|apply Kept.drew|refine Kept.setCell ?_ (.inr GW1.out) _|refine Kept.setCell ?_ (.inl GW395.out) _|refine Kept.setCell ?_ (.inr GW400.out) _)|exact HK.out)⟩,⟨by repeat (first|(with_reducible first|exact HB.out|apply below_alloc|apply pw_below_drewN|apply below_drew1|refine below_set ?_ GE1.out|refine below_set ?_ GE395.out|refine below_set ?_ GE400.out)|exact HB.out)⟩⟩
           ·rw [if_neg c21] at H
            exact absurd H (by simp)
          ·rw [if_neg c19] at H
           exact absurd H (by simp)
         ·rw [if_neg c18] at H
          exact absurd H (by simp)
        ·rw [if_neg c17] at H
         exact absurd H (by simp)
       ·rw [if_neg c16] at H
        exact absurd H (by simp)
      ·rw [if_neg c15] at H
       exact absurd H (by simp)
     ·rw [if_neg c13] at H
      exact absurd H (by simp)
    ·rw [if_neg c12] at H
     exact absurd H (by simp)
   ·rw [if_neg c11] at H
    have c11b0 : decide (x17_1 < (l1_1.length : Int)) = false:=decide_eq_false c11
    clear c11
    simp only [Option.some.injEq,Prod.mk.injEq] at H
    obtain ⟨rfl,rfl,rfl,rfl⟩:=H
    go_wp2
    go_ret
    exact ⟨_,rfl,_,_,⟨rfl⟩,by (with_reducible repeat (first|refine blk_drewN ?_ _|refine blk_drew ?_|refine blk_alloc ?_ _));exact BK395.out,by (with_reducible repeat (first|apply Kd.R_alloc|apply Kd.R_drewN|apply Kd.R_drew));exact HO_7.out,by (with_reducible repeat (first|apply Kd.R_alloc|apply Kd.R_drewN|apply Kd.R_drew));exact HO_396001.out,by (with_reducible repeat (first|apply Kd.R_alloc|apply Kd.R_drewN|apply Kd.R_drew));exact HO_396002.out,by repeat (first|(with_reducible first|exact HB.out|apply below_alloc|apply pw_below_drewN|apply below_drew1|refine below_set ?_ GE1.out|refine below_set ?_ GE395.out)|exact HB.out),by repeat (first|(with_reducible first|exact HK.out|apply Kept.alloc|apply Kept.drewN|apply Kept.drew|refine Kept.setCell ?_ (.inr GW1.out) _|refine Kept.setCell ?_ (.inl GW395.out) _)|exact HK.out)⟩
end Go.Proofs.Ytlefjgpkabijdaa.MFnScaledChains
--sq
