import Derived.Test.YtlefjgpkabijdaaMFnScaledChainsx0
import Derived.Test.YtlefjgpkabijdaaMFnScaledChainsx3
import Derived.Test.YtlefjgpkabijdaaMFnScaledChainsx4
import Derived.Test.YtlefjgpkabijdaaMFnScaledChainsx6
import Derived.Test.YtlefjgpkabijdaaMFnScaledChainsx8
import Derived.Test.YtlefjgpkabijdaaMFnScaledChainsx9
import Derived.Test.YtlefjgpkabijdaaMFnScaledChainsx1
import Derived.Test.YtlefjgpkabijdaaMFnScaledChainsx2
import Derived.Test.YtlefjgpkabijdaaMFnScaledChainsx5
import Derived.Test.YtlefjgpkabijdaaMFnScaledChainsx7
namespace Go.Proofs.Ytlefjgpkabijdaa.MFnScaledChains
open Go.RowKit Go.Proofs.YtlefjgpkabijdaaW.PrintWords Go.Proofs.YtlefjgpkabijdaaW.PrintLast Go.Proofs.YtlefjgpkabijdaaW.PrintMore Go.Proofs.YtlefjgpkabijdaaV Go.Proofs.YtlefjgpkabijdaaZ
attribute [local go_sem] max2_int min2_int max_two min_two max_three min_three max_four min_four   -- for this text's walks alone
set_option linter.unusedVariables false
set_option linter.unusedSimpArgs false
/-! ### impl_ComposePlans: function 28 -/
theorem impl_ComposePlans.keep_ok {e base : Nat} {w w1 : World} {ok ok1 P : Nat → Prop} {v : Value} {xs ys : List Int} (h0 : Kd.R (Kd.int .i64) e w base ok v xs) (h1 : Kd.R (Kd.int .i64) e w1 base ok1 v ys) (hP : ∀ k,v.ownBlock = some k → P k) : Kd.R (Kd.int .i64) e w1 base (fun k=>ok k ∧ P k) v ys:=Kd.R_mono (Kd.R_tight rfl h1) (fun k e_=>⟨h0.1 k e_.symm,hP k e_.symm⟩)
def impl_ComposePlans.j0 : Nat → Bool → Int → List (S56) → List Int → Int → List (S56) → List Int → Option (Int × (List (S56)) × List Int × Bool)
 | 0,_,_,_,_,_,_,_=>none
 | k + 1,x22,x395000,x395001,x395002,x396000,x396001,x396002=>if x22 = true then (some (0,([] : List (S56)),([] : List Int),false)) else ((impl_clonePlan.f x395000 x395001 x395002).bind fun bt399=>((impl_Plan_behind.f k bt399.1 bt399.2.1 bt399.2.2 x396000 x396001 x396002 x395002).bind fun bt407=>((impl_renamed.f k x396002 bt407.1).bind fun t410=>((impl_told.f k bt399.1 bt407.2.2.1 t410).bind fun bt413=>(some (bt413.1,bt413.2.1,bt413.2.2.1,bt413.2.2.2))))))
def impl_ComposePlans.f (k : Nat) (a0_0 : Int) (l0_1 : List (S56)) (l0_2 : List Int) (a1_0 : Int) (l1_1 : List (S56)) (l1_2 : List Int) : Option (Int × (List (S56)) × List Int × Bool):=(impl_IsPlan.f k a0_0 l0_1 l0_2).bind fun t397=>(if t397 = true then ((impl_IsPlan.f k a1_0 l1_1 l1_2).bind fun t398=>(if t398 = true then (impl_ComposePlans.j0 k ((l0_2.length : Int) != a1_0) a0_0 l0_1 l0_2 a1_0 l1_1 l1_2) else (impl_ComposePlans.j0 k true a0_0 l0_1 l0_2 a1_0 l1_1 l1_2))) else (impl_ComposePlans.j0 k true a0_0 l0_1 l0_2 a1_0 l1_1 l1_2))
theorem impl_ComposePlans.mono_l : ∀ k,(∀ y0 y1 y2 y3 y4 y5 y6,LeO (impl_ComposePlans.j0 k y0 y1 y2 y3 y4 y5 y6) (impl_ComposePlans.j0 (k + 1) y0 y1 y2 y3 y4 y5 y6))
 | 0=>fun _ _ _ _ _ _ _ r h=>by simp [impl_ComposePlans.j0] at h
 | k + 1=>by
  have ih0:=impl_ComposePlans.mono_l k
  ·intro y0 y1 y2 y3 y4 y5 y6
   unfold impl_ComposePlans.j0
   repeat' first
   | (with_reducible exact ih0 _ _ _ _ _ _ _)
   | (with_reducible exact impl_IsPlan.mono _ _ _ _)
   | (with_reducible exact impl_Plan_behind.mono _ _ _ _ _ _ _ _)
   | (with_reducible exact impl_renamed.mono _ _ _)
   | (with_reducible exact impl_told.mono _ _ _ _)
   | (with_reducible exact LeO.refl _)
   | (with_reducible exact LeO.none _)
   | (with_reducible refine LeO.ite ?_ ?_)
   | (with_reducible refine LeO.bind ?_ (fun _=>?_))
   | exact ih0 _ _ _ _ _ _ _
   | exact impl_IsPlan.mono _ _ _ _
   | exact impl_Plan_behind.mono _ _ _ _ _ _ _ _
   | exact impl_renamed.mono _ _ _
   | exact impl_told.mono _ _ _ _
   | exact LeO.none _
   | refine LeO.ite ?_ ?_
   | refine LeO.bind ?_ (fun _=>?_)
theorem impl_ComposePlans.mono : ∀ a0 a1 a2 a3 a4 a5 k,LeO (impl_ComposePlans.f k a0 a1 a2 a3 a4 a5) (impl_ComposePlans.f (k + 1) a0 a1 a2 a3 a4 a5):=by
 intro a0 a1 a2 a3 a4 a5 k
 have ih0:=impl_ComposePlans.mono_l k
 unfold impl_ComposePlans.f
 repeat' first
   | (with_reducible exact ih0 _ _ _ _ _ _ _)
   | (with_reducible exact impl_IsPlan.mono _ _ _ _)
   | (with_reducible exact impl_Plan_behind.mono _ _ _ _ _ _ _ _)
   | (with_reducible exact impl_renamed.mono _ _ _)
   | (with_reducible exact impl_told.mono _ _ _ _)
   | (with_reducible exact LeO.refl _)
   | (with_reducible exact LeO.none _)
   | (with_reducible refine LeO.ite ?_ ?_)
   | (with_reducible refine LeO.bind ?_ (fun _=>?_))
   | exact ih0 _ _ _ _ _ _ _
   | exact impl_IsPlan.mono _ _ _ _
   | exact impl_Plan_behind.mono _ _ _ _ _ _ _ _
   | exact impl_renamed.mono _ _ _
   | exact impl_told.mono _ _ _ _
   | exact LeO.none _
   | refine LeO.ite ?_ ?_
   | refine LeO.bind ?_ (fun _=>?_)
def impl_ComposePlans.T4 : Bool × List (List Nat × List Nat):=(true,[([],[]),([0],[0]),([],[]),([2],[2]),([3],[3]),([1,4,4],[1,4]),([0,1,2,3,4,5],[]),([6,5,5,0,1,2,3,4,5],[5,6])])
def impl_ComposePlans.B4 : List Nat:=[0,1,0,4,12,31,63,127]
theorem impl_ComposePlans.tab4 : rtab .any (opsOf Try.f28 4) = impl_ComposePlans.T4:=by kernel_rfl
theorem impl_ComposePlans.bits4 : waitsOk impl_ComposePlans.T4.2 impl_ComposePlans.B4 = true:=by kernel_rfl
set_option maxHeartbeats 8000000 in
set_option maxRecDepth 100000 in
theorem impl_ComposePlans.calls (k : Nat) (a0_0 : Int) (A0_1 : Option Addr) (c0_1 : Nat) (l0_1 : List (S56)) (A0_2 : Option Addr) (c0_2 : Nat) (l0_2 : List Int) (a1_0 : Int) (A1_1 : Option Addr) (c1_1 : Nat) (l1_1 : List (S56)) (A1_2 : Option Addr) (c1_2 : Nat) (l1_2 : List Int) (r1 : Int) (r2 : List (S56)) (r3 : List Int) (r4 : Bool) (w : World) (hr0_1 : Kd.C k56 w A0_1 l0_1.length l0_1) (hc0_1 : l0_1.length ≤ c0_1) (hr0_2 : Kd.C (Kd.int .i64) w A0_2 l0_2.length l0_2) (hc0_2 : l0_2.length ≤ c0_2) (hr1_1 : Kd.C k56 w A1_1 l1_1.length l1_1) (hc1_1 : l1_1.length ≤ c1_1) (hr1_2 : Kd.C (Kd.int .i64) w A1_2 l1_2.length l1_2) (hc1_2 : l1_2.length ≤ c1_2) (h : impl_ComposePlans.f k a0_0 l0_1 l0_2 a1_0 l1_1 l1_2 = some (r1,r2,r3,r4)) :
  Calls Try.prog 28 #[.agg #[.int .i64 a0_0,.slice A0_1 l0_1.length c0_1,.slice A0_2 l0_2.length c0_2],.agg #[.int .i64 a1_0,.slice A1_1 l1_1.length c1_1,.slice A1_2 l1_2.length c1_2]] w fun e w'=>∃ v1_ v2_ : Value,e = .returned (.tuple #[.agg #[.int .i64 r1,v1_,v2_],.bool r4]) ∧ Kd.R k56 56 w' w.heap.size (fun _=>True) v1_ r2 ∧ Kd.R (Kd.int .i64) 3 w' w.heap.size (fun _=>True) v2_ r3 ∧ Below w.heap.size w w':=by
 have hu32:=Try.underlying32
 have HR0_1:=Aside0.mk hr0_1
 have HC0_1:=Aside0.mk hc0_1
 clear hr0_1 hc0_1
 have HR0_2:=Aside0.mk hr0_2
 have HC0_2:=Aside0.mk hc0_2
 clear hr0_2 hc0_2
 have HR1_1:=Aside0.mk hr1_1
 have HC1_1:=Aside0.mk hc1_1
 clear hr1_1 hc1_1
 have HR1_2:=Aside0.mk hr1_2
 have HC1_2:=Aside0.mk hc1_2
 clear hr1_2 hc1_2
 have HB:=Aside0.mk (Below.refl w.heap.size w)
 have H : ((impl_IsPlan.f k a0_0 l0_1 l0_2).bind fun t397=>(if t397 = true then ((impl_IsPlan.f k a1_0 l1_1 l1_2).bind fun t398=>(if t398 = true then (impl_ComposePlans.j0 k ((l0_2.length : Int) != a1_0) a0_0 l0_1 l0_2 a1_0 l1_1 l1_2) else (impl_ComposePlans.j0 k true a0_0 l0_1 l0_2 a1_0 l1_1 l1_2))) else (impl_ComposePlans.j0 k true a0_0 l0_1 l0_2 a1_0 l1_1 l1_2))) = some (r1,r2,r3,r4):=h
 clear h
 have HC3:=Aside0.mk H
 clear H
 go_enter Try.func28,Try.ntmps28
 go_upto_region 1 with (first|((with_reducible refine gate_dst (N:=2) rfl ?_);(try (refine gate_guard (by rfl) ?_;dsimp only));refine box_event ?hg (N:=2) ?hd (cs:=#[.int .i64 a0_0,.slice A0_1 l0_1.length c0_1,.slice A0_2 l0_2.length c0_2]) (t:=32) ?hr ?_;(case hd=>rfl);(case hg=>rfl);(case hr=>first|(go_simp;done)|(go_simp;rfl));intro gb394 hg w4 hbox hb;have n0_:=Aside0.mk (below_step bz hb);have n1_:=Aside0.mk (hbox);have n2_:=Aside0.mk ((by rw [hg];exact (below_size bz) : w.heap.size ≤ gb394));have n3_:=Aside0.mk ((by rw [hg];exact (below_size bz) : w.heap.size ≤ gb394));clear HB;have HB:=n0_;have BK394:=n1_;have GW394:=n2_;have GE394:=n3_;clear n0_ n1_ n2_ n3_;clear hb hbox hg)|((with_reducible refine gate_dst (N:=3) rfl ?_);(try (refine gate_guard (by rfl) ?_;dsimp only));refine box_event ?hg (N:=3) ?hd (cs:=#[.int .i64 a1_0,.slice A1_1 l1_1.length c1_1,.slice A1_2 l1_2.length c1_2]) (t:=32) ?hr ?_;(case hd=>rfl);(case hg=>rfl);(case hr=>first|(go_simp;done)|(go_simp;rfl));intro gb395 hg w5 hbox hb;have n0_:=Aside0.mk (blk_below (g:=gb394) (o:=.cells #[.int .i64 a0_0,.slice A0_1 l0_1.length c0_1,.slice A0_2 l0_2.length c0_2] 32 (0,0)) (kz BK394.out) hb);have n1_:=Aside0.mk (below_step bs hb);have n2_:=Aside0.mk (hbox);have n3_:=Aside0.mk ((by rw [hg];exact (below_size bs) : w.heap.size ≤ gb395));have n4_:=Aside0.mk ((by rw [hg];exact (below_size bs) : w.heap.size ≤ gb395));have n5_:=Aside0.mk ((by rw [hg];exact Nat.ne_of_lt (blk_lt (g:=gb394) (o:=.cells #[.int .i64 a0_0,.slice A0_1 l0_1.length c0_1,.slice A0_2 l0_2.length c0_2] 32 (0,0)) (kz BK394.out)) : gb394 ≠ gb395));have n6_:=Aside0.mk ((by rw [hg];exact Nat.ne_of_gt (blk_lt (g:=gb394) (o:=.cells #[.int .i64 a0_0,.slice A0_1 l0_1.length c0_1,.slice A0_2 l0_2.length c0_2] 32 (0,0)) (kz BK394.out)) : gb395 ≠ gb394));clear BK394 HB;have BK394:=n0_;have HB:=n1_;have BK395:=n2_;have GW395:=n3_;have GE395:=n4_;have NB394_395:=n5_;have NB395_394:=n6_;clear n0_ n1_ n2_ n3_ n4_ n5_ n6_;clear hb hbox hg)|((with_reducible refine gate_dst (N:=4) rfl ?_);(try (refine gate_guard (by rfl) ?_;dsimp only));refine box_event ?hg (N:=4) ?hd (cs:=#[.int .i64 0,.slice none 0 0,.slice none 0 0]) (t:=32) ?hr ?_;(case hd=>rfl);(case hg=>rfl);(case hr=>first|(go_simp;done)|(go_simp;rfl));intro gb396 hg w6 hbox hb;have n0_:=Aside0.mk (blk_below (g:=gb394) (o:=.cells #[.int .i64 a0_0,.slice A0_1 l0_1.length c0_1,.slice A0_2 l0_2.length c0_2] 32 (0,0)) (kz BK394.out) hb);have n1_:=Aside0.mk (blk_below (g:=gb395) (o:=.cells #[.int .i64 a1_0,.slice A1_1 l1_1.length c1_1,.slice A1_2 l1_2.length c1_2] 32 (0,0)) (kz BK395.out) hb);have n2_:=Aside0.mk (below_step bs hb);have n3_:=Aside0.mk (hbox);have n4_:=Aside0.mk ((by rw [hg];exact (below_size bs) : w.heap.size ≤ gb396));have n5_:=Aside0.mk ((by rw [hg];exact (below_size bs) : w.heap.size ≤ gb396));have n6_:=Aside0.mk ((by rw [hg];exact Nat.ne_of_lt (blk_lt (g:=gb394) (o:=.cells #[.int .i64 a0_0,.slice A0_1 l0_1.length c0_1,.slice A0_2 l0_2.length c0_2] 32 (0,0)) (kz BK394.out)) : gb394 ≠ gb396));have n7_:=Aside0.mk ((by rw [hg];exact Nat.ne_of_gt (blk_lt (g:=gb394) (o:=.cells #[.int .i64 a0_0,.slice A0_1 l0_1.length c0_1,.slice A0_2 l0_2.length c0_2] 32 (0,0)) (kz BK394.out)) : gb396 ≠ gb394));have n8_:=Aside0.mk ((by rw [hg];exact Nat.ne_of_lt (blk_lt (g:=gb395) (o:=.cells #[.int .i64 a1_0,.slice A1_1 l1_1.length c1_1,.slice A1_2 l1_2.length c1_2] 32 (0,0)) (kz BK395.out)) : gb395 ≠ gb396));have n9_:=Aside0.mk ((by rw [hg];exact Nat.ne_of_gt (blk_lt (g:=gb395) (o:=.cells #[.int .i64 a1_0,.slice A1_1 l1_1.length c1_1,.slice A1_2 l1_2.length c1_2] 32 (0,0)) (kz BK395.out)) : gb396 ≠ gb395));clear BK394 BK395 HB;have BK394:=n0_;have BK395:=n1_;have HB:=n2_;have BK396:=n3_;have GW396:=n4_;have GE396:=n5_;have NB394_396:=n6_;have NB396_394:=n7_;have NB395_396:=n8_;have NB396_395:=n9_;clear n0_ n1_ n2_ n3_ n4_ n5_ n6_ n7_ n8_ n9_;clear hb hbox hg))
 (try simp only [Act.put,xa,xb,xc])
 go_cut [22] (fun v22 wc=>∃ (kq : Nat) (x22_2 : Bool),v22 = .bool x22_2 ∧ Aside0 (impl_ComposePlans.j0 kq x22_2 a0_0 l0_1 l0_2 a1_0 l1_1 l1_2 = some (r1,r2,r3,r4)) ∧ Aside0 (kq ≤ k) ∧ Aside0 (wc.heap[gb394]? = some (.cells #[.int .i64 a0_0,(.slice A0_1 l0_1.length c0_1),(.slice A0_2 l0_2.length c0_2)] 32 (0,0))) ∧ Aside0 (wc.heap[gb395]? = some (.cells #[.int .i64 a1_0,(.slice A1_1 l1_1.length c1_1),(.slice A1_2 l1_2.length c1_2)] 32 (0,0))) ∧ Aside0 (wc.heap[gb396]? = some (.cells #[.int .i64 0,(.slice none 0 0),(.slice none 0 0)] 32 (0,0))) ∧ Aside0 (Below w.heap.size w wc))
 case first=>
  have H:=HC3.out
  clear HC3
  replace H:=Option.bind_eq_some_iff.mp H
  obtain ⟨t397,A70,H⟩:=H
  try dsimp only at H
  have A7:=Aside0.mk A70
  clear A70
  by_cases c8 : t397 = true
  ·subst c8
   rw [if_pos rfl] at H
   replace H:=Option.bind_eq_some_iff.mp H
   obtain ⟨t398,A90,H⟩:=H
   try dsimp only at H
   have A9:=Aside0.mk A90
   clear A90
   by_cases c10 : t398 = true
   ·subst c10
    rw [if_pos rfl] at H
    have H':=Aside0.mk H
    clear H
    have hnb11:=NB394_395.out
    have hnc11:=NB395_394.out
    have hnb12:=NB394_396.out
    have hnc12:=NB396_394.out
    have hcz13_0 : w6.cell? ⟨gb394,0,none⟩ = some (.int .i64 a0_0):=(blk_cell BK394.out 0).trans rfl
    have hcz13_1 : w6.cell? ⟨gb394,1,none⟩ = some (.slice A0_1 l0_1.length c0_1):=(blk_cell BK394.out 1).trans rfl
    have hcz13_2 : w6.cell? ⟨gb394,2,none⟩ = some (.slice A0_2 l0_2.length c0_2):=(blk_cell BK394.out 2).trans rfl
    have hfz13_0:=blk_frozen BK394.out 0
    have hfz13_1:=blk_frozen BK394.out 1
    have hfz13_2:=blk_frozen BK394.out 2
    go_wp2_with (first|((with_reducible refine gate_callee (f:=39) rfl ?_);refine goesL_ (some 8) rfl rfl Try.func39 (by kernel_rfl) rfl #[.agg #[.int .i64 a0_0,.slice A0_1 l0_1.length c0_1,.slice A0_2 l0_2.length c0_2]] rfl mz ?_;(with_reducible refine (impl_IsPlan.calls k a0_0 _ _ l0_1 _ _ l0_2 true _ ?side1 ?side2 ?side3 ?side4 A7.out).mono ?_);(case side1=>exact cz (Kd.C_below HR0_1.out HB.out));(case side2=>exact HC0_1.out);(case side3=>exact cz (Kd.C_below HR0_2.out HB.out));(case side4=>exact HC0_2.out);rintro e w14 ⟨rfl,hb⟩;refine ⟨_,rfl,?_⟩;have n0_:=Aside0.mk (blk_below (g:=gb394) (o:=.cells #[.int .i64 a0_0,.slice A0_1 l0_1.length c0_1,.slice A0_2 l0_2.length c0_2] 32 (0,0)) (kz BK394.out) hb);have n1_:=Aside0.mk (blk_below (g:=gb395) (o:=.cells #[.int .i64 a1_0,.slice A1_1 l1_1.length c1_1,.slice A1_2 l1_2.length c1_2] 32 (0,0)) (kz BK395.out) hb);have n2_:=Aside0.mk (blk_below (g:=gb396) (o:=.cells #[.int .i64 0,.slice none 0 0,.slice none 0 0] 32 (0,0)) (kz BK396.out) hb);have n3_:=Aside0.mk (below_step bs hb);clear BK394 BK395 BK396 HB;have BK394:=n0_;have BK395:=n1_;have BK396:=n2_;have HB:=n3_;clear n0_ n1_ n2_ n3_;(try clear hb);have hnb15:=NB395_396.out;have hnc15:=NB396_395.out;have hcz16_0 : w14.cell? ⟨gb395,0,none⟩ = some (.int .i64 a1_0):=(blk_cell BK395.out 0).trans rfl;have hcz16_1 : w14.cell? ⟨gb395,1,none⟩ = some (.slice A1_1 l1_1.length c1_1):=(blk_cell BK395.out 1).trans rfl;have hcz16_2 : w14.cell? ⟨gb395,2,none⟩ = some (.slice A1_2 l1_2.length c1_2):=(blk_cell BK395.out 2).trans rfl;have hfz16_0:=blk_frozen BK395.out 0;have hfz16_1:=blk_frozen BK395.out 1;have hfz16_2:=blk_frozen BK395.out 2)|(go_at_call 39;(with_reducible refine (impl_IsPlan.calls k a1_0 _ _ l1_1 _ _ l1_2 true _ ?side1 ?side2 ?side3 ?side4 A9.out).mono ?_);(case side1=>exact cz (Kd.C_below HR1_1.out HB.out));(case side2=>exact HC1_1.out);(case side3=>exact cz (Kd.C_below HR1_2.out HB.out));(case side4=>exact HC1_2.out);rintro e w17 ⟨rfl,hb⟩;have n0_:=Aside0.mk (blk_below (g:=gb394) (o:=.cells #[.int .i64 a0_0,.slice A0_1 l0_1.length c0_1,.slice A0_2 l0_2.length c0_2] 32 (0,0)) (kz BK394.out) hb);have n1_:=Aside0.mk (blk_below (g:=gb395) (o:=.cells #[.int .i64 a1_0,.slice A1_1 l1_1.length c1_1,.slice A1_2 l1_2.length c1_2] 32 (0,0)) (kz BK395.out) hb);have n2_:=Aside0.mk (blk_below (g:=gb396) (o:=.cells #[.int .i64 0,.slice none 0 0,.slice none 0 0] 32 (0,0)) (kz BK396.out) hb);have n3_:=Aside0.mk (below_step bs hb);clear BK394 BK395 BK396 HB;have BK394:=n0_;have BK395:=n1_;have BK396:=n2_;have HB:=n3_;clear n0_ n1_ n2_ n3_;(try clear hb);have hcz18_0 : w17.cell? ⟨gb394,0,none⟩ = some (.int .i64 a0_0):=(blk_cell BK394.out 0).trans rfl;have hcz18_1 : w17.cell? ⟨gb394,1,none⟩ = some (.slice A0_1 l0_1.length c0_1):=(blk_cell BK394.out 1).trans rfl;have hcz18_2 : w17.cell? ⟨gb394,2,none⟩ = some (.slice A0_2 l0_2.length c0_2):=(blk_cell BK394.out 2).trans rfl;have hfz18_0:=blk_frozen BK394.out 0;have hfz18_1:=blk_frozen BK394.out 1;have hfz18_2:=blk_frozen BK394.out 2;have hcz19_0 : w17.cell? ⟨gb395,0,none⟩ = some (.int .i64 a1_0):=(blk_cell BK395.out 0).trans rfl;have hcz19_1 : w17.cell? ⟨gb395,1,none⟩ = some (.slice A1_1 l1_1.length c1_1):=(blk_cell BK395.out 1).trans rfl;have hcz19_2 : w17.cell? ⟨gb395,2,none⟩ = some (.slice A1_2 l1_2.length c1_2):=(blk_cell BK395.out 2).trans rfl;have hfz19_0:=blk_frozen BK395.out 0;have hfz19_1:=blk_frozen BK395.out 1;have hfz19_2:=blk_frozen BK395.out 2))
    go_meet
    case rel=>exact ⟨_,(((l0_2.length : Int) != a1_0)),fz,H',⟨by first|omega|exact Nat.le_refl _⟩,⟨by (with_reducible repeat (first|refine blk_drewN ?_ _|refine blk_drew ?_|refine blk_alloc ?_ _));exact BK394.out⟩,⟨by (with_reducible repeat (first|refine blk_drewN ?_ _|refine blk_drew ?_|refine blk_alloc ?_ _));exact BK395.out⟩,⟨by (with_reducible repeat (first|refine blk_drewN ?_ _|refine blk_drew ?_|refine blk_alloc ?_ _));exact BK396.out⟩,⟨by repeat (first|(with_reducible first|exact HB.out|apply below_alloc|apply pw_below_drewN|apply below_drew1|refine below_set ?_ GE394.out|refine below_set ?_ GE395.out|refine below_set ?_ GE396.out)|exact HB.out)⟩⟩
   ·replace c10:=Bool.eq_false_iff.mpr c10
    subst c10
    rw [if_neg (show ¬ (false = true) by decide)] at H
    have H':=Aside0.mk H
    clear H
    have hnb20:=NB394_395.out
    have hnc20:=NB395_394.out
    have hnb21:=NB394_396.out
    have hnc21:=NB396_394.out
    have hcz22_0 : w6.cell? ⟨gb394,0,none⟩ = some (.int .i64 a0_0):=(blk_cell BK394.out 0).trans rfl
    have hcz22_1 : w6.cell? ⟨gb394,1,none⟩ = some (.slice A0_1 l0_1.length c0_1):=(blk_cell BK394.out 1).trans rfl
    have hcz22_2 : w6.cell? ⟨gb394,2,none⟩ = some (.slice A0_2 l0_2.length c0_2):=(blk_cell BK394.out 2).trans rfl
    have hfz22_0:=blk_frozen BK394.out 0
    have hfz22_1:=blk_frozen BK394.out 1
    have hfz22_2:=blk_frozen BK394.out 2
    go_wp2_with (first|((with_reducible refine gate_callee (f:=39) rfl ?_);refine goesL_ (some 8) rfl rfl Try.func39 (by kernel_rfl) rfl #[.agg #[.int .i64 a0_0,.slice A0_1 l0_1.length c0_1,.slice A0_2 l0_2.length c0_2]] rfl mz ?_;(with_reducible refine (impl_IsPlan.calls k a0_0 _ _ l0_1 _ _ l0_2 true _ ?side1 ?side2 ?side3 ?side4 A7.out).mono ?_);(case side1=>exact cz (Kd.C_below HR0_1.out HB.out));(case side2=>exact HC0_1.out);(case side3=>exact cz (Kd.C_below HR0_2.out HB.out));(case side4=>exact HC0_2.out);rintro e w23 ⟨rfl,hb⟩;refine ⟨_,rfl,?_⟩;have n0_:=Aside0.mk (blk_below (g:=gb394) (o:=.cells #[.int .i64 a0_0,.slice A0_1 l0_1.length c0_1,.slice A0_2 l0_2.length c0_2] 32 (0,0)) (kz BK394.out) hb);have n1_:=Aside0.mk (blk_below (g:=gb395) (o:=.cells #[.int .i64 a1_0,.slice A1_1 l1_1.length c1_1,.slice A1_2 l1_2.length c1_2] 32 (0,0)) (kz BK395.out) hb);have n2_:=Aside0.mk (blk_below (g:=gb396) (o:=.cells #[.int .i64 0,.slice none 0 0,.slice none 0 0] 32 (0,0)) (kz BK396.out) hb);have n3_:=Aside0.mk (below_step bs hb);clear BK394 BK395 BK396 HB;have BK394:=n0_;have BK395:=n1_;have BK396:=n2_;have HB:=n3_;clear n0_ n1_ n2_ n3_;(try clear hb);have hnb24:=NB395_396.out;have hnc24:=NB396_395.out;have hcz25_0 : w23.cell? ⟨gb395,0,none⟩ = some (.int .i64 a1_0):=(blk_cell BK395.out 0).trans rfl;have hcz25_1 : w23.cell? ⟨gb395,1,none⟩ = some (.slice A1_1 l1_1.length c1_1):=(blk_cell BK395.out 1).trans rfl;have hcz25_2 : w23.cell? ⟨gb395,2,none⟩ = some (.slice A1_2 l1_2.length c1_2):=(blk_cell BK395.out 2).trans rfl;have hfz25_0:=blk_frozen BK395.out 0;have hfz25_1:=blk_frozen BK395.out 1;have hfz25_2:=blk_frozen BK395.out 2)|(go_at_call 39;(with_reducible refine (impl_IsPlan.calls k a1_0 _ _ l1_1 _ _ l1_2 false _ ?side1 ?side2 ?side3 ?side4 A9.out).mono ?_);(case side1=>exact cz (Kd.C_below HR1_1.out HB.out));(case side2=>exact HC1_1.out);(case side3=>exact cz (Kd.C_below HR1_2.out HB.out));(case side4=>exact HC1_2.out);rintro e w26 ⟨rfl,hb⟩;have n0_:=Aside0.mk (blk_below (g:=gb394) (o:=.cells #[.int .i64 a0_0,.slice A0_1 l0_1.length c0_1,.slice A0_2 l0_2.length c0_2] 32 (0,0)) (kz BK394.out) hb);have n1_:=Aside0.mk (blk_below (g:=gb395) (o:=.cells #[.int .i64 a1_0,.slice A1_1 l1_1.length c1_1,.slice A1_2 l1_2.length c1_2] 32 (0,0)) (kz BK395.out) hb);have n2_:=Aside0.mk (blk_below (g:=gb396) (o:=.cells #[.int .i64 0,.slice none 0 0,.slice none 0 0] 32 (0,0)) (kz BK396.out) hb);have n3_:=Aside0.mk (below_step bs hb);clear BK394 BK395 BK396 HB;have BK394:=n0_;have BK395:=n1_;have BK396:=n2_;have HB:=n3_;clear n0_ n1_ n2_ n3_;(try clear hb)))
    go_meet
    case rel=>exact ⟨_,(true),fz,H',⟨by first|omega|exact Nat.le_refl _⟩,⟨by (with_reducible repeat (first|refine blk_drewN ?_ _|refine blk_drew ?_|refine blk_alloc ?_ _));exact BK394.out⟩,⟨by (with_reducible repeat (first|refine blk_drewN ?_ _|refine blk_drew ?_|refine blk_alloc ?_ _));exact BK395.out⟩,⟨by (with_reducible repeat (first|refine blk_drewN ?_ _|refine blk_drew ?_|refine blk_alloc ?_ _));exact BK396.out⟩,⟨by repeat (first|(with_reducible first|exact HB.out|apply below_alloc|apply pw_below_drewN|apply below_drew1|refine below_set ?_ GE394.out|refine below_set ?_ GE395.out|refine below_set ?_ GE396.out)|exact HB.out)⟩⟩
  ·replace c8:=Bool.eq_false_iff.mpr c8
   subst c8
   rw [if_neg (show ¬ (false = true) by decide)] at H
   have H':=Aside0.mk H
   clear H
   have hnb27:=NB394_395.out
   have hnc27:=NB395_394.out
   have hnb28:=NB394_396.out
   have hnc28:=NB396_394.out
   have hcz29_0 : w6.cell? ⟨gb394,0,none⟩ = some (.int .i64 a0_0):=(blk_cell BK394.out 0).trans rfl
   have hcz29_1 : w6.cell? ⟨gb394,1,none⟩ = some (.slice A0_1 l0_1.length c0_1):=(blk_cell BK394.out 1).trans rfl
   have hcz29_2 : w6.cell? ⟨gb394,2,none⟩ = some (.slice A0_2 l0_2.length c0_2):=(blk_cell BK394.out 2).trans rfl
   have hfz29_0:=blk_frozen BK394.out 0
   have hfz29_1:=blk_frozen BK394.out 1
   have hfz29_2:=blk_frozen BK394.out 2
   go_wp2_with (first|((with_reducible refine gate_callee (f:=39) rfl ?_);refine goesL_ (some 8) rfl rfl Try.func39 (by kernel_rfl) rfl #[.agg #[.int .i64 a0_0,.slice A0_1 l0_1.length c0_1,.slice A0_2 l0_2.length c0_2]] rfl mz ?_;(with_reducible refine (impl_IsPlan.calls k a0_0 _ _ l0_1 _ _ l0_2 false _ ?side1 ?side2 ?side3 ?side4 A7.out).mono ?_);(case side1=>exact cz (Kd.C_below HR0_1.out HB.out));(case side2=>exact HC0_1.out);(case side3=>exact cz (Kd.C_below HR0_2.out HB.out));(case side4=>exact HC0_2.out);rintro e w30 ⟨rfl,hb⟩;refine ⟨_,rfl,?_⟩;have n0_:=Aside0.mk (blk_below (g:=gb394) (o:=.cells #[.int .i64 a0_0,.slice A0_1 l0_1.length c0_1,.slice A0_2 l0_2.length c0_2] 32 (0,0)) (kz BK394.out) hb);have n1_:=Aside0.mk (blk_below (g:=gb395) (o:=.cells #[.int .i64 a1_0,.slice A1_1 l1_1.length c1_1,.slice A1_2 l1_2.length c1_2] 32 (0,0)) (kz BK395.out) hb);have n2_:=Aside0.mk (blk_below (g:=gb396) (o:=.cells #[.int .i64 0,.slice none 0 0,.slice none 0 0] 32 (0,0)) (kz BK396.out) hb);have n3_:=Aside0.mk (below_step bs hb);clear BK394 BK395 BK396 HB;have BK394:=n0_;have BK395:=n1_;have BK396:=n2_;have HB:=n3_;clear n0_ n1_ n2_ n3_;(try clear hb)))
   go_meet
   case rel=>exact ⟨_,(true),fz,H',⟨by first|omega|exact Nat.le_refl _⟩,⟨by (with_reducible repeat (first|refine blk_drewN ?_ _|refine blk_drew ?_|refine blk_alloc ?_ _));exact BK394.out⟩,⟨by (with_reducible repeat (first|refine blk_drewN ?_ _|refine blk_drew ?_|refine blk_alloc ?_ _));exact BK395.out⟩,⟨by (with_reducible repeat (first|refine blk_drewN ?_ _|refine blk_drew ?_|refine blk_alloc ?_ _));exact BK396.out⟩,⟨by repeat (first|(with_reducible first|exact HB.out|apply below_alloc|apply pw_below_drewN|apply below_drew1|refine below_set ?_ GE394.out|refine below_set ?_ GE395.out|refine below_set ?_ GE396.out)|exact HB.out)⟩⟩
 case rest=>
  clear HC3
  try clear c1
  try clear c2
  try clear p2
  try clear c3
  try clear c8
  try clear c10
  try clear c11
  try clear c12
  try clear c15
  try clear c20
  try clear c21
  try clear c24
  try clear c27
  try clear c28
  try clear hcz13_0
  try clear hcz13_1
  try clear hcz13_2
  try clear hcz16_0
  try clear hcz16_1
  try clear hcz16_2
  try clear hcz18_0
  try clear hcz18_1
  try clear hcz18_2
  try clear hcz19_0
  try clear hcz19_1
  try clear hcz19_2
  try clear hcz22_0
  try clear hcz22_1
  try clear hcz22_2
  try clear hcz25_0
  try clear hcz25_1
  try clear hcz25_2
  try clear hcz29_0
  try clear hcz29_1
  try clear hcz29_2
  try clear hfz13_0
  try clear hfz13_1
  try clear hfz13_2
  try clear hfz16_0
  try clear hfz16_1
  try clear hfz16_2
  try clear hfz18_0
  try clear hfz18_1
  try clear hfz18_2
  try clear hfz19_0
  try clear hfz19_1
  try clear hfz19_2
  try clear hfz22_0
  try clear hfz22_1
  try clear hfz22_2
  try clear hfz25_0
  try clear hfz25_1
  try clear hfz25_2
  try clear hfz29_0
  try clear hfz29_1
  try clear hfz29_2
  obtain ⟨kq,x22_2,rfl,HA,HJ2,BK394,BK395,BK396,HB⟩:=hcut
  cases kq with
  | zero=>exact absurd HA.out (by simp [impl_ComposePlans.j0])
  | succ kj2=>
   have H:=HA.out
   clear HA
   simp only [impl_ComposePlans.j0] at H
   by_cases c31 : x22_2 = true
   ·subst c31
    rw [if_pos rfl] at H
    simp only [Option.some.injEq,Prod.mk.injEq] at H
    obtain ⟨rfl,rfl,rfl,rfl⟩:=H
    have hnb32:=NB396_394.out
    have hnc32:=NB394_396.out
    have hnb33:=NB396_395.out
    have hnc33:=NB395_396.out
    have hcz34_0 : wc.cell? ⟨gb396,0,none⟩ = some (.int .i64 0):=(blk_cell BK396.out 0).trans rfl
    have hcz34_1 : wc.cell? ⟨gb396,1,none⟩ = some (.slice none 0 0):=(blk_cell BK396.out 1).trans rfl
    have hcz34_2 : wc.cell? ⟨gb396,2,none⟩ = some (.slice none 0 0):=(blk_cell BK396.out 2).trans rfl
    have hfz34_0:=blk_frozen BK396.out 0
    have hfz34_1:=blk_frozen BK396.out 1
    have hfz34_2:=blk_frozen BK396.out 2
    go_wp2
    refine bodyPost_ret (results_ct rfl _ _ gb396 32 #[.int .i64 0,.slice none 0 0,.slice none 0 0] (0,0) _ rfl (by (with_reducible repeat (first|refine blk_drewN ?_ _|refine blk_drew ?_|refine blk_alloc ?_ _));refine blk_put (cs:=#[.int .i64 0,.slice none 0 0,.slice none 0 0]) ?_ 2 _ rfl;(with_reducible repeat (first|refine blk_drewN ?_ _|refine blk_drew ?_|refine blk_alloc ?_ _));refine blk_put (cs:=#[.int .i64 0,.slice none 0 0,.slice none 0 0]) ?_ 1 _ rfl;(with_reducible repeat (first|refine blk_drewN ?_ _|refine blk_drew ?_|refine blk_alloc ?_ _));refine blk_put (cs:=#[.int .i64 0,.slice none 0 0,.slice none 0 0]) ?_ 0 _ rfl;(with_reducible repeat (first|refine blk_drewN ?_ _|refine blk_drew ?_|refine blk_alloc ?_ _));exact BK396.out) Try.underlying32 rfl (by kernel_rfl)) rfl ?_
    exact ⟨_,_,by first|rfl|(simp [errW_none,errW_some] <;> rfl)|(simp [*,errW_none,errW_some] <;> rfl),by first|exact Kd.R_nil _ _ _ _ _|exact Kd.N_nil _ _ _ _ _|exact Kd.V_nil _ _ _ _ _|exact Kd.Q_nil _ _ _ _ _|exact Kd.S_nil _ _ _ _ _,by first|exact Kd.R_nil _ _ _ _ _|exact Kd.N_nil _ _ _ _ _|exact Kd.V_nil _ _ _ _ _|exact Kd.Q_nil _ _ _ _ _|exact Kd.S_nil _ _ _ _ _,by repeat (first|(with_reducible first|exact HB.out|apply below_alloc|apply pw_below_drewN|apply below_drew1|refine below_set ?_ GE394.out|refine below_set ?_ GE395.out|refine below_set ?_ GE396.out)|exact HB.out)⟩
   ·replace c31:=Bool.eq_false_iff.mpr c31
    subst c31
    rw [if_neg (show ¬ (false = true) by decide)] at H
    replace H:=Option.bind_eq_some_iff.mp H
    obtain ⟨⟨t399,t400,t403⟩,A350,H⟩:=H
    try dsimp only at H
    have A35:=Aside0.mk A350
    clear A350
    replace H:=Option.bind_eq_some_iff.mp H
    obtain ⟨⟨t407,tNb,tSb,tOb⟩,A360,H⟩:=H
    try dsimp only at H
    have A36:=Aside0.mk A360
    clear A360
    replace H:=Option.bind_eq_some_iff.mp H
    obtain ⟨t410,A370,H⟩:=H
    try dsimp only at H
    have A37:=Aside0.mk A370
    clear A370
    replace H:=Option.bind_eq_some_iff.mp H
    obtain ⟨⟨t413,t414,t417,t420⟩,A380,H⟩:=H
    try dsimp only at H
    have A38:=Aside0.mk A380
    clear A380
    simp only [Option.some.injEq,Prod.mk.injEq] at H
    obtain ⟨rfl,rfl,rfl,rfl⟩:=H
    have hnb39:=NB394_395.out
    have hnc39:=NB395_394.out
    have hnb40:=NB394_396.out
    have hnc40:=NB396_394.out
    have hcz41_0 : wc.cell? ⟨gb394,0,none⟩ = some (.int .i64 a0_0):=(blk_cell BK394.out 0).trans rfl
    have hcz41_1 : wc.cell? ⟨gb394,1,none⟩ = some (.slice A0_1 l0_1.length c0_1):=(blk_cell BK394.out 1).trans rfl
    have hcz41_2 : wc.cell? ⟨gb394,2,none⟩ = some (.slice A0_2 l0_2.length c0_2):=(blk_cell BK394.out 2).trans rfl
    have hfz41_0:=blk_frozen BK394.out 0
    have hfz41_1:=blk_frozen BK394.out 1
    have hfz41_2:=blk_frozen BK394.out 2
    try go_wp2_with (first|((with_reducible refine gate_callee (f:=60) rfl ?_);refine goesL_ (some 25) rfl rfl Try.func60 (by kernel_rfl) rfl #[.agg #[.int .i64 a0_0,.slice A0_1 l0_1.length c0_1,.slice A0_2 l0_2.length c0_2]] rfl mz ?_;(with_reducible refine (impl_clonePlan.calls a0_0 _ _ l0_1 _ _ l0_2 t399 t400 t403 _ ?side1 ?side2 ?side3 ?side4 A35.out).mono ?_);(case side1=>exact cz (Kd.C_below HR0_1.out HB.out));(case side2=>exact HC0_1.out);(case side3=>exact cz (Kd.C_below HR0_2.out HB.out));(case side4=>exact HC0_2.out);rintro e w42 ⟨v401,v404,rfl,ho0,ho1,hb⟩;refine ⟨_,rfl,?_⟩;have n0_:=Aside0.mk (Kd.R_lower ho0 (below_size bs));have n1_:=Aside0.mk (Kd.R_lower ho1 (below_size bs));have n2_:=Aside0.mk (blk_below (g:=gb394) (o:=.cells #[.int .i64 a0_0,.slice A0_1 l0_1.length c0_1,.slice A0_2 l0_2.length c0_2] 32 (0,0)) (kz BK394.out) hb);have n3_:=Aside0.mk (blk_below (g:=gb395) (o:=.cells #[.int .i64 a1_0,.slice A1_1 l1_1.length c1_1,.slice A1_2 l1_2.length c1_2] 32 (0,0)) (kz BK395.out) hb);have n4_:=Aside0.mk (blk_below (g:=gb396) (o:=.cells #[.int .i64 0,.slice none 0 0,.slice none 0 0] 32 (0,0)) (kz BK396.out) hb);have n5_:=Aside0.mk (below_step bs hb);clear BK394 BK395 BK396 HB;have HO402:=n0_;have HO405:=n1_;have BK394:=n2_;have BK395:=n3_;have BK396:=n4_;have HB:=n5_;clear n0_ n1_ n2_ n3_ n4_ n5_;(try clear hb);(try clear ho0);(try clear ho1))|((with_reducible refine gate_dst (N:=6) rfl ?_);(try (refine gate_guard (by rfl) ?_;dsimp only));refine box_event ?hg (N:=6) ?hd (cs:=#[.int .i64 0,.slice none 0 0,.slice none 0 0]) (t:=32) ?hr ?_;(case hd=>rfl);(case hg=>rfl);(case hr=>first|(go_simp;done)|(go_simp;rfl));intro gb406 hg w43 hbox hb;have n0_:=Aside0.mk (Kd.R_below (rz HO402.out) hb);have n1_:=Aside0.mk (Kd.R_below (rz HO405.out) hb);have n2_:=Aside0.mk (blk_below (g:=gb394) (o:=.cells #[.int .i64 a0_0,.slice A0_1 l0_1.length c0_1,.slice A0_2 l0_2.length c0_2] 32 (0,0)) (kz BK394.out) hb);have n3_:=Aside0.mk (blk_below (g:=gb395) (o:=.cells #[.int .i64 a1_0,.slice A1_1 l1_1.length c1_1,.slice A1_2 l1_2.length c1_2] 32 (0,0)) (kz BK395.out) hb);have n4_:=Aside0.mk (blk_below (g:=gb396) (o:=.cells #[.int .i64 0,.slice none 0 0,.slice none 0 0] 32 (0,0)) (kz BK396.out) hb);have n5_:=Aside0.mk (below_step bs hb);have n6_:=Aside0.mk (hbox);have n7_:=Aside0.mk ((by rw [hg];exact (below_size bs) : w.heap.size ≤ gb406));have n8_:=Aside0.mk ((by rw [hg];exact (below_size bs) : w.heap.size ≤ gb406));have n9_:=Aside0.mk ((by rw [hg];exact Nat.ne_of_lt (blk_lt (g:=gb394) (o:=.cells #[.int .i64 a0_0,.slice A0_1 l0_1.length c0_1,.slice A0_2 l0_2.length c0_2] 32 (0,0)) (kz BK394.out)) : gb394 ≠ gb406));have n10_:=Aside0.mk ((by rw [hg];exact Nat.ne_of_gt (blk_lt (g:=gb394) (o:=.cells #[.int .i64 a0_0,.slice A0_1 l0_1.length c0_1,.slice A0_2 l0_2.length c0_2] 32 (0,0)) (kz BK394.out)) : gb406 ≠ gb394));have n11_:=Aside0.mk ((by rw [hg];exact Nat.ne_of_lt (blk_lt (g:=gb395) (o:=.cells #[.int .i64 a1_0,.slice A1_1 l1_1.length c1_1,.slice A1_2 l1_2.length c1_2] 32 (0,0)) (kz BK395.out)) : gb395 ≠ gb406));have n12_:=Aside0.mk ((by rw [hg];exact Nat.ne_of_gt (blk_lt (g:=gb395) (o:=.cells #[.int .i64 a1_0,.slice A1_1 l1_1.length c1_1,.slice A1_2 l1_2.length c1_2] 32 (0,0)) (kz BK395.out)) : gb406 ≠ gb395));have n13_:=Aside0.mk ((by rw [hg];exact Nat.ne_of_lt (blk_lt (g:=gb396) (o:=.cells #[.int .i64 0,.slice none 0 0,.slice none 0 0] 32 (0,0)) (kz BK396.out)) : gb396 ≠ gb406));have n14_:=Aside0.mk ((by rw [hg];exact Nat.ne_of_gt (blk_lt (g:=gb396) (o:=.cells #[.int .i64 0,.slice none 0 0,.slice none 0 0] 32 (0,0)) (kz BK396.out)) : gb406 ≠ gb396));clear HO402 HO405 BK394 BK395 BK396 HB;have HO402:=n0_;have HO405:=n1_;have BK394:=n2_;have BK395:=n3_;have BK396:=n4_;have HB:=n5_;have BK406:=n6_;have GW406:=n7_;have GE406:=n8_;have NB394_406:=n9_;have NB406_394:=n10_;have NB395_406:=n11_;have NB406_395:=n12_;have NB396_406:=n13_;have NB406_396:=n14_;clear n0_ n1_ n2_ n3_ n4_ n5_ n6_ n7_ n8_ n9_ n10_ n11_ n12_ n13_ n14_;clear hb hbox hg;have hnb44:=NB406_394.out;have hnc44:=NB394_406.out;have hnb45:=NB406_395.out;have hnc45:=NB395_406.out;have hnb46:=NB406_396.out;have hnc46:=NB396_406.out;have hcz47_0 : w43.cell? ⟨gb406,0,none⟩ = some (.int .i64 0):=(blk_cell BK406.out 0).trans rfl;have hcz47_1 : w43.cell? ⟨gb406,1,none⟩ = some (.slice none 0 0):=(blk_cell BK406.out 1).trans rfl;have hcz47_2 : w43.cell? ⟨gb406,2,none⟩ = some (.slice none 0 0):=(blk_cell BK406.out 2).trans rfl;have hfz47_0:=blk_frozen BK406.out 0;have hfz47_1:=blk_frozen BK406.out 1;have hfz47_2:=blk_frozen BK406.out 2;obtain ⟨Ao48,co48,eo48⟩:=Kd.R_slice HO402.out;subst eo48;obtain ⟨Ao49,co49,eo49⟩:=Kd.R_slice HO405.out;subst eo49))
    have n0_ : Aside0 (Kd.R k56 56 (((w43.setCell ⟨gb406,0,none⟩ (.int .i64 t399)).setCell ⟨gb406,1,none⟩ (.slice Ao48 t400.length co48)).setCell ⟨gb406,2,none⟩ (.slice Ao49 t403.length co49)) w.heap.size (fun _=>True) (.slice Ao48 t400.length co48) t400):=⟨by (with_reducible repeat (first|apply Kd.R_alloc|apply Kd.R_drewN|apply Kd.R_drew));exact Kd.R_mono (Kd.R_far (p:=⟨gb406,2,none⟩) (Kd.R_far (p:=⟨gb406,1,none⟩) (Kd.R_far (p:=⟨gb406,0,none⟩) (Kd.R_types HO402.out BK406.out (by decide)) (fun _ hk=>hk.2) (.int .i64 t399)) (fun _ hk=>hk.2) (.slice Ao48 t400.length co48)) (fun _ hk=>hk.2) (.slice Ao49 t403.length co49)) (fun _ hk=>trivial)⟩
    have n1_ : Aside0 (Kd.R (Kd.int .i64) 3 (((w43.setCell ⟨gb406,0,none⟩ (.int .i64 t399)).setCell ⟨gb406,1,none⟩ (.slice Ao48 t400.length co48)).setCell ⟨gb406,2,none⟩ (.slice Ao49 t403.length co49)) w.heap.size (fun _=>True) (.slice Ao49 t403.length co49) t403):=⟨by (with_reducible repeat (first|apply Kd.R_alloc|apply Kd.R_drewN|apply Kd.R_drew));exact Kd.R_mono (Kd.R_far (p:=⟨gb406,2,none⟩) (Kd.R_far (p:=⟨gb406,1,none⟩) (Kd.R_far (p:=⟨gb406,0,none⟩) (Kd.R_types HO405.out BK406.out (by decide)) (fun _ hk=>hk.2) (.int .i64 t399)) (fun _ hk=>hk.2) (.slice Ao48 t400.length co48)) (fun _ hk=>hk.2) (.slice Ao49 t403.length co49)) (fun _ hk=>trivial)⟩
    have n2_ : Aside0 ((((w43.setCell ⟨gb406,0,none⟩ (.int .i64 t399)).setCell ⟨gb406,1,none⟩ (.slice Ao48 t400.length co48)).setCell ⟨gb406,2,none⟩ (.slice Ao49 t403.length co49)).heap[gb394]? = some (.cells #[.int .i64 a0_0,.slice A0_1 l0_1.length c0_1,.slice A0_2 l0_2.length c0_2] 32 (0,0))):=⟨by (with_reducible repeat (first|refine blk_drewN ?_ _|refine blk_drew ?_|refine blk_alloc ?_ _));refine blk_far ?_ NB394_406.out _;(with_reducible repeat (first|refine blk_drewN ?_ _|refine blk_drew ?_|refine blk_alloc ?_ _));refine blk_far ?_ NB394_406.out _;(with_reducible repeat (first|refine blk_drewN ?_ _|refine blk_drew ?_|refine blk_alloc ?_ _));refine blk_far ?_ NB394_406.out _;(with_reducible repeat (first|refine blk_drewN ?_ _|refine blk_drew ?_|refine blk_alloc ?_ _));exact BK394.out⟩
    have n3_ : Aside0 ((((w43.setCell ⟨gb406,0,none⟩ (.int .i64 t399)).setCell ⟨gb406,1,none⟩ (.slice Ao48 t400.length co48)).setCell ⟨gb406,2,none⟩ (.slice Ao49 t403.length co49)).heap[gb395]? = some (.cells #[.int .i64 a1_0,.slice A1_1 l1_1.length c1_1,.slice A1_2 l1_2.length c1_2] 32 (0,0))):=⟨by (with_reducible repeat (first|refine blk_drewN ?_ _|refine blk_drew ?_|refine blk_alloc ?_ _));refine blk_far ?_ NB395_406.out _;(with_reducible repeat (first|refine blk_drewN ?_ _|refine blk_drew ?_|refine blk_alloc ?_ _));refine blk_far ?_ NB395_406.out _;(with_reducible repeat (first|refine blk_drewN ?_ _|refine blk_drew ?_|refine blk_alloc ?_ _));refine blk_far ?_ NB395_406.out _;(with_reducible repeat (first|refine blk_drewN ?_ _|refine blk_drew ?_|refine blk_alloc ?_ _));exact BK395.out⟩
    have n4_ : Aside0 ((((w43.setCell ⟨gb406,0,none⟩ (.int .i64 t399)).setCell ⟨gb406,1,none⟩ (.slice Ao48 t400.length co48)).setCell ⟨gb406,2,none⟩ (.slice Ao49 t403.length co49)).heap[gb396]? = some (.cells #[.int .i64 0,.slice none 0 0,.slice none 0 0] 32 (0,0))):=⟨by (with_reducible repeat (first|refine blk_drewN ?_ _|refine blk_drew ?_|refine blk_alloc ?_ _));refine blk_far ?_ NB396_406.out _;(with_reducible repeat (first|refine blk_drewN ?_ _|refine blk_drew ?_|refine blk_alloc ?_ _));refine blk_far ?_ NB396_406.out _;(with_reducible repeat (first|refine blk_drewN ?_ _|refine blk_drew ?_|refine blk_alloc ?_ _));refine blk_far ?_ NB396_406.out _;(with_reducible repeat (first|refine blk_drewN ?_ _|refine blk_drew ?_|refine blk_alloc ?_ _));exact BK396.out⟩
    have n5_ : Aside0 ((((w43.setCell ⟨gb406,0,none⟩ (.int .i64 t399)).setCell ⟨gb406,1,none⟩ (.slice Ao48 t400.length co48)).setCell ⟨gb406,2,none⟩ (.slice Ao49 t403.length co49)).heap[gb406]? = some (.cells #[.int .i64 t399,.slice Ao48 t400.length co48,.slice Ao49 t403.length co49] 32 (0,0))):=⟨by (with_reducible repeat (first|refine blk_drewN ?_ _|refine blk_drew ?_|refine blk_alloc ?_ _));refine blk_put (cs:=#[.int .i64 t399,.slice Ao48 t400.length co48,.slice none 0 0]) ?_ 2 _ rfl;(with_reducible repeat (first|refine blk_drewN ?_ _|refine blk_drew ?_|refine blk_alloc ?_ _));refine blk_put (cs:=#[.int .i64 t399,.slice none 0 0,.slice none 0 0]) ?_ 1 _ rfl;(with_reducible repeat (first|refine blk_drewN ?_ _|refine blk_drew ?_|refine blk_alloc ?_ _));refine blk_put (cs:=#[.int .i64 0,.slice none 0 0,.slice none 0 0]) ?_ 0 _ rfl;(with_reducible repeat (first|refine blk_drewN ?_ _|refine blk_drew ?_|refine blk_alloc ?_ _));exact BK406.out⟩
    have n6_ : Aside0 (Below w.heap.size w (((w43.setCell ⟨gb406,0,none⟩ (.int .i64 t399)).setCell ⟨gb406,1,none⟩ (.slice Ao48 t400.length co48)).setCell ⟨gb406,2,none⟩ (.slice Ao49 t403.length co49))):=⟨by repeat (first|(with_reducible first|exact HB.out|apply below_alloc|apply pw_below_drewN|apply below_drew1|refine below_set ?_ GE394.out|refine below_set ?_ GE395.out|refine below_set ?_ GE396.out|refine below_set ?_ GE406.out)|exact HB.out)⟩
    (try clear HO402)
    (try clear HO405)
    (try clear BK394)
    (try clear BK395)
    (try clear BK396)
    (try clear BK406)
    (try clear HB)
    generalize (((w43.setCell ⟨gb406,0,none⟩ (.int .i64 t399)).setCell ⟨gb406,1,none⟩ (.slice Ao48 t400.length co48)).setCell ⟨gb406,2,none⟩ (.slice Ao49 t403.length co49)) = w50 at n0_ n1_ n2_ n3_ n4_ n5_ n6_ ⊢
    have HO402:=n0_
    have HO405:=n1_
    have BK394:=n2_
    have BK395:=n3_
    have BK396:=n4_
    have BK406:=n5_
    have HB:=n6_
    clear n0_ n1_ n2_ n3_ n4_ n5_ n6_
    have n0_:=Aside0.mk (Kd.R_drew HO402.out)
    have n1_:=Aside0.mk (Kd.R_drew HO405.out)
    have n2_:=Aside0.mk (blk_drew BK394.out)
    have n3_:=Aside0.mk (blk_drew BK395.out)
    have n4_:=Aside0.mk (blk_drew BK396.out)
    have n5_:=Aside0.mk (blk_drew BK406.out)
    have n6_:=Aside0.mk (below_drew1 HB.out)
    clear HO402
    clear HO405
    clear BK394
    clear BK395
    clear BK396
    clear BK406
    clear HB
    have HO402:=n0_
    have HO405:=n1_
    have BK394:=n2_
    have BK395:=n3_
    have BK396:=n4_
    have BK406:=n5_
    have HB:=n6_
    clear n0_ n1_ n2_ n3_ n4_ n5_ n6_
    refine start_ (n:=8) (S:=fun w'=>w'.cell? ⟨gb395,0,none⟩ = some (.int .i64 a1_0) ∧ w'.cell? ⟨gb395,1,none⟩ = some (.slice A1_1 l1_1.length c1_1) ∧ w'.cell? ⟨gb395,2,none⟩ = some (.slice A1_2 l1_2.length c1_2) ∧ w'.cell? ⟨gb394,0,none⟩ = some (.int .i64 a0_0) ∧ w'.cell? ⟨gb394,1,none⟩ = some (.slice A0_1 l0_1.length c0_1) ∧ w'.cell? ⟨gb394,2,none⟩ = some (.slice A0_2 l0_2.length c0_2)) (ds:=[]) #[false,false,false,false,false,false,false,false] (by kernel_rfl) rfl rfl ⟨(blk_cell BK395.out 0).trans rfl,(blk_cell BK395.out 1).trans rfl,(blk_cell BK395.out 2).trans rfl,(blk_cell BK394.out 0).trans rfl,(blk_cell BK394.out 1).trans rfl,(blk_cell BK394.out 2).trans rfl⟩ (fun hHeld=>?_);refine with_tabW impl_ComposePlans.tab4 impl_ComposePlans.bits4 (fun HT_ HW_=>?_)
    generalize w50.drew = w51 at HO402 HO405 BK394 BK395 BK396 BK406 HB hHeld ⊢
    refine pure_ (i:=0) (N:=some 26) (v:=?_) (a':=?_) #[true,false,false,false,false,false,false,false] rfl rfl (any_of HT_.out (by kernel_rfl)) (fun _ _ _ h=>h) (Or.inl ⟨by rfl,?_⟩) ?_ ?_
    rotate_left
    ·intro w'
     go_simp
     with_reducible rfl
    rotate_left
    ·simp only [Act.put,xa,xb,xc,i64_w,i32_w]
     rfl
    refine pure_ (i:=2) (N:=some 28) (v:=?_) (a':=?_) #[true,false,true,false,false,false,false,false] rfl rfl (any_of HT_.out (by kernel_rfl)) (fun _ _ _ h=>h) (Or.inl ⟨by rfl,?_⟩) ?_ ?_
    rotate_left
    ·intro w'
     go_simp
     with_reducible rfl
    rotate_left
    ·simp only [Act.put,xa,xb,xc,i64_w,i32_w]
     rfl
    refine take_ (i:=1) (N:=some 27) (v:=?_) (a':=?_) #[true,true,true,false,false,false,false,false] rfl rfl (take_ofW HT_.out HW_.out (by kernel_rfl)) (fun _ _ _ h=>h) (Or.inl ⟨by rfl,?_⟩) hHeld ?_ ?_
    rotate_left
    ·rintro w' ⟨s0,s1,s2,s3,s4,s5⟩
     go_simp
     with_reducible rfl
    rotate_left
    ·simp only [Act.put,xa,xb,xc,i64_w,i32_w]
     rfl
    refine take_ (i:=3) (N:=some 29) (v:=?_) (a':=?_) #[true,true,true,true,false,false,false,false] rfl rfl (take_ofW HT_.out HW_.out (by kernel_rfl)) (fun _ _ _ h=>h) (Or.inl ⟨by rfl,?_⟩) hHeld ?_ ?_
    rotate_left
    ·rintro w' ⟨s0,s1,s2,s3,s4,s5⟩
     go_simp
     with_reducible rfl
    rotate_left
    ·simp only [Act.put,xa,xb,xc,i64_w,i32_w]
     rfl
    refine one_ (i:=4) (N:=some 30) #[true,true,true,true,true,false,false,false] rfl rfl (one_of HT_.out (by kernel_rfl)) (by decide) (fun K hK=>?_)
    refine goes_ Try.func62 (by kernel_rfl) rfl #[.pointer (some ⟨gb406,0,none⟩),.pointer (some ⟨gb395,0,none⟩),.slice A0_2 l0_2.length c0_2] (by rfl) rfl rfl mz ?_
    with_reducible refine (impl_Plan_behind.calls kj2 gb406 t399 (fun k_=>some k_ = (.slice Ao48 t400.length co48 : Value).ownBlock ∨ k_ = gb406) (.slice Ao48 t400.length co48) t400 (fun k_=>some k_ = (.slice Ao49 t403.length co49 : Value).ownBlock) (.slice Ao49 t403.length co49) t403 gb395 a1_0 A1_1 c1_1 l1_1 A1_2 c1_2 l1_2 A0_2 c0_2 l0_2 t407 tNb tSb tOb w _ HB.out BK406.out GE406.out (.inr rfl) NB395_406.out BK395.out (Kd.R_mono (Kd.R_tight rfl HO402.out) (fun _ e_=>.inl e_)) (Kd.R_tight rfl HO405.out) (Kd.C_kept_came (⟨fun _ h=>by rw [k56_open h];exact k56_mk _ _⟩ : Kd.Heap k56) HR1_1.out HB.out (fun k_ hs_=>by rcases hs_ with (e_|e_)|e_;(exact Kd.R_base HO402.out k_ e_.symm);(rw [e_];exact GE406.out);(exact Kd.R_base HO405.out k_ e_.symm))) HC1_1.out (Kd.C_kept_came (Kd.heap_int .i64) HR1_2.out HB.out (fun k_ hs_=>by rcases hs_ with (e_|e_)|e_;(exact Kd.R_base HO402.out k_ e_.symm);(rw [e_];exact GE406.out);(exact Kd.R_base HO405.out k_ e_.symm))) HC1_2.out (Kd.C_kept_came (Kd.heap_int .i64) HR0_2.out HB.out (fun k_ hs_=>by rcases hs_ with (e_|e_)|e_;(exact Kd.R_base HO402.out k_ e_.symm);(rw [e_];exact GE406.out);(exact Kd.R_base HO405.out k_ e_.symm))) HC0_2.out A36.out).mono ?_
    rintro e w52 ⟨v408,vSb,vOb,rfl,⟨⟨rfl,rfl,rfl⟩⟩,hbx,ho0,hoS_,hoO_,hb,hk⟩
    refine ⟨_,rfl,?_⟩
    have n0_:=Aside0.mk (Kd.R_mono hoS_ (ok':=fun _=>True) (fun _ _=>trivial))
    have n1_:=Aside0.mk (impl_ComposePlans.keep_ok HO405.out hoO_ (fun k_ e_=>(hoO_.1 k_ e_).2))
    have n2_:=Aside0.mk (Kd.R_mono ho0 (ok':=fun k_=>True ∧ some k_ ≠ (.slice Ao49 t403.length co49 : Value).ownBlock) (fun _ hk=>⟨trivial,hk.2⟩))
    have n3_:=Aside0.mk (blk_kept BK394.out hk (fun hs_=>by rcases hs_ with (e_|e_)|e_;(exact Kd.R_ne HO402.out BK394.out (by decide) e_);(exact NB394_406.out e_);(exact Kd.R_ne HO405.out BK394.out (by decide) e_)))
    have n4_:=Aside0.mk (blk_kept BK395.out hk (fun hs_=>by rcases hs_ with (e_|e_)|e_;(exact Kd.R_ne HO402.out BK395.out (by decide) e_);(exact NB395_406.out e_);(exact Kd.R_ne HO405.out BK395.out (by decide) e_)))
    have n5_:=Aside0.mk (blk_kept BK396.out hk (fun hs_=>by rcases hs_ with (e_|e_)|e_;(exact Kd.R_ne HO402.out BK396.out (by decide) e_);(exact NB396_406.out e_);(exact Kd.R_ne HO405.out BK396.out (by decide) e_)))
    have n6_:=Aside0.mk (hbx)
    have n7_:=Aside0.mk (hb)
    clear HO402
    clear HO405
    clear BK394
    clear BK395
    clear BK396
    clear BK406
    clear HB
    have HO402:=n0_
    have HO405:=n1_
    have HO409:=n2_
    have BK394:=n3_
    have BK395:=n4_
    have BK396:=n5_
    have BK406:=n6_
    have HB:=n7_
    clear n0_ n1_ n2_ n3_ n4_ n5_ n6_ n7_
    (try clear hb)
    (try clear ho0 hoS_ hoO_ hbx hk)
    obtain ⟨Ao48b,co48b,eoSb⟩:=Kd.R_slice HO402.out
    subst eoSb
    obtain ⟨Ao53,co53,eo53⟩:=Kd.R_slice HO409.out
    (first|subst eo53|(injection eo53 with f1_ f2_ f3_;have f4_:=f1_.symm;have f5_:=f3_.symm;clear f1_ f2_ f3_;subst f4_;subst f5_))
    refine hK.out _ _ ⟨(blk_cell BK395.out 0).trans rfl,(blk_cell BK395.out 1).trans rfl,(blk_cell BK395.out 2).trans rfl,(blk_cell BK394.out 0).trans rfl,(blk_cell BK394.out 1).trans rfl,(blk_cell BK394.out 2).trans rfl⟩ (fun hHeld=>?_)
    clear hK K
    refine norm_ (a':=?_) ?_ ?_
    rotate_left
    ·show Act.put _ (some 30) _ = _
     simp only [Act.put,xa,xb,xc,i64_w,i32_w]
     rfl
    refine one_ (i:=5) (N:=some 31) #[true,true,true,true,true,true,false,false] rfl rfl (one_of HT_.out (by kernel_rfl)) (by decide) (fun K hK=>?_)
    refine goes_ Try.func61 (by kernel_rfl) rfl #[.slice A1_2 l1_2.length c1_2,.slice Ao53 t407.length co53] (by rfl) rfl rfl mz ?_
    with_reducible refine (impl_renamed.calls kj2 _ _ l1_2 _ _ t407 t410 _ ?side1 ?side2 ?side3 ?side4 A37.out).mono ?_
    (case side1=>exact cz (Kd.C_below HR1_2.out HB.out))
    (case side2=>exact HC1_2.out)
    (case side3=>exact cz (Kd.R_reads' HO409.out).2.2)
    (case side4=>exact (Kd.R_reads' HO409.out).2.1)
    rintro e w54 ⟨v411,rfl,ho0,hb⟩
    refine ⟨_,rfl,?_⟩
    have n0_:=Aside0.mk (Kd.R_below (rz HO402.out) hb)
    have n1_:=Aside0.mk (Kd.R_elder' (rz HO405.out) (Kd.R_base ho0) hb)
    have n2_:=Aside0.mk (Kd.R_elder' (rz HO409.out) (Kd.R_base ho0) hb)
    have n3_:=Aside0.mk (Kd.R_lower (Kd.R_new' (Kd.R_new' ho0 (Kd.R_lt (rz HO405.out))) (Kd.R_lt (rz HO409.out))) (below_size bs))
    have n4_:=Aside0.mk (blk_below (g:=gb394) (o:=.cells #[.int .i64 a0_0,.slice A0_1 l0_1.length c0_1,.slice A0_2 l0_2.length c0_2] 32 (0,0)) (kz BK394.out) hb)
    have n5_:=Aside0.mk (blk_below (g:=gb395) (o:=.cells #[.int .i64 a1_0,.slice A1_1 l1_1.length c1_1,.slice A1_2 l1_2.length c1_2] 32 (0,0)) (kz BK395.out) hb)
    have n6_:=Aside0.mk (blk_below (g:=gb396) (o:=.cells #[.int .i64 0,.slice none 0 0,.slice none 0 0] 32 (0,0)) (kz BK396.out) hb)
    have n7_:=Aside0.mk (blk_below (g:=gb406) (o:=.cells #[.int .i64 t399,.slice Ao48b tSb.length co48b,.slice Ao49 t403.length co49] 32 (0,0)) (kz BK406.out) hb)
    have n8_:=Aside0.mk (below_step bs hb)
    clear HO402
    clear HO405
    clear HO409
    clear BK394
    clear BK395
    clear BK396
    clear BK406
    clear HB
    have HO402:=n0_
    have HO405:=n1_
    have HO409:=n2_
    have HO412:=n3_
    have BK394:=n4_
    have BK395:=n5_
    have BK396:=n6_
    have BK406:=n7_
    have HB:=n8_
    clear n0_ n1_ n2_ n3_ n4_ n5_ n6_ n7_ n8_
    (try clear hb)
    (try clear ho0)
    obtain ⟨Ao55,co55,eo55⟩:=Kd.R_slice HO412.out
    (first|subst eo55|(injection eo55 with f1_ f2_ f3_;have f4_:=f1_.symm;have f5_:=f3_.symm;clear f1_ f2_ f3_;subst f4_;subst f5_))
    refine hK.out _ _ ⟨(blk_cell BK395.out 0).trans rfl,(blk_cell BK395.out 1).trans rfl,(blk_cell BK395.out 2).trans rfl,(blk_cell BK394.out 0).trans rfl,(blk_cell BK394.out 1).trans rfl,(blk_cell BK394.out 2).trans rfl⟩ (fun hHeld=>?_)
    clear hK K
    refine norm_ (a':=?_) ?_ ?_
    rotate_left
    ·show Act.put _ (some 31) _ = _
     simp only [Act.put,xa,xb,xc,i64_w,i32_w]
     rfl
    refine pure_ (i:=6) (N:=some 32) (v:=?_) (a':=?_) #[true,true,true,true,true,true,true,false] rfl rfl (any_of HT_.out (by kernel_rfl)) (fun _ _ _ h=>h) (Or.inl ⟨by rfl,?_⟩) ?_ ?_
    rotate_left
    ·intro w'
     go_simp
     with_reducible rfl
    rotate_left
    ·simp only [Act.put,xa,xb,xc,i64_w,i32_w]
     rfl
    refine one_ (i:=7) (N:=none) #[true,true,true,true,true,true,true,true] rfl rfl (one_of HT_.out (by kernel_rfl)) (by decide) (fun K hK=>?_)
    have hs56 : w54.cell? ⟨gb406,2,none⟩ = some (.slice Ao49 t403.length co49):=(blk_cell BK406.out 2).trans rfl
    have hfs56:=blk_frozen BK406.out 2
    have hns56_0:=NB394_406.out
    have hns56_1:=NB395_406.out
    have hns56_2:=NB396_406.out
    have hms56_0:=NB406_394.out
    have hms56_1:=NB406_395.out
    have hms56_2:=NB406_396.out
    refine skip_ (w1:=?_) (by rfl) rfl ?_ ?_
    rotate_left
    ·go_simp
     rfl
    refine hK.out _ _ ⟨((cell_far (p:=⟨gb406,_,none⟩) NB395_406.out _).trans (hHeld.1)),((cell_far (p:=⟨gb406,_,none⟩) NB395_406.out _).trans (hHeld.2.1)),((cell_far (p:=⟨gb406,_,none⟩) NB395_406.out _).trans (hHeld.2.2.1)),((cell_far (p:=⟨gb406,_,none⟩) NB394_406.out _).trans (hHeld.2.2.2.1)),((cell_far (p:=⟨gb406,_,none⟩) NB394_406.out _).trans (hHeld.2.2.2.2.1)),((cell_far (p:=⟨gb406,_,none⟩) NB394_406.out _).trans (hHeld.2.2.2.2.2))⟩ (fun hHeld=>?_)
    clear hK K
    refine done_ (done_of HT_.out (by kernel_rfl)) ?_
    have n0_ : Aside0 (Kd.R k56 56 (w54.setCell ⟨gb406,2,none⟩ (.slice Ao55 t410.length co55)) w.heap.size (fun _=>True) (.slice Ao48b tSb.length co48b) tSb):=⟨by (with_reducible repeat (first|apply Kd.R_alloc|apply Kd.R_drewN|apply Kd.R_drew));exact Kd.R_mono (Kd.R_far (p:=⟨gb406,2,none⟩) (Kd.R_types HO402.out BK406.out (by decide)) (fun _ hk=>hk.2) (.slice Ao55 t410.length co55)) (fun _ hk=>trivial)⟩
    have n1_ : Aside0 (Kd.R (Kd.int .i64) 3 (w54.setCell ⟨gb406,2,none⟩ (.slice Ao55 t410.length co55)) w.heap.size (fun k_=>some k_ ≠ (.slice Ao53 t407.length co53 : Value).ownBlock ∧ some k_ ≠ (.slice Ao55 t410.length co55 : Value).ownBlock) (.slice Ao49 t403.length co49) t403):=⟨by (with_reducible repeat (first|apply Kd.R_alloc|apply Kd.R_drewN|apply Kd.R_drew));exact Kd.R_mono (Kd.R_far (p:=⟨gb406,2,none⟩) (Kd.R_types HO405.out BK406.out (by decide)) (fun _ hk=>hk.2) (.slice Ao55 t410.length co55)) (fun _ hk=>⟨hk.1.1.2,hk.1.2⟩)⟩
    have n2_ : Aside0 (Kd.R (Kd.int .i64) 3 (w54.setCell ⟨gb406,2,none⟩ (.slice Ao55 t410.length co55)) w.heap.size (fun k_=>some k_ ≠ (.slice Ao49 t403.length co49 : Value).ownBlock ∧ some k_ ≠ (.slice Ao55 t410.length co55 : Value).ownBlock) (.slice Ao53 t407.length co53) t407):=⟨by (with_reducible repeat (first|apply Kd.R_alloc|apply Kd.R_drewN|apply Kd.R_drew));exact Kd.R_mono (Kd.R_far (p:=⟨gb406,2,none⟩) (Kd.R_types HO409.out BK406.out (by decide)) (fun _ hk=>hk.2) (.slice Ao55 t410.length co55)) (fun _ hk=>⟨hk.1.1.2,hk.1.2⟩)⟩
    have n3_ : Aside0 (Kd.R (Kd.int .i64) 3 (w54.setCell ⟨gb406,2,none⟩ (.slice Ao55 t410.length co55)) w.heap.size (fun k_=>some k_ ≠ (.slice Ao49 t403.length co49 : Value).ownBlock ∧ some k_ ≠ (.slice Ao53 t407.length co53 : Value).ownBlock) (.slice Ao55 t410.length co55) t410):=⟨by (with_reducible repeat (first|apply Kd.R_alloc|apply Kd.R_drewN|apply Kd.R_drew));exact Kd.R_mono (Kd.R_far (p:=⟨gb406,2,none⟩) (Kd.R_types HO412.out BK406.out (by decide)) (fun _ hk=>hk.2) (.slice Ao55 t410.length co55)) (fun _ hk=>⟨hk.1.1.2,hk.1.2⟩)⟩
    have n4_ : Aside0 ((w54.setCell ⟨gb406,2,none⟩ (.slice Ao55 t410.length co55)).heap[gb394]? = some (.cells #[.int .i64 a0_0,.slice A0_1 l0_1.length c0_1,.slice A0_2 l0_2.length c0_2] 32 (0,0))):=⟨by (with_reducible repeat (first|refine blk_drewN ?_ _|refine blk_drew ?_|refine blk_alloc ?_ _));refine blk_far ?_ NB394_406.out _;(with_reducible repeat (first|refine blk_drewN ?_ _|refine blk_drew ?_|refine blk_alloc ?_ _));exact BK394.out⟩
    have n5_ : Aside0 ((w54.setCell ⟨gb406,2,none⟩ (.slice Ao55 t410.length co55)).heap[gb395]? = some (.cells #[.int .i64 a1_0,.slice A1_1 l1_1.length c1_1,.slice A1_2 l1_2.length c1_2] 32 (0,0))):=⟨by (with_reducible repeat (first|refine blk_drewN ?_ _|refine blk_drew ?_|refine blk_alloc ?_ _));refine blk_far ?_ NB395_406.out _;(with_reducible repeat (first|refine blk_drewN ?_ _|refine blk_drew ?_|refine blk_alloc ?_ _));exact BK395.out⟩
    have n6_ : Aside0 ((w54.setCell ⟨gb406,2,none⟩ (.slice Ao55 t410.length co55)).heap[gb396]? = some (.cells #[.int .i64 0,.slice none 0 0,.slice none 0 0] 32 (0,0))):=⟨by (with_reducible repeat (first|refine blk_drewN ?_ _|refine blk_drew ?_|refine blk_alloc ?_ _));refine blk_far ?_ NB396_406.out _;(with_reducible repeat (first|refine blk_drewN ?_ _|refine blk_drew ?_|refine blk_alloc ?_ _));exact BK396.out⟩
    have n7_ : Aside0 ((w54.setCell ⟨gb406,2,none⟩ (.slice Ao55 t410.length co55)).heap[gb406]? = some (.cells #[.int .i64 t399,.slice Ao48b tSb.length co48b,.slice Ao55 t410.length co55] 32 (0,0))):=⟨by (with_reducible repeat (first|refine blk_drewN ?_ _|refine blk_drew ?_|refine blk_alloc ?_ _));refine blk_put (cs:=#[.int .i64 t399,.slice Ao48b tSb.length co48b,.slice Ao49 t403.length co49]) ?_ 2 _ rfl;(with_reducible repeat (first|refine blk_drewN ?_ _|refine blk_drew ?_|refine blk_alloc ?_ _));exact BK406.out⟩
    have n8_ : Aside0 (Below w.heap.size w (w54.setCell ⟨gb406,2,none⟩ (.slice Ao55 t410.length co55))):=⟨by repeat (first|(with_reducible first|exact HB.out|apply below_alloc|apply pw_below_drewN|apply below_drew1|refine below_set ?_ GE394.out|refine below_set ?_ GE395.out|refine below_set ?_ GE396.out|refine below_set ?_ GE406.out)|exact HB.out)⟩
    (try clear HO402)
    (try clear HO405)
    (try clear HO409)
    (try clear HO412)
    (try clear BK394)
    (try clear BK395)
    (try clear BK396)
    (try clear BK406)
    (try clear HB)
    generalize (w54.setCell ⟨gb406,2,none⟩ (.slice Ao55 t410.length co55)) = w57 at n0_ n1_ n2_ n3_ n4_ n5_ n6_ n7_ n8_ ⊢
    have HO402:=n0_
    have HO405:=n1_
    have HO409:=n2_
    have HO412:=n3_
    have BK394:=n4_
    have BK395:=n5_
    have BK396:=n6_
    have BK406:=n7_
    have HB:=n8_
    clear n0_ n1_ n2_ n3_ n4_ n5_ n6_ n7_ n8_
    have hcz58_0 : w57.cell? ⟨gb406,0,none⟩ = some (.int .i64 t399):=(blk_cell BK406.out 0).trans rfl
    have hcz58_1 : w57.cell? ⟨gb406,1,none⟩ = some (.slice Ao48b tSb.length co48b):=(blk_cell BK406.out 1).trans rfl
    have hcz58_2 : w57.cell? ⟨gb406,2,none⟩ = some (.slice Ao55 t410.length co55):=(blk_cell BK406.out 2).trans rfl
    have hfz58_0:=blk_frozen BK406.out 0
    have hfz58_1:=blk_frozen BK406.out 1
    have hfz58_2:=blk_frozen BK406.out 2
    try go_wp2_with (first|((with_reducible refine gate_callee (f:=37) rfl ?_);refine goesL_ (some 34) rfl rfl Try.func37 (by kernel_rfl) rfl #[.agg #[.int .i64 t399,.slice Ao48b tSb.length co48b,.slice Ao55 t410.length co55]] rfl mz ?_;(with_reducible refine (impl_told.calls kj2 t399 (fun k_=>some k_ = (.slice Ao48b tSb.length co48b : Value).ownBlock) (.slice Ao48b tSb.length co48b) tSb (fun k_=>some k_ = (.slice Ao55 t410.length co55 : Value).ownBlock) (.slice Ao55 t410.length co55) t410 t413 t414 t417 t420 w _ ?side1 ?side2 ?side3 A38.out).mono ?_);(case side1=>repeat (first|(with_reducible first|exact HB.out|apply below_alloc|apply pw_below_drewN|apply below_drew1|refine below_set ?_ GE394.out|refine below_set ?_ GE395.out|refine below_set ?_ GE396.out|refine below_set ?_ GE406.out)|exact HB.out));(case side2=>exact Kd.R_tight rfl HO402.out);(case side3=>exact Kd.R_tight rfl HO412.out);rintro e w59 ⟨v415,v418,rfl,ho0,ho1,hb,hkp⟩;refine ⟨_,rfl,?_⟩;have n0_:=Aside0.mk (blk_kept (kz BK394.out) hkp (fun hs_=>Or.elim hs_ (fun e_=>(fun e_=>(Kd.R_ne HO402.out BK394.out (by decide)) e_) e_) (fun e_=>(fun e_=>(Kd.R_ne HO412.out BK394.out (by decide)) e_) e_)));have n1_:=Aside0.mk (blk_kept (kz BK395.out) hkp (fun hs_=>Or.elim hs_ (fun e_=>(fun e_=>(Kd.R_ne HO402.out BK395.out (by decide)) e_) e_) (fun e_=>(fun e_=>(Kd.R_ne HO412.out BK395.out (by decide)) e_) e_)));have n2_:=Aside0.mk (blk_kept (kz BK396.out) hkp (fun hs_=>Or.elim hs_ (fun e_=>(fun e_=>(Kd.R_ne HO402.out BK396.out (by decide)) e_) e_) (fun e_=>(fun e_=>(Kd.R_ne HO412.out BK396.out (by decide)) e_) e_)));have n3_:=Aside0.mk (Kd.R_mono (ok':=fun k_=>some k_ ≠ (.slice Ao53 t407.length co53 : Value).ownBlock ∧ some k_ ≠ (v418 : Value).ownBlock) (Kd.R_keptB ((Kd.R_apart' HO405.out (Kd.R_typed HO402.out) (by decide))) hkp (fun k_ hk_ hs_=>Or.elim hs_ (fun e_=>(hk_.2) e_) (fun e_=>(hk_.1.2) e_))) (fun k_ hk_=>⟨hk_.1.1.1,fun e_=>Or.elim (ho1.1 k_ e_.symm) (fun hs_=>hk_.2.1 hs_) (fun hn_=>Nat.not_le.2 hk_.2.2 hn_)⟩));have n4_:=Aside0.mk (blk_kept (kz BK406.out) hkp (fun hs_=>Or.elim hs_ (fun e_=>(fun e_=>(Kd.R_ne HO402.out BK406.out (by decide)) e_) e_) (fun e_=>(fun e_=>(Kd.R_ne HO412.out BK406.out (by decide)) e_) e_)));have n5_:=Aside0.mk (Kd.R_mono (ok':=fun k_=>some k_ ≠ (.slice Ao49 t403.length co49 : Value).ownBlock ∧ some k_ ≠ (v418 : Value).ownBlock) (Kd.R_keptB ((Kd.R_apart' HO409.out (Kd.R_typed HO402.out) (by decide))) hkp (fun k_ hk_ hs_=>Or.elim hs_ (fun e_=>(hk_.2) e_) (fun e_=>(hk_.1.2) e_))) (fun k_ hk_=>⟨hk_.1.1.1,fun e_=>Or.elim (ho1.1 k_ e_.symm) (fun hs_=>hk_.2.1 hs_) (fun hn_=>Nat.not_le.2 hk_.2.2 hn_)⟩));have n6_:=Aside0.mk (Kd.R_mono (ok':=fun k_=>True) ho0 (fun k_ hk_=>trivial));have n7_:=Aside0.mk (Kd.R_mono (ok':=fun k_=>some k_ ≠ (.slice Ao49 t403.length co49 : Value).ownBlock ∧ some k_ ≠ (.slice Ao53 t407.length co53 : Value).ownBlock) ho1 (fun k_ hk_=>⟨Or.elim hk_ (fun hs_=>Or.elim hs_ (fun hs_=>fun e_=>((((Kd.R_apart' HO405.out (Kd.R_typed HO402.out) (by decide))).1 k_ e_.symm).2) hs_) (fun hs_=>fun e_=>((((Kd.R_apart' HO405.out (Kd.R_typed HO402.out) (by decide))).1 k_ e_.symm).1.2) hs_)) (fun hn_=>(Kd.fresh' (Kd.R_lt (rz HO405.out)) k_ hn_)),Or.elim hk_ (fun hs_=>Or.elim hs_ (fun hs_=>fun e_=>((((Kd.R_apart' HO409.out (Kd.R_typed HO402.out) (by decide))).1 k_ e_.symm).2) hs_) (fun hs_=>fun e_=>((((Kd.R_apart' HO409.out (Kd.R_typed HO402.out) (by decide))).1 k_ e_.symm).1.2) hs_)) (fun hn_=>(Kd.fresh' (Kd.R_lt (rz HO409.out)) k_ hn_))⟩));have n8_:=Aside0.mk (hb);clear BK394 BK395 BK396 HO405 BK406 HO409 HB HO402 HO412;have BK394:=n0_;have BK395:=n1_;have BK396:=n2_;have HO405:=n3_;have BK406:=n4_;have HO409:=n5_;have HO416:=n6_;have HO419:=n7_;have HB:=n8_;clear n0_ n1_ n2_ n3_ n4_ n5_ n6_ n7_ n8_;(try clear hb);(try clear hkp);(try clear ho0);(try clear ho1);have hnb60:=NB396_395.out;have hnc60:=NB395_396.out;have hcz61_0 : w59.cell? ⟨gb396,0,none⟩ = some (.int .i64 0):=(blk_cell BK396.out 0).trans rfl;have hcz61_1 : w59.cell? ⟨gb396,1,none⟩ = some (.slice none 0 0):=(blk_cell BK396.out 1).trans rfl;have hcz61_2 : w59.cell? ⟨gb396,2,none⟩ = some (.slice none 0 0):=(blk_cell BK396.out 2).trans rfl;have hfz61_0:=blk_frozen BK396.out 0;have hfz61_1:=blk_frozen BK396.out 1;have hfz61_2:=blk_frozen BK396.out 2;obtain ⟨Ao62,co62,eo62⟩:=Kd.R_slice HO416.out;subst eo62;obtain ⟨Ao63,co63,eo63⟩:=Kd.R_slice HO419.out;subst eo63))
    refine bodyPost_ret (results_ct rfl _ _ gb396 32 #[.int .i64 t413,.slice Ao62 t414.length co62,.slice Ao63 t417.length co63] (0,0) _ rfl (by (with_reducible repeat (first|refine blk_drewN ?_ _|refine blk_drew ?_|refine blk_alloc ?_ _));refine blk_put (cs:=#[.int .i64 t413,.slice Ao62 t414.length co62,.slice none 0 0]) ?_ 2 _ rfl;(with_reducible repeat (first|refine blk_drewN ?_ _|refine blk_drew ?_|refine blk_alloc ?_ _));refine blk_put (cs:=#[.int .i64 t413,.slice none 0 0,.slice none 0 0]) ?_ 1 _ rfl;(with_reducible repeat (first|refine blk_drewN ?_ _|refine blk_drew ?_|refine blk_alloc ?_ _));refine blk_put (cs:=#[.int .i64 0,.slice none 0 0,.slice none 0 0]) ?_ 0 _ rfl;(with_reducible repeat (first|refine blk_drewN ?_ _|refine blk_drew ?_|refine blk_alloc ?_ _));exact BK396.out) Try.underlying32 rfl (by kernel_rfl)) rfl ?_
    exact ⟨_,_,by first|rfl|(simp [errW_none,errW_some] <;> rfl)|(simp [*,errW_none,errW_some] <;> rfl),by (with_reducible repeat (first|apply Kd.R_alloc|apply Kd.R_drewN|apply Kd.R_drew));exact Kd.R_mono (Kd.R_far (p:=⟨gb396,2,none⟩) (Kd.R_far (p:=⟨gb396,1,none⟩) (Kd.R_far (p:=⟨gb396,0,none⟩) (Kd.R_types HO416.out BK396.out (by decide)) (fun _ hk=>hk.2) (.int .i64 t413)) (fun _ hk=>hk.2) (.slice Ao62 t414.length co62)) (fun _ hk=>hk.2) (.slice Ao63 t417.length co63)) (fun _ hk=>trivial),by (with_reducible repeat (first|apply Kd.R_alloc|apply Kd.R_drewN|apply Kd.R_drew));exact Kd.R_mono (Kd.R_far (p:=⟨gb396,2,none⟩) (Kd.R_far (p:=⟨gb396,1,none⟩) (Kd.R_far (p:=⟨gb396,0,none⟩) (Kd.R_types HO419.out BK396.out (by decide)) (fun _ hk=>hk.2) (.int .i64 t413)) (fun _ hk=>hk.2) (.slice Ao62 t414.length co62)) (fun _ hk=>hk.2) (.slice Ao63 t417.length co63)) (fun _ hk=>trivial),by repeat (first|(with_reducible first|exact HB.out|apply below_alloc|apply pw_below_drewN|apply below_drew1|refine below_set ?_ GE394.out|refine below_set ?_ GE395.out|refine below_set ?_ GE396.out|refine below_set ?_ GE406.out)|exact HB.out)⟩
/-! ### impl_Plan_outputExponents: function 89 -/
def impl_Plan_outputExponents.l0 : Nat → List (List Int) → List (List Int) → List Int → Int → Int → Option ((List (List Int)))
 | 0,_,_,_,_,_=>none
 | k + 1,x3,x4,x13,x14,x15=>if x15 < x14 then (if 0 ≤ x15 then (if x15 < (x13.length : Int) then (if 0 ≤ (rd x13 x15) then (if (rd x13 x15) < (x3.length : Int) then ((slices_Clone_int_int.f (rd_L3 x3 (rd x13 x15))).bind fun t403=>(if x4.length < 5864062014805 then (impl_Plan_outputExponents.l0 k x3 (x4 ++ [t403]) x13 x14 (wrap64 (x15 + 1))) else (none))) else (none)) else (none)) else (none)) else (none)) else (some x4)
def impl_Plan_outputExponents.f (k : Nat) (a0_0 : Int) (l0_1 : List (S56)) (l0_2 : List Int) : Option ((List (List Int))):=(impl_Plan_exponents.f k a0_0 l0_1 l0_2).bind fun t395=>(impl_Plan_outputExponents.l0 k t395 (([] : List (List Int))) l0_2 (l0_2.length : Int) 0)
theorem impl_Plan_outputExponents.mono_l : ∀ k,(∀ y0 y1 y2 y3 y4,LeO (impl_Plan_outputExponents.l0 k y0 y1 y2 y3 y4) (impl_Plan_outputExponents.l0 (k + 1) y0 y1 y2 y3 y4))
 | 0=>fun _ _ _ _ _ r h=>by simp [impl_Plan_outputExponents.l0] at h
 | k + 1=>by
  have ih0:=impl_Plan_outputExponents.mono_l k
  ·intro y0 y1 y2 y3 y4
   unfold impl_Plan_outputExponents.l0
   repeat' first
   | (with_reducible exact ih0 _ _ _ _ _)
   | (with_reducible exact impl_Plan_exponents.mono _ _ _ _)
   | (with_reducible exact LeO.refl _)
   | (with_reducible exact LeO.none _)
   | (with_reducible refine LeO.ite ?_ ?_)
   | (with_reducible refine LeO.bind ?_ (fun _=>?_))
   | exact ih0 _ _ _ _ _
   | exact impl_Plan_exponents.mono _ _ _ _
   | exact LeO.none _
   | refine LeO.ite ?_ ?_
   | refine LeO.bind ?_ (fun _=>?_)
theorem impl_Plan_outputExponents.mono : ∀ a0 a1 a2 k,LeO (impl_Plan_outputExponents.f k a0 a1 a2) (impl_Plan_outputExponents.f (k + 1) a0 a1 a2):=by
 intro a0 a1 a2 k
 have ih0:=impl_Plan_outputExponents.mono_l k
 unfold impl_Plan_outputExponents.f
 repeat' first
   | (with_reducible exact ih0 _ _ _ _ _)
   | (with_reducible exact impl_Plan_exponents.mono _ _ _ _)
   | (with_reducible exact LeO.refl _)
   | (with_reducible exact LeO.none _)
   | (with_reducible refine LeO.ite ?_ ?_)
   | (with_reducible refine LeO.bind ?_ (fun _=>?_))
   | exact ih0 _ _ _ _ _
   | exact impl_Plan_exponents.mono _ _ _ _
   | exact LeO.none _
   | refine LeO.ite ?_ ?_
   | refine LeO.bind ?_ (fun _=>?_)
set_option maxHeartbeats 8000000 in
set_option maxRecDepth 100000 in
theorem impl_Plan_outputExponents.calls (k : Nat) (g0_ : Nat) (a0_0 : Int) (A0_1 : Option Addr) (c0_1 : Nat) (l0_1 : List (S56)) (A0_2 : Option Addr) (c0_2 : Nat) (l0_2 : List Int) (r : List (List Int)) (w : World) (hx0_ : w.heap[g0_]? = some (.cells #[.int .i64 a0_0,.slice A0_1 l0_1.length c0_1,.slice A0_2 l0_2.length c0_2] 32 (0,0))) (hr0_1 : Kd.C k56 w A0_1 l0_1.length l0_1) (hc0_1 : l0_1.length ≤ c0_1) (hr0_2 : Kd.C (Kd.int .i64) w A0_2 l0_2.length l0_2) (hc0_2 : l0_2.length ≤ c0_2) (h : impl_Plan_outputExponents.f k a0_0 l0_1 l0_2 = some r) :
  Calls Try.prog 89 #[.pointer (some ⟨g0_,0,none⟩)] w fun e w'=>∃ v0_ : Value,e = .returned (v0_) ∧ Kd.S (Kd.slice 3 (Kd.int .i64)) 24 w' w.heap.size (fun _=>True) v0_ r ∧ Below w.heap.size w w':=by
 have HR0_1:=Aside0.mk hr0_1
 have HC0_1:=Aside0.mk hc0_1
 clear hr0_1 hc0_1
 have HR0_2:=Aside0.mk hr0_2
 have HC0_2:=Aside0.mk hc0_2
 clear hr0_2 hc0_2
 have BK0:=Aside0.mk hx0_
 clear hx0_
 have HB:=Aside0.mk (Below.refl w.heap.size w)
 have H : ((impl_Plan_exponents.f k a0_0 l0_1 l0_2).bind fun t395=>(impl_Plan_outputExponents.l0 k t395 (([] : List (List Int))) l0_2 (l0_2.length : Int) 0)) = some r:=h
 clear h
 obtain ⟨t395,A2,H⟩:=bd H
 obtain ⟨y398,hy398⟩ : ∃ y_ : List (List Int),y_ = (([] : List (List Int))):=⟨_,rfl⟩
 replace H : (impl_Plan_outputExponents.l0 k t395 y398 l0_2 (l0_2.length : Int) 0) = some r:=by first|(rw [hy398];with_reducible exact H)|(have H2_:=(Option.bind_some _ _).symm.trans H;rw [hy398];with_reducible exact H2_)|(have H2_:=(Option.bind_some _ _).symm.trans H;with_reducible exact H2_)|with_reducible exact H|(rw [hy398];exact H)|exact H
 have Ny398:=Aside0.mk hy398
 clear hy398
 have H':=Aside0.mk H
 clear H
 go_enter Try.func89,Try.ntmps89
 go_wp2_with (first|((with_reducible refine gate_callee (f:=43) rfl ?_);refine goesL_ (some 8) rfl rfl Try.func43 (by kernel_rfl) rfl #[.pointer (some ⟨g0_,0,none⟩)] rfl mz ?_;(with_reducible refine (impl_Plan_exponents.calls k g0_ a0_0 A0_1 c0_1 l0_1 A0_2 c0_2 l0_2 t395 _ ?side1 ?side2 ?side3 ?side4 ?side5 A2.out).mono ?_);(case side1=>exact by (with_reducible repeat (first|refine blk_drewN ?_ _|refine blk_drew ?_|refine blk_alloc ?_ _));exact BK0.out);(case side2=>exact cz HR0_1.out);(case side3=>exact HC0_1.out);(case side4=>exact cz HR0_2.out);(case side5=>exact HC0_2.out);rintro e w3 ⟨v396,rfl,ho0,hb⟩;refine ⟨_,rfl,?_⟩;have n0_:=Aside0.mk (Kd.S_lower ho0 (below_size bs));have n1_:=Aside0.mk (blk_below (g:=g0_) (o:=.cells #[.int .i64 a0_0,.slice A0_1 l0_1.length c0_1,.slice A0_2 l0_2.length c0_2] 32 (0,0)) (kz BK0.out) hb);have n2_:=Aside0.mk (below_step bs hb);clear BK0 HB;have HO397:=n0_;have BK0:=n1_;have HB:=n2_;clear n0_ n1_ n2_;(try clear hb);(try clear ho0))|((with_reducible refine gate_dst (N:=9) rfl ?_);refine Kd.S_lit (Kd.slice 3 (Kd.int .i64)) _ 24 ?hg (N:=9) ?hd (xs:=([] : List (List Int))) (inner:=[]) (ok:=fun _=>True) (okp:=fun _=>True) ?hr ?hp (fun _ hk=>hk) trivial (Below.refl _ _) (Nat.le_refl _) (by simp) ?_;(case hd=>rfl);(case hg=>rfl);(case hr=>first|(go_simp;done)|(go_simp;rfl));(case hp=>exact (Reps.none _ _));intro v399 w4 ho5 hb hg_ hnew_;clear hg_ hnew_;(first|rw [← Ny398.out] at ho5|(simp only [Int.reduceToNat] at ho5;rw [← Ny398.out] at ho5));have n0_:=Aside0.mk (Kd.S_elder' (by (with_reducible repeat (first|apply Kd.S_alloc|apply Kd.S_drewN|apply Kd.S_drew));exact HO397.out) (Kd.S_base ho5) hb);have n1_:=Aside0.mk (Kd.S_lower (Kd.S_new' ho5 (Kd.S_lt (by (with_reducible repeat (first|apply Kd.S_alloc|apply Kd.S_drewN|apply Kd.S_drew));exact HO397.out))) (below_size bs));have n2_:=Aside0.mk (blk_below (g:=g0_) (o:=.cells #[.int .i64 a0_0,.slice A0_1 l0_1.length c0_1,.slice A0_2 l0_2.length c0_2] 32 (0,0)) (kz BK0.out) hb);have n3_:=Aside0.mk (below_step bs hb);clear HO397 BK0 HB;have HO397:=n0_;have HO400:=n1_;have BK0:=n2_;have HB:=n3_;clear n0_ n1_ n2_ n3_;clear hb ho5;have hcz6_0 : w4.cell? ⟨g0_,0,none⟩ = some (.int .i64 a0_0):=(blk_cell BK0.out 0).trans rfl;have hcz6_1 : w4.cell? ⟨g0_,1,none⟩ = some (.slice A0_1 l0_1.length c0_1):=(blk_cell BK0.out 1).trans rfl;have hcz6_2 : w4.cell? ⟨g0_,2,none⟩ = some (.slice A0_2 l0_2.length c0_2):=(blk_cell BK0.out 2).trans rfl;have hfz6_0:=blk_frozen BK0.out 0;have hfz6_1:=blk_frozen BK0.out 1;have hfz6_2:=blk_frozen BK0.out 2))
 go_loopg [4,15] k (fun kq v4 v15 w'=>∃ (x4_1 : List (List Int)) (x15_1 : Int),v15 = .int .i64 x15_1 ∧ Aside0 (impl_Plan_outputExponents.l0 kq t395 x4_1 l0_2 (l0_2.length : Int) x15_1 = some r) ∧ Aside0 (kq ≤ k) ∧ Aside0 (Kd.S (Kd.slice 3 (Kd.int .i64)) 24 w' w.heap.size (fun k_=>some k_ ≠ (v4 : Value).ownBlock) v396 t395) ∧ Aside0 (Kd.S (Kd.slice 3 (Kd.int .i64)) 24 w' w.heap.size (fun k_=>some k_ ≠ (v396 : Value).ownBlock) v4 x4_1) ∧ Aside0 (w'.heap[g0_]? = some (.cells #[.int .i64 a0_0,(.slice A0_1 l0_1.length c0_1),(.slice A0_2 l0_2.length c0_2)] 32 (0,0))) ∧ Aside0 (Below w.heap.size w w'))
 case atStart=>exact ⟨(y398),(0),fz,H',⟨Nat.le_refl _⟩,⟨by (with_reducible repeat (first|apply Kd.S_alloc|apply Kd.S_drewN|apply Kd.S_drew));exact Kd.S_mono HO397.out (fun _ hk=>hk.2)⟩,⟨by (with_reducible repeat (first|apply Kd.S_alloc|apply Kd.S_drewN|apply Kd.S_drew));exact Kd.S_mono HO400.out (fun _ hk=>hk.2)⟩,⟨by (with_reducible repeat (first|refine blk_drewN ?_ _|refine blk_drew ?_|refine blk_alloc ?_ _));exact BK0.out⟩,⟨by repeat (first|(with_reducible first|exact HB.out|apply below_alloc|apply pw_below_drewN|apply below_drew1|refine below_set ?_ GE0.out)|exact HB.out)⟩⟩
 case round=>
  clear H'
  try clear p2
  try clear c4
  try clear hcz6_0
  try clear hcz6_1
  try clear hcz6_2
  try clear hfz6_0
  try clear hfz6_1
  try clear hfz6_2
  obtain ⟨x4_1,x15_1,rfl,HA,HK1,HO_3,HO_4,BK0,HB⟩:=hrel
  cases gk with
  | zero=>exact absurd HA.out (by simp [impl_Plan_outputExponents.l0])
  | succ k1=>
   have H:=HA.out
   clear HA
   simp only [impl_Plan_outputExponents.l0] at H
   by_cases c7 : x15_1 < (l0_2.length : Int)
   ·rw [if_pos c7] at H
    have c7b0 : decide (x15_1 < (l0_2.length : Int)) = true:=decide_eq_true c7
    clear c7
    by_cases c8 : 0 ≤ x15_1
    ·rw [if_pos c8] at H
     have c8b0 : decide (0 ≤ x15_1) = true:=decide_eq_true c8
     clear c8
     by_cases c9 : x15_1 < (l0_2.length : Int)
     ·rw [if_pos c9] at H
      have c9b0 : decide (x15_1 < (l0_2.length : Int)) = true:=decide_eq_true c9
      clear c9
      by_cases c10 : 0 ≤ (rd l0_2 x15_1)
      ·rw [if_pos c10] at H
       have c10b0 : decide (0 ≤ (rd l0_2 x15_1)) = true:=decide_eq_true c10
       clear c10
       by_cases c11 : (rd l0_2 x15_1) < (t395.length : Int)
       ·rw [if_pos c11] at H
        have c11b0 : decide ((rd l0_2 x15_1) < (t395.length : Int)) = true:=decide_eq_true c11
        clear c11
        obtain ⟨t403,A12,H⟩:=bd H
        by_cases c13 : x4_1.length < 5864062014805
        ·rw [if_pos c13] at H
         have LMc13:=Aside0.mk c13
         clear c13
         obtain ⟨y406,hy406⟩ : ∃ y_ : List (List Int),y_ = (x4_1 ++ [t403]):=⟨_,rfl⟩
         replace H : (impl_Plan_outputExponents.l0 k1 t395 y406 l0_2 (l0_2.length : Int) (wrap64 (x15_1 + 1))) = some r:=by first|(rw [hy406];with_reducible exact H)|(have H2_:=(Option.bind_some _ _).symm.trans H;rw [hy406];with_reducible exact H2_)|(have H2_:=(Option.bind_some _ _).symm.trans H;with_reducible exact H2_)|with_reducible exact H|(rw [hy406];exact H)|exact H
         have Ny406:=Aside0.mk hy406
         clear hy406
         have H':=Aside0.mk H
         clear H
         have p401 : 0 ≤ (x15_1 : Int):=of_decide_eq_true az
         have q401 : x15_1 < (l0_2.length : Int):=of_decide_eq_true az
         obtain ⟨ad401,e401,hx401_0⟩:=Kd.at_int HR0_2.out x15_1 p401 q401
         cases e401
         replace hx401_0:=(HB.out.cell (World.block_lt_of_cell? w _ hx401_0)).trans hx401_0
         replace p401:=eq_true p401
         replace q401:=eq_true q401
         obtain ⟨Ao14,co14,eo14⟩:=Kd.S_slice HO_3.out
         subst eo14
         have p402 : 0 ≤ ((rd l0_2 x15_1) : Int):=of_decide_eq_true az
         have q402 : (rd l0_2 x15_1) < (t395.length : Int):=of_decide_eq_true az
         obtain ⟨ad402,A402_0,c402_0,e402,hx402_0,hl402_0,hi402_0⟩:=at_L3 (Kd.S_reads' HO_3.out).2.2 (rd l0_2 x15_1) p402 q402
         cases e402
         obtain ⟨ce402,hce402,hMe402,hcc402⟩:=Kd.S_get HO_3.out [] (rd l0_2 x15_1) p402 (by first|exact q402|exact of_decide_eq_true az|(have e_:=(Kd.S_reads' HO_3.out).1;omega))
         obtain ⟨ve402_0,rfl,ge402_0⟩:=hMe402
         have hv402_0:=hcc402 0 _ rfl
         rw [Nat.add_zero,show ((Kd.slice 3 (Kd.int .i64))).sz = 1 from rfl,Nat.mul_one] at hv402_0
         replace hv402_0:=Option.some.inj (hv402_0.symm.trans hx402_0)
         rw [hv402_0] at ge402_0
         have HL402_0:=Aside0.mk (show Kd.R (Kd.int .i64) 3 _ _ _ _ (rd_L3 t395 (rd l0_2 x15_1)) from ge402_0)
         clear hv402_0 ge402_0
         clear hcc402 hce402
         have HR402_0:=Aside0.mk hi402_0
         have HC402_0:=Aside0.mk hl402_0
         clear hi402_0 hl402_0
         replace p402:=eq_true p402
         replace q402:=eq_true q402
         go_wp2_with (first|((with_reducible refine gate_callee (f:=53) rfl ?_);refine goesL_ (some 24) rfl rfl Try.func53 (by kernel_rfl) rfl #[.slice A402_0 (rd_L3 t395 (rd l0_2 x15_1)).length c402_0] rfl mz ?_;(with_reducible refine (slices_Clone_int_int.calls _ _ (rd_L3 t395 (rd l0_2 x15_1)) t403 _ ?side1 ?side2 A12.out).mono ?_);(case side1=>repeat (first|exact (by repeat (first|(with_reducible exact HR402_0.out)|(with_reducible refine Kd.C_alloc ?_ _)|(with_reducible refine Kd.C_drewN ?_ _)|(with_reducible refine Kd.C_drew ?_)|exact HR402_0.out))|(with_reducible refine Kd.C_alloc ?_ _)|(with_reducible refine Kd.C_drewN ?_ _)|(with_reducible refine Kd.C_drew ?_)));(case side2=>exact HC402_0.out);rintro e w15 ⟨v404,rfl,ho0,hb⟩;refine ⟨_,rfl,?_⟩;have n0_:=Aside0.mk (Kd.S_elder' (by (with_reducible repeat (first|apply Kd.S_alloc|apply Kd.S_drewN|apply Kd.S_drew));exact HO_3.out) (Kd.R_base ho0) hb);have n1_:=Aside0.mk (Kd.S_elder' (by (with_reducible repeat (first|apply Kd.S_alloc|apply Kd.S_drewN|apply Kd.S_drew));exact HO_4.out) (Kd.R_base ho0) hb);have n2_:=Aside0.mk (Kd.R_elder' (rz HL402_0.out) (Kd.R_base ho0) hb);have n3_:=Aside0.mk (Kd.R_lower (Kd.R_new' ho0 (Kd.R_lt (rz HL402_0.out))) (below_size bs));have n4_:=Aside0.mk (blk_below (g:=g0_) (o:=.cells #[.int .i64 a0_0,.slice A0_1 l0_1.length c0_1,.slice (some ad401) l0_2.length c0_2] 32 (0,0)) (kz BK0.out) hb);have n5_:=Aside0.mk (Kd.C_below (by repeat (first|(with_reducible exact HR402_0.out)|(with_reducible refine Kd.C_alloc ?_ _)|(with_reducible refine Kd.C_drewN ?_ _)|(with_reducible refine Kd.C_drew ?_)|exact HR402_0.out)) hb);have n6_:=Aside0.mk (below_step bs hb);clear HO_3 HO_4 HL402_0 BK0 HR402_0 HB;have HO_3:=n0_;have HO_4:=n1_;have HL402_0:=n2_;have HO405:=n3_;have BK0:=n4_;have HR402_0:=n5_;have HB:=n6_;clear n0_ n1_ n2_ n3_ n4_ n5_ n6_;(try clear hb);(try clear ho0);obtain ⟨Ao17,co17,eo17⟩:=Kd.R_slice HO405.out;subst eo17)|((with_reducible refine gate_builtin (b:=.append) (xs:=#[.tmp 19,.tmp 25]) rfl ?_);at_builtin;refine Kd.S_append (Kd.slice 3 (Kd.int .i64)) (w0:=w) w.heap.size rfl (.tmp 19) (.tmp 25) 64 24 (.slice none 0 0) 24 rfl Try.underlying64 info24 rfl (by decide) (by omega) u4 x4_1 t403 [.slice Ao17 t403.length co17] (fun k_=>some k_ ≠ (.slice (some ad402) t395.length co14 : Value).ownBlock) (fun k_=>some k_ = (.slice Ao17 t403.length co17 : Value).ownBlock) rfl rfl ?aP (fun k_ hk_=>((Kd.R_mono (ok':=fun k_=>((fun k_=>some k_ ≠ (.slice (some ad402) t395.length co14 : Value).ownBlock)) k_ ∧ some k_ ≠ (u4 : Value).ownBlock) (Kd.R_apart' (Kd.R_apart' (HO405.out) (Kd.S_typed HO_3.out) (by decide)) (Kd.S_typed HO_4.out) (by decide)) (fun k_ hk=>⟨hk.1.2,hk.2⟩))).1 k_ hk_.symm) ?aF ?aO ?aB ?aS ?aL ?_;(case aP=>exact Kd.M_row (Kd.R_mono (Kd.R_tight rfl (Kd.R_mono (ok':=fun k_=>((fun k_=>some k_ ≠ (.slice (some ad402) t395.length co14 : Value).ownBlock)) k_ ∧ some k_ ≠ (u4 : Value).ownBlock) (Kd.R_apart' (Kd.R_apart' (HO405.out) (Kd.S_typed HO_3.out) (by decide)) (Kd.S_typed HO_4.out) (by decide)) (fun k_ hk=>⟨hk.1.2,hk.2⟩))) (fun _ h_=>h_)));(case aB=>exact bs);(case aF=>exact (fun k_ hk=>Kd.fresh' (Kd.S_lt (by (with_reducible repeat (first|apply Kd.S_alloc|apply Kd.S_drewN|apply Kd.S_drew));exact HO_3.out)) k_ hk));(case aO=>exact (by (with_reducible repeat (first|apply Kd.S_alloc|apply Kd.S_drewN|apply Kd.S_drew));exact Kd.S_mono HO_4.out (fun k_ hk=>⟨hk.1,fun e_=>hk.2 e_⟩)));(case aS=>exact (below_size bs));(case aL=>have:=LMc13.out;omega);intro v407 w16 ho hb hg hat;rw [← Ny406.out] at ho;have n0_:=Aside0.mk (Kd.S_after (ok:=(fun k_=>some k_ ≠ (.slice Ao17 t403.length co17 : Value).ownBlock)) (by (with_reducible repeat (first|apply Kd.S_alloc|apply Kd.S_drewN|apply Kd.S_drew));exact Kd.S_mono HO_3.out (fun _ hk=>⟨hk.2,hk.1⟩)) hg hat);have n1_:=Aside0.mk (blk_grown (g:=g0_) (o:=.cells #[.int .i64 a0_0,.slice A0_1 l0_1.length c0_1,.slice (some ad401) l0_2.length c0_2] 32 (0,0)) (kz BK0.out) hg (Kd.S_ne HO_4.out BK0.out (by decide)));have n2_:=Aside0.mk (Kd.R_after (ok:=(fun k_=>some k_ ≠ (.slice (some ad402) t395.length co14 : Value).ownBlock ∧ some k_ ≠ (.slice Ao17 t403.length co17 : Value).ownBlock)) (by (with_reducible repeat (first|apply Kd.R_alloc|apply Kd.R_drewN|apply Kd.R_drew));exact Kd.R_mono HL402_0.out (fun _ hk=>⟨⟨hk.1.2,hk.2⟩,hk.1.1⟩)) hg hat);have n3_:=Aside0.mk (hb);have n4_:=Aside0.mk (ho);clear HO_3 BK0 HL402_0 HB HO_4 HO405;have HO_3:=n0_;have BK0:=n1_;have HL402_0:=n2_;have HB:=n3_;have HO408:=n4_;clear n0_ n1_ n2_ n3_ n4_;clear ho hb hg hat))
         go_roundg k1
         case measure=>have:=HK1.out;omega
         case rel=>exact ⟨(y406),(wrap64 (x15_1 + 1)),fz,H',⟨by have:=HK1.out;omega⟩,⟨by (with_reducible repeat (first|apply Kd.S_alloc|apply Kd.S_drewN|apply Kd.S_drew));exact Kd.S_mono HO_3.out (fun _ hk=>hk.2)⟩,⟨by (with_reducible repeat (first|apply Kd.S_alloc|apply Kd.S_drewN|apply Kd.S_drew));exact HO408.out⟩,⟨by (with_reducible repeat (first|refine blk_drewN ?_ _|refine blk_drew ?_|refine blk_alloc ?_ _));exact BK0.out⟩,⟨by repeat (first|(with_reducible first|exact HB.out|apply below_alloc|apply pw_below_drewN|apply below_drew1|refine below_set ?_ GE0.out)|exact HB.out)⟩⟩
        ·rw [if_neg c13] at H
         exact absurd H (by simp)
       ·rw [if_neg c11] at H
        exact absurd H (by simp)
      ·rw [if_neg c10] at H
       exact absurd H (by simp)
     ·rw [if_neg c9] at H
      exact absurd H (by simp)
    ·rw [if_neg c8] at H
     exact absurd H (by simp)
   ·rw [if_neg c7] at H
    have c7b0 : decide (x15_1 < (l0_2.length : Int)) = false:=decide_eq_false c7
    clear c7
    obtain rfl:=Option.some.inj H
    go_wp2
    go_ret
    exact ⟨_,by first|rfl|(simp [errW_none,errW_some] <;> rfl)|(simp [*,errW_none,errW_some] <;> rfl),by (with_reducible repeat (first|apply Kd.S_alloc|apply Kd.S_drewN|apply Kd.S_drew));exact Kd.S_mono HO_4.out (fun _ hk=>trivial),by repeat (first|(with_reducible first|exact HB.out|apply below_alloc|apply pw_below_drewN|apply below_drew1|refine below_set ?_ GE0.out)|exact HB.out)⟩
/-! ### impl_OutputExponents: function 63 -/
def impl_OutputExponents.f (k : Nat) (a0_0 : Int) (l0_1 : List (S56)) (l0_2 : List Int) : Option ((List (List Int)) × Bool):=(impl_IsPlan.f k a0_0 l0_1 l0_2).bind fun t410=>(if t410 = true then ((impl_Plan_outputExponents.f k a0_0 l0_1 l0_2).bind fun t411=>(some (t411,true))) else (some (([] : List (List Int)),false)))
theorem impl_OutputExponents.mono : ∀ a0 a1 a2 k,LeO (impl_OutputExponents.f k a0 a1 a2) (impl_OutputExponents.f (k + 1) a0 a1 a2):=by
 intro a0 a1 a2 k
 unfold impl_OutputExponents.f
 repeat' first
   | (with_reducible exact impl_IsPlan.mono _ _ _ _)
   | (with_reducible exact impl_Plan_outputExponents.mono _ _ _ _)
   | (with_reducible exact LeO.refl _)
   | (with_reducible exact LeO.none _)
   | (with_reducible refine LeO.ite ?_ ?_)
   | (with_reducible refine LeO.bind ?_ (fun _=>?_))
   | exact impl_IsPlan.mono _ _ _ _
   | exact impl_Plan_outputExponents.mono _ _ _ _
   | exact LeO.none _
   | refine LeO.ite ?_ ?_
   | refine LeO.bind ?_ (fun _=>?_)
set_option maxHeartbeats 8000000 in
set_option maxRecDepth 100000 in
theorem impl_OutputExponents.calls (k : Nat) (a0_0 : Int) (A0_1 : Option Addr) (c0_1 : Nat) (l0_1 : List (S56)) (A0_2 : Option Addr) (c0_2 : Nat) (l0_2 : List Int) (r1 : List (List Int)) (r2 : Bool) (w : World) (hr0_1 : Kd.C k56 w A0_1 l0_1.length l0_1) (hc0_1 : l0_1.length ≤ c0_1) (hr0_2 : Kd.C (Kd.int .i64) w A0_2 l0_2.length l0_2) (hc0_2 : l0_2.length ≤ c0_2) (h : impl_OutputExponents.f k a0_0 l0_1 l0_2 = some (r1,r2)) :
  Calls Try.prog 63 #[.agg #[.int .i64 a0_0,.slice A0_1 l0_1.length c0_1,.slice A0_2 l0_2.length c0_2]] w fun e w'=>∃ v0_ : Value,e = .returned (.tuple #[v0_,.bool r2]) ∧ Kd.S (Kd.slice 3 (Kd.int .i64)) 24 w' w.heap.size (fun _=>True) v0_ r1 ∧ Below w.heap.size w w':=by
 have hu32:=Try.underlying32
 have HR0_1:=Aside0.mk hr0_1
 have HC0_1:=Aside0.mk hc0_1
 clear hr0_1 hc0_1
 have HR0_2:=Aside0.mk hr0_2
 have HC0_2:=Aside0.mk hc0_2
 clear hr0_2 hc0_2
 have HB:=Aside0.mk (Below.refl w.heap.size w)
 have H : ((impl_IsPlan.f k a0_0 l0_1 l0_2).bind fun t410=>(if t410 = true then ((impl_Plan_outputExponents.f k a0_0 l0_1 l0_2).bind fun t411=>(some (t411,true))) else (some (([] : List (List Int)),false)))) = some (r1,r2):=h
 clear h
 obtain ⟨t410,A2,H⟩:=bd H
 by_cases c3 : t410 = true
 ·subst c3
  rw [if_pos rfl] at H
  obtain ⟨t411,A4,H⟩:=bd H
  simp only [Option.some.injEq,Prod.mk.injEq] at H
  obtain ⟨rfl,rfl⟩:=H
  go_enter Try.func63,Try.ntmps63
  go_wp2_with (first|((with_reducible refine gate_dst (N:=1) rfl ?_);refine box_event ?hg (N:=1) ?hd (cs:=#[.int .i64 a0_0,.slice A0_1 l0_1.length c0_1,.slice A0_2 l0_2.length c0_2]) (t:=32) ?hr ?_;(case hd=>rfl);(case hg=>rfl);(case hr=>first|(go_simp;done)|(go_simp;rfl));intro gb409 hg w5 hbox hb;have n0_:=Aside0.mk (below_step bz hb);have n1_:=Aside0.mk (hbox);have n2_:=Aside0.mk ((by rw [hg];exact (below_size bz) : w.heap.size ≤ gb409));have n3_:=Aside0.mk ((by rw [hg];exact (below_size bz) : w.heap.size ≤ gb409));clear HB;have HB:=n0_;have BK409:=n1_;have GW409:=n2_;have GE409:=n3_;clear n0_ n1_ n2_ n3_;clear hb hbox hg;have hcz6_0 : w5.cell? ⟨gb409,0,none⟩ = some (.int .i64 a0_0):=(blk_cell BK409.out 0).trans rfl;have hcz6_1 : w5.cell? ⟨gb409,1,none⟩ = some (.slice A0_1 l0_1.length c0_1):=(blk_cell BK409.out 1).trans rfl;have hcz6_2 : w5.cell? ⟨gb409,2,none⟩ = some (.slice A0_2 l0_2.length c0_2):=(blk_cell BK409.out 2).trans rfl;have hfz6_0:=blk_frozen BK409.out 0;have hfz6_1:=blk_frozen BK409.out 1;have hfz6_2:=blk_frozen BK409.out 2)|((with_reducible refine gate_callee (f:=39) rfl ?_);refine goesL_ (some 5) rfl rfl Try.func39 (by kernel_rfl) rfl #[.agg #[.int .i64 a0_0,.slice A0_1 l0_1.length c0_1,.slice A0_2 l0_2.length c0_2]] rfl mz ?_;(with_reducible refine (impl_IsPlan.calls k a0_0 _ _ l0_1 _ _ l0_2 true _ ?side1 ?side2 ?side3 ?side4 A2.out).mono ?_);(case side1=>exact cz (Kd.C_below HR0_1.out HB.out));(case side2=>exact HC0_1.out);(case side3=>exact cz (Kd.C_below HR0_2.out HB.out));(case side4=>exact HC0_2.out);rintro e w7 ⟨rfl,hb⟩;refine ⟨_,rfl,?_⟩;have n0_:=Aside0.mk (blk_below (g:=gb409) (o:=.cells #[.int .i64 a0_0,.slice A0_1 l0_1.length c0_1,.slice A0_2 l0_2.length c0_2] 32 (0,0)) (kz BK409.out) hb);have n1_:=Aside0.mk (below_step bs hb);clear BK409 HB;have BK409:=n0_;have HB:=n1_;clear n0_ n1_;(try clear hb))|((with_reducible refine gate_callee (f:=89) rfl ?_);refine goesL_ (some 7) rfl rfl Try.func89 (by kernel_rfl) rfl #[.pointer (some ⟨gb409,0,none⟩)] rfl mz ?_;(with_reducible refine (impl_Plan_outputExponents.calls k gb409 a0_0 A0_1 c0_1 l0_1 A0_2 c0_2 l0_2 t411 _ ?side1 ?side2 ?side3 ?side4 ?side5 A4.out).mono ?_);(case side1=>exact by (with_reducible repeat (first|refine blk_drewN ?_ _|refine blk_drew ?_|refine blk_alloc ?_ _));exact BK409.out);(case side2=>exact cz (Kd.C_below HR0_1.out HB.out));(case side3=>exact HC0_1.out);(case side4=>exact cz (Kd.C_below HR0_2.out HB.out));(case side5=>exact HC0_2.out);rintro e w8 ⟨v412,rfl,ho0,hb⟩;refine ⟨_,rfl,?_⟩;have n0_:=Aside0.mk (Kd.S_lower ho0 (below_size bs));have n1_:=Aside0.mk (blk_below (g:=gb409) (o:=.cells #[.int .i64 a0_0,.slice A0_1 l0_1.length c0_1,.slice A0_2 l0_2.length c0_2] 32 (0,0)) (kz BK409.out) hb);have n2_:=Aside0.mk (below_step bs hb);clear BK409 HB;have HO413:=n0_;have BK409:=n1_;have HB:=n2_;clear n0_ n1_ n2_;(try clear hb);(try clear ho0)))
  go_ret2
  exact ⟨_,by first|rfl|(simp [errW_none,errW_some] <;> rfl)|(simp [*,errW_none,errW_some] <;> rfl),by (with_reducible repeat (first|apply Kd.S_alloc|apply Kd.S_drewN|apply Kd.S_drew));exact HO413.out,by repeat (first|(with_reducible first|exact HB.out|apply below_alloc|apply pw_below_drewN|apply below_drew1|refine below_set ?_ GE409.out)|exact HB.out)⟩
 ·replace c3:=Bool.eq_false_iff.mpr c3
  subst c3
  rw [if_neg (show ¬ (false = true) by decide)] at H
  simp only [Option.some.injEq,Prod.mk.injEq] at H
  obtain ⟨rfl,rfl⟩:=H
  go_enter Try.func63,Try.ntmps63
  go_wp2_with (first|((with_reducible refine gate_dst (N:=1) rfl ?_);refine box_event ?hg (N:=1) ?hd (cs:=#[.int .i64 a0_0,.slice A0_1 l0_1.length c0_1,.slice A0_2 l0_2.length c0_2]) (t:=32) ?hr ?_;(case hd=>rfl);(case hg=>rfl);(case hr=>first|(go_simp;done)|(go_simp;rfl));intro gb409 hg w9 hbox hb;have n0_:=Aside0.mk (below_step bz hb);have n1_:=Aside0.mk (hbox);have n2_:=Aside0.mk ((by rw [hg];exact (below_size bz) : w.heap.size ≤ gb409));have n3_:=Aside0.mk ((by rw [hg];exact (below_size bz) : w.heap.size ≤ gb409));clear HB;have HB:=n0_;have BK409:=n1_;have GW409:=n2_;have GE409:=n3_;clear n0_ n1_ n2_ n3_;clear hb hbox hg;have hcz10_0 : w9.cell? ⟨gb409,0,none⟩ = some (.int .i64 a0_0):=(blk_cell BK409.out 0).trans rfl;have hcz10_1 : w9.cell? ⟨gb409,1,none⟩ = some (.slice A0_1 l0_1.length c0_1):=(blk_cell BK409.out 1).trans rfl;have hcz10_2 : w9.cell? ⟨gb409,2,none⟩ = some (.slice A0_2 l0_2.length c0_2):=(blk_cell BK409.out 2).trans rfl;have hfz10_0:=blk_frozen BK409.out 0;have hfz10_1:=blk_frozen BK409.out 1;have hfz10_2:=blk_frozen BK409.out 2)|((with_reducible refine gate_callee (f:=39) rfl ?_);refine goesL_ (some 5) rfl rfl Try.func39 (by kernel_rfl) rfl #[.agg #[.int .i64 a0_0,.slice A0_1 l0_1.length c0_1,.slice A0_2 l0_2.length c0_2]] rfl mz ?_;(with_reducible refine (impl_IsPlan.calls k a0_0 _ _ l0_1 _ _ l0_2 false _ ?side1 ?side2 ?side3 ?side4 A2.out).mono ?_);(case side1=>exact cz (Kd.C_below HR0_1.out HB.out));(case side2=>exact HC0_1.out);(case side3=>exact cz (Kd.C_below HR0_2.out HB.out));(case side4=>exact HC0_2.out);rintro e w11 ⟨rfl,hb⟩;refine ⟨_,rfl,?_⟩;have n0_:=Aside0.mk (blk_below (g:=gb409) (o:=.cells #[.int .i64 a0_0,.slice A0_1 l0_1.length c0_1,.slice A0_2 l0_2.length c0_2] 32 (0,0)) (kz BK409.out) hb);have n1_:=Aside0.mk (below_step bs hb);clear BK409 HB;have BK409:=n0_;have HB:=n1_;clear n0_ n1_;(try clear hb)))
  go_ret2
  exact ⟨_,by first|rfl|(simp [errW_none,errW_some] <;> rfl)|(simp [*,errW_none,errW_some] <;> rfl),by first|exact Kd.S_nil _ _ _ _ _|exact Kd.N_nil _ _ _ _ _|exact Kd.V_nil _ _ _ _ _|exact Kd.Q_nil _ _ _ _ _|exact Kd.R_nil _ _ _ _ _,by repeat (first|(with_reducible first|exact HB.out|apply below_alloc|apply pw_below_drewN|apply below_drew1|refine below_set ?_ GE409.out)|exact HB.out)⟩
/-! ### laws_pEnds: function 29 -/
def laws_pEnds.f (k : Nat) (a0_0 : Int) (l0_1 : List (S56)) (l0_2 : List Int) (a1 : Int) : Option (Bool):=(impl_OutputExponents.f k a0_0 l0_1 l0_2).bind fun bt415=>(if bt415.2 = true then (if (bt415.1.length : Int) = 1 then (if 0 < (bt415.1.length : Int) then (if ((rd_L3 bt415.1 0).length : Int) = 1 then (if 0 < ((rd_L3 bt415.1 0).length : Int) then (some ((rd (rd_L3 bt415.1 0) 0) == a1)) else (none)) else (some false)) else (none)) else (some false)) else (some false))
theorem laws_pEnds.mono : ∀ a0 a1 a2 a3 k,LeO (laws_pEnds.f k a0 a1 a2 a3) (laws_pEnds.f (k + 1) a0 a1 a2 a3):=by
 intro a0 a1 a2 a3 k
 unfold laws_pEnds.f
 repeat' first
   | (with_reducible exact impl_OutputExponents.mono _ _ _ _)
   | (with_reducible exact LeO.refl _)
   | (with_reducible exact LeO.none _)
   | (with_reducible refine LeO.ite ?_ ?_)
   | (with_reducible refine LeO.bind ?_ (fun _=>?_))
   | exact impl_OutputExponents.mono _ _ _ _
   | exact LeO.none _
   | refine LeO.ite ?_ ?_
   | refine LeO.bind ?_ (fun _=>?_)
set_option maxHeartbeats 8000000 in
set_option maxRecDepth 100000 in
theorem laws_pEnds.calls (k : Nat) (a0_0 : Int) (A0_1 : Option Addr) (c0_1 : Nat) (l0_1 : List (S56)) (A0_2 : Option Addr) (c0_2 : Nat) (l0_2 : List Int) (a1 : Int) (r : Bool) (w : World) (hr0_1 : Kd.C k56 w A0_1 l0_1.length l0_1) (hc0_1 : l0_1.length ≤ c0_1) (hr0_2 : Kd.C (Kd.int .i64) w A0_2 l0_2.length l0_2) (hc0_2 : l0_2.length ≤ c0_2) (h : laws_pEnds.f k a0_0 l0_1 l0_2 a1 = some r) :
  Calls Try.prog 29 #[.agg #[.int .i64 a0_0,.slice A0_1 l0_1.length c0_1,.slice A0_2 l0_2.length c0_2],.int .i64 a1] w fun e w'=>e = .returned (.bool r) ∧ Below w.heap.size w w':=by
 have hu32:=Try.underlying32
 have HR0_1:=Aside0.mk hr0_1
 have HC0_1:=Aside0.mk hc0_1
 clear hr0_1 hc0_1
 have HR0_2:=Aside0.mk hr0_2
 have HC0_2:=Aside0.mk hc0_2
 clear hr0_2 hc0_2
 have HB:=Aside0.mk (Below.refl w.heap.size w)
 have H : ((impl_OutputExponents.f k a0_0 l0_1 l0_2).bind fun bt415=>(if bt415.2 = true then (if (bt415.1.length : Int) = 1 then (if 0 < (bt415.1.length : Int) then (if ((rd_L3 bt415.1 0).length : Int) = 1 then (if 0 < ((rd_L3 bt415.1 0).length : Int) then (some ((rd (rd_L3 bt415.1 0) 0) == a1)) else (none)) else (some false)) else (none)) else (some false)) else (some false))) = some r:=h
 clear h
 replace H:=Option.bind_eq_some_iff.mp H
 obtain ⟨⟨t415,t418⟩,A30,H⟩:=H
 replace H : (if t418 = true then (if (t415.length : Int) = 1 then (if 0 < (t415.length : Int) then (if ((rd_L3 t415 0).length : Int) = 1 then (if 0 < ((rd_L3 t415 0).length : Int) then (some ((rd (rd_L3 t415 0) 0) == a1)) else (none)) else (some false)) else (none)) else (some false)) else (some false)) = some r:=H
 have A3:=Aside0.mk A30
 clear A30
 by_cases c4 : t418 = true
 ·subst c4
  rw [if_pos rfl] at H
  by_cases c5 : (t415.length : Int) = 1
  ·rw [if_pos c5] at H
   have c5b0 : ((t415.length : Int) == 1) = true:=beq_iff_eq.mpr c5
   have c5b1 : ((t415.length : Int) != 1) = false:=bne_eq_false_iff_eq.mpr c5
   clear c5
   by_cases c6 : 0 < (t415.length : Int)
   ·rw [if_pos c6] at H
    have c6b0 : decide (0 < (t415.length : Int)) = true:=decide_eq_true c6
    have c6b1 : decide (0 < t415.length) = true:=decide_eq_true (by omega)
    clear c6
    by_cases c7 : ((rd_L3 t415 0).length : Int) = 1
    ·rw [if_pos c7] at H
     have c7b0 : (((rd_L3 t415 0).length : Int) == 1) = true:=beq_iff_eq.mpr c7
     have c7b1 : (((rd_L3 t415 0).length : Int) != 1) = false:=bne_eq_false_iff_eq.mpr c7
     clear c7
     by_cases c8 : 0 < ((rd_L3 t415 0).length : Int)
     ·rw [if_pos c8] at H
      have c8b0 : decide (0 < ((rd_L3 t415 0).length : Int)) = true:=decide_eq_true c8
      have c8b1 : decide (0 < (rd_L3 t415 0).length) = true:=decide_eq_true (by omega)
      clear c8
      obtain rfl:=Option.some.inj H
      go_enter Try.func29,Try.ntmps29
      go_wp2_with (first|((with_reducible refine gate_dst (N:=2) rfl ?_);(try (refine gate_guard (by rfl) ?_;dsimp only));refine box_event ?hg (N:=2) ?hd (cs:=#[.int .i64 a0_0,.slice A0_1 l0_1.length c0_1,.slice A0_2 l0_2.length c0_2]) (t:=32) ?hr ?_;(case hd=>rfl);(case hg=>rfl);(case hr=>first|(go_simp;done)|(go_simp;rfl));intro gb414 hg w9 hbox hb;have n0_:=Aside0.mk (below_step bz hb);have n1_:=Aside0.mk (hbox);have n2_:=Aside0.mk ((by rw [hg];exact (below_size bz) : w.heap.size ≤ gb414));have n3_:=Aside0.mk ((by rw [hg];exact (below_size bz) : w.heap.size ≤ gb414));clear HB;have HB:=n0_;have BK414:=n1_;have GW414:=n2_;have GE414:=n3_;clear n0_ n1_ n2_ n3_;clear hb hbox hg;have hcz10_0 : w9.cell? ⟨gb414,0,none⟩ = some (.int .i64 a0_0):=(blk_cell BK414.out 0).trans rfl;have hcz10_1 : w9.cell? ⟨gb414,1,none⟩ = some (.slice A0_1 l0_1.length c0_1):=(blk_cell BK414.out 1).trans rfl;have hcz10_2 : w9.cell? ⟨gb414,2,none⟩ = some (.slice A0_2 l0_2.length c0_2):=(blk_cell BK414.out 2).trans rfl;have hfz10_0:=blk_frozen BK414.out 0;have hfz10_1:=blk_frozen BK414.out 1;have hfz10_2:=blk_frozen BK414.out 2)|((with_reducible refine gate_callee (f:=63) rfl ?_);refine goesL_ (some 9) rfl rfl Try.func63 (by kernel_rfl) rfl #[.agg #[.int .i64 a0_0,.slice A0_1 l0_1.length c0_1,.slice A0_2 l0_2.length c0_2]] rfl mz ?_;(with_reducible refine (impl_OutputExponents.calls k a0_0 _ _ l0_1 _ _ l0_2 t415 true _ ?side1 ?side2 ?side3 ?side4 A3.out).mono ?_);(case side1=>exact cz (Kd.C_below HR0_1.out HB.out));(case side2=>exact HC0_1.out);(case side3=>exact cz (Kd.C_below HR0_2.out HB.out));(case side4=>exact HC0_2.out);rintro e w11 ⟨v416,rfl,ho0,hb⟩;refine ⟨_,rfl,?_⟩;have n0_:=Aside0.mk (Kd.S_lower ho0 (below_size bs));have n1_:=Aside0.mk (blk_below (g:=gb414) (o:=.cells #[.int .i64 a0_0,.slice A0_1 l0_1.length c0_1,.slice A0_2 l0_2.length c0_2] 32 (0,0)) (kz BK414.out) hb);have n2_:=Aside0.mk (below_step bs hb);clear BK414 HB;have HO417:=n0_;have BK414:=n1_;have HB:=n2_;clear n0_ n1_ n2_;(try clear hb);(try clear ho0);obtain ⟨Ao12,co12,eo12⟩:=Kd.S_slice HO417.out;subst eo12;have p419 : 0 ≤ (0 : Int):=(by omega);have q419 : 0 < (t415.length : Int):=of_decide_eq_true az;obtain ⟨ad419,A419_0,c419_0,e419,hx419_0,hl419_0,hi419_0⟩:=at_L3 (Kd.S_reads' HO417.out).2.2 0 p419 q419;cases e419;obtain ⟨ce419,hce419,hMe419,hcc419⟩:=Kd.S_get HO417.out [] 0 p419 (by first|exact q419|exact of_decide_eq_true az|(have e_:=(Kd.S_reads' HO417.out).1;omega));obtain ⟨ve419_0,rfl,ge419_0⟩:=hMe419;have hv419_0:=hcc419 0 _ rfl;rw [Nat.add_zero,show ((Kd.slice 3 (Kd.int .i64))).sz = 1 from rfl,Nat.mul_one] at hv419_0;replace hv419_0:=Option.some.inj (hv419_0.symm.trans hx419_0);rw [hv419_0] at ge419_0;have HL419_0:=Aside0.mk (show Kd.R (Kd.int .i64) 3 _ _ _ _ (rd_L3 t415 0) from ge419_0);clear hv419_0 ge419_0;clear hcc419 hce419;have qi419 : (0 < t415.length) = True:=eq_true (by omega);(try rw [show ((0 : Int)).toNat = 0 from rfl] at hx419_0);(try rw [Addr.add_zero'] at hx419_0);have HR419_0:=Aside0.mk hi419_0;have HC419_0:=Aside0.mk hl419_0;clear hi419_0 hl419_0;replace p419:=eq_true p419;replace q419:=eq_true q419;have p420 : 0 ≤ (0 : Int):=(by omega);have q420 : 0 < (t415.length : Int):=of_decide_eq_true az;obtain ⟨ad420,A420_0,c420_0,e420,hx420_0,hl420_0,hi420_0⟩:=at_L3 (Kd.S_reads' HO417.out).2.2 0 p420 q420;obtain rfl : ad419 = ad420:=(by injection e420);obtain ⟨ce420,hce420,hMe420,hcc420⟩:=Kd.S_get HO417.out [] 0 p420 (by first|exact q420|exact of_decide_eq_true az|(have e_:=(Kd.S_reads' HO417.out).1;omega));obtain ⟨ve420_0,rfl,ge420_0⟩:=hMe420;have hv420_0:=hcc420 0 _ rfl;rw [Nat.add_zero,show ((Kd.slice 3 (Kd.int .i64))).sz = 1 from rfl,Nat.mul_one] at hv420_0;replace hv420_0:=Option.some.inj (hv420_0.symm.trans hx420_0);rw [hv420_0] at ge420_0;have HL420_0:=Aside0.mk (show Kd.R (Kd.int .i64) 3 _ _ _ _ (rd_L3 t415 0) from ge420_0);clear hv420_0 ge420_0;clear hcc420 hce420;have qi420 : (0 < t415.length) = True:=eq_true (by omega);(try rw [show ((0 : Int)).toNat = 0 from rfl] at hx420_0);(try rw [Addr.add_zero'] at hx420_0);have HR420_0:=Aside0.mk hi420_0;have HC420_0:=Aside0.mk hl420_0;clear hi420_0 hl420_0;replace p420:=eq_true p420;replace q420:=eq_true q420;have ea_:=Option.some.inj (hx419_0.symm.trans hx420_0);injection ea_ with ea_ en_ ec_;subst ea_;subst ec_;clear en_;have p421 : 0 ≤ (0 : Int):=(by omega);have q421 : 0 < ((rd_L3 t415 0).length : Int):=of_decide_eq_true az;obtain ⟨ad421,e421,hx421_0⟩:=Kd.at_int (by repeat (first|(with_reducible exact HR420_0.out)|(with_reducible refine Kd.C_alloc ?_ _)|(with_reducible refine Kd.C_drewN ?_ _)|(with_reducible refine Kd.C_drew ?_)|exact HR420_0.out)) 0 p421 q421;cases e421;have qi421 : (0 < (rd_L3 t415 0).length) = True:=eq_true (by omega);(try rw [show ((0 : Int)).toNat = 0 from rfl] at hx421_0);(try rw [Addr.add_zero'] at hx421_0);replace p421:=eq_true p421;replace q421:=eq_true q421))
      go_ret
      exact ⟨by first|rfl|(simp [errW_none,errW_some] <;> rfl)|(simp [*,errW_none,errW_some] <;> rfl),by repeat (first|(with_reducible first|exact HB.out|apply below_alloc|apply pw_below_drewN|apply below_drew1|refine below_set ?_ GE414.out)|exact HB.out)⟩
     ·rw [if_neg c8] at H
      exact absurd H (by simp)
    ·rw [if_neg c7] at H
     have c7b0 : (((rd_L3 t415 0).length : Int) == 1) = false:=beq_eq_false_iff_ne.mpr c7
     have c7b1 : (((rd_L3 t415 0).length : Int) != 1) = true:=bne_iff_ne.mpr c7
     obtain rfl:=Option.some.inj H
     go_enter Try.func29,Try.ntmps29
     go_wp2_with (first|((with_reducible refine gate_dst (N:=2) rfl ?_);(try (refine gate_guard (by rfl) ?_;dsimp only));refine box_event ?hg (N:=2) ?hd (cs:=#[.int .i64 a0_0,.slice A0_1 l0_1.length c0_1,.slice A0_2 l0_2.length c0_2]) (t:=32) ?hr ?_;(case hd=>rfl);(case hg=>rfl);(case hr=>first|(go_simp;done)|(go_simp;rfl));intro gb414 hg w13 hbox hb;have n0_:=Aside0.mk (below_step bz hb);have n1_:=Aside0.mk (hbox);have n2_:=Aside0.mk ((by rw [hg];exact (below_size bz) : w.heap.size ≤ gb414));have n3_:=Aside0.mk ((by rw [hg];exact (below_size bz) : w.heap.size ≤ gb414));clear HB;have HB:=n0_;have BK414:=n1_;have GW414:=n2_;have GE414:=n3_;clear n0_ n1_ n2_ n3_;clear hb hbox hg;have hcz14_0 : w13.cell? ⟨gb414,0,none⟩ = some (.int .i64 a0_0):=(blk_cell BK414.out 0).trans rfl;have hcz14_1 : w13.cell? ⟨gb414,1,none⟩ = some (.slice A0_1 l0_1.length c0_1):=(blk_cell BK414.out 1).trans rfl;have hcz14_2 : w13.cell? ⟨gb414,2,none⟩ = some (.slice A0_2 l0_2.length c0_2):=(blk_cell BK414.out 2).trans rfl;have hfz14_0:=blk_frozen BK414.out 0;have hfz14_1:=blk_frozen BK414.out 1;have hfz14_2:=blk_frozen BK414.out 2)|((with_reducible refine gate_callee (f:=63) rfl ?_);refine goesL_ (some 9) rfl rfl Try.func63 (by kernel_rfl) rfl #[.agg #[.int .i64 a0_0,.slice A0_1 l0_1.length c0_1,.slice A0_2 l0_2.length c0_2]] rfl mz ?_;(with_reducible refine (impl_OutputExponents.calls k a0_0 _ _ l0_1 _ _ l0_2 t415 true _ ?side1 ?side2 ?side3 ?side4 A3.out).mono ?_);(case side1=>exact cz (Kd.C_below HR0_1.out HB.out));(case side2=>exact HC0_1.out);(case side3=>exact cz (Kd.C_below HR0_2.out HB.out));(case side4=>exact HC0_2.out);rintro e w15 ⟨v416,rfl,ho0,hb⟩;refine ⟨_,rfl,?_⟩;have n0_:=Aside0.mk (Kd.S_lower ho0 (below_size bs));have n1_:=Aside0.mk (blk_below (g:=gb414) (o:=.cells #[.int .i64 a0_0,.slice A0_1 l0_1.length c0_1,.slice A0_2 l0_2.length c0_2] 32 (0,0)) (kz BK414.out) hb);have n2_:=Aside0.mk (below_step bs hb);clear BK414 HB;have HO417:=n0_;have BK414:=n1_;have HB:=n2_;clear n0_ n1_ n2_;(try clear hb);(try clear ho0);obtain ⟨Ao16,co16,eo16⟩:=Kd.S_slice HO417.out;subst eo16;have p419 : 0 ≤ (0 : Int):=(by omega);have q419 : 0 < (t415.length : Int):=of_decide_eq_true az;obtain ⟨ad419,A419_0,c419_0,e419,hx419_0,hl419_0,hi419_0⟩:=at_L3 (Kd.S_reads' HO417.out).2.2 0 p419 q419;cases e419;obtain ⟨ce419,hce419,hMe419,hcc419⟩:=Kd.S_get HO417.out [] 0 p419 (by first|exact q419|exact of_decide_eq_true az|(have e_:=(Kd.S_reads' HO417.out).1;omega));obtain ⟨ve419_0,rfl,ge419_0⟩:=hMe419;have hv419_0:=hcc419 0 _ rfl;rw [Nat.add_zero,show ((Kd.slice 3 (Kd.int .i64))).sz = 1 from rfl,Nat.mul_one] at hv419_0;replace hv419_0:=Option.some.inj (hv419_0.symm.trans hx419_0);rw [hv419_0] at ge419_0;have HL419_0:=Aside0.mk (show Kd.R (Kd.int .i64) 3 _ _ _ _ (rd_L3 t415 0) from ge419_0);clear hv419_0 ge419_0;clear hcc419 hce419;have qi419 : (0 < t415.length) = True:=eq_true (by omega);(try rw [show ((0 : Int)).toNat = 0 from rfl] at hx419_0);(try rw [Addr.add_zero'] at hx419_0);have HR419_0:=Aside0.mk hi419_0;have HC419_0:=Aside0.mk hl419_0;clear hi419_0 hl419_0;replace p419:=eq_true p419;replace q419:=eq_true q419))
     go_ret
     exact ⟨by first|rfl|(simp [errW_none,errW_some] <;> rfl)|(simp [*,errW_none,errW_some] <;> rfl),by repeat (first|(with_reducible first|exact HB.out|apply below_alloc|apply pw_below_drewN|apply below_drew1|refine below_set ?_ GE414.out)|exact HB.out)⟩
   ·rw [if_neg c6] at H
    exact absurd H (by simp)
  ·rw [if_neg c5] at H
   have c5b0 : ((t415.length : Int) == 1) = false:=beq_eq_false_iff_ne.mpr c5
   have c5b1 : ((t415.length : Int) != 1) = true:=bne_iff_ne.mpr c5
   obtain rfl:=Option.some.inj H
   go_enter Try.func29,Try.ntmps29
   go_wp2_with (first|((with_reducible refine gate_dst (N:=2) rfl ?_);(try (refine gate_guard (by rfl) ?_;dsimp only));refine box_event ?hg (N:=2) ?hd (cs:=#[.int .i64 a0_0,.slice A0_1 l0_1.length c0_1,.slice A0_2 l0_2.length c0_2]) (t:=32) ?hr ?_;(case hd=>rfl);(case hg=>rfl);(case hr=>first|(go_simp;done)|(go_simp;rfl));intro gb414 hg w17 hbox hb;have n0_:=Aside0.mk (below_step bz hb);have n1_:=Aside0.mk (hbox);have n2_:=Aside0.mk ((by rw [hg];exact (below_size bz) : w.heap.size ≤ gb414));have n3_:=Aside0.mk ((by rw [hg];exact (below_size bz) : w.heap.size ≤ gb414));clear HB;have HB:=n0_;have BK414:=n1_;have GW414:=n2_;have GE414:=n3_;clear n0_ n1_ n2_ n3_;clear hb hbox hg;have hcz18_0 : w17.cell? ⟨gb414,0,none⟩ = some (.int .i64 a0_0):=(blk_cell BK414.out 0).trans rfl;have hcz18_1 : w17.cell? ⟨gb414,1,none⟩ = some (.slice A0_1 l0_1.length c0_1):=(blk_cell BK414.out 1).trans rfl;have hcz18_2 : w17.cell? ⟨gb414,2,none⟩ = some (.slice A0_2 l0_2.length c0_2):=(blk_cell BK414.out 2).trans rfl;have hfz18_0:=blk_frozen BK414.out 0;have hfz18_1:=blk_frozen BK414.out 1;have hfz18_2:=blk_frozen BK414.out 2)|((with_reducible refine gate_callee (f:=63) rfl ?_);refine goesL_ (some 9) rfl rfl Try.func63 (by kernel_rfl) rfl #[.agg #[.int .i64 a0_0,.slice A0_1 l0_1.length c0_1,.slice A0_2 l0_2.length c0_2]] rfl mz ?_;(with_reducible refine (impl_OutputExponents.calls k a0_0 _ _ l0_1 _ _ l0_2 t415 true _ ?side1 ?side2 ?side3 ?side4 A3.out).mono ?_);(case side1=>exact cz (Kd.C_below HR0_1.out HB.out));(case side2=>exact HC0_1.out);(case side3=>exact cz (Kd.C_below HR0_2.out HB.out));(case side4=>exact HC0_2.out);rintro e w19 ⟨v416,rfl,ho0,hb⟩;refine ⟨_,rfl,?_⟩;have n0_:=Aside0.mk (Kd.S_lower ho0 (below_size bs));have n1_:=Aside0.mk (blk_below (g:=gb414) (o:=.cells #[.int .i64 a0_0,.slice A0_1 l0_1.length c0_1,.slice A0_2 l0_2.length c0_2] 32 (0,0)) (kz BK414.out) hb);have n2_:=Aside0.mk (below_step bs hb);clear BK414 HB;have HO417:=n0_;have BK414:=n1_;have HB:=n2_;clear n0_ n1_ n2_;(try clear hb);(try clear ho0);obtain ⟨Ao20,co20,eo20⟩:=Kd.S_slice HO417.out;subst eo20))
   go_ret
   exact ⟨by first|rfl|(simp [errW_none,errW_some] <;> rfl)|(simp [*,errW_none,errW_some] <;> rfl),by repeat (first|(with_reducible first|exact HB.out|apply below_alloc|apply pw_below_drewN|apply below_drew1|refine below_set ?_ GE414.out)|exact HB.out)⟩
 ·replace c4:=Bool.eq_false_iff.mpr c4
  subst c4
  rw [if_neg (show ¬ (false = true) by decide)] at H
  obtain rfl:=Option.some.inj H
  go_enter Try.func29,Try.ntmps29
  go_wp2_with (first|((with_reducible refine gate_dst (N:=2) rfl ?_);(try (refine gate_guard (by rfl) ?_;dsimp only));refine box_event ?hg (N:=2) ?hd (cs:=#[.int .i64 a0_0,.slice A0_1 l0_1.length c0_1,.slice A0_2 l0_2.length c0_2]) (t:=32) ?hr ?_;(case hd=>rfl);(case hg=>rfl);(case hr=>first|(go_simp;done)|(go_simp;rfl));intro gb414 hg w21 hbox hb;have n0_:=Aside0.mk (below_step bz hb);have n1_:=Aside0.mk (hbox);have n2_:=Aside0.mk ((by rw [hg];exact (below_size bz) : w.heap.size ≤ gb414));have n3_:=Aside0.mk ((by rw [hg];exact (below_size bz) : w.heap.size ≤ gb414));clear HB;have HB:=n0_;have BK414:=n1_;have GW414:=n2_;have GE414:=n3_;clear n0_ n1_ n2_ n3_;clear hb hbox hg;have hcz22_0 : w21.cell? ⟨gb414,0,none⟩ = some (.int .i64 a0_0):=(blk_cell BK414.out 0).trans rfl;have hcz22_1 : w21.cell? ⟨gb414,1,none⟩ = some (.slice A0_1 l0_1.length c0_1):=(blk_cell BK414.out 1).trans rfl;have hcz22_2 : w21.cell? ⟨gb414,2,none⟩ = some (.slice A0_2 l0_2.length c0_2):=(blk_cell BK414.out 2).trans rfl;have hfz22_0:=blk_frozen BK414.out 0;have hfz22_1:=blk_frozen BK414.out 1;have hfz22_2:=blk_frozen BK414.out 2)|((with_reducible refine gate_callee (f:=63) rfl ?_);refine goesL_ (some 9) rfl rfl Try.func63 (by kernel_rfl) rfl #[.agg #[.int .i64 a0_0,.slice A0_1 l0_1.length c0_1,.slice A0_2 l0_2.length c0_2]] rfl mz ?_;(with_reducible refine (impl_OutputExponents.calls k a0_0 _ _ l0_1 _ _ l0_2 t415 false _ ?side1 ?side2 ?side3 ?side4 A3.out).mono ?_);(case side1=>exact cz (Kd.C_below HR0_1.out HB.out));(case side2=>exact HC0_1.out);(case side3=>exact cz (Kd.C_below HR0_2.out HB.out));(case side4=>exact HC0_2.out);rintro e w23 ⟨v416,rfl,ho0,hb⟩;refine ⟨_,rfl,?_⟩;have n0_:=Aside0.mk (Kd.S_lower ho0 (below_size bs));have n1_:=Aside0.mk (blk_below (g:=gb414) (o:=.cells #[.int .i64 a0_0,.slice A0_1 l0_1.length c0_1,.slice A0_2 l0_2.length c0_2] 32 (0,0)) (kz BK414.out) hb);have n2_:=Aside0.mk (below_step bs hb);clear BK414 HB;have HO417:=n0_;have BK414:=n1_;have HB:=n2_;clear n0_ n1_ n2_;(try clear hb);(try clear ho0)))
  go_ret
  exact ⟨by first|rfl|(simp [errW_none,errW_some] <;> rfl)|(simp [*,errW_none,errW_some] <;> rfl),by repeat (first|(with_reducible first|exact HB.out|apply below_alloc|apply pw_below_drewN|apply below_drew1|refine below_set ?_ GE414.out)|exact HB.out)⟩
end Go.Proofs.Ytlefjgpkabijdaa.MFnScaledChains
--sq
