import Derived.Test.YtdcdaoancmpbeaaMFnExactSharePlanx0
import Derived.Test.YtdcdaoancmpbeaaMFnExactSharePlanx11
import Derived.Test.YtdcdaoancmpbeaaMFnExactSharePlanx13
import Derived.Test.YtdcdaoancmpbeaaMFnExactSharePlanx14
namespace Go.Proofs.Ytdcdaoancmpbeaa.MFnExactSharePlan
open Go.RowKit Go.Proofs.YtdcdaoancmpbeaaW.PrintWords Go.Proofs.YtdcdaoancmpbeaaW.PrintLast Go.Proofs.YtdcdaoancmpbeaaW.PrintMore Go.Proofs.YtdcdaoancmpbeaaV Go.Proofs.YtdcdaoancmpbeaaZ
attribute [local go_sem] max2_int min2_int max_two min_two max_three min_three max_four min_four   -- for this text's walks alone
set_option linter.unusedVariables false
set_option linter.unusedSimpArgs false
/-! ### impl_SharePlan: function 25 -/
def impl_SharePlan.l0 : Nat → List Int → List (S73) → Int → Int → Int → List (S73) → List Int → Option (Int × (List (S73)) × List Int × Bool)
 | 0,_,_,_,_,_,_,_=>none
 | k + 1,x4,x21,x22,x23,x402000,x402001,x402002=>if x23 < x22 then (if 0 ≤ x23 then (if x23 < (x21.length : Int) then (if 0 ≤ ((rd_T73 x21 x23).f0) then (if ((rd_T73 x21 x23).f0) < (x4.length : Int) then (if 0 ≤ ((rd_T73 x21 x23).f1) then (if ((rd_T73 x21 x23).f1) < (x4.length : Int) then ((impl_step.f (rd x4 ((rd_T73 x21 x23).f0)) (rd x4 ((rd_T73 x21 x23).f1))).bind fun bt406=>(if x402001.length < 8796093022208 then (impl_SharePlan.l0 k x4 x21 x22 (wrap64 (x23 + 1)) x402000 (x402001 ++ [(⟨bt406.1,bt406.2⟩ : S73)]) x402002) else (none))) else (none)) else (none)) else (none)) else (none)) else (none)) else (none)) else ((impl_Plan_trimmed.f k x402000 x402001 x402002).bind fun bt411=>(some (bt411.1,bt411.2.1,bt411.2.2,true)))
def impl_SharePlan.f (k : Nat) (a0_0 : Int) (l0_1 : List (S73)) (l0_2 : List Int) : Option (Int × (List (S73)) × List Int × Bool):=(impl_IsPlan.f k a0_0 l0_1 l0_2).bind fun t394=>(if t394 = true then ((impl_Plan_firstSame.f k a0_0 l0_1 l0_2).bind fun t395=>((impl_renamed.f k l0_2 t395).bind fun t398=>(impl_SharePlan.l0 k t395 l0_1 (l0_1.length : Int) 0 a0_0 ([] : List (S73)) t398))) else (some (0,([] : List (S73)),([] : List Int),false)))
theorem impl_SharePlan.mono_l : ∀ k,(∀ y0 y1 y2 y3 y4 y5 y6,LeO (impl_SharePlan.l0 k y0 y1 y2 y3 y4 y5 y6) (impl_SharePlan.l0 (k + 1) y0 y1 y2 y3 y4 y5 y6))
 | 0=>fun _ _ _ _ _ _ _ r h=>by simp [impl_SharePlan.l0] at h
 | k + 1=>by
  have ih0:=impl_SharePlan.mono_l k
  ·intro y0 y1 y2 y3 y4 y5 y6
   unfold impl_SharePlan.l0
   repeat' first
   | (with_reducible exact ih0 _ _ _ _ _ _ _)
   | (with_reducible exact impl_IsPlan.mono _ _ _ _)
   | (with_reducible exact impl_Plan_firstSame.mono _ _ _ _)
   | (with_reducible exact impl_Plan_trimmed.mono _ _ _ _)
   | (with_reducible exact impl_renamed.mono _ _ _)
   | (with_reducible exact LeO.refl _)
   | (with_reducible exact LeO.none _)
   | (with_reducible refine LeO.ite ?_ ?_)
   | (with_reducible refine LeO.bind ?_ (fun _=>?_))
   | exact ih0 _ _ _ _ _ _ _
   | exact impl_IsPlan.mono _ _ _ _
   | exact impl_Plan_firstSame.mono _ _ _ _
   | exact impl_Plan_trimmed.mono _ _ _ _
   | exact impl_renamed.mono _ _ _
   | exact LeO.none _
   | refine LeO.ite ?_ ?_
   | refine LeO.bind ?_ (fun _=>?_)
theorem impl_SharePlan.mono : ∀ a0 a1 a2 k,LeO (impl_SharePlan.f k a0 a1 a2) (impl_SharePlan.f (k + 1) a0 a1 a2):=by
 intro a0 a1 a2 k
 have ih0:=impl_SharePlan.mono_l k
 unfold impl_SharePlan.f
 repeat' first
   | (with_reducible exact ih0 _ _ _ _ _ _ _)
   | (with_reducible exact impl_IsPlan.mono _ _ _ _)
   | (with_reducible exact impl_Plan_firstSame.mono _ _ _ _)
   | (with_reducible exact impl_Plan_trimmed.mono _ _ _ _)
   | (with_reducible exact impl_renamed.mono _ _ _)
   | (with_reducible exact LeO.refl _)
   | (with_reducible exact LeO.none _)
   | (with_reducible refine LeO.ite ?_ ?_)
   | (with_reducible refine LeO.bind ?_ (fun _=>?_))
   | exact ih0 _ _ _ _ _ _ _
   | exact impl_IsPlan.mono _ _ _ _
   | exact impl_Plan_firstSame.mono _ _ _ _
   | exact impl_Plan_trimmed.mono _ _ _ _
   | exact impl_renamed.mono _ _ _
   | exact LeO.none _
   | refine LeO.ite ?_ ?_
   | refine LeO.bind ?_ (fun _=>?_)
def impl_SharePlan.T4 : Bool × List (List Nat × List Nat):=(true,[([],[]),([0],[0]),([],[]),([2],[2]),([],[]),([3,4],[3,4]),([1,5],[1,5]),([],[]),([7,6,5,0,1,2,3,4,5,6,7],[6,7])])
def impl_SharePlan.B4 : List Nat:=[0,1,0,4,0,28,63,0,255]
theorem impl_SharePlan.tab4 : rtab .any (opsOf Try.f25 4) = impl_SharePlan.T4:=by kernel_rfl
theorem impl_SharePlan.bits4 : waitsOk impl_SharePlan.T4.2 impl_SharePlan.B4 = true:=by kernel_rfl
def impl_SharePlan.T8 : Bool × List (List Nat × List Nat):=(true,[([],[]),([0],[0]),([],[]),([],[]),([3],[3]),([2,4],[2,4]),([5],[5]),([],[]),([],[]),([8],[8]),([7,9],[7,9]),([10],[10]),([6,11],[6,11]),([12],[12]),([1,13,12],[1,13]),([0,1,2,3,4,5,6,7,8,9,10,11,12,13,14],[]),([15,14,14,0,1,2,3,4,5,6,7,8,9,10,11,12,13,14],[14,15])])
def impl_SharePlan.B8 : List Nat:=[0,1,0,0,8,28,60,0,0,256,896,1920,4092,8188,16383,32767,65535]
theorem impl_SharePlan.tab8 : rtab .any (opsOf Try.f25 8) = impl_SharePlan.T8:=by kernel_rfl
theorem impl_SharePlan.bits8 : waitsOk impl_SharePlan.T8.2 impl_SharePlan.B8 = true:=by kernel_rfl
set_option maxHeartbeats 8000000 in
set_option maxRecDepth 100000 in
theorem impl_SharePlan.calls (k : Nat) (a0_0 : Int) (A0_1 : Option Addr) (c0_1 : Nat) (l0_1 : List (S73)) (A0_2 : Option Addr) (c0_2 : Nat) (l0_2 : List Int) (r1 : Int) (r2 : List (S73)) (r3 : List Int) (r4 : Bool) (w : World) (hr0_1 : Kd.C k73 w A0_1 l0_1.length l0_1) (hc0_1 : l0_1.length ≤ c0_1) (hr0_2 : Kd.C (Kd.int .i64) w A0_2 l0_2.length l0_2) (hc0_2 : l0_2.length ≤ c0_2) (h : impl_SharePlan.f k a0_0 l0_1 l0_2 = some (r1,r2,r3,r4)) :
  Calls Try.prog 25 #[.agg #[.int .i64 a0_0,.slice A0_1 l0_1.length c0_1,.slice A0_2 l0_2.length c0_2]] w fun e w'=>∃ v1_ v2_ : Value,e = .returned (.tuple #[.agg #[.int .i64 r1,v1_,v2_],.bool r4]) ∧ Kd.R k73 73 w' w.heap.size (fun _=>True) v1_ r2 ∧ Kd.R (Kd.int .i64) 3 w' w.heap.size (fun _=>True) v2_ r3 ∧ Below w.heap.size w w':=by
 have hu29:=Try.underlying29
 have hu73:=Try.underlying73
 have HR0_1:=Aside0.mk hr0_1
 have HC0_1:=Aside0.mk hc0_1
 clear hr0_1 hc0_1
 have HR0_2:=Aside0.mk hr0_2
 have HC0_2:=Aside0.mk hc0_2
 clear hr0_2 hc0_2
 have HB:=Aside0.mk (Below.refl w.heap.size w)
 have H : ((impl_IsPlan.f k a0_0 l0_1 l0_2).bind fun t394=>(if t394 = true then ((impl_Plan_firstSame.f k a0_0 l0_1 l0_2).bind fun t395=>((impl_renamed.f k l0_2 t395).bind fun t398=>(impl_SharePlan.l0 k t395 l0_1 (l0_1.length : Int) 0 a0_0 ([] : List (S73)) t398))) else (some (0,([] : List (S73)),([] : List Int),false)))) = some (r1,r2,r3,r4):=h
 clear h
 replace H:=Option.bind_eq_some_iff.mp H
 obtain ⟨t394,A20,H⟩:=H
 replace H : (if t394 = true then ((impl_Plan_firstSame.f k a0_0 l0_1 l0_2).bind fun t395=>((impl_renamed.f k l0_2 t395).bind fun t398=>(impl_SharePlan.l0 k t395 l0_1 (l0_1.length : Int) 0 a0_0 ([] : List (S73)) t398))) else (some (0,([] : List (S73)),([] : List Int),false))) = some (r1,r2,r3,r4):=H
 have A2:=Aside0.mk A20
 clear A20
 by_cases c3 : t394 = true
 ·subst c3
  have H1 : ((impl_Plan_firstSame.f k a0_0 l0_1 l0_2).bind fun t395=>((impl_renamed.f k l0_2 t395).bind fun t398=>(impl_SharePlan.l0 k t395 l0_1 (l0_1.length : Int) 0 a0_0 ([] : List (S73)) t398))) = some (r1,r2,r3,r4):=by rw [if_pos rfl] at H;exact H
  clear H
  have H:=H1
  clear H1
  replace H:=Option.bind_eq_some_iff.mp H
  obtain ⟨t395,A40,H⟩:=H
  replace H : ((impl_renamed.f k l0_2 t395).bind fun t398=>(impl_SharePlan.l0 k t395 l0_1 (l0_1.length : Int) 0 a0_0 ([] : List (S73)) t398)) = some (r1,r2,r3,r4):=H
  have A4:=Aside0.mk A40
  clear A40
  replace H:=Option.bind_eq_some_iff.mp H
  obtain ⟨t398,A50,H⟩:=H
  replace H : (impl_SharePlan.l0 k t395 l0_1 (l0_1.length : Int) 0 a0_0 ([] : List (S73)) t398) = some (r1,r2,r3,r4):=H
  have A5:=Aside0.mk A50
  clear A50
  have H':=Aside0.mk H
  clear H
  go_enter Try.func25,Try.ntmps25
  try go_wp2_with (first|((with_reducible refine gate_dst (N:=1) rfl ?_);refine box_event ?hg (N:=1) ?hd (cs:=#[.int .i64 a0_0,.slice A0_1 l0_1.length c0_1,.slice A0_2 l0_2.length c0_2]) (t:=29) ?hr ?_;(case hd=>rfl);(case hg=>rfl);(case hr=>first|(go_simp;done)|(go_simp;rfl));intro gb392 hg w6 hbox hb;have n0_:=Aside0.mk (below_step bz hb);have n1_:=Aside0.mk (hbox);have n2_:=Aside0.mk ((by rw [hg];exact (below_size bz) : w.heap.size ≤ gb392));have n3_:=Aside0.mk ((by rw [hg];exact (below_size bz) : w.heap.size ≤ gb392));clear HB;have HB:=n0_;have BK392:=n1_;have GW392:=n2_;have GE392:=n3_;clear n0_ n1_ n2_ n3_;clear hb hbox hg)|((with_reducible refine gate_dst (N:=2) rfl ?_);refine box_event ?hg (N:=2) ?hd (cs:=#[.int .i64 0,.slice none 0 0,.slice none 0 0]) (t:=29) ?hr ?_;(case hd=>rfl);(case hg=>rfl);(case hr=>first|(go_simp;done)|(go_simp;rfl));intro gb393 hg w7 hbox hb;have n0_:=Aside0.mk (blk_below (g:=gb392) (o:=.cells #[.int .i64 a0_0,.slice A0_1 l0_1.length c0_1,.slice A0_2 l0_2.length c0_2] 29 (0,0)) (kz BK392.out) hb);have n1_:=Aside0.mk (below_step bs hb);have n2_:=Aside0.mk (hbox);have n3_:=Aside0.mk ((by rw [hg];exact (below_size bs) : w.heap.size ≤ gb393));have n4_:=Aside0.mk ((by rw [hg];exact (below_size bs) : w.heap.size ≤ gb393));have n5_:=Aside0.mk ((by rw [hg];exact Nat.ne_of_lt (blk_lt (g:=gb392) (o:=.cells #[.int .i64 a0_0,.slice A0_1 l0_1.length c0_1,.slice A0_2 l0_2.length c0_2] 29 (0,0)) (kz BK392.out)) : gb392 ≠ gb393));have n6_:=Aside0.mk ((by rw [hg];exact Nat.ne_of_gt (blk_lt (g:=gb392) (o:=.cells #[.int .i64 a0_0,.slice A0_1 l0_1.length c0_1,.slice A0_2 l0_2.length c0_2] 29 (0,0)) (kz BK392.out)) : gb393 ≠ gb392));clear BK392 HB;have BK392:=n0_;have HB:=n1_;have BK393:=n2_;have GW393:=n3_;have GE393:=n4_;have NB392_393:=n5_;have NB393_392:=n6_;clear n0_ n1_ n2_ n3_ n4_ n5_ n6_;clear hb hbox hg;have hnb8:=NB392_393.out;have hnc8:=NB393_392.out;have hcz9_0 : w7.cell? ⟨gb392,0,none⟩ = some (.int .i64 a0_0):=(blk_cell BK392.out 0).trans rfl;have hcz9_1 : w7.cell? ⟨gb392,1,none⟩ = some (.slice A0_1 l0_1.length c0_1):=(blk_cell BK392.out 1).trans rfl;have hcz9_2 : w7.cell? ⟨gb392,2,none⟩ = some (.slice A0_2 l0_2.length c0_2):=(blk_cell BK392.out 2).trans rfl;have hfz9_0:=blk_frozen BK392.out 0;have hfz9_1:=blk_frozen BK392.out 1;have hfz9_2:=blk_frozen BK392.out 2)|((with_reducible refine gate_callee (f:=44) rfl ?_);refine goesL_ (some 9) rfl rfl Try.func44 (by kernel_rfl) rfl #[.agg #[.int .i64 a0_0,.slice A0_1 l0_1.length c0_1,.slice A0_2 l0_2.length c0_2]] rfl mz ?_;(with_reducible refine (impl_IsPlan.calls k a0_0 _ _ l0_1 _ _ l0_2 true _ ?side1 ?side2 ?side3 ?side4 A2.out).mono ?_);(case side1=>exact cz (Kd.C_below HR0_1.out HB.out));(case side2=>exact HC0_1.out);(case side3=>exact cz (Kd.C_below HR0_2.out HB.out));(case side4=>exact HC0_2.out);rintro e w10 ⟨rfl,hb⟩;refine ⟨_,rfl,?_⟩;have n0_:=Aside0.mk (blk_below (g:=gb392) (o:=.cells #[.int .i64 a0_0,.slice A0_1 l0_1.length c0_1,.slice A0_2 l0_2.length c0_2] 29 (0,0)) (kz BK392.out) hb);have n1_:=Aside0.mk (blk_below (g:=gb393) (o:=.cells #[.int .i64 0,.slice none 0 0,.slice none 0 0] 29 (0,0)) (kz BK393.out) hb);have n2_:=Aside0.mk (below_step bs hb);clear BK392 BK393 HB;have BK392:=n0_;have BK393:=n1_;have HB:=n2_;clear n0_ n1_ n2_;(try clear hb))|((with_reducible refine gate_callee (f:=64) rfl ?_);refine goesL_ (some 12) rfl rfl Try.func64 (by kernel_rfl) rfl #[.pointer (some ⟨gb392,0,none⟩)] rfl mz ?_;(with_reducible refine (impl_Plan_firstSame.calls k gb392 a0_0 A0_1 c0_1 l0_1 A0_2 c0_2 l0_2 t395 _ ?side1 ?side2 ?side3 ?side4 ?side5 A4.out).mono ?_);(case side1=>exact by (with_reducible repeat (first|refine blk_drewN ?_ _|refine blk_drew ?_|refine blk_alloc ?_ _));exact BK392.out);(case side2=>exact cz (Kd.C_below HR0_1.out HB.out));(case side3=>exact HC0_1.out);(case side4=>exact cz (Kd.C_below HR0_2.out HB.out));(case side5=>exact HC0_2.out);rintro e w11 ⟨v396,rfl,ho0,hb⟩;refine ⟨_,rfl,?_⟩;have n0_:=Aside0.mk (Kd.R_lower ho0 (below_size bs));have n1_:=Aside0.mk (blk_below (g:=gb392) (o:=.cells #[.int .i64 a0_0,.slice A0_1 l0_1.length c0_1,.slice A0_2 l0_2.length c0_2] 29 (0,0)) (kz BK392.out) hb);have n2_:=Aside0.mk (blk_below (g:=gb393) (o:=.cells #[.int .i64 0,.slice none 0 0,.slice none 0 0] 29 (0,0)) (kz BK393.out) hb);have n3_:=Aside0.mk (below_step bs hb);clear BK392 BK393 HB;have HO397:=n0_;have BK392:=n1_;have BK393:=n2_;have HB:=n3_;clear n0_ n1_ n2_ n3_;(try clear hb);(try clear ho0);obtain ⟨Ao12,co12,eo12⟩:=Kd.R_slice HO397.out;subst eo12))
  have n0_:=Aside0.mk (Kd.R_drew HO397.out)
  have n1_:=Aside0.mk (blk_drew BK392.out)
  have n2_:=Aside0.mk (blk_drew BK393.out)
  have n3_:=Aside0.mk (below_drew1 HB.out)
  clear HO397
  clear BK392
  clear BK393
  clear HB
  have HO397:=n0_
  have BK392:=n1_
  have BK393:=n2_
  have HB:=n3_
  clear n0_ n1_ n2_ n3_
  refine start_ (n:=9) (S:=fun w'=>w'.cell? ⟨gb392,0,none⟩ = some (.int .i64 a0_0) ∧ w'.cell? ⟨gb392,1,none⟩ = some (.slice A0_1 l0_1.length c0_1) ∧ w'.cell? ⟨gb392,2,none⟩ = some (.slice A0_2 l0_2.length c0_2)) (ds:=[]) #[false,false,false,false,false,false,false,false,false] (by kernel_rfl) rfl rfl ⟨(blk_cell BK392.out 0).trans rfl,(blk_cell BK392.out 1).trans rfl,(blk_cell BK392.out 2).trans rfl⟩ (fun hHeld=>?_);refine with_tabW impl_SharePlan.tab4 impl_SharePlan.bits4 (fun HT_ HW_=>?_)
  generalize w11.drew = w13 at HO397 BK392 BK393 HB hHeld ⊢
  refine pure_ (i:=0) (N:=some 13) (v:=?_) (a':=?_) #[true,false,false,false,false,false,false,false,false] rfl rfl (any_of HT_.out (by kernel_rfl)) (fun _ _ _ h=>h) (Or.inl ⟨by rfl,?_⟩) ?_ ?_
  rotate_left
  ·intro w'
   go_simp
   with_reducible rfl
  rotate_left
  ·simp only [Act.put,List.setIfInBounds_toArray,List.set_cons_zero,List.set_cons_succ,i64_w,i32_w]
   rfl
  refine pure_ (i:=2) (N:=some 15) (v:=?_) (a':=?_) #[true,false,true,false,false,false,false,false,false] rfl rfl (any_of HT_.out (by kernel_rfl)) (fun _ _ _ h=>h) (Or.inl ⟨by rfl,?_⟩) ?_ ?_
  rotate_left
  ·intro w'
   go_simp
   with_reducible rfl
  rotate_left
  ·simp only [Act.put,List.setIfInBounds_toArray,List.set_cons_zero,List.set_cons_succ,i64_w,i32_w]
   rfl
  refine pure_ (i:=4) (N:=some 17) (v:=?_) (a':=?_) #[true,false,true,false,true,false,false,false,false] rfl rfl (any_of HT_.out (by kernel_rfl)) (fun _ _ _ h=>h) (Or.inl ⟨by rfl,?_⟩) ?_ ?_
  rotate_left
  ·intro w'
   go_simp
   with_reducible rfl
  rotate_left
  ·simp only [Act.put,List.setIfInBounds_toArray,List.set_cons_zero,List.set_cons_succ,i64_w,i32_w]
   rfl
  refine take_ (i:=1) (N:=some 14) (v:=?_) (a':=?_) #[true,true,true,false,true,false,false,false,false] rfl rfl (take_ofW HT_.out HW_.out (by kernel_rfl)) (fun _ _ _ h=>h) (Or.inl ⟨by rfl,?_⟩) hHeld ?_ ?_
  rotate_left
  ·rintro w' ⟨s0,s1,s2⟩
   go_simp
   with_reducible rfl
  rotate_left
  ·simp only [Act.put,List.setIfInBounds_toArray,List.set_cons_zero,List.set_cons_succ,i64_w,i32_w]
   rfl
  refine take_ (i:=3) (N:=some 16) (v:=?_) (a':=?_) #[true,true,true,true,true,false,false,false,false] rfl rfl (take_ofW HT_.out HW_.out (by kernel_rfl)) (fun _ _ _ h=>h) (Or.inl ⟨by rfl,?_⟩) hHeld ?_ ?_
  rotate_left
  ·rintro w' ⟨s0,s1,s2⟩
   go_simp
   with_reducible rfl
  rotate_left
  ·simp only [Act.put,List.setIfInBounds_toArray,List.set_cons_zero,List.set_cons_succ,i64_w,i32_w]
   rfl
  refine join_ (σ:=Value × Nat) 1 #[true,true,true,true,true,true,true,true,false] (fun s_=>[(18,s_.1),(5,.pointer (some ⟨s_.2,0,none⟩)),(19,.agg #[.int .i64 a0_0,.slice none 0 0,s_.1])]) (fun s_ w'=>(w'.cell? ⟨gb392,0,none⟩ = some (.int .i64 a0_0) ∧ w'.cell? ⟨gb392,1,none⟩ = some (.slice A0_1 l0_1.length c0_1) ∧ w'.cell? ⟨gb392,2,none⟩ = some (.slice A0_2 l0_2.length c0_2)) ∧ (Kd.R (Kd.int .i64) 3 w' w.heap.size (fun k_=>some k_ ≠ (s_.1 : Value).ownBlock) (.slice Ao12 t395.length co12) t395) ∧ (Kd.R (Kd.int .i64) 3 w' w.heap.size (fun k_=>some k_ ≠ (.slice Ao12 t395.length co12 : Value).ownBlock) s_.1 t398) ∧ (w'.heap[gb392]? = some (.cells #[.int .i64 a0_0,.slice A0_1 l0_1.length c0_1,.slice A0_2 l0_2.length c0_2] 29 (0,0))) ∧ (w'.heap[gb393]? = some (.cells #[.int .i64 0,.slice none 0 0,.slice none 0 0] 29 (0,0))) ∧ (w'.heap[s_.2]? = some (.cells #[.int .i64 0,.slice none 0 0,.slice none 0 0] 29 (0,0))) ∧ (w.heap.size ≤ s_.2) ∧ (w.heap.size ≤ s_.2) ∧ (gb392 ≠ s_.2) ∧ (s_.2 ≠ gb392) ∧ (gb393 ≠ s_.2) ∧ (s_.2 ≠ gb393) ∧ (Below w.heap.size w w')) ?_ ?_
  rotate_left
  ·intro hCont
   refine two_ (i:=5) (j:=7) (Ni:=some 18) (Nj:=some 5) #[true,true,true,true,true,true,false,false,false] #[true,true,true,true,true,false,false,true,false] rfl rfl rfl rfl (two_of HT_.out (by kernel_rfl)) (by decide) (by decide) (fun K hK=>?_) (fun K hK=>?_)
   ·skip
    refine goes_ Try.func46 (by kernel_rfl) rfl #[.slice A0_2 l0_2.length c0_2,.slice Ao12 t395.length co12] (by rfl) rfl rfl mz ?_
    with_reducible refine (impl_renamed.calls k _ _ l0_2 _ _ t395 t398 _ ?side1 ?side2 ?side3 ?side4 A5.out).mono ?_
    (case side1=>exact cz (Kd.C_below HR0_2.out HB.out))
    (case side2=>exact HC0_2.out)
    (case side3=>exact cz (Kd.R_reads' HO397.out).2.2)
    (case side4=>exact (Kd.R_reads' HO397.out).2.1)
    rintro e w14 ⟨v399,rfl,ho0,hb⟩
    refine ⟨_,rfl,?_⟩
    have n0_:=Aside0.mk (Kd.R_elder' (rz HO397.out) (Kd.R_base ho0) hb)
    have n1_:=Aside0.mk (Kd.R_lower (Kd.R_new' ho0 (Kd.R_lt (rz HO397.out))) (below_size bs))
    have n2_:=Aside0.mk (blk_below (g:=gb392) (o:=.cells #[.int .i64 a0_0,.slice A0_1 l0_1.length c0_1,.slice A0_2 l0_2.length c0_2] 29 (0,0)) (kz BK392.out) hb)
    have n3_:=Aside0.mk (blk_below (g:=gb393) (o:=.cells #[.int .i64 0,.slice none 0 0,.slice none 0 0] 29 (0,0)) (kz BK393.out) hb)
    have n4_:=Aside0.mk (below_step bs hb)
    clear HO397
    clear BK392
    clear BK393
    clear HB
    have HO397:=n0_
    have HO400:=n1_
    have BK392:=n2_
    have BK393:=n3_
    have HB:=n4_
    clear n0_ n1_ n2_ n3_ n4_
    (try clear hb)
    (try clear ho0)
    obtain ⟨Ao15,co15,eo15⟩:=Kd.R_slice HO400.out
    (first|subst eo15|(injection eo15 with f1_ f2_ f3_;have f4_:=f1_.symm;have f5_:=f3_.symm;clear f1_ f2_ f3_;subst f4_;subst f5_))
    refine hK.out _ _ ⟨(blk_cell BK392.out 0).trans rfl,(blk_cell BK392.out 1).trans rfl,(blk_cell BK392.out 2).trans rfl⟩ (fun hHeld=>?_)
    clear hK K
    refine norm_ (a':=?_) ?_ ?_
    rotate_left
    ·show Act.put _ (some 18) _ = _
     simp only [Act.put,List.setIfInBounds_toArray,List.set_cons_zero,List.set_cons_succ,i64_w,i32_w]
     rfl
    refine pure_ (i:=6) (N:=some 19) (v:=?_) (a':=?_) #[true,true,true,true,true,true,true,false,false] rfl rfl (any_of HT_.out (by kernel_rfl)) (fun _ _ _ h=>h) (Or.inl ⟨by rfl,?_⟩) ?_ ?_
    rotate_left
    ·intro w'
     go_simp
     with_reducible rfl
    rotate_left
    ·simp only [Act.put,List.setIfInBounds_toArray,List.set_cons_zero,List.set_cons_succ,i64_w,i32_w]
     rfl
    refine one_ (i:=7) (N:=some 5) #[true,true,true,true,true,true,true,true,false] rfl rfl (one_of HT_.out (by kernel_rfl)) (by decide) (fun K hK=>?_)
    refine box_step ?hg (N:=5) ?hd (cs:=#[.int .i64 0,.slice none 0 0,.slice none 0 0]) (t:=29) ?hr ?_;(case hd=>rfl);(case hg=>rfl);(case hr=>first|(go_simp;done)|(go_simp;rfl))
    intro gb401 hg w16 hbox hb
    have n0_:=Aside0.mk (Kd.R_below (rz HO397.out) hb)
    have n1_:=Aside0.mk (Kd.R_below (rz HO400.out) hb)
    have n2_:=Aside0.mk (blk_below (g:=gb392) (o:=.cells #[.int .i64 a0_0,.slice A0_1 l0_1.length c0_1,.slice A0_2 l0_2.length c0_2] 29 (0,0)) (kz BK392.out) hb)
    have n3_:=Aside0.mk (blk_below (g:=gb393) (o:=.cells #[.int .i64 0,.slice none 0 0,.slice none 0 0] 29 (0,0)) (kz BK393.out) hb)
    have n4_:=Aside0.mk (below_step bs hb)
    have n5_:=Aside0.mk (hbox)
    have n6_:=Aside0.mk ((by rw [hg];exact (below_size bs) : w.heap.size ≤ gb401))
    have n7_:=Aside0.mk ((by rw [hg];exact (below_size bs) : w.heap.size ≤ gb401))
    have n8_:=Aside0.mk ((by rw [hg];exact Nat.ne_of_lt (blk_lt (g:=gb392) (o:=.cells #[.int .i64 a0_0,.slice A0_1 l0_1.length c0_1,.slice A0_2 l0_2.length c0_2] 29 (0,0)) (kz BK392.out)) : gb392 ≠ gb401))
    have n9_:=Aside0.mk ((by rw [hg];exact Nat.ne_of_gt (blk_lt (g:=gb392) (o:=.cells #[.int .i64 a0_0,.slice A0_1 l0_1.length c0_1,.slice A0_2 l0_2.length c0_2] 29 (0,0)) (kz BK392.out)) : gb401 ≠ gb392))
    have n10_:=Aside0.mk ((by rw [hg];exact Nat.ne_of_lt (blk_lt (g:=gb393) (o:=.cells #[.int .i64 0,.slice none 0 0,.slice none 0 0] 29 (0,0)) (kz BK393.out)) : gb393 ≠ gb401))
    have n11_:=Aside0.mk ((by rw [hg];exact Nat.ne_of_gt (blk_lt (g:=gb393) (o:=.cells #[.int .i64 0,.slice none 0 0,.slice none 0 0] 29 (0,0)) (kz BK393.out)) : gb401 ≠ gb393))
    clear HO397
    clear HO400
    clear BK392
    clear BK393
    clear HB
    have HO397:=n0_
    have HO400:=n1_
    have BK392:=n2_
    have BK393:=n3_
    have HB:=n4_
    have BK401:=n5_
    have GW401:=n6_
    have GE401:=n7_
    have NB392_401:=n8_
    have NB401_392:=n9_
    have NB393_401:=n10_
    have NB401_393:=n11_
    clear n0_ n1_ n2_ n3_ n4_ n5_ n6_ n7_ n8_ n9_ n10_ n11_
    clear hb hbox hg
    refine hK.out _ _ ⟨(blk_cell BK392.out 0).trans rfl,(blk_cell BK392.out 1).trans rfl,(blk_cell BK392.out 2).trans rfl⟩ (fun hHeld=>?_)
    clear hK K
    refine norm_ (a':=?_) ?_ ?_
    rotate_left
    ·show Act.put _ (some 5) _ = _
     simp only [Act.put,List.setIfInBounds_toArray,List.set_cons_zero,List.set_cons_succ,i64_w,i32_w]
     rfl
    exact norm_ (by simp only [putAll,Act.put,List.setIfInBounds_toArray,List.set_cons_zero,List.set_cons_succ]) (hCont (.slice Ao15 t398.length co15,gb401) _ ⟨hHeld,(by (with_reducible repeat (first|apply Kd.R_alloc|apply Kd.R_drewN|apply Kd.R_drew));exact Kd.R_mono HO397.out (fun _ hk=>hk.2)),(by (with_reducible repeat (first|apply Kd.R_alloc|apply Kd.R_drewN|apply Kd.R_drew));exact Kd.R_mono HO400.out (fun _ hk=>hk.2)),(kz BK392.out),(kz BK393.out),(kz BK401.out),GW401.out,GE401.out,NB392_401.out,NB401_392.out,NB393_401.out,NB401_393.out,bs⟩)
   ·skip
    refine box_step ?hg (N:=5) ?hd (cs:=#[.int .i64 0,.slice none 0 0,.slice none 0 0]) (t:=29) ?hr ?_;(case hd=>rfl);(case hg=>rfl);(case hr=>first|(go_simp;done)|(go_simp;rfl))
    intro gb401 hg w14 hbox hb
    have n0_:=Aside0.mk (Kd.R_below (rz HO397.out) hb)
    have n1_:=Aside0.mk (blk_below (g:=gb392) (o:=.cells #[.int .i64 a0_0,.slice A0_1 l0_1.length c0_1,.slice A0_2 l0_2.length c0_2] 29 (0,0)) (kz BK392.out) hb)
    have n2_:=Aside0.mk (blk_below (g:=gb393) (o:=.cells #[.int .i64 0,.slice none 0 0,.slice none 0 0] 29 (0,0)) (kz BK393.out) hb)
    have n3_:=Aside0.mk (below_step bs hb)
    have n4_:=Aside0.mk (hbox)
    have n5_:=Aside0.mk ((by rw [hg];exact (below_size bs) : w.heap.size ≤ gb401))
    have n6_:=Aside0.mk ((by rw [hg];exact (below_size bs) : w.heap.size ≤ gb401))
    have n7_:=Aside0.mk ((by rw [hg];exact Nat.ne_of_lt (blk_lt (g:=gb392) (o:=.cells #[.int .i64 a0_0,.slice A0_1 l0_1.length c0_1,.slice A0_2 l0_2.length c0_2] 29 (0,0)) (kz BK392.out)) : gb392 ≠ gb401))
    have n8_:=Aside0.mk ((by rw [hg];exact Nat.ne_of_gt (blk_lt (g:=gb392) (o:=.cells #[.int .i64 a0_0,.slice A0_1 l0_1.length c0_1,.slice A0_2 l0_2.length c0_2] 29 (0,0)) (kz BK392.out)) : gb401 ≠ gb392))
    have n9_:=Aside0.mk ((by rw [hg];exact Nat.ne_of_lt (blk_lt (g:=gb393) (o:=.cells #[.int .i64 0,.slice none 0 0,.slice none 0 0] 29 (0,0)) (kz BK393.out)) : gb393 ≠ gb401))
    have n10_:=Aside0.mk ((by rw [hg];exact Nat.ne_of_gt (blk_lt (g:=gb393) (o:=.cells #[.int .i64 0,.slice none 0 0,.slice none 0 0] 29 (0,0)) (kz BK393.out)) : gb401 ≠ gb393))
    clear HO397
    clear BK392
    clear BK393
    clear HB
    have HO397:=n0_
    have BK392:=n1_
    have BK393:=n2_
    have HB:=n3_
    have BK401:=n4_
    have GW401:=n5_
    have GE401:=n6_
    have NB392_401:=n7_
    have NB401_392:=n8_
    have NB393_401:=n9_
    have NB401_393:=n10_
    clear n0_ n1_ n2_ n3_ n4_ n5_ n6_ n7_ n8_ n9_ n10_
    clear hb hbox hg
    refine hK.out _ _ ⟨(blk_cell BK392.out 0).trans rfl,(blk_cell BK392.out 1).trans rfl,(blk_cell BK392.out 2).trans rfl⟩ (fun hHeld=>?_)
    clear hK K
    refine norm_ (a':=?_) ?_ ?_
    rotate_left
    ·show Act.put _ (some 5) _ = _
     simp only [Act.put,List.setIfInBounds_toArray,List.set_cons_zero,List.set_cons_succ,i64_w,i32_w]
     rfl
    refine one_ (i:=5) (N:=some 18) #[true,true,true,true,true,true,false,true,false] rfl rfl (one_of HT_.out (by kernel_rfl)) (by decide) (fun K hK=>?_)
    refine goes_ Try.func46 (by kernel_rfl) rfl #[.slice A0_2 l0_2.length c0_2,.slice Ao12 t395.length co12] (by rfl) rfl rfl mz ?_
    with_reducible refine (impl_renamed.calls k _ _ l0_2 _ _ t395 t398 _ ?side1 ?side2 ?side3 ?side4 A5.out).mono ?_
    (case side1=>exact cz (Kd.C_below HR0_2.out HB.out))
    (case side2=>exact HC0_2.out)
    (case side3=>exact cz (Kd.R_reads' HO397.out).2.2)
    (case side4=>exact (Kd.R_reads' HO397.out).2.1)
    rintro e w15 ⟨v399,rfl,ho0,hb⟩
    refine ⟨_,rfl,?_⟩
    have n0_:=Aside0.mk (Kd.R_elder' (rz HO397.out) (Kd.R_base ho0) hb)
    have n1_:=Aside0.mk (Kd.R_lower (Kd.R_new' ho0 (Kd.R_lt (rz HO397.out))) (below_size bs))
    have n2_:=Aside0.mk (blk_below (g:=gb392) (o:=.cells #[.int .i64 a0_0,.slice A0_1 l0_1.length c0_1,.slice A0_2 l0_2.length c0_2] 29 (0,0)) (kz BK392.out) hb)
    have n3_:=Aside0.mk (blk_below (g:=gb393) (o:=.cells #[.int .i64 0,.slice none 0 0,.slice none 0 0] 29 (0,0)) (kz BK393.out) hb)
    have n4_:=Aside0.mk (blk_below (g:=gb401) (o:=.cells #[.int .i64 0,.slice none 0 0,.slice none 0 0] 29 (0,0)) (kz BK401.out) hb)
    have n5_:=Aside0.mk (below_step bs hb)
    clear HO397
    clear BK392
    clear BK393
    clear BK401
    clear HB
    have HO397:=n0_
    have HO400:=n1_
    have BK392:=n2_
    have BK393:=n3_
    have BK401:=n4_
    have HB:=n5_
    clear n0_ n1_ n2_ n3_ n4_ n5_
    (try clear hb)
    (try clear ho0)
    obtain ⟨Ao16,co16,eo16⟩:=Kd.R_slice HO400.out
    (first|subst eo16|(injection eo16 with f1_ f2_ f3_;have f4_:=f1_.symm;have f5_:=f3_.symm;clear f1_ f2_ f3_;subst f4_;subst f5_))
    refine hK.out _ _ ⟨(blk_cell BK392.out 0).trans rfl,(blk_cell BK392.out 1).trans rfl,(blk_cell BK392.out 2).trans rfl⟩ (fun hHeld=>?_)
    clear hK K
    refine norm_ (a':=?_) ?_ ?_
    rotate_left
    ·show Act.put _ (some 18) _ = _
     simp only [Act.put,List.setIfInBounds_toArray,List.set_cons_zero,List.set_cons_succ,i64_w,i32_w]
     rfl
    refine pure_ (i:=6) (N:=some 19) (v:=?_) (a':=?_) #[true,true,true,true,true,true,true,true,false] rfl rfl (any_of HT_.out (by kernel_rfl)) (fun _ _ _ h=>h) (Or.inl ⟨by rfl,?_⟩) ?_ ?_
    rotate_left
    ·intro w'
     go_simp
     with_reducible rfl
    rotate_left
    ·simp only [Act.put,List.setIfInBounds_toArray,List.set_cons_zero,List.set_cons_succ,i64_w,i32_w]
     rfl
    exact norm_ (by simp only [putAll,Act.put,List.setIfInBounds_toArray,List.set_cons_zero,List.set_cons_succ]) (hCont (.slice Ao16 t398.length co16,gb401) _ ⟨hHeld,(by (with_reducible repeat (first|apply Kd.R_alloc|apply Kd.R_drewN|apply Kd.R_drew));exact Kd.R_mono HO397.out (fun _ hk=>hk.2)),(by (with_reducible repeat (first|apply Kd.R_alloc|apply Kd.R_drewN|apply Kd.R_drew));exact Kd.R_mono HO400.out (fun _ hk=>hk.2)),(kz BK392.out),(kz BK393.out),(kz BK401.out),GW401.out,GE401.out,NB392_401.out,NB401_392.out,NB393_401.out,NB401_393.out,bs⟩)
  rintro ⟨v399,gb401⟩ w17 ⟨hS_,h0_,h1_,h2_,h3_,h4_,h5_,h6_,h7_,h8_,h9_,h10_,h11_⟩
  have n0_ : Aside0 (Kd.R (Kd.int .i64) 3 w17 w.heap.size (fun k_=>some k_ ≠ (v399 : Value).ownBlock) (.slice Ao12 t395.length co12) t395):=⟨h0_⟩
  have n1_ : Aside0 (Kd.R (Kd.int .i64) 3 w17 w.heap.size (fun k_=>some k_ ≠ (.slice Ao12 t395.length co12 : Value).ownBlock) v399 t398):=⟨h1_⟩
  have n2_ : Aside0 (w17.heap[gb392]? = some (.cells #[.int .i64 a0_0,.slice A0_1 l0_1.length c0_1,.slice A0_2 l0_2.length c0_2] 29 (0,0))):=⟨h2_⟩
  have n3_ : Aside0 (w17.heap[gb393]? = some (.cells #[.int .i64 0,.slice none 0 0,.slice none 0 0] 29 (0,0))):=⟨h3_⟩
  have n4_ : Aside0 (w17.heap[gb401]? = some (.cells #[.int .i64 0,.slice none 0 0,.slice none 0 0] 29 (0,0))):=⟨h4_⟩
  have n5_ : Aside0 (w.heap.size ≤ gb401):=⟨h5_⟩
  have n6_ : Aside0 (w.heap.size ≤ gb401):=⟨h6_⟩
  have n7_ : Aside0 (gb392 ≠ gb401):=⟨h7_⟩
  have n8_ : Aside0 (gb401 ≠ gb392):=⟨h8_⟩
  have n9_ : Aside0 (gb393 ≠ gb401):=⟨h9_⟩
  have n10_ : Aside0 (gb401 ≠ gb393):=⟨h10_⟩
  have n11_ : Aside0 (Below w.heap.size w w17):=⟨h11_⟩
  clear HO397
  clear BK392
  clear BK393
  clear HB
  clear h0_ h1_ h2_ h3_ h4_ h5_ h6_ h7_ h8_ h9_ h10_ h11_
  have HO397:=n0_
  have HO400:=n1_
  have BK392:=n2_
  have BK393:=n3_
  have BK401:=n4_
  have GW401:=n5_
  have GE401:=n6_
  have NB392_401:=n7_
  have NB401_392:=n8_
  have NB393_401:=n9_
  have NB401_393:=n10_
  have HB:=n11_
  clear n0_ n1_ n2_ n3_ n4_ n5_ n6_ n7_ n8_ n9_ n10_ n11_
  have hHeld : w17.cell? ⟨gb392,0,none⟩ = some (.int .i64 a0_0) ∧ w17.cell? ⟨gb392,1,none⟩ = some (.slice A0_1 l0_1.length c0_1) ∧ w17.cell? ⟨gb392,2,none⟩ = some (.slice A0_2 l0_2.length c0_2):=hS_
  obtain ⟨Ao18,co18,eo18⟩:=Kd.R_slice HO400.out
  (first|subst eo18|(injection eo18 with f1_ f2_ f3_;have f4_:=f1_.symm;have f5_:=f3_.symm;clear f1_ f2_ f3_;subst f4_;subst f5_))
  refine norm_ (a':=?_) ?_ ?_
  rotate_left
  ·simp only [putAll,Act.put,List.setIfInBounds_toArray,List.set_cons_zero,List.set_cons_succ]
   rfl
  refine one_ (i:=8) (N:=none) #[true,true,true,true,true,true,true,true,true] rfl rfl (one_of HT_.out (by kernel_rfl)) (by decide) (fun K hK=>?_)
  have hs19 : w17.cell? ⟨gb401,0,none⟩ = some (.int .i64 0):=(blk_cell BK401.out 0).trans rfl
  have hfs19:=blk_frozen BK401.out 0
  have hns19_0:=NB392_401.out
  have hns19_1:=NB393_401.out
  have hms19_0:=NB401_392.out
  have hms19_1:=NB401_393.out
  have hs20 : w17.cell? ⟨gb401,1,none⟩ = some (.slice none 0 0):=(blk_cell BK401.out 1).trans rfl
  have hfs20:=blk_frozen BK401.out 1
  have hns20_0:=NB392_401.out
  have hns20_1:=NB393_401.out
  have hms20_0:=NB401_392.out
  have hms20_1:=NB401_393.out
  have hs21 : w17.cell? ⟨gb401,2,none⟩ = some (.slice none 0 0):=(blk_cell BK401.out 2).trans rfl
  have hfs21:=blk_frozen BK401.out 2
  have hns21_0:=NB392_401.out
  have hns21_1:=NB393_401.out
  have hms21_0:=NB401_392.out
  have hms21_1:=NB401_393.out
  refine skip_ (w1:=?_) (by rfl) rfl ?_ ?_
  rotate_left
  ·go_simp
   rfl
  refine hK.out _ _ ⟨((cell_far (p:=⟨gb401,_,none⟩) NB392_401.out _).trans (((cell_far (p:=⟨gb401,_,none⟩) NB392_401.out _).trans (((cell_far (p:=⟨gb401,_,none⟩) NB392_401.out _).trans (hHeld.1)))))),((cell_far (p:=⟨gb401,_,none⟩) NB392_401.out _).trans (((cell_far (p:=⟨gb401,_,none⟩) NB392_401.out _).trans (((cell_far (p:=⟨gb401,_,none⟩) NB392_401.out _).trans (hHeld.2.1)))))),((cell_far (p:=⟨gb401,_,none⟩) NB392_401.out _).trans (((cell_far (p:=⟨gb401,_,none⟩) NB392_401.out _).trans (((cell_far (p:=⟨gb401,_,none⟩) NB392_401.out _).trans (hHeld.2.2))))))⟩ (fun hHeld=>?_)
  clear hK K
  refine done_ (done_of HT_.out (by kernel_rfl)) ?_
  have hnb22:=NB392_401.out
  have hnc22:=NB401_392.out
  have hcz23_0 : w17.cell? ⟨gb392,0,none⟩ = some (.int .i64 a0_0):=(blk_cell BK392.out 0).trans rfl
  have hcz23_1 : w17.cell? ⟨gb392,1,none⟩ = some (.slice A0_1 l0_1.length c0_1):=(blk_cell BK392.out 1).trans rfl
  have hcz23_2 : w17.cell? ⟨gb392,2,none⟩ = some (.slice A0_2 l0_2.length c0_2):=(blk_cell BK392.out 2).trans rfl
  have hfz23_0:=blk_frozen BK392.out 0
  have hfz23_1:=blk_frozen BK392.out 1
  have hfz23_2:=blk_frozen BK392.out 2
  try go_wp2
  go_loopg [23] k (fun kq v23 w'=>∃ (x23_1 : Int) (x402001_1 : List (S73)) (u402001 : Value),v23 = .int .i64 x23_1 ∧ Aside0 (impl_SharePlan.l0 kq t395 l0_1 (l0_1.length : Int) x23_1 a0_0 x402001_1 t398 = some (r1,r2,r3,r4)) ∧ Aside0 (kq ≤ k) ∧ Aside0 (Kd.R (Kd.int .i64) 3 w' w.heap.size (fun k_=>some k_ ≠ ((.slice Ao18 t398.length co18) : Value).ownBlock) (.slice Ao12 t395.length co12) t395) ∧ Aside0 (Kd.R k73 73 w' w.heap.size (fun _=>True) u402001 x402001_1) ∧ Aside0 (Kd.R (Kd.int .i64) 3 w' w.heap.size (fun k_=>some k_ ≠ ((.slice Ao12 t395.length co12) : Value).ownBlock) (.slice Ao18 t398.length co18) t398) ∧ Aside0 (w'.heap[gb392]? = some (.cells #[.int .i64 a0_0,(.slice A0_1 l0_1.length c0_1),(.slice A0_2 l0_2.length c0_2)] 29 (0,0))) ∧ Aside0 (w'.heap[gb393]? = some (.cells #[.int .i64 0,(.slice none 0 0),(.slice none 0 0)] 29 (0,0))) ∧ Aside0 (w'.heap[gb401]? = some (.cells #[.int .i64 a0_0,u402001,(.slice Ao18 t398.length co18)] 29 (0,0))) ∧ Aside0 (Below w.heap.size w w'))
  case atStart=>exact ⟨(0),(([] : List (S73))),(.slice none 0 0),fz,H',⟨Nat.le_refl _⟩,⟨by (with_reducible repeat (first|apply Kd.R_alloc|apply Kd.R_drewN|apply Kd.R_drew));exact Kd.R_mono (Kd.R_far (p:=⟨gb401,2,none⟩) (Kd.R_far (p:=⟨gb401,1,none⟩) (Kd.R_far (p:=⟨gb401,0,none⟩) (Kd.R_types HO397.out BK401.out (by decide)) (fun _ hk=>hk.2) (.int .i64 a0_0)) (fun _ hk=>hk.2) (.slice none 0 0)) (fun _ hk=>hk.2) (.slice Ao18 t398.length co18)) (fun _ hk=>hk.1)⟩,⟨by first|exact Kd.R_nil _ _ _ _ _|exact Kd.N_nil _ _ _ _ _|exact Kd.V_nil _ _ _ _ _|exact Kd.Q_nil _ _ _ _ _|exact Kd.S_nil _ _ _ _ _⟩,⟨by (with_reducible repeat (first|apply Kd.R_alloc|apply Kd.R_drewN|apply Kd.R_drew));exact Kd.R_mono (Kd.R_far (p:=⟨gb401,2,none⟩) (Kd.R_far (p:=⟨gb401,1,none⟩) (Kd.R_far (p:=⟨gb401,0,none⟩) (Kd.R_types HO400.out BK401.out (by decide)) (fun _ hk=>hk.2) (.int .i64 a0_0)) (fun _ hk=>hk.2) (.slice none 0 0)) (fun _ hk=>hk.2) (.slice Ao18 t398.length co18)) (fun _ hk=>hk.1)⟩,⟨by (with_reducible repeat (first|refine blk_drewN ?_ _|refine blk_drew ?_|refine blk_alloc ?_ _));refine blk_far ?_ NB392_401.out _;(with_reducible repeat (first|refine blk_drewN ?_ _|refine blk_drew ?_|refine blk_alloc ?_ _));refine blk_far ?_ NB392_401.out _;(with_reducible repeat (first|refine blk_drewN ?_ _|refine blk_drew ?_|refine blk_alloc ?_ _));refine blk_far ?_ NB392_401.out _;(with_reducible repeat (first|refine blk_drewN ?_ _|refine blk_drew ?_|refine blk_alloc ?_ _));exact BK392.out⟩,⟨by (with_reducible repeat (first|refine blk_drewN ?_ _|refine blk_drew ?_|refine blk_alloc ?_ _));refine blk_far ?_ NB393_401.out _;(with_reducible repeat (first|refine blk_drewN ?_ _|refine blk_drew ?_|refine blk_alloc ?_ _));refine blk_far ?_ NB393_401.out _;(with_reducible repeat (first|refine blk_drewN ?_ _|refine blk_drew ?_|refine blk_alloc ?_ _));refine blk_far ?_ NB393_401.out _;(with_reducible repeat (first|refine blk_drewN ?_ _|refine blk_drew ?_|refine blk_alloc ?_ _));exact BK393.out⟩,⟨by (with_reducible repeat (first|refine blk_drewN ?_ _|refine blk_drew ?_|refine blk_alloc ?_ _));refine blk_put (cs:=#[.int .i64 a0_0,.slice none 0 0,.slice none 0 0]) ?_ 2 _ rfl;(with_reducible repeat (first|refine blk_drewN ?_ _|refine blk_drew ?_|refine blk_alloc ?_ _));refine blk_put (cs:=#[.int .i64 a0_0,.slice none 0 0,.slice none 0 0]) ?_ 1 _ rfl;(with_reducible repeat (first|refine blk_drewN ?_ _|refine blk_drew ?_|refine blk_alloc ?_ _));refine blk_put (cs:=#[.int .i64 0,.slice none 0 0,.slice none 0 0]) ?_ 0 _ rfl;(with_reducible repeat (first|refine blk_drewN ?_ _|refine blk_drew ?_|refine blk_alloc ?_ _));exact BK401.out⟩,⟨by repeat (first|(with_reducible first|exact HB.out|apply below_alloc|apply pw_below_drewN|apply below_drew1|refine below_set ?_ GE392.out|refine below_set ?_ GE393.out|refine below_set ?_ GE401.out)|exact HB.out)⟩⟩
  case round=>
   clear H'
   try clear c2
   try clear p2
   try clear c3
   try clear c4
   try clear c6
   try clear c8
   try clear c22
   try clear hcz23_0
   try clear hcz23_1
   try clear hcz23_2
   try clear hcz9_0
   try clear hcz9_1
   try clear hcz9_2
   try clear hfz23_0
   try clear hfz23_1
   try clear hfz23_2
   try clear hfz9_0
   try clear hfz9_1
   try clear hfz9_2
   obtain ⟨x23_1,x402001_1,u402001,rfl,HA,HK1,HO_4,HO_402001,HO_402002,BK392,BK393,BK401,HB⟩:=hrel
   cases gk with
   | zero=>exact absurd HA.out (by simp [impl_SharePlan.l0])
   | succ k1=>
    have H:=HA.out
    clear HA
    simp only [impl_SharePlan.l0] at H
    by_cases c24 : x23_1 < (l0_1.length : Int)
    ·rw [if_pos c24] at H
     have c24b0 : decide (x23_1 < (l0_1.length : Int)) = true:=decide_eq_true c24
     clear c24
     by_cases c25 : 0 ≤ x23_1
     ·rw [if_pos c25] at H
      have c25b0 : decide (0 ≤ x23_1) = true:=decide_eq_true c25
      clear c25
      by_cases c26 : x23_1 < (l0_1.length : Int)
      ·rw [if_pos c26] at H
       have c26b0 : decide (x23_1 < (l0_1.length : Int)) = true:=decide_eq_true c26
       clear c26
       by_cases c27 : 0 ≤ ((rd_T73 l0_1 x23_1).f0)
       ·rw [if_pos c27] at H
        have c27b0 : decide (0 ≤ ((rd_T73 l0_1 x23_1).f0)) = true:=decide_eq_true c27
        clear c27
        by_cases c28 : ((rd_T73 l0_1 x23_1).f0) < (t395.length : Int)
        ·rw [if_pos c28] at H
         have c28b0 : decide (((rd_T73 l0_1 x23_1).f0) < (t395.length : Int)) = true:=decide_eq_true c28
         clear c28
         by_cases c29 : 0 ≤ ((rd_T73 l0_1 x23_1).f1)
         ·rw [if_pos c29] at H
          have c29b0 : decide (0 ≤ ((rd_T73 l0_1 x23_1).f1)) = true:=decide_eq_true c29
          clear c29
          by_cases c30 : ((rd_T73 l0_1 x23_1).f1) < (t395.length : Int)
          ·rw [if_pos c30] at H
           have c30b0 : decide (((rd_T73 l0_1 x23_1).f1) < (t395.length : Int)) = true:=decide_eq_true c30
           clear c30
           replace H:=Option.bind_eq_some_iff.mp H
           obtain ⟨⟨t406,t407⟩,A310,H⟩:=H
           replace H : (if x402001_1.length < 8796093022208 then (impl_SharePlan.l0 k1 t395 l0_1 (l0_1.length : Int) (wrap64 (x23_1 + 1)) a0_0 (x402001_1 ++ [(⟨t406,t407⟩ : S73)]) t398) else (none)) = some (r1,r2,r3,r4):=H
           have A31:=Aside0.mk A310
           clear A310
           by_cases c32 : x402001_1.length < 8796093022208
           ·rw [if_pos c32] at H
            have LMc32:=Aside0.mk c32
            clear c32
            obtain ⟨y408,hy408⟩ : ∃ y_ : List (S73),y_ = (x402001_1 ++ [(⟨t406,t407⟩ : S73)]):=⟨_,rfl⟩
            replace H : (impl_SharePlan.l0 k1 t395 l0_1 (l0_1.length : Int) (wrap64 (x23_1 + 1)) a0_0 y408 t398) = some (r1,r2,r3,r4):=by first|(rw [hy408];with_reducible exact H)|(have H2_:=(Option.bind_some _ _).symm.trans H;rw [hy408];with_reducible exact H2_)|(have H2_:=(Option.bind_some _ _).symm.trans H;with_reducible exact H2_)|with_reducible exact H|(rw [hy408];exact H)|exact H
            have Ny408:=Aside0.mk hy408
            clear hy408
            have H':=Aside0.mk H
            clear H
            have p402 : 0 ≤ (x23_1 : Int):=of_decide_eq_true az
            have q402 : x23_1 < (l0_1.length : Int):=of_decide_eq_true az
            obtain ⟨ad402,e402,hx402_0,hx402_1⟩:=at_T73 HR0_1.out x23_1 p402 q402
            cases e402
            replace hx402_0:=(HB.out.cell (World.block_lt_of_cell? w _ hx402_0)).trans hx402_0
            replace hx402_1:=(HB.out.cell (World.block_lt_of_cell? w _ hx402_1)).trans hx402_1
            replace p402:=eq_true p402
            replace q402:=eq_true q402
            try go_wp2_with (first|((with_reducible refine gate_dst (N:=7) rfl ?_);refine box_event ?hg (N:=7) ?hd (cs:=#[.int .i64 0,.int .i64 0]) (t:=73) ?hr ?_;(case hd=>rfl);(case hg=>rfl);(case hr=>first|(go_simp;done)|(go_simp;rfl));intro gb403 hg w33 hbox hb;have n0_:=Aside0.mk (Kd.R_below (rz HO_4.out) hb);have n1_:=Aside0.mk (Kd.R_below (Kd.R_elderB (rz HO_402001.out) gb403 (Nat.le_of_eq hg.symm)) hb);have n2_:=Aside0.mk (Kd.R_below (rz HO_402002.out) hb);have n3_:=Aside0.mk (blk_below (g:=gb392) (o:=.cells #[.int .i64 a0_0,.slice (some ad402) l0_1.length c0_1,.slice A0_2 l0_2.length c0_2] 29 (0,0)) (kz BK392.out) hb);have n4_:=Aside0.mk (blk_below (g:=gb393) (o:=.cells #[.int .i64 0,.slice none 0 0,.slice none 0 0] 29 (0,0)) (kz BK393.out) hb);have n5_:=Aside0.mk (blk_below (g:=gb401) (o:=.cells #[.int .i64 a0_0,u402001,.slice Ao18 t398.length co18] 29 (0,0)) (kz BK401.out) hb);have n6_:=Aside0.mk (below_step bs hb);have n7_:=Aside0.mk (hbox);have n8_:=Aside0.mk ((by rw [hg];exact (below_size bs) : w.heap.size ≤ gb403));have n9_:=Aside0.mk ((by rw [hg];exact (below_size bs) : w.heap.size ≤ gb403));have n10_:=Aside0.mk ((by rw [hg];exact Nat.ne_of_lt (blk_lt (g:=gb392) (o:=.cells #[.int .i64 a0_0,.slice (some ad402) l0_1.length c0_1,.slice A0_2 l0_2.length c0_2] 29 (0,0)) (kz BK392.out)) : gb392 ≠ gb403));have n11_:=Aside0.mk ((by rw [hg];exact Nat.ne_of_gt (blk_lt (g:=gb392) (o:=.cells #[.int .i64 a0_0,.slice (some ad402) l0_1.length c0_1,.slice A0_2 l0_2.length c0_2] 29 (0,0)) (kz BK392.out)) : gb403 ≠ gb392));have n12_:=Aside0.mk ((by rw [hg];exact Nat.ne_of_lt (blk_lt (g:=gb393) (o:=.cells #[.int .i64 0,.slice none 0 0,.slice none 0 0] 29 (0,0)) (kz BK393.out)) : gb393 ≠ gb403));have n13_:=Aside0.mk ((by rw [hg];exact Nat.ne_of_gt (blk_lt (g:=gb393) (o:=.cells #[.int .i64 0,.slice none 0 0,.slice none 0 0] 29 (0,0)) (kz BK393.out)) : gb403 ≠ gb393));have n14_:=Aside0.mk ((by rw [hg];exact Nat.ne_of_lt (blk_lt (g:=gb401) (o:=.cells #[.int .i64 a0_0,u402001,.slice Ao18 t398.length co18] 29 (0,0)) (kz BK401.out)) : gb401 ≠ gb403));have n15_:=Aside0.mk ((by rw [hg];exact Nat.ne_of_gt (blk_lt (g:=gb401) (o:=.cells #[.int .i64 a0_0,u402001,.slice Ao18 t398.length co18] 29 (0,0)) (kz BK401.out)) : gb403 ≠ gb401));clear HO_4 HO_402001 HO_402002 BK392 BK393 BK401 HB;have HO_4:=n0_;have HO_402001:=n1_;have HO_402002:=n2_;have BK392:=n3_;have BK393:=n4_;have BK401:=n5_;have HB:=n6_;have BK403:=n7_;have GW403:=n8_;have GE403:=n9_;have NB392_403:=n10_;have NB403_392:=n11_;have NB393_403:=n12_;have NB403_393:=n13_;have NB401_403:=n14_;have NB403_401:=n15_;clear n0_ n1_ n2_ n3_ n4_ n5_ n6_ n7_ n8_ n9_ n10_ n11_ n12_ n13_ n14_ n15_;clear hb hbox hg;have hnb34:=NB403_392.out;have hnc34:=NB392_403.out;have hnb35:=NB403_393.out;have hnc35:=NB393_403.out;have hnb36:=NB403_401.out;have hnc36:=NB401_403.out;have hcz37_0 : w33.cell? ⟨gb403,0,none⟩ = some (.int .i64 0):=(blk_cell BK403.out 0).trans rfl;have hcz37_1 : w33.cell? ⟨gb403,1,none⟩ = some (.int .i64 0):=(blk_cell BK403.out 1).trans rfl;have hfz37_0:=blk_frozen BK403.out 0;have hfz37_1:=blk_frozen BK403.out 1))
            have n0_ : Aside0 (Kd.R (Kd.int .i64) 3 ((w33.setCell ⟨gb403,0,none⟩ (.int .i64 ((rd_T73 l0_1 x23_1).f0))).setCell ⟨gb403,1,none⟩ (.int .i64 ((rd_T73 l0_1 x23_1).f1))) w.heap.size (fun k_=>some k_ ≠ (.slice Ao18 t398.length co18 : Value).ownBlock) (.slice Ao12 t395.length co12) t395):=⟨by (with_reducible repeat (first|apply Kd.R_alloc|apply Kd.R_drewN|apply Kd.R_drew));exact Kd.R_mono (Kd.R_far (p:=⟨gb403,1,none⟩) (Kd.R_far (p:=⟨gb403,0,none⟩) (Kd.R_types HO_4.out BK403.out (by decide)) (fun _ hk=>hk.2) (.int .i64 ((rd_T73 l0_1 x23_1).f0))) (fun _ hk=>hk.2) (.int .i64 ((rd_T73 l0_1 x23_1).f1))) (fun _ hk=>hk.1)⟩
            have n1_ : Aside0 (Kd.R k73 73 ((w33.setCell ⟨gb403,0,none⟩ (.int .i64 ((rd_T73 l0_1 x23_1).f0))).setCell ⟨gb403,1,none⟩ (.int .i64 ((rd_T73 l0_1 x23_1).f1))) w.heap.size (fun k_=>k_ ≠ gb403) u402001 x402001_1):=⟨by (with_reducible repeat (first|apply Kd.R_alloc|apply Kd.R_drewN|apply Kd.R_drew));exact Kd.R_mono (Kd.R_far (p:=⟨gb403,1,none⟩) (Kd.R_far (p:=⟨gb403,0,none⟩) (Kd.R_mono HO_402001.out (fun k_ hk=>(⟨hk,hk.2⟩ : _ ∧ k_ ≠ gb403))) (fun _ hk=>hk.2) (.int .i64 ((rd_T73 l0_1 x23_1).f0))) (fun _ hk=>hk.2) (.int .i64 ((rd_T73 l0_1 x23_1).f1))) (fun _ hk=>hk.1.2)⟩
            have n2_ : Aside0 (Kd.R (Kd.int .i64) 3 ((w33.setCell ⟨gb403,0,none⟩ (.int .i64 ((rd_T73 l0_1 x23_1).f0))).setCell ⟨gb403,1,none⟩ (.int .i64 ((rd_T73 l0_1 x23_1).f1))) w.heap.size (fun k_=>some k_ ≠ (.slice Ao12 t395.length co12 : Value).ownBlock) (.slice Ao18 t398.length co18) t398):=⟨by (with_reducible repeat (first|apply Kd.R_alloc|apply Kd.R_drewN|apply Kd.R_drew));exact Kd.R_mono (Kd.R_far (p:=⟨gb403,1,none⟩) (Kd.R_far (p:=⟨gb403,0,none⟩) (Kd.R_types HO_402002.out BK403.out (by decide)) (fun _ hk=>hk.2) (.int .i64 ((rd_T73 l0_1 x23_1).f0))) (fun _ hk=>hk.2) (.int .i64 ((rd_T73 l0_1 x23_1).f1))) (fun _ hk=>hk.1)⟩
            have n3_ : Aside0 (((w33.setCell ⟨gb403,0,none⟩ (.int .i64 ((rd_T73 l0_1 x23_1).f0))).setCell ⟨gb403,1,none⟩ (.int .i64 ((rd_T73 l0_1 x23_1).f1))).heap[gb392]? = some (.cells #[.int .i64 a0_0,.slice (some ad402) l0_1.length c0_1,.slice A0_2 l0_2.length c0_2] 29 (0,0))):=⟨by (with_reducible repeat (first|refine blk_drewN ?_ _|refine blk_drew ?_|refine blk_alloc ?_ _));refine blk_far ?_ NB392_403.out _;(with_reducible repeat (first|refine blk_drewN ?_ _|refine blk_drew ?_|refine blk_alloc ?_ _));refine blk_far ?_ NB392_403.out _;(with_reducible repeat (first|refine blk_drewN ?_ _|refine blk_drew ?_|refine blk_alloc ?_ _));exact BK392.out⟩
            have n4_ : Aside0 (((w33.setCell ⟨gb403,0,none⟩ (.int .i64 ((rd_T73 l0_1 x23_1).f0))).setCell ⟨gb403,1,none⟩ (.int .i64 ((rd_T73 l0_1 x23_1).f1))).heap[gb393]? = some (.cells #[.int .i64 0,.slice none 0 0,.slice none 0 0] 29 (0,0))):=⟨by (with_reducible repeat (first|refine blk_drewN ?_ _|refine blk_drew ?_|refine blk_alloc ?_ _));refine blk_far ?_ NB393_403.out _;(with_reducible repeat (first|refine blk_drewN ?_ _|refine blk_drew ?_|refine blk_alloc ?_ _));refine blk_far ?_ NB393_403.out _;(with_reducible repeat (first|refine blk_drewN ?_ _|refine blk_drew ?_|refine blk_alloc ?_ _));exact BK393.out⟩
            have n5_ : Aside0 (((w33.setCell ⟨gb403,0,none⟩ (.int .i64 ((rd_T73 l0_1 x23_1).f0))).setCell ⟨gb403,1,none⟩ (.int .i64 ((rd_T73 l0_1 x23_1).f1))).heap[gb401]? = some (.cells #[.int .i64 a0_0,u402001,.slice Ao18 t398.length co18] 29 (0,0))):=⟨by (with_reducible repeat (first|refine blk_drewN ?_ _|refine blk_drew ?_|refine blk_alloc ?_ _));refine blk_far ?_ NB401_403.out _;(with_reducible repeat (first|refine blk_drewN ?_ _|refine blk_drew ?_|refine blk_alloc ?_ _));refine blk_far ?_ NB401_403.out _;(with_reducible repeat (first|refine blk_drewN ?_ _|refine blk_drew ?_|refine blk_alloc ?_ _));exact BK401.out⟩
            have n6_ : Aside0 (((w33.setCell ⟨gb403,0,none⟩ (.int .i64 ((rd_T73 l0_1 x23_1).f0))).setCell ⟨gb403,1,none⟩ (.int .i64 ((rd_T73 l0_1 x23_1).f1))).heap[gb403]? = some (.cells #[.int .i64 ((rd_T73 l0_1 x23_1).f0),.int .i64 ((rd_T73 l0_1 x23_1).f1)] 73 (0,0))):=⟨by (with_reducible repeat (first|refine blk_drewN ?_ _|refine blk_drew ?_|refine blk_alloc ?_ _));refine blk_put (cs:=#[.int .i64 ((rd_T73 l0_1 x23_1).f0),.int .i64 0]) ?_ 1 _ rfl;(with_reducible repeat (first|refine blk_drewN ?_ _|refine blk_drew ?_|refine blk_alloc ?_ _));refine blk_put (cs:=#[.int .i64 0,.int .i64 0]) ?_ 0 _ rfl;(with_reducible repeat (first|refine blk_drewN ?_ _|refine blk_drew ?_|refine blk_alloc ?_ _));exact BK403.out⟩
            have n7_ : Aside0 (Below w.heap.size w ((w33.setCell ⟨gb403,0,none⟩ (.int .i64 ((rd_T73 l0_1 x23_1).f0))).setCell ⟨gb403,1,none⟩ (.int .i64 ((rd_T73 l0_1 x23_1).f1)))):=⟨by repeat (first|(with_reducible first|exact HB.out|apply below_alloc|apply pw_below_drewN|apply below_drew1|refine below_set ?_ GE392.out|refine below_set ?_ GE393.out|refine below_set ?_ GE401.out|refine below_set ?_ GE403.out)|exact HB.out)⟩
            (try clear HO_4)
            (try clear HO_402001)
            (try clear HO_402002)
            (try clear BK392)
            (try clear BK393)
            (try clear BK401)
            (try clear BK403)
            (try clear HB)
            generalize ((w33.setCell ⟨gb403,0,none⟩ (.int .i64 ((rd_T73 l0_1 x23_1).f0))).setCell ⟨gb403,1,none⟩ (.int .i64 ((rd_T73 l0_1 x23_1).f1))) = w38 at n0_ n1_ n2_ n3_ n4_ n5_ n6_ n7_ ⊢
            have HO_4:=n0_
            have HO_402001:=n1_
            have HO_402002:=n2_
            have BK392:=n3_
            have BK393:=n4_
            have BK401:=n5_
            have BK403:=n6_
            have HB:=n7_
            clear n0_ n1_ n2_ n3_ n4_ n5_ n6_ n7_
            have n0_:=Aside0.mk (Kd.R_drew HO_4.out)
            have n1_:=Aside0.mk (Kd.R_drew HO_402001.out)
            have n2_:=Aside0.mk (Kd.R_drew HO_402002.out)
            have n3_:=Aside0.mk (blk_drew BK392.out)
            have n4_:=Aside0.mk (blk_drew BK393.out)
            have n5_:=Aside0.mk (blk_drew BK401.out)
            have n6_:=Aside0.mk (blk_drew BK403.out)
            have n7_:=Aside0.mk (below_drew1 HB.out)
            clear HO_4
            clear HO_402001
            clear HO_402002
            clear BK392
            clear BK393
            clear BK401
            clear BK403
            clear HB
            have HO_4:=n0_
            have HO_402001:=n1_
            have HO_402002:=n2_
            have BK392:=n3_
            have BK393:=n4_
            have BK401:=n5_
            have BK403:=n6_
            have HB:=n7_
            clear n0_ n1_ n2_ n3_ n4_ n5_ n6_ n7_
            have p404 : 0 ≤ (((rd_T73 l0_1 x23_1).f0) : Int):=of_decide_eq_true az
            have q404 : ((rd_T73 l0_1 x23_1).f0) < (t395.length : Int):=of_decide_eq_true az
            obtain ⟨ad404,e404,hx404_0⟩:=Kd.at_int (Kd.R_reads' HO_4.out).2.2 ((rd_T73 l0_1 x23_1).f0) p404 q404
            cases e404
            replace p404:=eq_true p404
            replace q404:=eq_true q404
            have p405 : 0 ≤ (((rd_T73 l0_1 x23_1).f1) : Int):=of_decide_eq_true az
            have q405 : ((rd_T73 l0_1 x23_1).f1) < (t395.length : Int):=of_decide_eq_true az
            obtain ⟨ad405,e405,hx405_0⟩:=Kd.at_int (Kd.R_reads' HO_4.out).2.2 ((rd_T73 l0_1 x23_1).f1) p405 q405
            obtain rfl : ad404 = ad405:=(by injection e405)
            replace p405:=eq_true p405
            replace q405:=eq_true q405
            refine start_ (n:=17) (S:=fun w'=>w'.cell? ⟨gb401,0,none⟩ = some (.int .i64 a0_0) ∧ w'.cell? ⟨gb401,1,none⟩ = some (u402001) ∧ w'.cell? ⟨gb401,2,none⟩ = some (.slice Ao18 t398.length co18) ∧ w'.cell? ⟨gb403,0,none⟩ = some (.int .i64 ((rd_T73 l0_1 x23_1).f0)) ∧ w'.cell? ⟨gb403,1,none⟩ = some (.int .i64 ((rd_T73 l0_1 x23_1).f1)) ∧ w'.cell? (ad404.add (((rd_T73 l0_1 x23_1).f0)).toNat) = some (.int .i64 (rd t395 ((rd_T73 l0_1 x23_1).f0))) ∧ w'.cell? (ad404.add (((rd_T73 l0_1 x23_1).f1)).toNat) = some (.int .i64 (rd t395 ((rd_T73 l0_1 x23_1).f1)))) (ds:=[14,16]) #[false,false,false,false,false,false,false,false,false,false,false,false,false,false,false,false,false] (by kernel_rfl) rfl rfl ⟨(blk_cell BK401.out 0).trans rfl,(blk_cell BK401.out 1).trans rfl,(blk_cell BK401.out 2).trans rfl,(blk_cell BK403.out 0).trans rfl,(blk_cell BK403.out 1).trans rfl,hx404_0,hx405_0⟩ (fun hHeld=>?_);refine with_tabW impl_SharePlan.tab8 impl_SharePlan.bits8 (fun HT_ HW_=>?_)
            generalize w38.drew = w39 at HO_4 HO_402001 HO_402002 BK392 BK393 BK401 BK403 HB hx404_0 hx405_0 hHeld ⊢
            refine pure_ (i:=0) (N:=some 27) (v:=?_) (a':=?_) #[true,false,false,false,false,false,false,false,false,false,false,false,false,false,false,false,false] rfl rfl (any_of HT_.out (by kernel_rfl)) (fun _ _ _ h=>h) (Or.inl ⟨by rfl,?_⟩) ?_ ?_
            rotate_left
            ·intro w'
             go_simp
             with_reducible rfl
            rotate_left
            ·simp only [Act.put,List.setIfInBounds_toArray,List.set_cons_zero,List.set_cons_succ,i64_w,i32_w]
             rfl
            refine pure_ (i:=2) (N:=some 29) (v:=?_) (a':=?_) #[true,false,true,false,false,false,false,false,false,false,false,false,false,false,false,false,false] rfl rfl (any_of HT_.out (by kernel_rfl)) (fun _ _ _ h=>h) (Or.inl ⟨by rfl,?_⟩) ?_ ?_
            rotate_left
            ·intro w'
             go_simp
             with_reducible rfl
            rotate_left
            ·simp only [Act.put,List.setIfInBounds_toArray,List.set_cons_zero,List.set_cons_succ,i64_w,i32_w]
             rfl
            refine pure_ (i:=3) (N:=some 30) (v:=?_) (a':=?_) #[true,false,true,true,false,false,false,false,false,false,false,false,false,false,false,false,false] rfl rfl (any_of HT_.out (by kernel_rfl)) (fun _ _ _ h=>h) (Or.inl ⟨by rfl,?_⟩) ?_ ?_
            rotate_left
            ·intro w'
             go_simp
             with_reducible rfl
            rotate_left
            ·simp only [Act.put,List.setIfInBounds_toArray,List.set_cons_zero,List.set_cons_succ,i64_w,i32_w]
             rfl
            refine pure_ (i:=7) (N:=some 34) (v:=?_) (a':=?_) #[true,false,true,true,false,false,false,true,false,false,false,false,false,false,false,false,false] rfl rfl (any_of HT_.out (by kernel_rfl)) (fun _ _ _ h=>h) (Or.inl ⟨by rfl,?_⟩) ?_ ?_
            rotate_left
            ·intro w'
             go_simp
             with_reducible rfl
            rotate_left
            ·simp only [Act.put,List.setIfInBounds_toArray,List.set_cons_zero,List.set_cons_succ,i64_w,i32_w]
             rfl
            refine pure_ (i:=8) (N:=some 35) (v:=?_) (a':=?_) #[true,false,true,true,false,false,false,true,true,false,false,false,false,false,false,false,false] rfl rfl (any_of HT_.out (by kernel_rfl)) (fun _ _ _ h=>h) (Or.inl ⟨by rfl,?_⟩) ?_ ?_
            rotate_left
            ·intro w'
             go_simp
             with_reducible rfl
            rotate_left
            ·simp only [Act.put,List.setIfInBounds_toArray,List.set_cons_zero,List.set_cons_succ,i64_w,i32_w]
             rfl
            refine take_ (i:=1) (N:=some 28) (v:=?_) (a':=?_) #[true,true,true,true,false,false,false,true,true,false,false,false,false,false,false,false,false] rfl rfl (take_ofW HT_.out HW_.out (by kernel_rfl)) (fun _ _ _ h=>h) (Or.inl ⟨by rfl,?_⟩) hHeld ?_ ?_
            rotate_left
            ·rintro w' ⟨s0,s1,s2,s3,s4,s5,s6⟩
             go_simp
             with_reducible rfl
            rotate_left
            ·simp only [Act.put,List.setIfInBounds_toArray,List.set_cons_zero,List.set_cons_succ,i64_w,i32_w]
             rfl
            refine take_ (i:=4) (N:=some 31) (v:=?_) (a':=?_) #[true,true,true,true,true,false,false,true,true,false,false,false,false,false,false,false,false] rfl rfl (take_ofW HT_.out HW_.out (by kernel_rfl)) (fun _ _ _ h=>h) (Or.inl ⟨by rfl,?_⟩) hHeld ?_ ?_
            rotate_left
            ·rintro w' ⟨s0,s1,s2,s3,s4,s5,s6⟩
             go_simp
             with_reducible rfl
            rotate_left
            ·simp only [Act.put,List.setIfInBounds_toArray,List.set_cons_zero,List.set_cons_succ,i64_w,i32_w]
             rfl
            refine pure_ (i:=5) (N:=some 32) (v:=?_) (a':=?_) #[true,true,true,true,true,true,false,true,true,false,false,false,false,false,false,false,false] rfl rfl (any_of HT_.out (by kernel_rfl)) (fun _ _ _ h=>h) (Or.inl ⟨by rfl,?_⟩) ?_ ?_
            rotate_left
            ·intro w'
             go_simp
             with_reducible rfl
            rotate_left
            ·simp only [Act.put,List.setIfInBounds_toArray,List.set_cons_zero,List.set_cons_succ,i64_w,i32_w]
             rfl
            refine take_ (i:=6) (N:=some 33) (v:=?_) (a':=?_) #[true,true,true,true,true,true,true,true,true,false,false,false,false,false,false,false,false] rfl rfl (take_ofW HT_.out HW_.out (by kernel_rfl)) (fun _ _ _ h=>h) (Or.inl ⟨by rfl,?_⟩) hHeld ?_ ?_
            rotate_left
            ·rintro w' ⟨s0,s1,s2,s3,s4,s5,s6⟩
             go_simp
             with_reducible rfl
            rotate_left
            ·simp only [Act.put,List.setIfInBounds_toArray,List.set_cons_zero,List.set_cons_succ,i64_w,i32_w]
             rfl
            refine take_ (i:=9) (N:=some 36) (v:=?_) (a':=?_) #[true,true,true,true,true,true,true,true,true,true,false,false,false,false,false,false,false] rfl rfl (take_ofW HT_.out HW_.out (by kernel_rfl)) (fun _ _ _ h=>h) (Or.inl ⟨by rfl,?_⟩) hHeld ?_ ?_
            rotate_left
            ·rintro w' ⟨s0,s1,s2,s3,s4,s5,s6⟩
             go_simp
             with_reducible rfl
            rotate_left
            ·simp only [Act.put,List.setIfInBounds_toArray,List.set_cons_zero,List.set_cons_succ,i64_w,i32_w]
             rfl
            refine pure_ (i:=10) (N:=some 37) (v:=?_) (a':=?_) #[true,true,true,true,true,true,true,true,true,true,true,false,false,false,false,false,false] rfl rfl (any_of HT_.out (by kernel_rfl)) (fun _ _ _ h=>h) (Or.inl ⟨by rfl,?_⟩) ?_ ?_
            rotate_left
            ·intro w'
             go_simp
             with_reducible rfl
            rotate_left
            ·simp only [Act.put,List.setIfInBounds_toArray,List.set_cons_zero,List.set_cons_succ,i64_w,i32_w]
             rfl
            refine take_ (i:=11) (N:=some 38) (v:=?_) (a':=?_) #[true,true,true,true,true,true,true,true,true,true,true,true,false,false,false,false,false] rfl rfl (take_ofW HT_.out HW_.out (by kernel_rfl)) (fun _ _ _ h=>h) (Or.inl ⟨by rfl,?_⟩) hHeld ?_ ?_
            rotate_left
            ·rintro w' ⟨s0,s1,s2,s3,s4,s5,s6⟩
             go_simp
             with_reducible rfl
            rotate_left
            ·simp only [Act.put,List.setIfInBounds_toArray,List.set_cons_zero,List.set_cons_succ,i64_w,i32_w]
             rfl
            refine one_ (i:=12) (N:=some 39) #[true,true,true,true,true,true,true,true,true,true,true,true,true,false,false,false,false] rfl rfl (one_of HT_.out (by kernel_rfl)) (by decide) (fun K hK=>?_)
            refine goes_ Try.func65 (by kernel_rfl) rfl #[.int .i64 (rd t395 ((rd_T73 l0_1 x23_1).f0)),.int .i64 (rd t395 ((rd_T73 l0_1 x23_1).f1))] (by rfl) rfl rfl mz ?_
            with_reducible refine (impl_step.calls (rd t395 ((rd_T73 l0_1 x23_1).f0)) (rd t395 ((rd_T73 l0_1 x23_1).f1)) t406 t407 _ A31.out).mono ?_
            rintro e w40 ⟨rfl,hb⟩
            have HS5_:=(hb.cell (World.block_lt_of_cell? _ _ (hHeld.2.2.2.2.2.1))).trans (hHeld.2.2.2.2.2.1)
            have HS6_:=(hb.cell (World.block_lt_of_cell? _ _ (hHeld.2.2.2.2.2.2))).trans (hHeld.2.2.2.2.2.2)
            refine ⟨_,rfl,?_⟩
            have n0_:=Aside0.mk (Kd.R_below (rz HO_4.out) hb)
            have n1_:=Aside0.mk (Kd.R_below (rz HO_402001.out) hb)
            have n2_:=Aside0.mk (Kd.R_below (rz HO_402002.out) hb)
            have n3_:=Aside0.mk (blk_below (g:=gb392) (o:=.cells #[.int .i64 a0_0,.slice (some ad402) l0_1.length c0_1,.slice A0_2 l0_2.length c0_2] 29 (0,0)) (kz BK392.out) hb)
            have n4_:=Aside0.mk (blk_below (g:=gb393) (o:=.cells #[.int .i64 0,.slice none 0 0,.slice none 0 0] 29 (0,0)) (kz BK393.out) hb)
            have n5_:=Aside0.mk (blk_below (g:=gb401) (o:=.cells #[.int .i64 a0_0,u402001,.slice Ao18 t398.length co18] 29 (0,0)) (kz BK401.out) hb)
            have n6_:=Aside0.mk (blk_below (g:=gb403) (o:=.cells #[.int .i64 ((rd_T73 l0_1 x23_1).f0),.int .i64 ((rd_T73 l0_1 x23_1).f1)] 73 (0,0)) (kz BK403.out) hb)
            have n7_:=Aside0.mk (below_step bs hb)
            clear HO_4
            clear HO_402001
            clear HO_402002
            clear BK392
            clear BK393
            clear BK401
            clear BK403
            clear HB
            have HO_4:=n0_
            have HO_402001:=n1_
            have HO_402002:=n2_
            have BK392:=n3_
            have BK393:=n4_
            have BK401:=n5_
            have BK403:=n6_
            have HB:=n7_
            clear n0_ n1_ n2_ n3_ n4_ n5_ n6_ n7_
            (try clear hb)
            refine hK.out _ _ ⟨(blk_cell BK401.out 0).trans rfl,(blk_cell BK401.out 1).trans rfl,(blk_cell BK401.out 2).trans rfl,(blk_cell BK403.out 0).trans rfl,(blk_cell BK403.out 1).trans rfl,HS5_,HS6_⟩ (fun hHeld=>?_)
            clear hK K
            refine norm_ (a':=?_) ?_ ?_
            rotate_left
            ·show Act.put _ (some 39) _ = _
             simp only [Act.put,List.setIfInBounds_toArray,List.set_cons_zero,List.set_cons_succ,i64_w,i32_w]
             rfl
            refine one_ (i:=13) (N:=some 40) #[true,true,true,true,true,true,true,true,true,true,true,true,true,true,false,false,false] rfl rfl (one_of HT_.out (by kernel_rfl)) (by decide) (fun K hK=>?_)
            refine value_ (w1:=?_) (v:=?_) (by rfl) rfl ?_ ?_
            rotate_left 2
            ·go_simp
             constructor
             ·rfl
             ·rfl
            refine hK.out _ _ ⟨(blk_cell (blk_alloc BK401.out _) 0).trans rfl,(blk_cell (blk_alloc BK401.out _) 1).trans rfl,(blk_cell (blk_alloc BK401.out _) 2).trans rfl,(blk_cell (blk_alloc BK403.out _) 0).trans rfl,(blk_cell (blk_alloc BK403.out _) 1).trans rfl,(World.cell?_alloc_lt _ _ _ (World.block_lt_of_cell? _ _ (hHeld.2.2.2.2.2.1))).trans (hHeld.2.2.2.2.2.1),(World.cell?_alloc_lt _ _ _ (World.block_lt_of_cell? _ _ (hHeld.2.2.2.2.2.2))).trans (hHeld.2.2.2.2.2.2)⟩ (fun hHeld=>?_)
            clear hK K
            refine norm_ (a':=?_) ?_ ?_
            rotate_left
            ·show Act.put _ (some 40) _ = _
             simp only [Act.put,List.setIfInBounds_toArray,List.set_cons_zero,List.set_cons_succ,i64_w,i32_w]
             rfl
            refine last_ (i:=14) (N:=some 41) #[true,true,true,true,true,true,true,true,true,true,true,true,true,true,true,false,false] rfl rfl (one_of HT_.out (by kernel_rfl)) (by decide) (fun K hK=>?_)
            refine Kd.R_append_step k73 (w0:=w) w.heap.size (by rfl) (.tmp 28) (.tmp 40) 27 73 (.agg #[(.int .i64 0),(.int .i64 0)]) 16 rfl Try.underlying27 info73 rfl (by decide) (by omega) u402001 x402001_1 (⟨t406,t407⟩ : S73) [.int .i64 t406,.int .i64 t407] (fun k_=>k_ ≠ gb403) (fun _=>False) rfl rfl ?aP (fun _ hk=>hk.elim) ?aF ?aO ?aB ?aS ?aL ?_
            (case aP=>exact k73_mkM _ _ _ (⟨t406,t407⟩ : S73))
            (case aB=>exact bs)
            (case aF=>exact (fun k_ hk=>Kd.freshB (g:=gb403) (o:=.cells #[.int .i64 ((rd_T73 l0_1 x23_1).f0),.int .i64 ((rd_T73 l0_1 x23_1).f1)] 73 (0,0)) (kz BK403.out) k_ hk))
            (case aO=>exact (rz HO_402001.out))
            (case aS=>exact (below_size bs))
            (case aL=>have:=LMc32.out;omega)
            intro v409 w41 ho hb hg hat
            rw [← Ny408.out] at ho
            have n0_:=Aside0.mk (Kd.R_over' (rz HO_4.out) (Kd.R_typed (rz HO_402001.out)) (by decide) hg)
            have n1_:=Aside0.mk (Kd.R_over' (rz HO_402002.out) (Kd.R_typed (rz HO_402001.out)) (by decide) hg)
            have n2_:=Aside0.mk (blk_grown (g:=gb392) (o:=.cells #[.int .i64 a0_0,.slice (some ad402) l0_1.length c0_1,.slice A0_2 l0_2.length c0_2] 29 (0,0)) (kz BK392.out) hg (Kd.R_ne HO_402001.out BK392.out (by decide)))
            have n3_:=Aside0.mk (blk_grown (g:=gb393) (o:=.cells #[.int .i64 0,.slice none 0 0,.slice none 0 0] 29 (0,0)) (kz BK393.out) hg (Kd.R_ne HO_402001.out BK393.out (by decide)))
            have n4_:=Aside0.mk (blk_grown (g:=gb401) (o:=.cells #[.int .i64 a0_0,u402001,.slice Ao18 t398.length co18] 29 (0,0)) (kz BK401.out) hg (Kd.R_ne HO_402001.out BK401.out (by decide)))
            have n5_:=Aside0.mk (blk_grown (g:=gb403) (o:=.cells #[.int .i64 ((rd_T73 l0_1 x23_1).f0),.int .i64 ((rd_T73 l0_1 x23_1).f1)] 73 (0,0)) (kz BK403.out) hg (Kd.R_away HO_402001.out (fun _ hk=>hk)))
            have n6_:=Aside0.mk (hb)
            have n7_:=Aside0.mk (ho)
            clear HO_4
            clear HO_402002
            clear BK392
            clear BK393
            clear BK401
            clear BK403
            clear HB
            clear HO_402001
            have HO_4:=n0_
            have HO_402002:=n1_
            have BK392:=n2_
            have BK393:=n3_
            have BK401:=n4_
            have BK403:=n5_
            have HB:=n6_
            have HO410:=n7_
            clear n0_ n1_ n2_ n3_ n4_ n5_ n6_ n7_
            clear ho hb hg hat
            obtain ⟨Ao42,co42,eo42⟩:=Kd.R_slice HO410.out
            (first|subst eo42|(injection eo42 with f1_ f2_ f3_;have f4_:=f1_.symm;have f5_:=f3_.symm;clear f1_ f2_ f3_;subst f4_;subst f5_))
            refine hK.out _ _ ?_
            clear hK K
            refine norm_ (a':=?_) ?_ ?_
            rotate_left
            ·show Act.put _ (some 41) _ = _
             simp only [Act.put,List.setIfInBounds_toArray,List.set_cons_zero,List.set_cons_succ,i64_w,i32_w]
             rfl
            refine pure_ (i:=15) (N:=some 42) (v:=?_) (a':=?_) #[true,true,true,true,true,true,true,true,true,true,true,true,true,true,true,true,false] rfl rfl (any_of HT_.out (by kernel_rfl)) (fun _ _ _ h=>h) (Or.inl ⟨by rfl,?_⟩) ?_ ?_
            rotate_left
            ·intro w'
             go_simp
             with_reducible rfl
            rotate_left
            ·simp only [Act.put,List.setIfInBounds_toArray,List.set_cons_zero,List.set_cons_succ,i64_w,i32_w]
             rfl
            refine last_ (i:=16) (N:=none) #[true,true,true,true,true,true,true,true,true,true,true,true,true,true,true,true,true] rfl rfl (one_of HT_.out (by kernel_rfl)) (by decide) (fun K hK=>?_)
            have hs43 : w41.cell? ⟨gb401,1,none⟩ = some (u402001):=(blk_cell BK401.out 1).trans rfl
            have hfs43:=blk_frozen BK401.out 1
            have hns43_0:=NB392_401.out
            have hns43_1:=NB393_401.out
            have hns43_3:=NB403_401.out
            have hms43_0:=NB401_392.out
            have hms43_1:=NB401_393.out
            have hms43_3:=NB401_403.out
            refine skip_ (w1:=?_) (by rfl) rfl ?_ ?_
            rotate_left
            ·go_simp
             rfl
            refine hK.out _ _ ?_
            clear hK K
            refine done_ (done_of HT_.out (by kernel_rfl)) ?_
            try go_wp2
            go_roundg k1
            case measure=>have:=HK1.out;omega
            case rel=>exact ⟨(wrap64 (x23_1 + 1)),(y408),(.slice Ao42 y408.length co42),fz,H',⟨by have:=HK1.out;omega⟩,⟨by (with_reducible repeat (first|apply Kd.R_alloc|apply Kd.R_drewN|apply Kd.R_drew));exact Kd.R_mono (Kd.R_far (p:=⟨gb401,1,none⟩) (Kd.R_types HO_4.out BK401.out (by decide)) (fun _ hk=>hk.2) (.slice Ao42 y408.length co42)) (fun _ hk=>hk.1)⟩,⟨by (with_reducible repeat (first|apply Kd.R_alloc|apply Kd.R_drewN|apply Kd.R_drew));exact Kd.R_mono (Kd.R_far (p:=⟨gb401,1,none⟩) (Kd.R_types HO410.out BK401.out (by decide)) (fun _ hk=>hk.2) (.slice Ao42 y408.length co42)) (fun _ hk=>trivial)⟩,⟨by (with_reducible repeat (first|apply Kd.R_alloc|apply Kd.R_drewN|apply Kd.R_drew));exact Kd.R_mono (Kd.R_far (p:=⟨gb401,1,none⟩) (Kd.R_types HO_402002.out BK401.out (by decide)) (fun _ hk=>hk.2) (.slice Ao42 y408.length co42)) (fun _ hk=>hk.1)⟩,⟨by (with_reducible repeat (first|refine blk_drewN ?_ _|refine blk_drew ?_|refine blk_alloc ?_ _));refine blk_far ?_ NB392_401.out _;(with_reducible repeat (first|refine blk_drewN ?_ _|refine blk_drew ?_|refine blk_alloc ?_ _));exact BK392.out⟩,⟨by (with_reducible repeat (first|refine blk_drewN ?_ _|refine blk_drew ?_|refine blk_alloc ?_ _));refine blk_far ?_ NB393_401.out _;(with_reducible repeat (first|refine blk_drewN ?_ _|refine blk_drew ?_|refine blk_alloc ?_ _));exact BK393.out⟩,⟨by (with_reducible repeat (first|refine blk_drewN ?_ _|refine blk_drew ?_|refine blk_alloc ?_ _));refine blk_put (cs:=#[.int .i64 a0_0,u402001,.slice Ao18 t398.length co18]) ?_ 1 _ rfl;(with_reducible repeat (first|refine blk_drewN ?_ _|refine blk_drew ?_|refine blk_alloc ?_ _));exact BK401.out⟩,⟨by repeat (first|(with_reducible first|exact HB.out|apply below_alloc|apply pw_below_drewN|apply below_drew1|refine below_set ?_ GE392.out|refine below_set ?_ GE393.out|refine below_set ?_ GE401.out|refine below_set ?_ GE403.out)|exact HB.out)⟩⟩
           ·rw [if_neg c32] at H
            exact absurd H (by simp)
          ·rw [if_neg c30] at H
           exact absurd H (by simp)
         ·rw [if_neg c29] at H
          exact absurd H (by simp)
        ·rw [if_neg c28] at H
         exact absurd H (by simp)
       ·rw [if_neg c27] at H
        exact absurd H (by simp)
      ·rw [if_neg c26] at H
       exact absurd H (by simp)
     ·rw [if_neg c25] at H
      exact absurd H (by simp)
    ·rw [if_neg c24] at H
     have c24b0 : decide (x23_1 < (l0_1.length : Int)) = false:=decide_eq_false c24
     clear c24
     replace H:=Option.bind_eq_some_iff.mp H
     obtain ⟨⟨t411,t412,t415⟩,A440,H⟩:=H
     replace H : (some (t411,t412,t415,true)) = some (r1,r2,r3,r4):=H
     have A44:=Aside0.mk A440
     clear A440
     simp only [Option.some.injEq,Prod.mk.injEq] at H
     obtain ⟨rfl,rfl,rfl,rfl⟩:=H
     obtain ⟨Ao45,co45,eo45⟩:=Kd.R_slice HO_402001.out
     subst eo45
     go_wp2_with (first|((with_reducible refine gate_callee (f:=61) rfl ?_);refine goesL_ (some 44) rfl rfl Try.func61 (by kernel_rfl) rfl #[.pointer (some ⟨gb401,0,none⟩)] rfl mz ?_;(with_reducible refine (impl_Plan_trimmed.calls k1 gb401 a0_0 Ao45 co45 x402001_1 Ao18 co18 t398 t411 t412 t415 _ ?side1 ?side2 ?side3 ?side4 ?side5 A44.out).mono ?_);(case side1=>exact by (with_reducible repeat (first|refine blk_drewN ?_ _|refine blk_drew ?_|refine blk_alloc ?_ _));exact BK401.out);(case side2=>exact cz (Kd.R_reads' HO_402001.out).2.2);(case side3=>exact (Kd.R_reads' HO_402001.out).2.1);(case side4=>exact cz (Kd.R_reads' HO_402002.out).2.2);(case side5=>exact (Kd.R_reads' HO_402002.out).2.1);rintro e w46 ⟨v413,v416,rfl,ho0,ho1,hb⟩;refine ⟨_,rfl,?_⟩;have n0_:=Aside0.mk (Kd.R_elder' (rz HO_4.out) (Kd.R_base ho1) hb);have n1_:=Aside0.mk (Kd.R_elder' (rz HO_402001.out) (Kd.R_base ho0) hb);have n2_:=Aside0.mk (Kd.R_elder' (rz HO_402002.out) (Kd.R_base ho1) hb);have n3_:=Aside0.mk (Kd.R_lower (Kd.R_new' ho0 (Kd.R_lt (rz HO_402001.out))) (below_size bs));have n4_:=Aside0.mk (Kd.R_lower (Kd.R_new' (Kd.R_new' ho1 (Kd.R_lt (rz HO_4.out))) (Kd.R_lt (rz HO_402002.out))) (below_size bs));have n5_:=Aside0.mk (blk_below (g:=gb392) (o:=.cells #[.int .i64 a0_0,.slice A0_1 l0_1.length c0_1,.slice A0_2 l0_2.length c0_2] 29 (0,0)) (kz BK392.out) hb);have n6_:=Aside0.mk (blk_below (g:=gb393) (o:=.cells #[.int .i64 0,.slice none 0 0,.slice none 0 0] 29 (0,0)) (kz BK393.out) hb);have n7_:=Aside0.mk (blk_below (g:=gb401) (o:=.cells #[.int .i64 a0_0,.slice Ao45 x402001_1.length co45,.slice Ao18 t398.length co18] 29 (0,0)) (kz BK401.out) hb);have n8_:=Aside0.mk (below_step bs hb);clear HO_4 HO_402001 HO_402002 BK392 BK393 BK401 HB;have HO_4:=n0_;have HO_402001:=n1_;have HO_402002:=n2_;have HO414:=n3_;have HO417:=n4_;have BK392:=n5_;have BK393:=n6_;have BK401:=n7_;have HB:=n8_;clear n0_ n1_ n2_ n3_ n4_ n5_ n6_ n7_ n8_;(try clear hb);(try clear ho0);(try clear ho1);have hnb47:=NB393_392.out;have hnc47:=NB392_393.out;have hnb48:=NB393_401.out;have hnc48:=NB401_393.out;have hcz49_0 : w46.cell? ⟨gb393,0,none⟩ = some (.int .i64 0):=(blk_cell BK393.out 0).trans rfl;have hcz49_1 : w46.cell? ⟨gb393,1,none⟩ = some (.slice none 0 0):=(blk_cell BK393.out 1).trans rfl;have hcz49_2 : w46.cell? ⟨gb393,2,none⟩ = some (.slice none 0 0):=(blk_cell BK393.out 2).trans rfl;have hfz49_0:=blk_frozen BK393.out 0;have hfz49_1:=blk_frozen BK393.out 1;have hfz49_2:=blk_frozen BK393.out 2;obtain ⟨Ao50,co50,eo50⟩:=Kd.R_slice HO414.out;subst eo50;obtain ⟨Ao51,co51,eo51⟩:=Kd.R_slice HO417.out;subst eo51))
     refine bodyPost_ret (results_ct rfl _ _ gb393 29 #[.int .i64 t411,.slice Ao50 t412.length co50,.slice Ao51 t415.length co51] (0,0) _ rfl (by (with_reducible repeat (first|refine blk_drewN ?_ _|refine blk_drew ?_|refine blk_alloc ?_ _));refine blk_put (cs:=#[.int .i64 t411,.slice Ao50 t412.length co50,.slice none 0 0]) ?_ 2 _ rfl;(with_reducible repeat (first|refine blk_drewN ?_ _|refine blk_drew ?_|refine blk_alloc ?_ _));refine blk_put (cs:=#[.int .i64 t411,.slice none 0 0,.slice none 0 0]) ?_ 1 _ rfl;(with_reducible repeat (first|refine blk_drewN ?_ _|refine blk_drew ?_|refine blk_alloc ?_ _));refine blk_put (cs:=#[.int .i64 0,.slice none 0 0,.slice none 0 0]) ?_ 0 _ rfl;(with_reducible repeat (first|refine blk_drewN ?_ _|refine blk_drew ?_|refine blk_alloc ?_ _));exact BK393.out) Try.underlying29 rfl (by kernel_rfl)) rfl ?_
     exact ⟨_,_,by first|rfl|(simp [errW_none,errW_some] <;> rfl)|(simp [*,errW_none,errW_some] <;> rfl),by (with_reducible repeat (first|apply Kd.R_alloc|apply Kd.R_drewN|apply Kd.R_drew));exact Kd.R_mono (Kd.R_far (p:=⟨gb393,2,none⟩) (Kd.R_far (p:=⟨gb393,1,none⟩) (Kd.R_far (p:=⟨gb393,0,none⟩) (Kd.R_types HO414.out BK393.out (by decide)) (fun _ hk=>hk.2) (.int .i64 t411)) (fun _ hk=>hk.2) (.slice Ao50 t412.length co50)) (fun _ hk=>hk.2) (.slice Ao51 t415.length co51)) (fun _ hk=>trivial),by (with_reducible repeat (first|apply Kd.R_alloc|apply Kd.R_drewN|apply Kd.R_drew));exact Kd.R_mono (Kd.R_far (p:=⟨gb393,2,none⟩) (Kd.R_far (p:=⟨gb393,1,none⟩) (Kd.R_far (p:=⟨gb393,0,none⟩) (Kd.R_types HO417.out BK393.out (by decide)) (fun _ hk=>hk.2) (.int .i64 t411)) (fun _ hk=>hk.2) (.slice Ao50 t412.length co50)) (fun _ hk=>hk.2) (.slice Ao51 t415.length co51)) (fun _ hk=>trivial),by repeat (first|(with_reducible first|exact HB.out|apply below_alloc|apply pw_below_drewN|apply below_drew1|refine below_set ?_ GE392.out|refine below_set ?_ GE393.out|refine below_set ?_ GE401.out)|exact HB.out)⟩
 ·replace c3:=Bool.eq_false_iff.mpr c3
  subst c3
  have H1 : (some (0,([] : List (S73)),([] : List Int),false)) = some (r1,r2,r3,r4):=by rw [if_neg (show ¬ (false = true) by decide)] at H;exact H
  clear H
  have H:=H1
  clear H1
  simp only [Option.some.injEq,Prod.mk.injEq] at H
  obtain ⟨rfl,rfl,rfl,rfl⟩:=H
  go_enter Try.func25,Try.ntmps25
  go_wp2_with (first|((with_reducible refine gate_dst (N:=1) rfl ?_);refine box_event ?hg (N:=1) ?hd (cs:=#[.int .i64 a0_0,.slice A0_1 l0_1.length c0_1,.slice A0_2 l0_2.length c0_2]) (t:=29) ?hr ?_;(case hd=>rfl);(case hg=>rfl);(case hr=>first|(go_simp;done)|(go_simp;rfl));intro gb392 hg w52 hbox hb;have n0_:=Aside0.mk (below_step bz hb);have n1_:=Aside0.mk (hbox);have n2_:=Aside0.mk ((by rw [hg];exact (below_size bz) : w.heap.size ≤ gb392));have n3_:=Aside0.mk ((by rw [hg];exact (below_size bz) : w.heap.size ≤ gb392));clear HB;have HB:=n0_;have BK392:=n1_;have GW392:=n2_;have GE392:=n3_;clear n0_ n1_ n2_ n3_;clear hb hbox hg)|((with_reducible refine gate_dst (N:=2) rfl ?_);refine box_event ?hg (N:=2) ?hd (cs:=#[.int .i64 0,.slice none 0 0,.slice none 0 0]) (t:=29) ?hr ?_;(case hd=>rfl);(case hg=>rfl);(case hr=>first|(go_simp;done)|(go_simp;rfl));intro gb393 hg w53 hbox hb;have n0_:=Aside0.mk (blk_below (g:=gb392) (o:=.cells #[.int .i64 a0_0,.slice A0_1 l0_1.length c0_1,.slice A0_2 l0_2.length c0_2] 29 (0,0)) (kz BK392.out) hb);have n1_:=Aside0.mk (below_step bs hb);have n2_:=Aside0.mk (hbox);have n3_:=Aside0.mk ((by rw [hg];exact (below_size bs) : w.heap.size ≤ gb393));have n4_:=Aside0.mk ((by rw [hg];exact (below_size bs) : w.heap.size ≤ gb393));have n5_:=Aside0.mk ((by rw [hg];exact Nat.ne_of_lt (blk_lt (g:=gb392) (o:=.cells #[.int .i64 a0_0,.slice A0_1 l0_1.length c0_1,.slice A0_2 l0_2.length c0_2] 29 (0,0)) (kz BK392.out)) : gb392 ≠ gb393));have n6_:=Aside0.mk ((by rw [hg];exact Nat.ne_of_gt (blk_lt (g:=gb392) (o:=.cells #[.int .i64 a0_0,.slice A0_1 l0_1.length c0_1,.slice A0_2 l0_2.length c0_2] 29 (0,0)) (kz BK392.out)) : gb393 ≠ gb392));clear BK392 HB;have BK392:=n0_;have HB:=n1_;have BK393:=n2_;have GW393:=n3_;have GE393:=n4_;have NB392_393:=n5_;have NB393_392:=n6_;clear n0_ n1_ n2_ n3_ n4_ n5_ n6_;clear hb hbox hg;have hnb54:=NB392_393.out;have hnc54:=NB393_392.out;have hcz55_0 : w53.cell? ⟨gb392,0,none⟩ = some (.int .i64 a0_0):=(blk_cell BK392.out 0).trans rfl;have hcz55_1 : w53.cell? ⟨gb392,1,none⟩ = some (.slice A0_1 l0_1.length c0_1):=(blk_cell BK392.out 1).trans rfl;have hcz55_2 : w53.cell? ⟨gb392,2,none⟩ = some (.slice A0_2 l0_2.length c0_2):=(blk_cell BK392.out 2).trans rfl;have hfz55_0:=blk_frozen BK392.out 0;have hfz55_1:=blk_frozen BK392.out 1;have hfz55_2:=blk_frozen BK392.out 2)|((with_reducible refine gate_callee (f:=44) rfl ?_);refine goesL_ (some 9) rfl rfl Try.func44 (by kernel_rfl) rfl #[.agg #[.int .i64 a0_0,.slice A0_1 l0_1.length c0_1,.slice A0_2 l0_2.length c0_2]] rfl mz ?_;(with_reducible refine (impl_IsPlan.calls k a0_0 _ _ l0_1 _ _ l0_2 false _ ?side1 ?side2 ?side3 ?side4 A2.out).mono ?_);(case side1=>exact cz (Kd.C_below HR0_1.out HB.out));(case side2=>exact HC0_1.out);(case side3=>exact cz (Kd.C_below HR0_2.out HB.out));(case side4=>exact HC0_2.out);rintro e w56 ⟨rfl,hb⟩;refine ⟨_,rfl,?_⟩;have n0_:=Aside0.mk (blk_below (g:=gb392) (o:=.cells #[.int .i64 a0_0,.slice A0_1 l0_1.length c0_1,.slice A0_2 l0_2.length c0_2] 29 (0,0)) (kz BK392.out) hb);have n1_:=Aside0.mk (blk_below (g:=gb393) (o:=.cells #[.int .i64 0,.slice none 0 0,.slice none 0 0] 29 (0,0)) (kz BK393.out) hb);have n2_:=Aside0.mk (below_step bs hb);clear BK392 BK393 HB;have BK392:=n0_;have BK393:=n1_;have HB:=n2_;clear n0_ n1_ n2_;(try clear hb);have hcz57_0 : w56.cell? ⟨gb393,0,none⟩ = some (.int .i64 0):=(blk_cell BK393.out 0).trans rfl;have hcz57_1 : w56.cell? ⟨gb393,1,none⟩ = some (.slice none 0 0):=(blk_cell BK393.out 1).trans rfl;have hcz57_2 : w56.cell? ⟨gb393,2,none⟩ = some (.slice none 0 0):=(blk_cell BK393.out 2).trans rfl;have hfz57_0:=blk_frozen BK393.out 0;have hfz57_1:=blk_frozen BK393.out 1;have hfz57_2:=blk_frozen BK393.out 2))
  refine bodyPost_ret (results_ct rfl _ _ gb393 29 #[.int .i64 0,.slice none 0 0,.slice none 0 0] (0,0) _ rfl (by (with_reducible repeat (first|refine blk_drewN ?_ _|refine blk_drew ?_|refine blk_alloc ?_ _));refine blk_put (cs:=#[.int .i64 0,.slice none 0 0,.slice none 0 0]) ?_ 2 _ rfl;(with_reducible repeat (first|refine blk_drewN ?_ _|refine blk_drew ?_|refine blk_alloc ?_ _));refine blk_put (cs:=#[.int .i64 0,.slice none 0 0,.slice none 0 0]) ?_ 1 _ rfl;(with_reducible repeat (first|refine blk_drewN ?_ _|refine blk_drew ?_|refine blk_alloc ?_ _));refine blk_put (cs:=#[.int .i64 0,.slice none 0 0,.slice none 0 0]) ?_ 0 _ rfl;(with_reducible repeat (first|refine blk_drewN ?_ _|refine blk_drew ?_|refine blk_alloc ?_ _));exact BK393.out) Try.underlying29 rfl (by kernel_rfl)) rfl ?_
  exact ⟨_,_,by first|rfl|(simp [errW_none,errW_some] <;> rfl)|(simp [*,errW_none,errW_some] <;> rfl),by first|exact Kd.R_nil _ _ _ _ _|exact Kd.N_nil _ _ _ _ _|exact Kd.V_nil _ _ _ _ _|exact Kd.Q_nil _ _ _ _ _|exact Kd.S_nil _ _ _ _ _,by first|exact Kd.R_nil _ _ _ _ _|exact Kd.N_nil _ _ _ _ _|exact Kd.V_nil _ _ _ _ _|exact Kd.Q_nil _ _ _ _ _|exact Kd.S_nil _ _ _ _ _,by repeat (first|(with_reducible first|exact HB.out|apply below_alloc|apply pw_below_drewN|apply below_drew1|refine below_set ?_ GE392.out|refine below_set ?_ GE393.out)|exact HB.out)⟩
end Go.Proofs.Ytdcdaoancmpbeaa.MFnExactSharePlan
--sq
