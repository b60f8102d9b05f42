import Derived.Test.YtlefjgpkabijdaaMFnNeededPartsx0
import Derived.Test.YtlefjgpkabijdaaMFnNeededPartsx7
import Derived.Test.YtlefjgpkabijdaaMFnNeededPartsx8
import Derived.Test.YtlefjgpkabijdaaMFnNeededPartsx9
namespace Go.Proofs.Ytlefjgpkabijdaa.MFnNeededParts
open Go.RowKit Go.Proofs.YtlefjgpkabijdaaW.PrintWords Go.Proofs.YtlefjgpkabijdaaW.PrintLast Go.Proofs.YtlefjgpkabijdaaW.PrintMore Go.Proofs.YtlefjgpkabijdaaV Go.Proofs.YtlefjgpkabijdaaZ
attribute [local go_sem] max2_int min2_int max_two min_two max_three min_three max_four min_four   -- for this text's walks alone
set_option linter.unusedVariables false
set_option linter.unusedSimpArgs false
/-! ### impl_Plan_trimmed: function 40 -/
def impl_Plan_trimmed.l0 : Nat → List Bool → List Int → List (S56) → Int → Int → Int → List (S56) → List Int → Int → List (S56) → Option (Int × (List (S56)) × List Int)
 | 0,_,_,_,_,_,_,_,_,_,_=>none
 | k + 1,x3,x5,x23,x24,x25,x1000,x1001,x1002,x371000,x371001=>if x25 < x24 then (if 0 ≤ x25 then (if x25 < (x23.length : Int) then ((impl_Plan_many.f x371000 x371001 ([] : List Int)).bind fun t376=>(if x5.length < 17592186044416 then ((some (x5 ++ [t376] : List Int)).bind fun y377=>(if 0 ≤ (wrap64 (x1000 + x25)) then (if (wrap64 (x1000 + x25)) < (x3.length : Int) then (if rdOf false x3 (wrap64 (x1000 + x25)) = true then (if 0 ≤ ((rd_T56 x23 x25).f0) then (if ((rd_T56 x23 x25).f0) < (y377.length : Int) then (if 0 ≤ ((rd_T56 x23 x25).f1) then (if ((rd_T56 x23 x25).f1) < (y377.length : Int) then ((impl_step.f (rd y377 ((rd_T56 x23 x25).f0)) (rd y377 ((rd_T56 x23 x25).f1))).bind fun bt383=>(if x371001.length < 8796093022208 then (impl_Plan_trimmed.l0 k x3 y377 x23 x24 (wrap64 (x25 + 1)) x1000 x1001 x1002 x371000 (x371001 ++ [(⟨bt383.1,bt383.2⟩ : S56)])) else (none))) else (none)) else (none)) else (none)) else (none)) else (impl_Plan_trimmed.l0 k x3 y377 x23 x24 (wrap64 (x25 + 1)) x1000 x1001 x1002 x371000 x371001)) else (none)) else (none))) else (none))) else (none)) else (none)) else ((impl_renamed.f k x1002 x5).bind fun t371=>(some (x371000,x371001,t371)))
def impl_Plan_trimmed.f (k : Nat) (a0_0 : Int) (l0_1 : List (S56)) (l0_2 : List Int) : Option (Int × (List (S56)) × List Int):=(impl_Plan_used.f a0_0 l0_1 l0_2).bind fun t364=>((impl_firsts.f k a0_0).bind fun t367=>(impl_Plan_trimmed.l0 k t364 t367 l0_1 (l0_1.length : Int) 0 a0_0 l0_1 l0_2 a0_0 ([] : List (S56))))
theorem impl_Plan_trimmed.mono_l : ∀ k,(∀ y0 y1 y2 y3 y4 y5 y6 y7 y8 y9,LeO (impl_Plan_trimmed.l0 k y0 y1 y2 y3 y4 y5 y6 y7 y8 y9) (impl_Plan_trimmed.l0 (k + 1) y0 y1 y2 y3 y4 y5 y6 y7 y8 y9))
 | 0=>fun _ _ _ _ _ _ _ _ _ _ r h=>by simp [impl_Plan_trimmed.l0] at h
 | k + 1=>by
  have ih0:=impl_Plan_trimmed.mono_l k
  ·intro y0 y1 y2 y3 y4 y5 y6 y7 y8 y9
   unfold impl_Plan_trimmed.l0
   repeat' first
   | (with_reducible exact ih0 _ _ _ _ _ _ _ _ _ _)
   | (with_reducible exact impl_firsts.mono _ _)
   | (with_reducible exact impl_renamed.mono _ _ _)
   | (with_reducible exact LeO.refl _)
   | (with_reducible exact LeO.none _)
   | (with_reducible refine LeO.ite ?_ ?_)
   | (with_reducible refine LeO.bind ?_ (fun _=>?_))
   | exact ih0 _ _ _ _ _ _ _ _ _ _
   | exact impl_firsts.mono _ _
   | exact impl_renamed.mono _ _ _
   | exact LeO.none _
   | refine LeO.ite ?_ ?_
   | refine LeO.bind ?_ (fun _=>?_)
theorem impl_Plan_trimmed.mono : ∀ a0 a1 a2 k,LeO (impl_Plan_trimmed.f k a0 a1 a2) (impl_Plan_trimmed.f (k + 1) a0 a1 a2):=by
 intro a0 a1 a2 k
 have ih0:=impl_Plan_trimmed.mono_l k
 unfold impl_Plan_trimmed.f
 repeat' first
   | (with_reducible exact ih0 _ _ _ _ _ _ _ _ _ _)
   | (with_reducible exact impl_firsts.mono _ _)
   | (with_reducible exact impl_renamed.mono _ _ _)
   | (with_reducible exact LeO.refl _)
   | (with_reducible exact LeO.none _)
   | (with_reducible refine LeO.ite ?_ ?_)
   | (with_reducible refine LeO.bind ?_ (fun _=>?_))
   | exact ih0 _ _ _ _ _ _ _ _ _ _
   | exact impl_firsts.mono _ _
   | exact impl_renamed.mono _ _ _
   | exact LeO.none _
   | refine LeO.ite ?_ ?_
   | refine LeO.bind ?_ (fun _=>?_)
def impl_Plan_trimmed.T1 : Bool × List (List Nat × List Nat):=(true,[([],[]),([0],[0]),([],[]),([2],[2]),([3],[3]),([4],[4]),([5],[5]),([],[]),([7],[7]),([8],[8]),([9],[9]),([10,1],[10]),([],[]),([1,11,0,1,10,11,12],[1]),([12,6,13,0,1,2,3,4,5,6,10,11,12,13],[6,12]),([11,14,0,1,2,3,4,5,6,7,8,9,10,11,12,13,14],[11])])
def impl_Plan_trimmed.B1 : List Nat:=[0,1,0,4,12,28,60,0,128,384,896,1923,0,8067,16383,32767]
theorem impl_Plan_trimmed.tab1 : rtab .any (opsOf Try.f40 1) = impl_Plan_trimmed.T1:=by kernel_rfl
theorem impl_Plan_trimmed.bits1 : waitsOk impl_Plan_trimmed.T1.2 impl_Plan_trimmed.B1 = true:=by kernel_rfl
def impl_Plan_trimmed.T7 : Bool × List (List Nat × List Nat):=(true,[([],[]),([0],[0]),([],[]),([],[]),([3],[3]),([2,4],[2,4]),([5],[5]),([],[]),([],[]),([8],[8]),([7,9],[7,9]),([10],[10]),([6,11],[6,11]),([12],[12]),([1,13,12],[1,13]),([0,1,2,3,4,5,6,7,8,9,10,11,12,13,14],[]),([15,14,14,0,1,2,3,4,5,6,7,8,9,10,11,12,13,14],[14,15])])
def impl_Plan_trimmed.B7 : List Nat:=[0,1,0,0,8,28,60,0,0,256,896,1920,4092,8188,16383,32767,65535]
theorem impl_Plan_trimmed.tab7 : rtab .any (opsOf Try.f40 7) = impl_Plan_trimmed.T7:=by kernel_rfl
theorem impl_Plan_trimmed.bits7 : waitsOk impl_Plan_trimmed.T7.2 impl_Plan_trimmed.B7 = true:=by kernel_rfl
set_option maxHeartbeats 8000000 in
set_option maxRecDepth 100000 in
theorem impl_Plan_trimmed.calls (k : Nat) (g0_ : Nat) (a0_0 : Int) (A0_1 : Option Addr) (c0_1 : Nat) (l0_1 : List (S56)) (A0_2 : Option Addr) (c0_2 : Nat) (l0_2 : List Int) (r1 : Int) (r2 : List (S56)) (r3 : List Int) (w : World) (hx0_ : w.heap[g0_]? = some (.cells #[.int .i64 a0_0,.slice A0_1 l0_1.length c0_1,.slice A0_2 l0_2.length c0_2] 32 (0,0))) (hr0_1 : Kd.C k56 w A0_1 l0_1.length l0_1) (hc0_1 : l0_1.length ≤ c0_1) (hr0_2 : Kd.C (Kd.int .i64) w A0_2 l0_2.length l0_2) (hc0_2 : l0_2.length ≤ c0_2) (h : impl_Plan_trimmed.f k a0_0 l0_1 l0_2 = some (r1,r2,r3)) :
  Calls Try.prog 40 #[.pointer (some ⟨g0_,0,none⟩)] w fun e w'=>∃ v1_ v2_ : Value,e = .returned (.agg #[.int .i64 r1,v1_,v2_]) ∧ Kd.R k56 56 w' w.heap.size (fun _=>True) v1_ r2 ∧ Kd.R (Kd.int .i64) 3 w' w.heap.size (fun _=>True) v2_ r3 ∧ Below w.heap.size w w':=by
 have hu32:=Try.underlying32
 have hu56:=Try.underlying56
 have HR0_1:=Aside0.mk hr0_1
 have HC0_1:=Aside0.mk hc0_1
 clear hr0_1 hc0_1
 have HR0_2:=Aside0.mk hr0_2
 have HC0_2:=Aside0.mk hc0_2
 clear hr0_2 hc0_2
 have BK0:=Aside0.mk hx0_
 clear hx0_
 have HB:=Aside0.mk (Below.refl w.heap.size w)
 have H : ((impl_Plan_used.f a0_0 l0_1 l0_2).bind fun t364=>((impl_firsts.f k a0_0).bind fun t367=>(impl_Plan_trimmed.l0 k t364 t367 l0_1 (l0_1.length : Int) 0 a0_0 l0_1 l0_2 a0_0 ([] : List (S56))))) = some (r1,r2,r3):=h
 clear h
 obtain ⟨t364,A2,H⟩:=bd H
 obtain ⟨t367,A3,H⟩:=bd H
 have H':=Aside0.mk H
 clear H
 go_enter Try.func40,Try.ntmps40
 try go_wp2_with (first|((with_reducible refine gate_dst (N:=2) rfl ?_);refine box_event ?hg (N:=2) ?hd (cs:=#[.int .i64 0,.slice none 0 0,.slice none 0 0]) (t:=32) ?hr ?_;(case hd=>rfl);(case hg=>rfl);(case hr=>first|(go_simp;done)|(go_simp;rfl));intro gb363 hg w4 hbox hb;have n0_:=Aside0.mk (blk_below (g:=g0_) (o:=.cells #[.int .i64 a0_0,.slice A0_1 l0_1.length c0_1,.slice A0_2 l0_2.length c0_2] 32 (0,0)) (kz BK0.out) hb);have n1_:=Aside0.mk (below_step bs hb);have n2_:=Aside0.mk (hbox);have n3_:=Aside0.mk ((by rw [hg];exact (below_size bs) : w.heap.size ≤ gb363));have n4_:=Aside0.mk ((by rw [hg];exact (below_size bs) : w.heap.size ≤ gb363));have n5_:=Aside0.mk ((by rw [hg];exact Nat.ne_of_lt (blk_lt (g:=g0_) (o:=.cells #[.int .i64 a0_0,.slice A0_1 l0_1.length c0_1,.slice A0_2 l0_2.length c0_2] 32 (0,0)) (kz BK0.out)) : g0_ ≠ gb363));have n6_:=Aside0.mk ((by rw [hg];exact Nat.ne_of_gt (blk_lt (g:=g0_) (o:=.cells #[.int .i64 a0_0,.slice A0_1 l0_1.length c0_1,.slice A0_2 l0_2.length c0_2] 32 (0,0)) (kz BK0.out)) : gb363 ≠ g0_));clear BK0 HB;have BK0:=n0_;have HB:=n1_;have BK363:=n2_;have GW363:=n3_;have GE363:=n4_;have NB0_363:=n5_;have NB363_0:=n6_;clear n0_ n1_ n2_ n3_ n4_ n5_ n6_;clear hb hbox hg))
 have n0_:=Aside0.mk (blk_drew BK0.out)
 have n1_:=Aside0.mk (blk_drew BK363.out)
 have n2_:=Aside0.mk (below_drew1 HB.out)
 clear BK0
 clear BK363
 clear HB
 have BK0:=n0_
 have BK363:=n1_
 have HB:=n2_
 clear n0_ n1_ n2_
 refine start_ (n:=16) (S:=fun w'=>w'.cell? ⟨g0_,0,none⟩ = some (.int .i64 a0_0) ∧ w'.cell? ⟨g0_,1,none⟩ = some (.slice A0_1 l0_1.length c0_1) ∧ w'.cell? ⟨g0_,2,none⟩ = some (.slice A0_2 l0_2.length c0_2)) (ds:=[]) #[false,false,false,false,false,false,false,false,false,false,false,false,false,false,false,false] (by kernel_rfl) rfl rfl ⟨(blk_cell BK0.out 0).trans rfl,(blk_cell BK0.out 1).trans rfl,(blk_cell BK0.out 2).trans rfl⟩ (fun hHeld=>?_);refine with_tabW impl_Plan_trimmed.tab1 impl_Plan_trimmed.bits1 (fun HT_ HW_=>?_)
 generalize w4.drew = w5 at BK0 BK363 HB hHeld ⊢
 refine pure_ (i:=0) (N:=some 8) (v:=?_) (a':=?_) #[true,false,false,false,false,false,false,false,false,false,false,false,false,false,false,false] rfl rfl (any_of HT_.out (by kernel_rfl)) (fun _ _ _ h=>h) (Or.inl ⟨by rfl,?_⟩) ?_ ?_
 rotate_left
 ·intro w'
  go_simp
  with_reducible rfl
 rotate_left
 ·simp only [Act.put,xa,xb,xc,i64_w,i32_w]
  rfl
 refine pure_ (i:=2) (N:=some 10) (v:=?_) (a':=?_) #[true,false,true,false,false,false,false,false,false,false,false,false,false,false,false,false] rfl rfl (any_of HT_.out (by kernel_rfl)) (fun _ _ _ h=>h) (Or.inl ⟨by rfl,?_⟩) ?_ ?_
 rotate_left
 ·intro w'
  go_simp
  with_reducible rfl
 rotate_left
 ·simp only [Act.put,xa,xb,xc,i64_w,i32_w]
  rfl
 refine pure_ (i:=3) (N:=some 11) (v:=?_) (a':=?_) #[true,false,true,true,false,false,false,false,false,false,false,false,false,false,false,false] rfl rfl (any_of HT_.out (by kernel_rfl)) (fun _ _ _ h=>h) (Or.inl ⟨by rfl,?_⟩) ?_ ?_
 rotate_left
 ·intro w'
  go_simp
  with_reducible rfl
 rotate_left
 ·simp only [Act.put,xa,xb,xc,i64_w,i32_w]
  rfl
 refine pure_ (i:=4) (N:=some 12) (v:=?_) (a':=?_) #[true,false,true,true,true,false,false,false,false,false,false,false,false,false,false,false] rfl rfl (any_of HT_.out (by kernel_rfl)) (fun _ _ _ h=>h) (Or.inl ⟨by rfl,?_⟩) ?_ ?_
 rotate_left
 ·intro w'
  go_simp
  with_reducible rfl
 rotate_left
 ·simp only [Act.put,xa,xb,xc,i64_w,i32_w]
  rfl
 refine pure_ (i:=7) (N:=some 15) (v:=?_) (a':=?_) #[true,false,true,true,true,false,false,true,false,false,false,false,false,false,false,false] rfl rfl (any_of HT_.out (by kernel_rfl)) (fun _ _ _ h=>h) (Or.inl ⟨by rfl,?_⟩) ?_ ?_
 rotate_left
 ·intro w'
  go_simp
  with_reducible rfl
 rotate_left
 ·simp only [Act.put,xa,xb,xc,i64_w,i32_w]
  rfl
 refine pure_ (i:=8) (N:=some 16) (v:=?_) (a':=?_) #[true,false,true,true,true,false,false,true,true,false,false,false,false,false,false,false] rfl rfl (any_of HT_.out (by kernel_rfl)) (fun _ _ _ h=>h) (Or.inl ⟨by rfl,?_⟩) ?_ ?_
 rotate_left
 ·intro w'
  go_simp
  with_reducible rfl
 rotate_left
 ·simp only [Act.put,xa,xb,xc,i64_w,i32_w]
  rfl
 refine pure_ (i:=9) (N:=some 17) (v:=?_) (a':=?_) #[true,false,true,true,true,false,false,true,true,true,false,false,false,false,false,false] rfl rfl (any_of HT_.out (by kernel_rfl)) (fun _ _ _ h=>h) (Or.inl ⟨by rfl,?_⟩) ?_ ?_
 rotate_left
 ·intro w'
  go_simp
  with_reducible rfl
 rotate_left
 ·simp only [Act.put,xa,xb,xc,i64_w,i32_w]
  rfl
 refine take_ (i:=5) (N:=some 13) (v:=?_) (a':=?_) #[true,false,true,true,true,true,false,true,true,true,false,false,false,false,false,false] rfl rfl (take_ofW HT_.out HW_.out (by kernel_rfl)) (fun _ _ _ h=>h) (Or.inl ⟨by rfl,?_⟩) hHeld ?_ ?_
 rotate_left
 ·rintro w' ⟨s0,s1,s2⟩
  go_simp
  with_reducible rfl
 rotate_left
 ·simp only [Act.put,xa,xb,xc,i64_w,i32_w]
  rfl
 refine pure_ (i:=6) (N:=some 14) (v:=?_) (a':=?_) #[true,false,true,true,true,true,true,true,true,true,false,false,false,false,false,false] rfl rfl (any_of HT_.out (by kernel_rfl)) (fun _ _ _ h=>h) (Or.inl ⟨by rfl,?_⟩) ?_ ?_
 rotate_left
 ·intro w'
  go_simp
  with_reducible rfl
 rotate_left
 ·simp only [Act.put,xa,xb,xc,i64_w,i32_w]
  rfl
 refine take_ (i:=10) (N:=some 18) (v:=?_) (a':=?_) #[true,false,true,true,true,true,true,true,true,true,true,false,false,false,false,false] rfl rfl (take_ofW HT_.out HW_.out (by kernel_rfl)) (fun _ _ _ h=>h) (Or.inl ⟨by rfl,?_⟩) hHeld ?_ ?_
 rotate_left
 ·rintro w' ⟨s0,s1,s2⟩
  go_simp
  with_reducible rfl
 rotate_left
 ·simp only [Act.put,xa,xb,xc,i64_w,i32_w]
  rfl
 refine join_ (σ:=Value × Value × Nat) 3 #[true,true,true,true,true,true,true,true,true,true,true,true,true,false,false,false] (fun s_=>[(9,s_.1),(19,s_.2.1),(4,.pointer (some ⟨s_.2.2,0,none⟩))]) (fun s_ w'=>(w'.cell? ⟨g0_,0,none⟩ = some (.int .i64 a0_0) ∧ w'.cell? ⟨g0_,1,none⟩ = some (.slice A0_1 l0_1.length c0_1) ∧ w'.cell? ⟨g0_,2,none⟩ = some (.slice A0_2 l0_2.length c0_2)) ∧ (Kd.R Kd.bool 4 w' w.heap.size (fun _=>True) s_.1 t364) ∧ (Kd.R (Kd.int .i64) 3 w' w.heap.size (fun _=>True) s_.2.1 t367) ∧ (w'.heap[g0_]? = some (.cells #[.int .i64 a0_0,.slice A0_1 l0_1.length c0_1,.slice A0_2 l0_2.length c0_2] 32 (0,0))) ∧ (w'.heap[gb363]? = some (.cells #[.int .i64 0,.slice none 0 0,.slice none 0 0] 32 (0,0))) ∧ (w'.heap[s_.2.2]? = some (.cells #[.int .i64 0,.slice none 0 0,.slice none 0 0] 32 (0,0))) ∧ (w.heap.size ≤ s_.2.2) ∧ (w.heap.size ≤ s_.2.2) ∧ (g0_ ≠ s_.2.2) ∧ (s_.2.2 ≠ g0_) ∧ (gb363 ≠ s_.2.2) ∧ (s_.2.2 ≠ gb363) ∧ (Below w.heap.size w w')) ?_ ?_
 rotate_left
 ·intro hCont
  refine two_ (i:=1) (j:=12) (Ni:=some 9) (Nj:=some 4) #[true,true,true,true,true,true,true,true,true,true,true,false,false,false,false,false] #[true,false,true,true,true,true,true,true,true,true,true,false,true,false,false,false] rfl rfl rfl rfl (two_of HT_.out (by kernel_rfl)) (by decide) (by decide) (fun K hK=>?_) (fun K hK=>?_)
  ·skip
   refine goes_ Try.func73 (by kernel_rfl) rfl #[.pointer (some ⟨g0_,0,none⟩)] (by rfl) rfl rfl mz ?_
   with_reducible refine (impl_Plan_used.calls g0_ a0_0 A0_1 c0_1 l0_1 A0_2 c0_2 l0_2 t364 _ ?side1 ?side2 ?side3 ?side4 ?side5 A2.out).mono ?_
   (case side1=>exact by (with_reducible repeat (first|refine blk_drewN ?_ _|refine blk_drew ?_|refine blk_alloc ?_ _));exact BK0.out)
   (case side2=>exact cz (Kd.C_below HR0_1.out HB.out))
   (case side3=>exact HC0_1.out)
   (case side4=>exact cz (Kd.C_below HR0_2.out HB.out))
   (case side5=>exact HC0_2.out)
   rintro e w6 ⟨v365,rfl,ho0,hb⟩
   refine ⟨_,rfl,?_⟩
   have n0_:=Aside0.mk (Kd.R_lower ho0 (below_size bs))
   have n1_:=Aside0.mk (blk_below (g:=g0_) (o:=.cells #[.int .i64 a0_0,.slice A0_1 l0_1.length c0_1,.slice A0_2 l0_2.length c0_2] 32 (0,0)) (kz BK0.out) hb)
   have n2_:=Aside0.mk (blk_below (g:=gb363) (o:=.cells #[.int .i64 0,.slice none 0 0,.slice none 0 0] 32 (0,0)) (kz BK363.out) hb)
   have n3_:=Aside0.mk (below_step bs hb)
   clear BK0
   clear BK363
   clear HB
   have HO366:=n0_
   have BK0:=n1_
   have BK363:=n2_
   have HB:=n3_
   clear n0_ n1_ n2_ n3_
   (try clear hb)
   (try clear ho0)
   refine hK.out _ _ ⟨(blk_cell BK0.out 0).trans rfl,(blk_cell BK0.out 1).trans rfl,(blk_cell BK0.out 2).trans rfl⟩ (fun hHeld=>?_)
   clear hK K
   refine norm_ (a':=?_) ?_ ?_
   rotate_left
   ·show Act.put _ (some 9) _ = _
    simp only [Act.put,xa,xb,xc,i64_w,i32_w]
    rfl
   refine two_ (i:=11) (j:=12) (Ni:=some 19) (Nj:=some 4) #[true,true,true,true,true,true,true,true,true,true,true,true,false,false,false,false] #[true,true,true,true,true,true,true,true,true,true,true,false,true,false,false,false] rfl rfl rfl rfl (two_of HT_.out (by kernel_rfl)) (by decide) (by decide) (fun K hK=>?_) (fun K hK=>?_)
   ·skip
    refine goes_ Try.func74 (by kernel_rfl) rfl #[.int .i64 a0_0] (by rfl) rfl rfl mz ?_
    with_reducible refine (impl_firsts.calls k a0_0 t367 _ A3.out).mono ?_
    rintro e w7 ⟨v368,rfl,ho0,hb⟩
    refine ⟨_,rfl,?_⟩
    have n0_:=Aside0.mk (Kd.R_below (rz HO366.out) hb)
    have n1_:=Aside0.mk (Kd.R_lower ho0 (below_size bs))
    have n2_:=Aside0.mk (blk_below (g:=g0_) (o:=.cells #[.int .i64 a0_0,.slice A0_1 l0_1.length c0_1,.slice A0_2 l0_2.length c0_2] 32 (0,0)) (kz BK0.out) hb)
    have n3_:=Aside0.mk (blk_below (g:=gb363) (o:=.cells #[.int .i64 0,.slice none 0 0,.slice none 0 0] 32 (0,0)) (kz BK363.out) hb)
    have n4_:=Aside0.mk (below_step bs hb)
    clear HO366
    clear BK0
    clear BK363
    clear HB
    have HO366:=n0_
    have HO369:=n1_
    have BK0:=n2_
    have BK363:=n3_
    have HB:=n4_
    clear n0_ n1_ n2_ n3_ n4_
    (try clear hb)
    (try clear ho0)
    refine hK.out _ _ ⟨(blk_cell BK0.out 0).trans rfl,(blk_cell BK0.out 1).trans rfl,(blk_cell BK0.out 2).trans rfl⟩ (fun hHeld=>?_)
    clear hK K
    refine norm_ (a':=?_) ?_ ?_
    rotate_left
    ·show Act.put _ (some 19) _ = _
     simp only [Act.put,xa,xb,xc,i64_w,i32_w]
     rfl
    refine one_ (i:=12) (N:=some 4) #[true,true,true,true,true,true,true,true,true,true,true,true,true,false,false,false] rfl rfl (one_of HT_.out (by kernel_rfl)) (by decide) (fun K hK=>?_)
    refine box_step ?hg (N:=4) ?hd (cs:=#[.int .i64 0,.slice none 0 0,.slice none 0 0]) (t:=32) ?hr ?_;(case hd=>rfl);(case hg=>rfl);(case hr=>first|(go_simp;done)|(go_simp;rfl))
    intro gb370 hg w8 hbox hb
    have n0_:=Aside0.mk (Kd.R_below (rz HO366.out) hb)
    have n1_:=Aside0.mk (Kd.R_below (rz HO369.out) hb)
    have n2_:=Aside0.mk (blk_below (g:=g0_) (o:=.cells #[.int .i64 a0_0,.slice A0_1 l0_1.length c0_1,.slice A0_2 l0_2.length c0_2] 32 (0,0)) (kz BK0.out) hb)
    have n3_:=Aside0.mk (blk_below (g:=gb363) (o:=.cells #[.int .i64 0,.slice none 0 0,.slice none 0 0] 32 (0,0)) (kz BK363.out) hb)
    have n4_:=Aside0.mk (below_step bs hb)
    have n5_:=Aside0.mk (hbox)
    have n6_:=Aside0.mk ((by rw [hg];exact (below_size bs) : w.heap.size ≤ gb370))
    have n7_:=Aside0.mk ((by rw [hg];exact (below_size bs) : w.heap.size ≤ gb370))
    have n8_:=Aside0.mk ((by rw [hg];exact Nat.ne_of_lt (blk_lt (g:=g0_) (o:=.cells #[.int .i64 a0_0,.slice A0_1 l0_1.length c0_1,.slice A0_2 l0_2.length c0_2] 32 (0,0)) (kz BK0.out)) : g0_ ≠ gb370))
    have n9_:=Aside0.mk ((by rw [hg];exact Nat.ne_of_gt (blk_lt (g:=g0_) (o:=.cells #[.int .i64 a0_0,.slice A0_1 l0_1.length c0_1,.slice A0_2 l0_2.length c0_2] 32 (0,0)) (kz BK0.out)) : gb370 ≠ g0_))
    have n10_:=Aside0.mk ((by rw [hg];exact Nat.ne_of_lt (blk_lt (g:=gb363) (o:=.cells #[.int .i64 0,.slice none 0 0,.slice none 0 0] 32 (0,0)) (kz BK363.out)) : gb363 ≠ gb370))
    have n11_:=Aside0.mk ((by rw [hg];exact Nat.ne_of_gt (blk_lt (g:=gb363) (o:=.cells #[.int .i64 0,.slice none 0 0,.slice none 0 0] 32 (0,0)) (kz BK363.out)) : gb370 ≠ gb363))
    clear HO366
    clear HO369
    clear BK0
    clear BK363
    clear HB
    have HO366:=n0_
    have HO369:=n1_
    have BK0:=n2_
    have BK363:=n3_
    have HB:=n4_
    have BK370:=n5_
    have GW370:=n6_
    have GE370:=n7_
    have NB0_370:=n8_
    have NB370_0:=n9_
    have NB363_370:=n10_
    have NB370_363:=n11_
    clear n0_ n1_ n2_ n3_ n4_ n5_ n6_ n7_ n8_ n9_ n10_ n11_
    clear hb hbox hg
    refine hK.out _ _ ⟨(blk_cell BK0.out 0).trans rfl,(blk_cell BK0.out 1).trans rfl,(blk_cell BK0.out 2).trans rfl⟩ (fun hHeld=>?_)
    clear hK K
    refine norm_ (a':=?_) ?_ ?_
    rotate_left
    ·show Act.put _ (some 4) _ = _
     simp only [Act.put,xa,xb,xc,i64_w,i32_w]
     rfl
    exact norm_ (by simp only [putAll,Act.put,List.setIfInBounds_toArray,List.set_cons_zero,List.set_cons_succ]) (hCont (v365,v368,gb370) _ ⟨hHeld,(rz HO366.out),(rz HO369.out),(kz BK0.out),(kz BK363.out),(kz BK370.out),GW370.out,GE370.out,NB0_370.out,NB370_0.out,NB363_370.out,NB370_363.out,bs⟩)
   ·skip
    refine box_step ?hg (N:=4) ?hd (cs:=#[.int .i64 0,.slice none 0 0,.slice none 0 0]) (t:=32) ?hr ?_;(case hd=>rfl);(case hg=>rfl);(case hr=>first|(go_simp;done)|(go_simp;rfl))
    intro gb370 hg w7 hbox hb
    have n0_:=Aside0.mk (Kd.R_below (rz HO366.out) hb)
    have n1_:=Aside0.mk (blk_below (g:=g0_) (o:=.cells #[.int .i64 a0_0,.slice A0_1 l0_1.length c0_1,.slice A0_2 l0_2.length c0_2] 32 (0,0)) (kz BK0.out) hb)
    have n2_:=Aside0.mk (blk_below (g:=gb363) (o:=.cells #[.int .i64 0,.slice none 0 0,.slice none 0 0] 32 (0,0)) (kz BK363.out) hb)
    have n3_:=Aside0.mk (below_step bs hb)
    have n4_:=Aside0.mk (hbox)
    have n5_:=Aside0.mk ((by rw [hg];exact (below_size bs) : w.heap.size ≤ gb370))
    have n6_:=Aside0.mk ((by rw [hg];exact (below_size bs) : w.heap.size ≤ gb370))
    have n7_:=Aside0.mk ((by rw [hg];exact Nat.ne_of_lt (blk_lt (g:=g0_) (o:=.cells #[.int .i64 a0_0,.slice A0_1 l0_1.length c0_1,.slice A0_2 l0_2.length c0_2] 32 (0,0)) (kz BK0.out)) : g0_ ≠ gb370))
    have n8_:=Aside0.mk ((by rw [hg];exact Nat.ne_of_gt (blk_lt (g:=g0_) (o:=.cells #[.int .i64 a0_0,.slice A0_1 l0_1.length c0_1,.slice A0_2 l0_2.length c0_2] 32 (0,0)) (kz BK0.out)) : gb370 ≠ g0_))
    have n9_:=Aside0.mk ((by rw [hg];exact Nat.ne_of_lt (blk_lt (g:=gb363) (o:=.cells #[.int .i64 0,.slice none 0 0,.slice none 0 0] 32 (0,0)) (kz BK363.out)) : gb363 ≠ gb370))
    have n10_:=Aside0.mk ((by rw [hg];exact Nat.ne_of_gt (blk_lt (g:=gb363) (o:=.cells #[.int .i64 0,.slice none 0 0,.slice none 0 0] 32 (0,0)) (kz BK363.out)) : gb370 ≠ gb363))
    clear HO366
    clear BK0
    clear BK363
    clear HB
    have HO366:=n0_
    have BK0:=n1_
    have BK363:=n2_
    have HB:=n3_
    have BK370:=n4_
    have GW370:=n5_
    have GE370:=n6_
    have NB0_370:=n7_
    have NB370_0:=n8_
    have NB363_370:=n9_
    have NB370_363:=n10_
    clear n0_ n1_ n2_ n3_ n4_ n5_ n6_ n7_ n8_ n9_ n10_
    clear hb hbox hg
    refine hK.out _ _ ⟨(blk_cell BK0.out 0).trans rfl,(blk_cell BK0.out 1).trans rfl,(blk_cell BK0.out 2).trans rfl⟩ (fun hHeld=>?_)
    clear hK K
    refine norm_ (a':=?_) ?_ ?_
    rotate_left
    ·show Act.put _ (some 4) _ = _
     simp only [Act.put,xa,xb,xc,i64_w,i32_w]
     rfl
    refine one_ (i:=11) (N:=some 19) #[true,true,true,true,true,true,true,true,true,true,true,true,true,false,false,false] rfl rfl (one_of HT_.out (by kernel_rfl)) (by decide) (fun K hK=>?_)
    refine goes_ Try.func74 (by kernel_rfl) rfl #[.int .i64 a0_0] (by rfl) rfl rfl mz ?_
    with_reducible refine (impl_firsts.calls k a0_0 t367 _ A3.out).mono ?_
    rintro e w8 ⟨v368,rfl,ho0,hb⟩
    refine ⟨_,rfl,?_⟩
    have n0_:=Aside0.mk (Kd.R_below (rz HO366.out) hb)
    have n1_:=Aside0.mk (Kd.R_lower ho0 (below_size bs))
    have n2_:=Aside0.mk (blk_below (g:=g0_) (o:=.cells #[.int .i64 a0_0,.slice A0_1 l0_1.length c0_1,.slice A0_2 l0_2.length c0_2] 32 (0,0)) (kz BK0.out) hb)
    have n3_:=Aside0.mk (blk_below (g:=gb363) (o:=.cells #[.int .i64 0,.slice none 0 0,.slice none 0 0] 32 (0,0)) (kz BK363.out) hb)
    have n4_:=Aside0.mk (blk_below (g:=gb370) (o:=.cells #[.int .i64 0,.slice none 0 0,.slice none 0 0] 32 (0,0)) (kz BK370.out) hb)
    have n5_:=Aside0.mk (below_step bs hb)
    clear HO366
    clear BK0
    clear BK363
    clear BK370
    clear HB
    have HO366:=n0_
    have HO369:=n1_
    have BK0:=n2_
    have BK363:=n3_
    have BK370:=n4_
    have HB:=n5_
    clear n0_ n1_ n2_ n3_ n4_ n5_
    (try clear hb)
    (try clear ho0)
    refine hK.out _ _ ⟨(blk_cell BK0.out 0).trans rfl,(blk_cell BK0.out 1).trans rfl,(blk_cell BK0.out 2).trans rfl⟩ (fun hHeld=>?_)
    clear hK K
    refine norm_ (a':=?_) ?_ ?_
    rotate_left
    ·show Act.put _ (some 19) _ = _
     simp only [Act.put,xa,xb,xc,i64_w,i32_w]
     rfl
    exact norm_ (by simp only [putAll,Act.put,List.setIfInBounds_toArray,List.set_cons_zero,List.set_cons_succ]) (hCont (v365,v368,gb370) _ ⟨hHeld,(rz HO366.out),(rz HO369.out),(kz BK0.out),(kz BK363.out),(kz BK370.out),GW370.out,GE370.out,NB0_370.out,NB370_0.out,NB363_370.out,NB370_363.out,bs⟩)
  ·skip
   refine box_step ?hg (N:=4) ?hd (cs:=#[.int .i64 0,.slice none 0 0,.slice none 0 0]) (t:=32) ?hr ?_;(case hd=>rfl);(case hg=>rfl);(case hr=>first|(go_simp;done)|(go_simp;rfl))
   intro gb370 hg w6 hbox hb
   have n0_:=Aside0.mk (blk_below (g:=g0_) (o:=.cells #[.int .i64 a0_0,.slice A0_1 l0_1.length c0_1,.slice A0_2 l0_2.length c0_2] 32 (0,0)) (kz BK0.out) hb)
   have n1_:=Aside0.mk (blk_below (g:=gb363) (o:=.cells #[.int .i64 0,.slice none 0 0,.slice none 0 0] 32 (0,0)) (kz BK363.out) hb)
   have n2_:=Aside0.mk (below_step bs hb)
   have n3_:=Aside0.mk (hbox)
   have n4_:=Aside0.mk ((by rw [hg];exact (below_size bs) : w.heap.size ≤ gb370))
   have n5_:=Aside0.mk ((by rw [hg];exact (below_size bs) : w.heap.size ≤ gb370))
   have n6_:=Aside0.mk ((by rw [hg];exact Nat.ne_of_lt (blk_lt (g:=g0_) (o:=.cells #[.int .i64 a0_0,.slice A0_1 l0_1.length c0_1,.slice A0_2 l0_2.length c0_2] 32 (0,0)) (kz BK0.out)) : g0_ ≠ gb370))
   have n7_:=Aside0.mk ((by rw [hg];exact Nat.ne_of_gt (blk_lt (g:=g0_) (o:=.cells #[.int .i64 a0_0,.slice A0_1 l0_1.length c0_1,.slice A0_2 l0_2.length c0_2] 32 (0,0)) (kz BK0.out)) : gb370 ≠ g0_))
   have n8_:=Aside0.mk ((by rw [hg];exact Nat.ne_of_lt (blk_lt (g:=gb363) (o:=.cells #[.int .i64 0,.slice none 0 0,.slice none 0 0] 32 (0,0)) (kz BK363.out)) : gb363 ≠ gb370))
   have n9_:=Aside0.mk ((by rw [hg];exact Nat.ne_of_gt (blk_lt (g:=gb363) (o:=.cells #[.int .i64 0,.slice none 0 0,.slice none 0 0] 32 (0,0)) (kz BK363.out)) : gb370 ≠ gb363))
   clear BK0
   clear BK363
   clear HB
   have BK0:=n0_
   have BK363:=n1_
   have HB:=n2_
   have BK370:=n3_
   have GW370:=n4_
   have GE370:=n5_
   have NB0_370:=n6_
   have NB370_0:=n7_
   have NB363_370:=n8_
   have NB370_363:=n9_
   clear n0_ n1_ n2_ n3_ n4_ n5_ n6_ n7_ n8_ n9_
   clear hb hbox hg
   refine hK.out _ _ ⟨(blk_cell BK0.out 0).trans rfl,(blk_cell BK0.out 1).trans rfl,(blk_cell BK0.out 2).trans rfl⟩ (fun hHeld=>?_)
   clear hK K
   refine norm_ (a':=?_) ?_ ?_
   rotate_left
   ·show Act.put _ (some 4) _ = _
    simp only [Act.put,xa,xb,xc,i64_w,i32_w]
    rfl
   refine one_ (i:=1) (N:=some 9) #[true,true,true,true,true,true,true,true,true,true,true,false,true,false,false,false] rfl rfl (one_of HT_.out (by kernel_rfl)) (by decide) (fun K hK=>?_)
   refine goes_ Try.func73 (by kernel_rfl) rfl #[.pointer (some ⟨g0_,0,none⟩)] (by rfl) rfl rfl mz ?_
   with_reducible refine (impl_Plan_used.calls g0_ a0_0 A0_1 c0_1 l0_1 A0_2 c0_2 l0_2 t364 _ ?side1 ?side2 ?side3 ?side4 ?side5 A2.out).mono ?_
   (case side1=>exact by (with_reducible repeat (first|refine blk_drewN ?_ _|refine blk_drew ?_|refine blk_alloc ?_ _));exact BK0.out)
   (case side2=>exact cz (Kd.C_below HR0_1.out HB.out))
   (case side3=>exact HC0_1.out)
   (case side4=>exact cz (Kd.C_below HR0_2.out HB.out))
   (case side5=>exact HC0_2.out)
   rintro e w7 ⟨v365,rfl,ho0,hb⟩
   refine ⟨_,rfl,?_⟩
   have n0_:=Aside0.mk (Kd.R_lower ho0 (below_size bs))
   have n1_:=Aside0.mk (blk_below (g:=g0_) (o:=.cells #[.int .i64 a0_0,.slice A0_1 l0_1.length c0_1,.slice A0_2 l0_2.length c0_2] 32 (0,0)) (kz BK0.out) hb)
   have n2_:=Aside0.mk (blk_below (g:=gb363) (o:=.cells #[.int .i64 0,.slice none 0 0,.slice none 0 0] 32 (0,0)) (kz BK363.out) hb)
   have n3_:=Aside0.mk (blk_below (g:=gb370) (o:=.cells #[.int .i64 0,.slice none 0 0,.slice none 0 0] 32 (0,0)) (kz BK370.out) hb)
   have n4_:=Aside0.mk (below_step bs hb)
   clear BK0
   clear BK363
   clear BK370
   clear HB
   have HO366:=n0_
   have BK0:=n1_
   have BK363:=n2_
   have BK370:=n3_
   have HB:=n4_
   clear n0_ n1_ n2_ n3_ n4_
   (try clear hb)
   (try clear ho0)
   refine hK.out _ _ ⟨(blk_cell BK0.out 0).trans rfl,(blk_cell BK0.out 1).trans rfl,(blk_cell BK0.out 2).trans rfl⟩ (fun hHeld=>?_)
   clear hK K
   refine norm_ (a':=?_) ?_ ?_
   rotate_left
   ·show Act.put _ (some 9) _ = _
    simp only [Act.put,xa,xb,xc,i64_w,i32_w]
    rfl
   refine one_ (i:=11) (N:=some 19) #[true,true,true,true,true,true,true,true,true,true,true,true,true,false,false,false] rfl rfl (one_of HT_.out (by kernel_rfl)) (by decide) (fun K hK=>?_)
   refine goes_ Try.func74 (by kernel_rfl) rfl #[.int .i64 a0_0] (by rfl) rfl rfl mz ?_
   with_reducible refine (impl_firsts.calls k a0_0 t367 _ A3.out).mono ?_
   rintro e w8 ⟨v368,rfl,ho0,hb⟩
   refine ⟨_,rfl,?_⟩
   have n0_:=Aside0.mk (Kd.R_below (rz HO366.out) hb)
   have n1_:=Aside0.mk (Kd.R_lower ho0 (below_size bs))
   have n2_:=Aside0.mk (blk_below (g:=g0_) (o:=.cells #[.int .i64 a0_0,.slice A0_1 l0_1.length c0_1,.slice A0_2 l0_2.length c0_2] 32 (0,0)) (kz BK0.out) hb)
   have n3_:=Aside0.mk (blk_below (g:=gb363) (o:=.cells #[.int .i64 0,.slice none 0 0,.slice none 0 0] 32 (0,0)) (kz BK363.out) hb)
   have n4_:=Aside0.mk (blk_below (g:=gb370) (o:=.cells #[.int .i64 0,.slice none 0 0,.slice none 0 0] 32 (0,0)) (kz BK370.out) hb)
   have n5_:=Aside0.mk (below_step bs hb)
   clear HO366
   clear BK0
   clear BK363
   clear BK370
   clear HB
   have HO366:=n0_
   have HO369:=n1_
   have BK0:=n2_
   have BK363:=n3_
   have BK370:=n4_
   have HB:=n5_
   clear n0_ n1_ n2_ n3_ n4_ n5_
   (try clear hb)
   (try clear ho0)
   refine hK.out _ _ ⟨(blk_cell BK0.out 0).trans rfl,(blk_cell BK0.out 1).trans rfl,(blk_cell BK0.out 2).trans rfl⟩ (fun hHeld=>?_)
   clear hK K
   refine norm_ (a':=?_) ?_ ?_
   rotate_left
   ·show Act.put _ (some 19) _ = _
    simp only [Act.put,xa,xb,xc,i64_w,i32_w]
    rfl
   exact norm_ (by simp only [putAll,Act.put,List.setIfInBounds_toArray,List.set_cons_zero,List.set_cons_succ]) (hCont (v365,v368,gb370) _ ⟨hHeld,(rz HO366.out),(rz HO369.out),(kz BK0.out),(kz BK363.out),(kz BK370.out),GW370.out,GE370.out,NB0_370.out,NB370_0.out,NB363_370.out,NB370_363.out,bs⟩)
 rintro ⟨v365,v368,gb370⟩ w9 ⟨hS_,h0_,h1_,h2_,h3_,h4_,h5_,h6_,h7_,h8_,h9_,h10_,h11_⟩
 have n0_ : Aside0 (Kd.R Kd.bool 4 w9 w.heap.size (fun _=>True) v365 t364):=⟨h0_⟩
 have n1_ : Aside0 (Kd.R (Kd.int .i64) 3 w9 w.heap.size (fun _=>True) v368 t367):=⟨h1_⟩
 have n2_ : Aside0 (w9.heap[g0_]? = some (.cells #[.int .i64 a0_0,.slice A0_1 l0_1.length c0_1,.slice A0_2 l0_2.length c0_2] 32 (0,0))):=⟨h2_⟩
 have n3_ : Aside0 (w9.heap[gb363]? = some (.cells #[.int .i64 0,.slice none 0 0,.slice none 0 0] 32 (0,0))):=⟨h3_⟩
 have n4_ : Aside0 (w9.heap[gb370]? = some (.cells #[.int .i64 0,.slice none 0 0,.slice none 0 0] 32 (0,0))):=⟨h4_⟩
 have n5_ : Aside0 (w.heap.size ≤ gb370):=⟨h5_⟩
 have n6_ : Aside0 (w.heap.size ≤ gb370):=⟨h6_⟩
 have n7_ : Aside0 (g0_ ≠ gb370):=⟨h7_⟩
 have n8_ : Aside0 (gb370 ≠ g0_):=⟨h8_⟩
 have n9_ : Aside0 (gb363 ≠ gb370):=⟨h9_⟩
 have n10_ : Aside0 (gb370 ≠ gb363):=⟨h10_⟩
 have n11_ : Aside0 (Below w.heap.size w w9):=⟨h11_⟩
 clear BK0
 clear BK363
 clear HB
 clear h0_ h1_ h2_ h3_ h4_ h5_ h6_ h7_ h8_ h9_ h10_ h11_
 have HO366:=n0_
 have HO369:=n1_
 have BK0:=n2_
 have BK363:=n3_
 have BK370:=n4_
 have GW370:=n5_
 have GE370:=n6_
 have NB0_370:=n7_
 have NB370_0:=n8_
 have NB363_370:=n9_
 have NB370_363:=n10_
 have HB:=n11_
 clear n0_ n1_ n2_ n3_ n4_ n5_ n6_ n7_ n8_ n9_ n10_ n11_
 have hHeld : w9.cell? ⟨g0_,0,none⟩ = some (.int .i64 a0_0) ∧ w9.cell? ⟨g0_,1,none⟩ = some (.slice A0_1 l0_1.length c0_1) ∧ w9.cell? ⟨g0_,2,none⟩ = some (.slice A0_2 l0_2.length c0_2):=hS_
 refine norm_ (a':=?_) ?_ ?_
 rotate_left
 ·simp only [putAll,Act.put,List.setIfInBounds_toArray,List.set_cons_zero,List.set_cons_succ]
  rfl
 refine pure_ (i:=13) (N:=some 3) (v:=?_) (a':=?_) #[true,true,true,true,true,true,true,true,true,true,true,true,true,true,false,false] rfl rfl (any_of HT_.out (by kernel_rfl)) (fun _ _ _ h=>h) (Or.inl ⟨by rfl,?_⟩) ?_ ?_
 rotate_left
 ·intro w'
  go_simp
  with_reducible rfl
 rotate_left
 ·simp only [Act.put,xa,xb,xc,i64_w,i32_w]
  rfl
 refine one_ (i:=14) (N:=none) #[true,true,true,true,true,true,true,true,true,true,true,true,true,true,true,false] rfl rfl (one_of HT_.out (by kernel_rfl)) (by decide) (fun K hK=>?_)
 have hs10 : w9.cell? ⟨gb370,0,none⟩ = some (.int .i64 0):=(blk_cell BK370.out 0).trans rfl
 have hfs10:=blk_frozen BK370.out 0
 have hns10_0:=NB0_370.out
 have hns10_1:=NB363_370.out
 have hms10_0:=NB370_0.out
 have hms10_1:=NB370_363.out
 have hs11 : w9.cell? ⟨gb370,1,none⟩ = some (.slice none 0 0):=(blk_cell BK370.out 1).trans rfl
 have hfs11:=blk_frozen BK370.out 1
 have hns11_0:=NB0_370.out
 have hns11_1:=NB363_370.out
 have hms11_0:=NB370_0.out
 have hms11_1:=NB370_363.out
 have hs12 : w9.cell? ⟨gb370,2,none⟩ = some (.slice none 0 0):=(blk_cell BK370.out 2).trans rfl
 have hfs12:=blk_frozen BK370.out 2
 have hns12_0:=NB0_370.out
 have hns12_1:=NB363_370.out
 have hms12_0:=NB370_0.out
 have hms12_1:=NB370_363.out
 refine skip_ (w1:=?_) (by rfl) rfl ?_ ?_
 rotate_left
 ·go_simp
  rfl
 refine hK.out _ _ ⟨((cell_far (p:=⟨gb370,_,none⟩) NB0_370.out _).trans (((cell_far (p:=⟨gb370,_,none⟩) NB0_370.out _).trans (((cell_far (p:=⟨gb370,_,none⟩) NB0_370.out _).trans (hHeld.1)))))),((cell_far (p:=⟨gb370,_,none⟩) NB0_370.out _).trans (((cell_far (p:=⟨gb370,_,none⟩) NB0_370.out _).trans (((cell_far (p:=⟨gb370,_,none⟩) NB0_370.out _).trans (hHeld.2.1)))))),((cell_far (p:=⟨gb370,_,none⟩) NB0_370.out _).trans (((cell_far (p:=⟨gb370,_,none⟩) NB0_370.out _).trans (((cell_far (p:=⟨gb370,_,none⟩) NB0_370.out _).trans (hHeld.2.2))))))⟩ (fun hHeld=>?_)
 clear hK K
 refine pure_ (i:=15) (N:=some 5) (v:=?_) (a':=?_) #[true,true,true,true,true,true,true,true,true,true,true,true,true,true,true,true] rfl rfl (any_of HT_.out (by kernel_rfl)) (fun _ _ _ h=>h) (Or.inl ⟨by rfl,?_⟩) ?_ ?_
 rotate_left
 ·intro w'
  go_simp
  with_reducible rfl
 rotate_left
 ·simp only [Act.put,xa,xb,xc,i64_w,i32_w]
  rfl
 refine done_ (done_of HT_.out (by kernel_rfl)) ?_
 have hnb13:=NB0_363.out
 have hnc13:=NB363_0.out
 have hnb14:=NB0_370.out
 have hnc14:=NB370_0.out
 have hcz15_0 : w9.cell? ⟨g0_,0,none⟩ = some (.int .i64 a0_0):=(blk_cell BK0.out 0).trans rfl
 have hcz15_1 : w9.cell? ⟨g0_,1,none⟩ = some (.slice A0_1 l0_1.length c0_1):=(blk_cell BK0.out 1).trans rfl
 have hcz15_2 : w9.cell? ⟨g0_,2,none⟩ = some (.slice A0_2 l0_2.length c0_2):=(blk_cell BK0.out 2).trans rfl
 have hfz15_0:=blk_frozen BK0.out 0
 have hfz15_1:=blk_frozen BK0.out 1
 have hfz15_2:=blk_frozen BK0.out 2
 try go_wp2
 go_loopg [5,25] k (fun kq v5 v25 w'=>∃ (x5_1 : List Int) (x25_1 : Int) (x371001_1 : List (S56)) (u371001 : Value),v25 = .int .i64 x25_1 ∧ Aside0 (impl_Plan_trimmed.l0 kq t364 x5_1 l0_1 (l0_1.length : Int) x25_1 a0_0 l0_1 l0_2 a0_0 x371001_1 = some (r1,r2,r3)) ∧ Aside0 (kq ≤ k) ∧ Aside0 (Kd.R Kd.bool 4 w' w.heap.size (fun _=>True) v365 t364) ∧ Aside0 (Kd.R (Kd.int .i64) 3 w' w.heap.size (fun _=>True) v5 x5_1) ∧ Aside0 (Kd.R k56 56 w' w.heap.size (fun _=>True) u371001 x371001_1) ∧ Aside0 (w'.heap[g0_]? = some (.cells #[.int .i64 a0_0,(.slice A0_1 l0_1.length c0_1),(.slice A0_2 l0_2.length c0_2)] 32 (0,0))) ∧ Aside0 (w'.heap[gb363]? = some (.cells #[.int .i64 0,(.slice none 0 0),(.slice none 0 0)] 32 (0,0))) ∧ Aside0 (w'.heap[gb370]? = some (.cells #[.int .i64 a0_0,u371001,(.slice none 0 0)] 32 (0,0))) ∧ Aside0 (Below w.heap.size w w'))
 case atStart=>exact ⟨(t367),(0),(([] : List (S56))),(.slice none 0 0),fz,H',⟨Nat.le_refl _⟩,⟨by (with_reducible repeat (first|apply Kd.R_alloc|apply Kd.R_drewN|apply Kd.R_drew));exact Kd.R_mono (Kd.R_far (p:=⟨gb370,2,none⟩) (Kd.R_far (p:=⟨gb370,1,none⟩) (Kd.R_far (p:=⟨gb370,0,none⟩) (Kd.R_types HO366.out BK370.out (by decide)) (fun _ hk=>hk.2) (.int .i64 a0_0)) (fun _ hk=>hk.2) (.slice none 0 0)) (fun _ hk=>hk.2) (.slice none 0 0)) (fun _ hk=>trivial)⟩,⟨by (with_reducible repeat (first|apply Kd.R_alloc|apply Kd.R_drewN|apply Kd.R_drew));exact Kd.R_mono (Kd.R_far (p:=⟨gb370,2,none⟩) (Kd.R_far (p:=⟨gb370,1,none⟩) (Kd.R_far (p:=⟨gb370,0,none⟩) (Kd.R_types HO369.out BK370.out (by decide)) (fun _ hk=>hk.2) (.int .i64 a0_0)) (fun _ hk=>hk.2) (.slice none 0 0)) (fun _ hk=>hk.2) (.slice none 0 0)) (fun _ hk=>trivial)⟩,⟨by first|exact Kd.R_nil _ _ _ _ _|exact Kd.N_nil _ _ _ _ _|exact Kd.V_nil _ _ _ _ _|exact Kd.Q_nil _ _ _ _ _|exact Kd.S_nil _ _ _ _ _⟩,⟨by (with_reducible repeat (first|refine blk_drewN ?_ _|refine blk_drew ?_|refine blk_alloc ?_ _));refine blk_far ?_ NB0_370.out _;(with_reducible repeat (first|refine blk_drewN ?_ _|refine blk_drew ?_|refine blk_alloc ?_ _));refine blk_far ?_ NB0_370.out _;(with_reducible repeat (first|refine blk_drewN ?_ _|refine blk_drew ?_|refine blk_alloc ?_ _));refine blk_far ?_ NB0_370.out _;(with_reducible repeat (first|refine blk_drewN ?_ _|refine blk_drew ?_|refine blk_alloc ?_ _));exact BK0.out⟩,⟨by (with_reducible repeat (first|refine blk_drewN ?_ _|refine blk_drew ?_|refine blk_alloc ?_ _));refine blk_far ?_ NB363_370.out _;(with_reducible repeat (first|refine blk_drewN ?_ _|refine blk_drew ?_|refine blk_alloc ?_ _));refine blk_far ?_ NB363_370.out _;(with_reducible repeat (first|refine blk_drewN ?_ _|refine blk_drew ?_|refine blk_alloc ?_ _));refine blk_far ?_ NB363_370.out _;(with_reducible repeat (first|refine blk_drewN ?_ _|refine blk_drew ?_|refine blk_alloc ?_ _));exact BK363.out⟩,⟨by (with_reducible repeat (first|refine blk_drewN ?_ _|refine blk_drew ?_|refine blk_alloc ?_ _));refine blk_put (cs:=#[.int .i64 a0_0,.slice none 0 0,.slice none 0 0]) ?_ 2 _ rfl;(with_reducible repeat (first|refine blk_drewN ?_ _|refine blk_drew ?_|refine blk_alloc ?_ _));refine blk_put (cs:=#[.int .i64 a0_0,.slice none 0 0,.slice none 0 0]) ?_ 1 _ rfl;(with_reducible repeat (first|refine blk_drewN ?_ _|refine blk_drew ?_|refine blk_alloc ?_ _));refine blk_put (cs:=#[.int .i64 0,.slice none 0 0,.slice none 0 0]) ?_ 0 _ rfl;(with_reducible repeat (first|refine blk_drewN ?_ _|refine blk_drew ?_|refine blk_alloc ?_ _));exact BK370.out⟩,⟨by repeat (first|(with_reducible first|exact HB.out|apply below_alloc|apply pw_below_drewN|apply below_drew1|refine below_set ?_ GE0.out|refine below_set ?_ GE363.out|refine below_set ?_ GE370.out)|exact HB.out)⟩⟩
 case round=>
  clear H'
  try clear c1
  try clear p2
  try clear c4
  try clear c7
  try clear c13
  try clear c14
  try clear hcz15_0
  try clear hcz15_1
  try clear hcz15_2
  try clear hfz15_0
  try clear hfz15_1
  try clear hfz15_2
  obtain ⟨x5_1,x25_1,x371001_1,u371001,rfl,HA,HK1,HO_3,HO_5,HO_371001,BK0,BK363,BK370,HB⟩:=hrel
  cases gk with
  | zero=>exact absurd HA.out (by simp [impl_Plan_trimmed.l0])
  | succ k1=>
   have H:=HA.out
   clear HA
   simp only [impl_Plan_trimmed.l0] at H
   by_cases c16 : x25_1 < (l0_1.length : Int)
   ·rw [if_pos c16] at H
    have c16b0 : decide (x25_1 < (l0_1.length : Int)) = true:=decide_eq_true c16
    clear c16
    by_cases c17 : 0 ≤ x25_1
    ·rw [if_pos c17] at H
     have c17b0 : decide (0 ≤ x25_1) = true:=decide_eq_true c17
     clear c17
     by_cases c18 : x25_1 < (l0_1.length : Int)
     ·rw [if_pos c18] at H
      have c18b0 : decide (x25_1 < (l0_1.length : Int)) = true:=decide_eq_true c18
      clear c18
      obtain ⟨t376,A19,H⟩:=bd H
      by_cases c20 : x5_1.length < 17592186044416
      ·rw [if_pos c20] at H
       have LMc20:=Aside0.mk c20
       clear c20
       obtain ⟨y377,hy377⟩ : ∃ y_ : List Int,y_ = (x5_1 ++ [t376]):=⟨_,rfl⟩
       replace H : (if 0 ≤ (wrap64 (a0_0 + x25_1)) then (if (wrap64 (a0_0 + x25_1)) < (t364.length : Int) then (if rdOf false t364 (wrap64 (a0_0 + x25_1)) = true then (if 0 ≤ ((rd_T56 l0_1 x25_1).f0) then (if ((rd_T56 l0_1 x25_1).f0) < (y377.length : Int) then (if 0 ≤ ((rd_T56 l0_1 x25_1).f1) then (if ((rd_T56 l0_1 x25_1).f1) < (y377.length : Int) then ((impl_step.f (rd y377 ((rd_T56 l0_1 x25_1).f0)) (rd y377 ((rd_T56 l0_1 x25_1).f1))).bind fun bt383=>(if x371001_1.length < 8796093022208 then (impl_Plan_trimmed.l0 k1 t364 y377 l0_1 (l0_1.length : Int) (wrap64 (x25_1 + 1)) a0_0 l0_1 l0_2 a0_0 (x371001_1 ++ [(⟨bt383.1,bt383.2⟩ : S56)])) else (none))) else (none)) else (none)) else (none)) else (none)) else (impl_Plan_trimmed.l0 k1 t364 y377 l0_1 (l0_1.length : Int) (wrap64 (x25_1 + 1)) a0_0 l0_1 l0_2 a0_0 x371001_1)) else (none)) else (none)) = some (r1,r2,r3):=by first|(rw [hy377];with_reducible exact H)|(have H2_:=(Option.bind_some _ _).symm.trans H;rw [hy377];with_reducible exact H2_)|(have H2_:=(Option.bind_some _ _).symm.trans H;with_reducible exact H2_)|with_reducible exact H|(rw [hy377];exact H)|exact H
       have Ny377:=Aside0.mk hy377
       clear hy377
       obtain ⟨ji21,hji21⟩ : ∃ j_ : Int,(wrap64 (a0_0 + x25_1)) = j_:=⟨_,rfl⟩
       replace H : (if 0 ≤ (ji21) then (if (ji21) < (t364.length : Int) then (if rdOf false t364 (ji21) = true then (if 0 ≤ ((rd_T56 l0_1 x25_1).f0) then (if ((rd_T56 l0_1 x25_1).f0) < (y377.length : Int) then (if 0 ≤ ((rd_T56 l0_1 x25_1).f1) then (if ((rd_T56 l0_1 x25_1).f1) < (y377.length : Int) then ((impl_step.f (rd y377 ((rd_T56 l0_1 x25_1).f0)) (rd y377 ((rd_T56 l0_1 x25_1).f1))).bind fun bt383=>(if x371001_1.length < 8796093022208 then (impl_Plan_trimmed.l0 k1 t364 y377 l0_1 (l0_1.length : Int) (wrap64 (x25_1 + 1)) a0_0 l0_1 l0_2 a0_0 (x371001_1 ++ [(⟨bt383.1,bt383.2⟩ : S56)])) else (none))) else (none)) else (none)) else (none)) else (none)) else (impl_Plan_trimmed.l0 k1 t364 y377 l0_1 (l0_1.length : Int) (wrap64 (x25_1 + 1)) a0_0 l0_1 l0_2 a0_0 x371001_1)) else (none)) else (none)) = some (r1,r2,r3):=by first|(rw [hji21] at H;exact H)|(simp only [hji21] at H ⊢;exact H)
       (try rw [hji21] at A19)
       have hji21w : (IntKind.i64.wrap (a0_0 + x25_1)) = ji21:=(i64_w _).trans hji21
       by_cases c22 : 0 ≤ (ji21)
       ·rw [if_pos c22] at H
        have c22b0 : decide (0 ≤ (ji21)) = true:=decide_eq_true c22
        clear c22
        by_cases c23 : (ji21) < (t364.length : Int)
        ·rw [if_pos c23] at H
         have c23b0 : decide ((ji21) < (t364.length : Int)) = true:=decide_eq_true c23
         clear c23
         obtain ⟨bq24,hbq24⟩ : ∃ b_ : Bool,b_ = (rdOf false t364 (ji21)):=⟨_,rfl⟩
         replace H : (if bq24 = true then (if 0 ≤ ((rd_T56 l0_1 x25_1).f0) then (if ((rd_T56 l0_1 x25_1).f0) < (y377.length : Int) then (if 0 ≤ ((rd_T56 l0_1 x25_1).f1) then (if ((rd_T56 l0_1 x25_1).f1) < (y377.length : Int) then ((impl_step.f (rd y377 ((rd_T56 l0_1 x25_1).f0)) (rd y377 ((rd_T56 l0_1 x25_1).f1))).bind fun bt383=>(if x371001_1.length < 8796093022208 then (impl_Plan_trimmed.l0 k1 t364 y377 l0_1 (l0_1.length : Int) (wrap64 (x25_1 + 1)) a0_0 l0_1 l0_2 a0_0 (x371001_1 ++ [(⟨bt383.1,bt383.2⟩ : S56)])) else (none))) else (none)) else (none)) else (none)) else (none)) else (impl_Plan_trimmed.l0 k1 t364 y377 l0_1 (l0_1.length : Int) (wrap64 (x25_1 + 1)) a0_0 l0_1 l0_2 a0_0 x371001_1)) = some (r1,r2,r3):=by rw [← hbq24] at H;exact H
         have Nbq24:=Aside0.mk hbq24
         clear hbq24
         by_cases c25 : bq24 = true
         ·subst c25
          rw [if_pos rfl] at H
          by_cases c26 : 0 ≤ ((rd_T56 l0_1 x25_1).f0)
          ·rw [if_pos c26] at H
           have c26b0 : decide (0 ≤ ((rd_T56 l0_1 x25_1).f0)) = true:=decide_eq_true c26
           clear c26
           by_cases c27 : ((rd_T56 l0_1 x25_1).f0) < (y377.length : Int)
           ·rw [if_pos c27] at H
            have c27b0 : decide (((rd_T56 l0_1 x25_1).f0) < (y377.length : Int)) = true:=decide_eq_true c27
            clear c27
            by_cases c28 : 0 ≤ ((rd_T56 l0_1 x25_1).f1)
            ·rw [if_pos c28] at H
             have c28b0 : decide (0 ≤ ((rd_T56 l0_1 x25_1).f1)) = true:=decide_eq_true c28
             clear c28
             by_cases c29 : ((rd_T56 l0_1 x25_1).f1) < (y377.length : Int)
             ·rw [if_pos c29] at H
              have c29b0 : decide (((rd_T56 l0_1 x25_1).f1) < (y377.length : Int)) = true:=decide_eq_true c29
              clear c29
              replace H:=Option.bind_eq_some_iff.mp H
              obtain ⟨⟨t383,t384⟩,A300,H⟩:=H
              replace H : (if x371001_1.length < 8796093022208 then (impl_Plan_trimmed.l0 k1 t364 y377 l0_1 (l0_1.length : Int) (wrap64 (x25_1 + 1)) a0_0 l0_1 l0_2 a0_0 (x371001_1 ++ [(⟨t383,t384⟩ : S56)])) else (none)) = some (r1,r2,r3):=H
              have A30:=Aside0.mk A300
              clear A300
              by_cases c31 : x371001_1.length < 8796093022208
              ·rw [if_pos c31] at H
               have LMc31:=Aside0.mk c31
               clear c31
               obtain ⟨y385,hy385⟩ : ∃ y_ : List (S56),y_ = (x371001_1 ++ [(⟨t383,t384⟩ : S56)]):=⟨_,rfl⟩
               replace H : (impl_Plan_trimmed.l0 k1 t364 y377 l0_1 (l0_1.length : Int) (wrap64 (x25_1 + 1)) a0_0 l0_1 l0_2 a0_0 y385) = some (r1,r2,r3):=by first|(rw [hy385];with_reducible exact H)|(have H2_:=(Option.bind_some _ _).symm.trans H;rw [hy385];with_reducible exact H2_)|(have H2_:=(Option.bind_some _ _).symm.trans H;with_reducible exact H2_)|with_reducible exact H|(rw [hy385];exact H)|exact H
               have Ny385:=Aside0.mk hy385
               clear hy385
               have H':=Aside0.mk H
               clear H
               have p374 : 0 ≤ (x25_1 : Int):=of_decide_eq_true az
               have q374 : x25_1 < (l0_1.length : Int):=of_decide_eq_true az
               obtain ⟨ad374,e374,hx374_0,hx374_1⟩:=at_T56 HR0_1.out x25_1 p374 q374
               cases e374
               replace hx374_0:=(HB.out.cell (World.block_lt_of_cell? w _ hx374_0)).trans hx374_0
               replace hx374_1:=(HB.out.cell (World.block_lt_of_cell? w _ hx374_1)).trans hx374_1
               replace p374:=eq_true p374
               replace q374:=eq_true q374
               try go_wp2_with (first|((with_reducible refine gate_dst (N:=7) rfl ?_);refine box_event ?hg (N:=7) ?hd (cs:=#[.int .i64 0,.int .i64 0]) (t:=56) ?hr ?_;(case hd=>rfl);(case hg=>rfl);(case hr=>first|(go_simp;done)|(go_simp;rfl));intro gb375 hg w32 hbox hb;have n0_:=Aside0.mk (Kd.R_below (rz HO_3.out) hb);have n1_:=Aside0.mk (Kd.R_below (rz HO_5.out) hb);have n2_:=Aside0.mk (Kd.R_below (Kd.R_elderB (rz HO_371001.out) gb375 (Nat.le_of_eq hg.symm)) hb);have n3_:=Aside0.mk (blk_below (g:=g0_) (o:=.cells #[.int .i64 a0_0,.slice (some ad374) l0_1.length c0_1,.slice A0_2 l0_2.length c0_2] 32 (0,0)) (kz BK0.out) hb);have n4_:=Aside0.mk (blk_below (g:=gb363) (o:=.cells #[.int .i64 0,.slice none 0 0,.slice none 0 0] 32 (0,0)) (kz BK363.out) hb);have n5_:=Aside0.mk (blk_below (g:=gb370) (o:=.cells #[.int .i64 a0_0,u371001,.slice none 0 0] 32 (0,0)) (kz BK370.out) hb);have n6_:=Aside0.mk (below_step bs hb);have n7_:=Aside0.mk (hbox);have n8_:=Aside0.mk ((by rw [hg];exact (below_size bs) : w.heap.size ≤ gb375));have n9_:=Aside0.mk ((by rw [hg];exact (below_size bs) : w.heap.size ≤ gb375));have n10_:=Aside0.mk ((by rw [hg];exact Nat.ne_of_lt (blk_lt (g:=g0_) (o:=.cells #[.int .i64 a0_0,.slice (some ad374) l0_1.length c0_1,.slice A0_2 l0_2.length c0_2] 32 (0,0)) (kz BK0.out)) : g0_ ≠ gb375));have n11_:=Aside0.mk ((by rw [hg];exact Nat.ne_of_gt (blk_lt (g:=g0_) (o:=.cells #[.int .i64 a0_0,.slice (some ad374) l0_1.length c0_1,.slice A0_2 l0_2.length c0_2] 32 (0,0)) (kz BK0.out)) : gb375 ≠ g0_));have n12_:=Aside0.mk ((by rw [hg];exact Nat.ne_of_lt (blk_lt (g:=gb363) (o:=.cells #[.int .i64 0,.slice none 0 0,.slice none 0 0] 32 (0,0)) (kz BK363.out)) : gb363 ≠ gb375));have n13_:=Aside0.mk ((by rw [hg];exact Nat.ne_of_gt (blk_lt (g:=gb363) (o:=.cells #[.int .i64 0,.slice none 0 0,.slice none 0 0] 32 (0,0)) (kz BK363.out)) : gb375 ≠ gb363));have n14_:=Aside0.mk ((by rw [hg];exact Nat.ne_of_lt (blk_lt (g:=gb370) (o:=.cells #[.int .i64 a0_0,u371001,.slice none 0 0] 32 (0,0)) (kz BK370.out)) : gb370 ≠ gb375));have n15_:=Aside0.mk ((by rw [hg];exact Nat.ne_of_gt (blk_lt (g:=gb370) (o:=.cells #[.int .i64 a0_0,u371001,.slice none 0 0] 32 (0,0)) (kz BK370.out)) : gb375 ≠ gb370));clear HO_3 HO_5 HO_371001 BK0 BK363 BK370 HB;have HO_3:=n0_;have HO_5:=n1_;have HO_371001:=n2_;have BK0:=n3_;have BK363:=n4_;have BK370:=n5_;have HB:=n6_;have BK375:=n7_;have GW375:=n8_;have GE375:=n9_;have NB0_375:=n10_;have NB375_0:=n11_;have NB363_375:=n12_;have NB375_363:=n13_;have NB370_375:=n14_;have NB375_370:=n15_;clear n0_ n1_ n2_ n3_ n4_ n5_ n6_ n7_ n8_ n9_ n10_ n11_ n12_ n13_ n14_ n15_;clear hb hbox hg;have hnb33:=NB375_0.out;have hnc33:=NB0_375.out;have hnb34:=NB375_363.out;have hnc34:=NB363_375.out;have hnb35:=NB375_370.out;have hnc35:=NB370_375.out;have hcz36_0 : w32.cell? ⟨gb375,0,none⟩ = some (.int .i64 0):=(blk_cell BK375.out 0).trans rfl;have hcz36_1 : w32.cell? ⟨gb375,1,none⟩ = some (.int .i64 0):=(blk_cell BK375.out 1).trans rfl;have hfz36_0:=blk_frozen BK375.out 0;have hfz36_1:=blk_frozen BK375.out 1;obtain ⟨Ao37,co37,eo37⟩:=Kd.R_slice HO_371001.out;subst eo37)|((with_reducible refine gate_callee (f:=75) rfl ?_);refine goesL_ (some 31) rfl rfl Try.func75 (by kernel_rfl) rfl #[.pointer (some ⟨gb370,0,none⟩)] rfl mz ?_;(refine (impl_Plan_many.calls gb370 a0_0 Ao37 co37 x371001_1 none 0 ([] : List Int) t376 _ ?side1 ?side2 ?side3 ?side4 ?side5 A19.out).mono ?_);(case side1=>exact by (with_reducible repeat (first|refine blk_drewN ?_ _|refine blk_drew ?_|refine blk_alloc ?_ _));refine blk_far ?_ NB370_375.out _;(with_reducible repeat (first|refine blk_drewN ?_ _|refine blk_drew ?_|refine blk_alloc ?_ _));refine blk_far ?_ NB370_375.out _;(with_reducible repeat (first|refine blk_drewN ?_ _|refine blk_drew ?_|refine blk_alloc ?_ _));exact BK370.out);(case side2=>refine (Kd.R_reads' (e:=56) (base:=w.heap.size) (ok:=fun k_=>(True ∧ k_ ≠ gb375)) (n:=x371001_1.length) (c:=co37) ?_).2.2;exact (by (with_reducible repeat (first|apply Kd.R_alloc|apply Kd.R_drewN|apply Kd.R_drew));exact (Kd.R_mono (Kd.R_far (p:=⟨gb375,1,none⟩) (Kd.R_far (p:=⟨gb375,0,none⟩) (Kd.R_mono HO_371001.out (fun k_ hk=>(⟨hk,hk.2⟩ : _ ∧ k_ ≠ gb375))) (fun _ hk=>hk.2) (.int .i64 ((rd_T56 l0_1 x25_1).f0))) (fun _ hk=>hk.2) (.int .i64 ((rd_T56 l0_1 x25_1).f1))) (fun _ h_=>h_.1))));(case side3=>exact (Kd.R_reads' HO_371001.out).2.1);(case side4=>exact Kd.C_nil _ _);(case side5=>exact Nat.le_refl _);rintro e w38 ⟨rfl,hb⟩;refine ⟨_,rfl,?_⟩;have n0_:=Aside0.mk (Kd.R_below (by (with_reducible repeat (first|apply Kd.R_alloc|apply Kd.R_drewN|apply Kd.R_drew));exact (Kd.R_mono (Kd.R_far (p:=⟨gb375,1,none⟩) (Kd.R_far (p:=⟨gb375,0,none⟩) (Kd.R_types HO_3.out BK375.out (by decide)) (fun _ hk=>hk.2) (.int .i64 ((rd_T56 l0_1 x25_1).f0))) (fun _ hk=>hk.2) (.int .i64 ((rd_T56 l0_1 x25_1).f1))) (fun _ h_=>h_.1))) hb);have n1_:=Aside0.mk (Kd.R_below (by (with_reducible repeat (first|apply Kd.R_alloc|apply Kd.R_drewN|apply Kd.R_drew));exact (Kd.R_mono (Kd.R_far (p:=⟨gb375,1,none⟩) (Kd.R_far (p:=⟨gb375,0,none⟩) (Kd.R_types HO_5.out BK375.out (by decide)) (fun _ hk=>hk.2) (.int .i64 ((rd_T56 l0_1 x25_1).f0))) (fun _ hk=>hk.2) (.int .i64 ((rd_T56 l0_1 x25_1).f1))) (fun _ h_=>h_.1))) hb);have n2_:=Aside0.mk (Kd.R_below (by (with_reducible repeat (first|apply Kd.R_alloc|apply Kd.R_drewN|apply Kd.R_drew));exact (Kd.R_mono (Kd.R_far (p:=⟨gb375,1,none⟩) (Kd.R_far (p:=⟨gb375,0,none⟩) (Kd.R_mono HO_371001.out (fun k_ hk=>(⟨hk,hk.2⟩ : _ ∧ k_ ≠ gb375))) (fun _ hk=>hk.2) (.int .i64 ((rd_T56 l0_1 x25_1).f0))) (fun _ hk=>hk.2) (.int .i64 ((rd_T56 l0_1 x25_1).f1))) (fun _ h_=>h_.1))) hb);have n3_:=Aside0.mk (blk_below (g:=g0_) (o:=.cells #[.int .i64 a0_0,.slice (some ad374) l0_1.length c0_1,.slice A0_2 l0_2.length c0_2] 32 (0,0)) (by (with_reducible repeat (first|refine blk_drewN ?_ _|refine blk_drew ?_|refine blk_alloc ?_ _));refine blk_far ?_ NB0_375.out _;(with_reducible repeat (first|refine blk_drewN ?_ _|refine blk_drew ?_|refine blk_alloc ?_ _));refine blk_far ?_ NB0_375.out _;(with_reducible repeat (first|refine blk_drewN ?_ _|refine blk_drew ?_|refine blk_alloc ?_ _));exact BK0.out) hb);have n4_:=Aside0.mk (blk_below (g:=gb363) (o:=.cells #[.int .i64 0,.slice none 0 0,.slice none 0 0] 32 (0,0)) (by (with_reducible repeat (first|refine blk_drewN ?_ _|refine blk_drew ?_|refine blk_alloc ?_ _));refine blk_far ?_ NB363_375.out _;(with_reducible repeat (first|refine blk_drewN ?_ _|refine blk_drew ?_|refine blk_alloc ?_ _));refine blk_far ?_ NB363_375.out _;(with_reducible repeat (first|refine blk_drewN ?_ _|refine blk_drew ?_|refine blk_alloc ?_ _));exact BK363.out) hb);have n5_:=Aside0.mk (blk_below (g:=gb370) (o:=.cells #[.int .i64 a0_0,.slice Ao37 x371001_1.length co37,.slice none 0 0] 32 (0,0)) (by (with_reducible repeat (first|refine blk_drewN ?_ _|refine blk_drew ?_|refine blk_alloc ?_ _));refine blk_far ?_ NB370_375.out _;(with_reducible repeat (first|refine blk_drewN ?_ _|refine blk_drew ?_|refine blk_alloc ?_ _));refine blk_far ?_ NB370_375.out _;(with_reducible repeat (first|refine blk_drewN ?_ _|refine blk_drew ?_|refine blk_alloc ?_ _));exact BK370.out) hb);have n6_:=Aside0.mk (blk_below (g:=gb375) (o:=.cells #[.int .i64 ((rd_T56 l0_1 x25_1).f0),.int .i64 ((rd_T56 l0_1 x25_1).f1)] 56 (0,0)) (by (with_reducible repeat (first|refine blk_drewN ?_ _|refine blk_drew ?_|refine blk_alloc ?_ _));refine blk_put (cs:=#[.int .i64 ((rd_T56 l0_1 x25_1).f0),.int .i64 0]) ?_ 1 _ rfl;(with_reducible repeat (first|refine blk_drewN ?_ _|refine blk_drew ?_|refine blk_alloc ?_ _));refine blk_put (cs:=#[.int .i64 0,.int .i64 0]) ?_ 0 _ rfl;(with_reducible repeat (first|refine blk_drewN ?_ _|refine blk_drew ?_|refine blk_alloc ?_ _));exact BK375.out) hb);have n7_:=Aside0.mk (below_step bs hb);clear HO_3 HO_5 HO_371001 BK0 BK363 BK370 BK375 HB;have HO_3:=n0_;have HO_5:=n1_;have HO_371001:=n2_;have BK0:=n3_;have BK363:=n4_;have BK370:=n5_;have BK375:=n6_;have HB:=n7_;clear n0_ n1_ n2_ n3_ n4_ n5_ n6_ n7_;(try clear hb))|((with_reducible refine gate_builtin (b:=.append) (xs:=#[.tmp 30,.tmp 32]) rfl ?_);at_builtin;refine Kd.R_append (Kd.int .i64) (w0:=w) w.heap.size rfl (.tmp 30) (.tmp 32) 24 3 (.int .i64 0) 8 rfl Try.underlying24 info3 rfl (by decide) (by omega) u5 x5_1 t376 [.int .i64 t376] (fun _=>True) (fun _=>False) rfl rfl ?aP (fun _ hk=>hk.elim) ?aF ?aO ?aB ?aS ?aL ?_;(case aP=>exact rfl);(case aB=>exact bs);(case aF=>exact (fun _ _=>trivial));(case aO=>exact (rz HO_5.out));(case aS=>exact (below_size bs));(case aL=>have:=LMc20.out;omega);intro v378 w39 ho hb hg hat;rw [← Ny377.out] at ho;have n0_:=Aside0.mk (Kd.R_over' (rz HO_3.out) (Kd.R_typed (rz HO_5.out)) (by decide) hg);have n1_:=Aside0.mk (Kd.R_over' (rz HO_371001.out) (Kd.R_typed (rz HO_5.out)) (by decide) hg);have n2_:=Aside0.mk (blk_grown (g:=g0_) (o:=.cells #[.int .i64 a0_0,.slice (some ad374) l0_1.length c0_1,.slice A0_2 l0_2.length c0_2] 32 (0,0)) (kz BK0.out) hg (Kd.R_ne HO_5.out BK0.out (by decide)));have n3_:=Aside0.mk (blk_grown (g:=gb363) (o:=.cells #[.int .i64 0,.slice none 0 0,.slice none 0 0] 32 (0,0)) (kz BK363.out) hg (Kd.R_ne HO_5.out BK363.out (by decide)));have n4_:=Aside0.mk (blk_grown (g:=gb370) (o:=.cells #[.int .i64 a0_0,.slice Ao37 x371001_1.length co37,.slice none 0 0] 32 (0,0)) (kz BK370.out) hg (Kd.R_ne HO_5.out BK370.out (by decide)));have n5_:=Aside0.mk (blk_grown (g:=gb375) (o:=.cells #[.int .i64 ((rd_T56 l0_1 x25_1).f0),.int .i64 ((rd_T56 l0_1 x25_1).f1)] 56 (0,0)) (kz BK375.out) hg (Kd.R_ne HO_5.out BK375.out (by decide)));have n6_:=Aside0.mk (hb);have n7_:=Aside0.mk (ho);clear HO_3 HO_371001 BK0 BK363 BK370 BK375 HB HO_5;have HO_3:=n0_;have HO_371001:=n1_;have BK0:=n2_;have BK363:=n3_;have BK370:=n4_;have BK375:=n5_;have HB:=n6_;have HO379:=n7_;clear n0_ n1_ n2_ n3_ n4_ n5_ n6_ n7_;clear ho hb hg hat;have hnb40:=NB0_363.out;have hnc40:=NB363_0.out;have hnb41:=NB0_370.out;have hnc41:=NB370_0.out;have hcz42_0 : w39.cell? ⟨g0_,0,none⟩ = some (.int .i64 a0_0):=(blk_cell BK0.out 0).trans rfl;have hcz42_1 : w39.cell? ⟨g0_,1,none⟩ = some (.slice (some ad374) l0_1.length c0_1):=(blk_cell BK0.out 1).trans rfl;have hcz42_2 : w39.cell? ⟨g0_,2,none⟩ = some (.slice A0_2 l0_2.length c0_2):=(blk_cell BK0.out 2).trans rfl;have hfz42_0:=blk_frozen BK0.out 0;have hfz42_1:=blk_frozen BK0.out 1;have hfz42_2:=blk_frozen BK0.out 2;obtain ⟨Ao43,co43,eo43⟩:=Kd.R_slice HO_3.out;subst eo43;have p380 : 0 ≤ ((ji21) : Int):=of_decide_eq_true az;have q380 : (ji21) < (t364.length : Int):=of_decide_eq_true az;obtain ⟨ad380,e380,hx380_0⟩:=Kd.at_bool (Kd.R_reads' HO_3.out).2.2 (ji21) p380 q380;(try rw [← Nbq24.out] at hx380_0);cases e380;replace p380:=eq_true p380;replace q380:=eq_true q380))
               have n0_:=Aside0.mk (Kd.R_drew HO_3.out)
               have n1_:=Aside0.mk (Kd.R_drew HO_371001.out)
               have n2_:=Aside0.mk (Kd.R_drew HO379.out)
               have n3_:=Aside0.mk (blk_drew BK0.out)
               have n4_:=Aside0.mk (blk_drew BK363.out)
               have n5_:=Aside0.mk (blk_drew BK370.out)
               have n6_:=Aside0.mk (blk_drew BK375.out)
               have n7_:=Aside0.mk (below_drew1 HB.out)
               clear HO_3
               clear HO_371001
               clear HO379
               clear BK0
               clear BK363
               clear BK370
               clear BK375
               clear HB
               have HO_3:=n0_
               have HO_371001:=n1_
               have HO379:=n2_
               have BK0:=n3_
               have BK363:=n4_
               have BK370:=n5_
               have BK375:=n6_
               have HB:=n7_
               clear n0_ n1_ n2_ n3_ n4_ n5_ n6_ n7_
               obtain ⟨Ao45,co45,eo45⟩:=Kd.R_slice HO379.out
               (first|subst eo45|(injection eo45 with f1_ f2_ f3_;have f4_:=f1_.symm;have f5_:=f3_.symm;clear f1_ f2_ f3_;subst f4_;subst f5_))
               have p381 : 0 ≤ (((rd_T56 l0_1 x25_1).f0) : Int):=of_decide_eq_true az
               have q381 : ((rd_T56 l0_1 x25_1).f0) < (y377.length : Int):=of_decide_eq_true az
               obtain ⟨ad381,e381,hx381_0⟩:=Kd.at_int (Kd.R_reads' HO379.out).2.2 ((rd_T56 l0_1 x25_1).f0) p381 q381
               cases e381
               replace p381:=eq_true p381
               replace q381:=eq_true q381
               have p382 : 0 ≤ (((rd_T56 l0_1 x25_1).f1) : Int):=of_decide_eq_true az
               have q382 : ((rd_T56 l0_1 x25_1).f1) < (y377.length : Int):=of_decide_eq_true az
               obtain ⟨ad382,e382,hx382_0⟩:=Kd.at_int (Kd.R_reads' HO379.out).2.2 ((rd_T56 l0_1 x25_1).f1) p382 q382
               obtain rfl : ad381 = ad382:=(by injection e382)
               replace p382:=eq_true p382
               replace q382:=eq_true q382
               refine start_ (n:=17) (S:=fun w'=>w'.cell? ⟨gb370,0,none⟩ = some (.int .i64 a0_0) ∧ w'.cell? ⟨gb370,1,none⟩ = some (.slice Ao37 x371001_1.length co37) ∧ w'.cell? ⟨gb370,2,none⟩ = some (.slice none 0 0) ∧ w'.cell? ⟨gb375,0,none⟩ = some (.int .i64 ((rd_T56 l0_1 x25_1).f0)) ∧ w'.cell? ⟨gb375,1,none⟩ = some (.int .i64 ((rd_T56 l0_1 x25_1).f1)) ∧ w'.cell? (ad381.add (((rd_T56 l0_1 x25_1).f0)).toNat) = some (.int .i64 (rd y377 ((rd_T56 l0_1 x25_1).f0))) ∧ w'.cell? (ad381.add (((rd_T56 l0_1 x25_1).f1)).toNat) = some (.int .i64 (rd y377 ((rd_T56 l0_1 x25_1).f1)))) (ds:=[14,16]) #[false,false,false,false,false,false,false,false,false,false,false,false,false,false,false,false,false] (by kernel_rfl) rfl rfl ⟨(blk_cell BK370.out 0).trans rfl,(blk_cell BK370.out 1).trans rfl,(blk_cell BK370.out 2).trans rfl,(blk_cell BK375.out 0).trans rfl,(blk_cell BK375.out 1).trans rfl,hx381_0,hx382_0⟩ (fun hHeld=>?_);refine with_tabW impl_Plan_trimmed.tab7 impl_Plan_trimmed.bits7 (fun HT_ HW_=>?_)
               generalize w39.drew = w44 at HO_3 HO_371001 HO379 BK0 BK363 BK370 BK375 HB hx381_0 hx382_0 hHeld ⊢
               refine pure_ (i:=0) (N:=some 43) (v:=?_) (a':=?_) #[true,false,false,false,false,false,false,false,false,false,false,false,false,false,false,false,false] rfl rfl (any_of HT_.out (by kernel_rfl)) (fun _ _ _ h=>h) (Or.inl ⟨by rfl,?_⟩) ?_ ?_
               rotate_left
               ·intro w'
                go_simp
                with_reducible rfl
               rotate_left
               ·simp only [Act.put,xa,xb,xc,i64_w,i32_w]
                rfl
               refine pure_ (i:=2) (N:=some 45) (v:=?_) (a':=?_) #[true,false,true,false,false,false,false,false,false,false,false,false,false,false,false,false,false] rfl rfl (any_of HT_.out (by kernel_rfl)) (fun _ _ _ h=>h) (Or.inl ⟨by rfl,?_⟩) ?_ ?_
               rotate_left
               ·intro w'
                go_simp
                with_reducible rfl
               rotate_left
               ·simp only [Act.put,xa,xb,xc,i64_w,i32_w]
                rfl
               refine pure_ (i:=3) (N:=some 46) (v:=?_) (a':=?_) #[true,false,true,true,false,false,false,false,false,false,false,false,false,false,false,false,false] rfl rfl (any_of HT_.out (by kernel_rfl)) (fun _ _ _ h=>h) (Or.inl ⟨by rfl,?_⟩) ?_ ?_
               rotate_left
               ·intro w'
                go_simp
                with_reducible rfl
               rotate_left
               ·simp only [Act.put,xa,xb,xc,i64_w,i32_w]
                rfl
               refine pure_ (i:=7) (N:=some 50) (v:=?_) (a':=?_) #[true,false,true,true,false,false,false,true,false,false,false,false,false,false,false,false,false] rfl rfl (any_of HT_.out (by kernel_rfl)) (fun _ _ _ h=>h) (Or.inl ⟨by rfl,?_⟩) ?_ ?_
               rotate_left
               ·intro w'
                go_simp
                with_reducible rfl
               rotate_left
               ·simp only [Act.put,xa,xb,xc,i64_w,i32_w]
                rfl
               refine pure_ (i:=8) (N:=some 51) (v:=?_) (a':=?_) #[true,false,true,true,false,false,false,true,true,false,false,false,false,false,false,false,false] rfl rfl (any_of HT_.out (by kernel_rfl)) (fun _ _ _ h=>h) (Or.inl ⟨by rfl,?_⟩) ?_ ?_
               rotate_left
               ·intro w'
                go_simp
                with_reducible rfl
               rotate_left
               ·simp only [Act.put,xa,xb,xc,i64_w,i32_w]
                rfl
               refine take_ (i:=1) (N:=some 44) (v:=?_) (a':=?_) #[true,true,true,true,false,false,false,true,true,false,false,false,false,false,false,false,false] rfl rfl (take_ofW HT_.out HW_.out (by kernel_rfl)) (fun _ _ _ h=>h) (Or.inl ⟨by rfl,?_⟩) hHeld ?_ ?_
               rotate_left
               ·rintro w' ⟨s0,s1,s2,s3,s4,s5,s6⟩
                go_simp
                with_reducible rfl
               rotate_left
               ·simp only [Act.put,xa,xb,xc,i64_w,i32_w]
                rfl
               refine take_ (i:=4) (N:=some 47) (v:=?_) (a':=?_) #[true,true,true,true,true,false,false,true,true,false,false,false,false,false,false,false,false] rfl rfl (take_ofW HT_.out HW_.out (by kernel_rfl)) (fun _ _ _ h=>h) (Or.inl ⟨by rfl,?_⟩) hHeld ?_ ?_
               rotate_left
               ·rintro w' ⟨s0,s1,s2,s3,s4,s5,s6⟩
                go_simp
                with_reducible rfl
               rotate_left
               ·simp only [Act.put,xa,xb,xc,i64_w,i32_w]
                rfl
               refine pure_ (i:=5) (N:=some 48) (v:=?_) (a':=?_) #[true,true,true,true,true,true,false,true,true,false,false,false,false,false,false,false,false] rfl rfl (any_of HT_.out (by kernel_rfl)) (fun _ _ _ h=>h) (Or.inl ⟨by rfl,?_⟩) ?_ ?_
               rotate_left
               ·intro w'
                go_simp
                with_reducible rfl
               rotate_left
               ·simp only [Act.put,xa,xb,xc,i64_w,i32_w]
                rfl
               refine take_ (i:=6) (N:=some 49) (v:=?_) (a':=?_) #[true,true,true,true,true,true,true,true,true,false,false,false,false,false,false,false,false] rfl rfl (take_ofW HT_.out HW_.out (by kernel_rfl)) (fun _ _ _ h=>h) (Or.inl ⟨by rfl,?_⟩) hHeld ?_ ?_
               rotate_left
               ·rintro w' ⟨s0,s1,s2,s3,s4,s5,s6⟩
                go_simp
                with_reducible rfl
               rotate_left
               ·simp only [Act.put,xa,xb,xc,i64_w,i32_w]
                rfl
               refine take_ (i:=9) (N:=some 52) (v:=?_) (a':=?_) #[true,true,true,true,true,true,true,true,true,true,false,false,false,false,false,false,false] rfl rfl (take_ofW HT_.out HW_.out (by kernel_rfl)) (fun _ _ _ h=>h) (Or.inl ⟨by rfl,?_⟩) hHeld ?_ ?_
               rotate_left
               ·rintro w' ⟨s0,s1,s2,s3,s4,s5,s6⟩
                go_simp
                with_reducible rfl
               rotate_left
               ·simp only [Act.put,xa,xb,xc,i64_w,i32_w]
                rfl
               refine pure_ (i:=10) (N:=some 53) (v:=?_) (a':=?_) #[true,true,true,true,true,true,true,true,true,true,true,false,false,false,false,false,false] rfl rfl (any_of HT_.out (by kernel_rfl)) (fun _ _ _ h=>h) (Or.inl ⟨by rfl,?_⟩) ?_ ?_
               rotate_left
               ·intro w'
                go_simp
                with_reducible rfl
               rotate_left
               ·simp only [Act.put,xa,xb,xc,i64_w,i32_w]
                rfl
               refine take_ (i:=11) (N:=some 54) (v:=?_) (a':=?_) #[true,true,true,true,true,true,true,true,true,true,true,true,false,false,false,false,false] rfl rfl (take_ofW HT_.out HW_.out (by kernel_rfl)) (fun _ _ _ h=>h) (Or.inl ⟨by rfl,?_⟩) hHeld ?_ ?_
               rotate_left
               ·rintro w' ⟨s0,s1,s2,s3,s4,s5,s6⟩
                go_simp
                with_reducible rfl
               rotate_left
               ·simp only [Act.put,xa,xb,xc,i64_w,i32_w]
                rfl
               refine one_ (i:=12) (N:=some 55) #[true,true,true,true,true,true,true,true,true,true,true,true,true,false,false,false,false] rfl rfl (one_of HT_.out (by kernel_rfl)) (by decide) (fun K hK=>?_)
               refine goes_ Try.func76 (by kernel_rfl) rfl #[.int .i64 (rd y377 ((rd_T56 l0_1 x25_1).f0)),.int .i64 (rd y377 ((rd_T56 l0_1 x25_1).f1))] (by rfl) rfl rfl mz ?_
               with_reducible refine (impl_step.calls (rd y377 ((rd_T56 l0_1 x25_1).f0)) (rd y377 ((rd_T56 l0_1 x25_1).f1)) t383 t384 _ A30.out).mono ?_
               rintro e w46 ⟨rfl,hb⟩
               have HS5_:=(hb.cell (World.block_lt_of_cell? _ _ (hHeld.2.2.2.2.2.1))).trans (hHeld.2.2.2.2.2.1)
               have HS6_:=(hb.cell (World.block_lt_of_cell? _ _ (hHeld.2.2.2.2.2.2))).trans (hHeld.2.2.2.2.2.2)
               refine ⟨_,rfl,?_⟩
               have n0_:=Aside0.mk (Kd.R_below (rz HO_3.out) hb)
               have n1_:=Aside0.mk (Kd.R_below (rz HO_371001.out) hb)
               have n2_:=Aside0.mk (Kd.R_below (rz HO379.out) hb)
               have n3_:=Aside0.mk (blk_below (g:=g0_) (o:=.cells #[.int .i64 a0_0,.slice (some ad374) l0_1.length c0_1,.slice A0_2 l0_2.length c0_2] 32 (0,0)) (kz BK0.out) hb)
               have n4_:=Aside0.mk (blk_below (g:=gb363) (o:=.cells #[.int .i64 0,.slice none 0 0,.slice none 0 0] 32 (0,0)) (kz BK363.out) hb)
               have n5_:=Aside0.mk (blk_below (g:=gb370) (o:=.cells #[.int .i64 a0_0,.slice Ao37 x371001_1.length co37,.slice none 0 0] 32 (0,0)) (kz BK370.out) hb)
               have n6_:=Aside0.mk (blk_below (g:=gb375) (o:=.cells #[.int .i64 ((rd_T56 l0_1 x25_1).f0),.int .i64 ((rd_T56 l0_1 x25_1).f1)] 56 (0,0)) (kz BK375.out) hb)
               have n7_:=Aside0.mk (below_step bs hb)
               clear HO_3
               clear HO_371001
               clear HO379
               clear BK0
               clear BK363
               clear BK370
               clear BK375
               clear HB
               have HO_3:=n0_
               have HO_371001:=n1_
               have HO379:=n2_
               have BK0:=n3_
               have BK363:=n4_
               have BK370:=n5_
               have BK375:=n6_
               have HB:=n7_
               clear n0_ n1_ n2_ n3_ n4_ n5_ n6_ n7_
               (try clear hb)
               refine hK.out _ _ ⟨(blk_cell BK370.out 0).trans rfl,(blk_cell BK370.out 1).trans rfl,(blk_cell BK370.out 2).trans rfl,(blk_cell BK375.out 0).trans rfl,(blk_cell BK375.out 1).trans rfl,HS5_,HS6_⟩ (fun hHeld=>?_)
               clear hK K
               refine norm_ (a':=?_) ?_ ?_
               rotate_left
               ·show Act.put _ (some 55) _ = _
                simp only [Act.put,xa,xb,xc,i64_w,i32_w]
                rfl
               refine one_ (i:=13) (N:=some 56) #[true,true,true,true,true,true,true,true,true,true,true,true,true,true,false,false,false] rfl rfl (one_of HT_.out (by kernel_rfl)) (by decide) (fun K hK=>?_)
               refine value_ (w1:=?_) (v:=?_) (by rfl) rfl ?_ ?_
               rotate_left 2
               ·go_simp
                constructor
                ·rfl
                ·rfl
               refine hK.out _ _ ⟨(blk_cell (blk_alloc BK370.out _) 0).trans rfl,(blk_cell (blk_alloc BK370.out _) 1).trans rfl,(blk_cell (blk_alloc BK370.out _) 2).trans rfl,(blk_cell (blk_alloc BK375.out _) 0).trans rfl,(blk_cell (blk_alloc BK375.out _) 1).trans rfl,(World.cell?_alloc_lt _ _ _ (World.block_lt_of_cell? _ _ (hHeld.2.2.2.2.2.1))).trans (hHeld.2.2.2.2.2.1),(World.cell?_alloc_lt _ _ _ (World.block_lt_of_cell? _ _ (hHeld.2.2.2.2.2.2))).trans (hHeld.2.2.2.2.2.2)⟩ (fun hHeld=>?_)
               clear hK K
               refine norm_ (a':=?_) ?_ ?_
               rotate_left
               ·show Act.put _ (some 56) _ = _
                simp only [Act.put,xa,xb,xc,i64_w,i32_w]
                rfl
               refine last_ (i:=14) (N:=some 57) #[true,true,true,true,true,true,true,true,true,true,true,true,true,true,true,false,false] rfl rfl (one_of HT_.out (by kernel_rfl)) (by decide) (fun K hK=>?_)
               refine Kd.R_append_step k56 (w0:=w) w.heap.size (by rfl) (.tmp 44) (.tmp 56) 30 56 (.agg #[(.int .i64 0),(.int .i64 0)]) 16 rfl Try.underlying30 info56 rfl (by decide) (by omega) (.slice Ao37 x371001_1.length co37) x371001_1 (⟨t383,t384⟩ : S56) [.int .i64 t383,.int .i64 t384] (fun k_=>k_ ≠ gb375) (fun _=>False) rfl rfl ?aP (fun _ hk=>hk.elim) ?aF ?aO ?aB ?aS ?aL ?_
               (case aP=>exact k56_mkM _ _ _ (⟨t383,t384⟩ : S56))
               (case aB=>exact bs)
               (case aF=>exact (fun k_ hk=>Kd.freshB (g:=gb375) (o:=.cells #[.int .i64 ((rd_T56 l0_1 x25_1).f0),.int .i64 ((rd_T56 l0_1 x25_1).f1)] 56 (0,0)) (kz BK375.out) k_ hk))
               (case aO=>exact (by (with_reducible repeat (first|apply Kd.R_alloc|apply Kd.R_drewN|apply Kd.R_drew));exact Kd.R_mono HO_371001.out (fun _ hk=>hk.2)))
               (case aS=>exact (below_size bs))
               (case aL=>have:=LMc31.out;omega)
               intro v386 w47 ho hb hg hat
               rw [← Ny385.out] at ho
               have n0_:=Aside0.mk (Kd.R_over' (rz HO_3.out) (Kd.R_typed (rz HO_371001.out)) (by decide) hg)
               have n1_:=Aside0.mk (blk_grown (g:=g0_) (o:=.cells #[.int .i64 a0_0,.slice (some ad374) l0_1.length c0_1,.slice A0_2 l0_2.length c0_2] 32 (0,0)) (kz BK0.out) hg (Kd.R_ne HO_371001.out BK0.out (by decide)))
               have n2_:=Aside0.mk (blk_grown (g:=gb363) (o:=.cells #[.int .i64 0,.slice none 0 0,.slice none 0 0] 32 (0,0)) (kz BK363.out) hg (Kd.R_ne HO_371001.out BK363.out (by decide)))
               have n3_:=Aside0.mk (blk_grown (g:=gb370) (o:=.cells #[.int .i64 a0_0,.slice Ao37 x371001_1.length co37,.slice none 0 0] 32 (0,0)) (kz BK370.out) hg (Kd.R_ne HO_371001.out BK370.out (by decide)))
               have n4_:=Aside0.mk (blk_grown (g:=gb375) (o:=.cells #[.int .i64 ((rd_T56 l0_1 x25_1).f0),.int .i64 ((rd_T56 l0_1 x25_1).f1)] 56 (0,0)) (kz BK375.out) hg (Kd.R_away HO_371001.out (fun _ hk=>hk.2)))
               have n5_:=Aside0.mk (Kd.R_over' (rz HO379.out) (Kd.R_typed (rz HO_371001.out)) (by decide) hg)
               have n6_:=Aside0.mk (hb)
               have n7_:=Aside0.mk (ho)
               clear HO_3
               clear BK0
               clear BK363
               clear BK370
               clear BK375
               clear HO379
               clear HB
               clear HO_371001
               have HO_3:=n0_
               have BK0:=n1_
               have BK363:=n2_
               have BK370:=n3_
               have BK375:=n4_
               have HO379:=n5_
               have HB:=n6_
               have HO387:=n7_
               clear n0_ n1_ n2_ n3_ n4_ n5_ n6_ n7_
               clear ho hb hg hat
               obtain ⟨Ao48,co48,eo48⟩:=Kd.R_slice HO387.out
               (first|subst eo48|(injection eo48 with f1_ f2_ f3_;have f4_:=f1_.symm;have f5_:=f3_.symm;clear f1_ f2_ f3_;subst f4_;subst f5_))
               refine hK.out _ _ ?_
               clear hK K
               refine norm_ (a':=?_) ?_ ?_
               rotate_left
               ·show Act.put _ (some 57) _ = _
                simp only [Act.put,xa,xb,xc,i64_w,i32_w]
                rfl
               refine pure_ (i:=15) (N:=some 58) (v:=?_) (a':=?_) #[true,true,true,true,true,true,true,true,true,true,true,true,true,true,true,true,false] rfl rfl (any_of HT_.out (by kernel_rfl)) (fun _ _ _ h=>h) (Or.inl ⟨by rfl,?_⟩) ?_ ?_
               rotate_left
               ·intro w'
                go_simp
                with_reducible rfl
               rotate_left
               ·simp only [Act.put,xa,xb,xc,i64_w,i32_w]
                rfl
               refine last_ (i:=16) (N:=none) #[true,true,true,true,true,true,true,true,true,true,true,true,true,true,true,true,true] rfl rfl (one_of HT_.out (by kernel_rfl)) (by decide) (fun K hK=>?_)
               have hs49 : w47.cell? ⟨gb370,1,none⟩ = some (.slice Ao37 x371001_1.length co37):=(blk_cell BK370.out 1).trans rfl
               have hfs49:=blk_frozen BK370.out 1
               have hns49_0:=NB0_370.out
               have hns49_1:=NB363_370.out
               have hns49_3:=NB375_370.out
               have hms49_0:=NB370_0.out
               have hms49_1:=NB370_363.out
               have hms49_3:=NB370_375.out
               refine skip_ (w1:=?_) (by rfl) rfl ?_ ?_
               rotate_left
               ·go_simp
                rfl
               refine hK.out _ _ ?_
               clear hK K
               refine done_ (done_of HT_.out (by kernel_rfl)) ?_
               try go_wp2
               go_roundg k1
               case measure=>have:=HK1.out;omega
               case rel=>exact ⟨(y377),(wrap64 (x25_1 + 1)),(y385),(.slice Ao48 y385.length co48),fz,H',⟨by have:=HK1.out;omega⟩,⟨by (with_reducible repeat (first|apply Kd.R_alloc|apply Kd.R_drewN|apply Kd.R_drew));exact Kd.R_mono (Kd.R_far (p:=⟨gb370,1,none⟩) (Kd.R_types HO_3.out BK370.out (by decide)) (fun _ hk=>hk.2) (.slice Ao48 y385.length co48)) (fun _ hk=>trivial)⟩,⟨by (with_reducible repeat (first|apply Kd.R_alloc|apply Kd.R_drewN|apply Kd.R_drew));exact Kd.R_mono (Kd.R_far (p:=⟨gb370,1,none⟩) (Kd.R_types HO379.out BK370.out (by decide)) (fun _ hk=>hk.2) (.slice Ao48 y385.length co48)) (fun _ hk=>trivial)⟩,⟨by (with_reducible repeat (first|apply Kd.R_alloc|apply Kd.R_drewN|apply Kd.R_drew));exact Kd.R_mono (Kd.R_far (p:=⟨gb370,1,none⟩) (Kd.R_types HO387.out BK370.out (by decide)) (fun _ hk=>hk.2) (.slice Ao48 y385.length co48)) (fun _ hk=>trivial)⟩,⟨by (with_reducible repeat (first|refine blk_drewN ?_ _|refine blk_drew ?_|refine blk_alloc ?_ _));refine blk_far ?_ NB0_370.out _;(with_reducible repeat (first|refine blk_drewN ?_ _|refine blk_drew ?_|refine blk_alloc ?_ _));exact BK0.out⟩,⟨by (with_reducible repeat (first|refine blk_drewN ?_ _|refine blk_drew ?_|refine blk_alloc ?_ _));refine blk_far ?_ NB363_370.out _;(with_reducible repeat (first|refine blk_drewN ?_ _|refine blk_drew ?_|refine blk_alloc ?_ _));exact BK363.out⟩,⟨by (with_reducible repeat (first|refine blk_drewN ?_ _|refine blk_drew ?_|refine blk_alloc ?_ _));refine blk_put (cs:=#[.int .i64 a0_0,.slice Ao37 x371001_1.length co37,.slice none 0 0]) ?_ 1 _ rfl;(with_reducible repeat (first|refine blk_drewN ?_ _|refine blk_drew ?_|refine blk_alloc ?_ _));exact BK370.out⟩,⟨by repeat (first|(with_reducible first|exact HB.out|apply below_alloc|apply pw_below_drewN|apply below_drew1|refine below_set ?_ GE0.out|refine below_set ?_ GE363.out|refine below_set ?_ GE370.out|refine below_set ?_ GE375.out)|exact HB.out)⟩⟩
              ·rw [if_neg c31] at H
               exact absurd H (by simp)
             ·rw [if_neg c29] at H
              exact absurd H (by simp)
            ·rw [if_neg c28] at H
             exact absurd H (by simp)
           ·rw [if_neg c27] at H
            exact absurd H (by simp)
          ·rw [if_neg c26] at H
           exact absurd H (by simp)
         ·replace c25:=Bool.eq_false_iff.mpr c25
          subst c25
          rw [if_neg (show ¬ (false = true) by decide)] at H
          have H':=Aside0.mk H
          clear H
          have p374 : 0 ≤ (x25_1 : Int):=of_decide_eq_true az
          have q374 : x25_1 < (l0_1.length : Int):=of_decide_eq_true az
          obtain ⟨ad374,e374,hx374_0,hx374_1⟩:=at_T56 HR0_1.out x25_1 p374 q374
          cases e374
          replace hx374_0:=(HB.out.cell (World.block_lt_of_cell? w _ hx374_0)).trans hx374_0
          replace hx374_1:=(HB.out.cell (World.block_lt_of_cell? w _ hx374_1)).trans hx374_1
          replace p374:=eq_true p374
          replace q374:=eq_true q374
          go_wp2_with (first|((with_reducible refine gate_dst (N:=7) rfl ?_);refine box_event ?hg (N:=7) ?hd (cs:=#[.int .i64 0,.int .i64 0]) (t:=56) ?hr ?_;(case hd=>rfl);(case hg=>rfl);(case hr=>first|(go_simp;done)|(go_simp;rfl));intro gb375 hg w50 hbox hb;have n0_:=Aside0.mk (Kd.R_below (rz HO_3.out) hb);have n1_:=Aside0.mk (Kd.R_below (rz HO_5.out) hb);have n2_:=Aside0.mk (Kd.R_below (Kd.R_elderB (rz HO_371001.out) gb375 (Nat.le_of_eq hg.symm)) hb);have n3_:=Aside0.mk (blk_below (g:=g0_) (o:=.cells #[.int .i64 a0_0,.slice (some ad374) l0_1.length c0_1,.slice A0_2 l0_2.length c0_2] 32 (0,0)) (kz BK0.out) hb);have n4_:=Aside0.mk (blk_below (g:=gb363) (o:=.cells #[.int .i64 0,.slice none 0 0,.slice none 0 0] 32 (0,0)) (kz BK363.out) hb);have n5_:=Aside0.mk (blk_below (g:=gb370) (o:=.cells #[.int .i64 a0_0,u371001,.slice none 0 0] 32 (0,0)) (kz BK370.out) hb);have n6_:=Aside0.mk (below_step bs hb);have n7_:=Aside0.mk (hbox);have n8_:=Aside0.mk ((by rw [hg];exact (below_size bs) : w.heap.size ≤ gb375));have n9_:=Aside0.mk ((by rw [hg];exact (below_size bs) : w.heap.size ≤ gb375));have n10_:=Aside0.mk ((by rw [hg];exact Nat.ne_of_lt (blk_lt (g:=g0_) (o:=.cells #[.int .i64 a0_0,.slice (some ad374) l0_1.length c0_1,.slice A0_2 l0_2.length c0_2] 32 (0,0)) (kz BK0.out)) : g0_ ≠ gb375));have n11_:=Aside0.mk ((by rw [hg];exact Nat.ne_of_gt (blk_lt (g:=g0_) (o:=.cells #[.int .i64 a0_0,.slice (some ad374) l0_1.length c0_1,.slice A0_2 l0_2.length c0_2] 32 (0,0)) (kz BK0.out)) : gb375 ≠ g0_));have n12_:=Aside0.mk ((by rw [hg];exact Nat.ne_of_lt (blk_lt (g:=gb363) (o:=.cells #[.int .i64 0,.slice none 0 0,.slice none 0 0] 32 (0,0)) (kz BK363.out)) : gb363 ≠ gb375));have n13_:=Aside0.mk ((by rw [hg];exact Nat.ne_of_gt (blk_lt (g:=gb363) (o:=.cells #[.int .i64 0,.slice none 0 0,.slice none 0 0] 32 (0,0)) (kz BK363.out)) : gb375 ≠ gb363));have n14_:=Aside0.mk ((by rw [hg];exact Nat.ne_of_lt (blk_lt (g:=gb370) (o:=.cells #[.int .i64 a0_0,u371001,.slice none 0 0] 32 (0,0)) (kz BK370.out)) : gb370 ≠ gb375));have n15_:=Aside0.mk ((by rw [hg];exact Nat.ne_of_gt (blk_lt (g:=gb370) (o:=.cells #[.int .i64 a0_0,u371001,.slice none 0 0] 32 (0,0)) (kz BK370.out)) : gb375 ≠ gb370));clear HO_3 HO_5 HO_371001 BK0 BK363 BK370 HB;have HO_3:=n0_;have HO_5:=n1_;have HO_371001:=n2_;have BK0:=n3_;have BK363:=n4_;have BK370:=n5_;have HB:=n6_;have BK375:=n7_;have GW375:=n8_;have GE375:=n9_;have NB0_375:=n10_;have NB375_0:=n11_;have NB363_375:=n12_;have NB375_363:=n13_;have NB370_375:=n14_;have NB375_370:=n15_;clear n0_ n1_ n2_ n3_ n4_ n5_ n6_ n7_ n8_ n9_ n10_ n11_ n12_ n13_ n14_ n15_;clear hb hbox hg;have hnb51:=NB375_0.out;have hnc51:=NB0_375.out;have hnb52:=NB375_363.out;have hnc52:=NB363_375.out;have hnb53:=NB375_370.out;have hnc53:=NB370_375.out;have hcz54_0 : w50.cell? ⟨gb375,0,none⟩ = some (.int .i64 0):=(blk_cell BK375.out 0).trans rfl;have hcz54_1 : w50.cell? ⟨gb375,1,none⟩ = some (.int .i64 0):=(blk_cell BK375.out 1).trans rfl;have hfz54_0:=blk_frozen BK375.out 0;have hfz54_1:=blk_frozen BK375.out 1;obtain ⟨Ao55,co55,eo55⟩:=Kd.R_slice HO_371001.out;subst eo55)|((with_reducible refine gate_callee (f:=75) rfl ?_);refine goesL_ (some 31) rfl rfl Try.func75 (by kernel_rfl) rfl #[.pointer (some ⟨gb370,0,none⟩)] rfl mz ?_;(refine (impl_Plan_many.calls gb370 a0_0 Ao55 co55 x371001_1 none 0 ([] : List Int) t376 _ ?side1 ?side2 ?side3 ?side4 ?side5 A19.out).mono ?_);(case side1=>exact by (with_reducible repeat (first|refine blk_drewN ?_ _|refine blk_drew ?_|refine blk_alloc ?_ _));refine blk_far ?_ NB370_375.out _;(with_reducible repeat (first|refine blk_drewN ?_ _|refine blk_drew ?_|refine blk_alloc ?_ _));refine blk_far ?_ NB370_375.out _;(with_reducible repeat (first|refine blk_drewN ?_ _|refine blk_drew ?_|refine blk_alloc ?_ _));exact BK370.out);(case side2=>refine (Kd.R_reads' (e:=56) (base:=w.heap.size) (ok:=fun k_=>(True ∧ k_ ≠ gb375)) (n:=x371001_1.length) (c:=co55) ?_).2.2;exact (by (with_reducible repeat (first|apply Kd.R_alloc|apply Kd.R_drewN|apply Kd.R_drew));exact (Kd.R_mono (Kd.R_far (p:=⟨gb375,1,none⟩) (Kd.R_far (p:=⟨gb375,0,none⟩) (Kd.R_mono HO_371001.out (fun k_ hk=>(⟨hk,hk.2⟩ : _ ∧ k_ ≠ gb375))) (fun _ hk=>hk.2) (.int .i64 ((rd_T56 l0_1 x25_1).f0))) (fun _ hk=>hk.2) (.int .i64 ((rd_T56 l0_1 x25_1).f1))) (fun _ h_=>h_.1))));(case side3=>exact (Kd.R_reads' HO_371001.out).2.1);(case side4=>exact Kd.C_nil _ _);(case side5=>exact Nat.le_refl _);rintro e w56 ⟨rfl,hb⟩;refine ⟨_,rfl,?_⟩;have n0_:=Aside0.mk (Kd.R_below (by (with_reducible repeat (first|apply Kd.R_alloc|apply Kd.R_drewN|apply Kd.R_drew));exact (Kd.R_mono (Kd.R_far (p:=⟨gb375,1,none⟩) (Kd.R_far (p:=⟨gb375,0,none⟩) (Kd.R_types HO_3.out BK375.out (by decide)) (fun _ hk=>hk.2) (.int .i64 ((rd_T56 l0_1 x25_1).f0))) (fun _ hk=>hk.2) (.int .i64 ((rd_T56 l0_1 x25_1).f1))) (fun _ h_=>h_.1))) hb);have n1_:=Aside0.mk (Kd.R_below (by (with_reducible repeat (first|apply Kd.R_alloc|apply Kd.R_drewN|apply Kd.R_drew));exact (Kd.R_mono (Kd.R_far (p:=⟨gb375,1,none⟩) (Kd.R_far (p:=⟨gb375,0,none⟩) (Kd.R_types HO_5.out BK375.out (by decide)) (fun _ hk=>hk.2) (.int .i64 ((rd_T56 l0_1 x25_1).f0))) (fun _ hk=>hk.2) (.int .i64 ((rd_T56 l0_1 x25_1).f1))) (fun _ h_=>h_.1))) hb);have n2_:=Aside0.mk (Kd.R_below (by (with_reducible repeat (first|apply Kd.R_alloc|apply Kd.R_drewN|apply Kd.R_drew));exact (Kd.R_mono (Kd.R_far (p:=⟨gb375,1,none⟩) (Kd.R_far (p:=⟨gb375,0,none⟩) (Kd.R_mono HO_371001.out (fun k_ hk=>(⟨hk,hk.2⟩ : _ ∧ k_ ≠ gb375))) (fun _ hk=>hk.2) (.int .i64 ((rd_T56 l0_1 x25_1).f0))) (fun _ hk=>hk.2) (.int .i64 ((rd_T56 l0_1 x25_1).f1))) (fun _ h_=>h_.1))) hb);have n3_:=Aside0.mk (blk_below (g:=g0_) (o:=.cells #[.int .i64 a0_0,.slice (some ad374) l0_1.length c0_1,.slice A0_2 l0_2.length c0_2] 32 (0,0)) (by (with_reducible repeat (first|refine blk_drewN ?_ _|refine blk_drew ?_|refine blk_alloc ?_ _));refine blk_far ?_ NB0_375.out _;(with_reducible repeat (first|refine blk_drewN ?_ _|refine blk_drew ?_|refine blk_alloc ?_ _));refine blk_far ?_ NB0_375.out _;(with_reducible repeat (first|refine blk_drewN ?_ _|refine blk_drew ?_|refine blk_alloc ?_ _));exact BK0.out) hb);have n4_:=Aside0.mk (blk_below (g:=gb363) (o:=.cells #[.int .i64 0,.slice none 0 0,.slice none 0 0] 32 (0,0)) (by (with_reducible repeat (first|refine blk_drewN ?_ _|refine blk_drew ?_|refine blk_alloc ?_ _));refine blk_far ?_ NB363_375.out _;(with_reducible repeat (first|refine blk_drewN ?_ _|refine blk_drew ?_|refine blk_alloc ?_ _));refine blk_far ?_ NB363_375.out _;(with_reducible repeat (first|refine blk_drewN ?_ _|refine blk_drew ?_|refine blk_alloc ?_ _));exact BK363.out) hb);have n5_:=Aside0.mk (blk_below (g:=gb370) (o:=.cells #[.int .i64 a0_0,.slice Ao55 x371001_1.length co55,.slice none 0 0] 32 (0,0)) (by (with_reducible repeat (first|refine blk_drewN ?_ _|refine blk_drew ?_|refine blk_alloc ?_ _));refine blk_far ?_ NB370_375.out _;(with_reducible repeat (first|refine blk_drewN ?_ _|refine blk_drew ?_|refine blk_alloc ?_ _));refine blk_far ?_ NB370_375.out _;(with_reducible repeat (first|refine blk_drewN ?_ _|refine blk_drew ?_|refine blk_alloc ?_ _));exact BK370.out) hb);have n6_:=Aside0.mk (blk_below (g:=gb375) (o:=.cells #[.int .i64 ((rd_T56 l0_1 x25_1).f0),.int .i64 ((rd_T56 l0_1 x25_1).f1)] 56 (0,0)) (by (with_reducible repeat (first|refine blk_drewN ?_ _|refine blk_drew ?_|refine blk_alloc ?_ _));refine blk_put (cs:=#[.int .i64 ((rd_T56 l0_1 x25_1).f0),.int .i64 0]) ?_ 1 _ rfl;(with_reducible repeat (first|refine blk_drewN ?_ _|refine blk_drew ?_|refine blk_alloc ?_ _));refine blk_put (cs:=#[.int .i64 0,.int .i64 0]) ?_ 0 _ rfl;(with_reducible repeat (first|refine blk_drewN ?_ _|refine blk_drew ?_|refine blk_alloc ?_ _));exact BK375.out) hb);have n7_:=Aside0.mk (below_step bs hb);clear HO_3 HO_5 HO_371001 BK0 BK363 BK370 BK375 HB;have HO_3:=n0_;have HO_5:=n1_;have HO_371001:=n2_;have BK0:=n3_;have BK363:=n4_;have BK370:=n5_;have BK375:=n6_;have HB:=n7_;clear n0_ n1_ n2_ n3_ n4_ n5_ n6_ n7_;(try clear hb))|((with_reducible refine gate_builtin (b:=.append) (xs:=#[.tmp 30,.tmp 32]) rfl ?_);at_builtin;refine Kd.R_append (Kd.int .i64) (w0:=w) w.heap.size rfl (.tmp 30) (.tmp 32) 24 3 (.int .i64 0) 8 rfl Try.underlying24 info3 rfl (by decide) (by omega) u5 x5_1 t376 [.int .i64 t376] (fun _=>True) (fun _=>False) rfl rfl ?aP (fun _ hk=>hk.elim) ?aF ?aO ?aB ?aS ?aL ?_;(case aP=>exact rfl);(case aB=>exact bs);(case aF=>exact (fun _ _=>trivial));(case aO=>exact (rz HO_5.out));(case aS=>exact (below_size bs));(case aL=>have:=LMc20.out;omega);intro v378 w57 ho hb hg hat;rw [← Ny377.out] at ho;have n0_:=Aside0.mk (Kd.R_over' (rz HO_3.out) (Kd.R_typed (rz HO_5.out)) (by decide) hg);have n1_:=Aside0.mk (Kd.R_over' (rz HO_371001.out) (Kd.R_typed (rz HO_5.out)) (by decide) hg);have n2_:=Aside0.mk (blk_grown (g:=g0_) (o:=.cells #[.int .i64 a0_0,.slice (some ad374) l0_1.length c0_1,.slice A0_2 l0_2.length c0_2] 32 (0,0)) (kz BK0.out) hg (Kd.R_ne HO_5.out BK0.out (by decide)));have n3_:=Aside0.mk (blk_grown (g:=gb363) (o:=.cells #[.int .i64 0,.slice none 0 0,.slice none 0 0] 32 (0,0)) (kz BK363.out) hg (Kd.R_ne HO_5.out BK363.out (by decide)));have n4_:=Aside0.mk (blk_grown (g:=gb370) (o:=.cells #[.int .i64 a0_0,.slice Ao55 x371001_1.length co55,.slice none 0 0] 32 (0,0)) (kz BK370.out) hg (Kd.R_ne HO_5.out BK370.out (by decide)));have n5_:=Aside0.mk (blk_grown (g:=gb375) (o:=.cells #[.int .i64 ((rd_T56 l0_1 x25_1).f0),.int .i64 ((rd_T56 l0_1 x25_1).f1)] 56 (0,0)) (kz BK375.out) hg (Kd.R_ne HO_5.out BK375.out (by decide)));have n6_:=Aside0.mk (hb);have n7_:=Aside0.mk (ho);clear HO_3 HO_371001 BK0 BK363 BK370 BK375 HB HO_5;have HO_3:=n0_;have HO_371001:=n1_;have BK0:=n2_;have BK363:=n3_;have BK370:=n4_;have BK375:=n5_;have HB:=n6_;have HO379:=n7_;clear n0_ n1_ n2_ n3_ n4_ n5_ n6_ n7_;clear ho hb hg hat;have hnb58:=NB0_363.out;have hnc58:=NB363_0.out;have hnb59:=NB0_370.out;have hnc59:=NB370_0.out;have hcz60_0 : w57.cell? ⟨g0_,0,none⟩ = some (.int .i64 a0_0):=(blk_cell BK0.out 0).trans rfl;have hcz60_1 : w57.cell? ⟨g0_,1,none⟩ = some (.slice (some ad374) l0_1.length c0_1):=(blk_cell BK0.out 1).trans rfl;have hcz60_2 : w57.cell? ⟨g0_,2,none⟩ = some (.slice A0_2 l0_2.length c0_2):=(blk_cell BK0.out 2).trans rfl;have hfz60_0:=blk_frozen BK0.out 0;have hfz60_1:=blk_frozen BK0.out 1;have hfz60_2:=blk_frozen BK0.out 2;obtain ⟨Ao61,co61,eo61⟩:=Kd.R_slice HO_3.out;subst eo61;have p380 : 0 ≤ ((ji21) : Int):=of_decide_eq_true az;have q380 : (ji21) < (t364.length : Int):=of_decide_eq_true az;obtain ⟨ad380,e380,hx380_0⟩:=Kd.at_bool (Kd.R_reads' HO_3.out).2.2 (ji21) p380 q380;(try rw [← Nbq24.out] at hx380_0);cases e380;replace p380:=eq_true p380;replace q380:=eq_true q380))
          go_roundg k1
          case measure=>have:=HK1.out;omega
          case rel=>exact ⟨(y377),(wrap64 (x25_1 + 1)),(x371001_1),(.slice Ao55 x371001_1.length co55),fz,H',⟨by have:=HK1.out;omega⟩,⟨by (with_reducible repeat (first|apply Kd.R_alloc|apply Kd.R_drewN|apply Kd.R_drew));exact HO_3.out⟩,⟨by (with_reducible repeat (first|apply Kd.R_alloc|apply Kd.R_drewN|apply Kd.R_drew));exact HO379.out⟩,⟨by (with_reducible repeat (first|apply Kd.R_alloc|apply Kd.R_drewN|apply Kd.R_drew));exact Kd.R_mono HO_371001.out (fun _ hk=>trivial)⟩,⟨by (with_reducible repeat (first|refine blk_drewN ?_ _|refine blk_drew ?_|refine blk_alloc ?_ _));exact BK0.out⟩,⟨by (with_reducible repeat (first|refine blk_drewN ?_ _|refine blk_drew ?_|refine blk_alloc ?_ _));exact BK363.out⟩,⟨by (with_reducible repeat (first|refine blk_drewN ?_ _|refine blk_drew ?_|refine blk_alloc ?_ _));exact BK370.out⟩,⟨by repeat (first|(with_reducible first|exact HB.out|apply below_alloc|apply pw_below_drewN|apply below_drew1|refine below_set ?_ GE0.out|refine below_set ?_ GE363.out|refine below_set ?_ GE370.out|refine below_set ?_ GE375.out)|exact HB.out)⟩⟩
        ·rw [if_neg c23] at H
         exact absurd H (by simp)
       ·rw [if_neg c22] at H
        exact absurd H (by simp)
      ·rw [if_neg c20] at H
       exact absurd H (by simp)
     ·rw [if_neg c18] at H
      exact absurd H (by simp)
    ·rw [if_neg c17] at H
     exact absurd H (by simp)
   ·rw [if_neg c16] at H
    have c16b0 : decide (x25_1 < (l0_1.length : Int)) = false:=decide_eq_false c16
    clear c16
    obtain ⟨t371,A62,H⟩:=bd H
    simp only [Option.some.injEq,Prod.mk.injEq] at H
    obtain ⟨rfl,rfl,rfl⟩:=H
    have hnb63:=NB0_363.out
    have hnc63:=NB363_0.out
    have hnb64:=NB0_370.out
    have hnc64:=NB370_0.out
    have hcz65_0 : wr.cell? ⟨g0_,0,none⟩ = some (.int .i64 a0_0):=(blk_cell BK0.out 0).trans rfl
    have hcz65_1 : wr.cell? ⟨g0_,1,none⟩ = some (.slice A0_1 l0_1.length c0_1):=(blk_cell BK0.out 1).trans rfl
    have hcz65_2 : wr.cell? ⟨g0_,2,none⟩ = some (.slice A0_2 l0_2.length c0_2):=(blk_cell BK0.out 2).trans rfl
    have hfz65_0:=blk_frozen BK0.out 0
    have hfz65_1:=blk_frozen BK0.out 1
    have hfz65_2:=blk_frozen BK0.out 2
    obtain ⟨Ao66,co66,eo66⟩:=Kd.R_slice HO_5.out
    subst eo66
    go_wp2_with (first|((with_reducible refine gate_callee (f:=61) rfl ?_);refine goesL_ (some 65) rfl rfl Try.func61 (by kernel_rfl) rfl #[.slice A0_2 l0_2.length c0_2,.slice Ao66 x5_1.length co66] rfl mz ?_;(with_reducible refine (impl_renamed.calls k1 _ _ l0_2 _ _ x5_1 t371 _ ?side1 ?side2 ?side3 ?side4 A62.out).mono ?_);(case side1=>exact cz (Kd.C_below HR0_2.out HB.out));(case side2=>exact HC0_2.out);(case side3=>exact cz (Kd.R_reads' HO_5.out).2.2);(case side4=>exact (Kd.R_reads' HO_5.out).2.1);rintro e w67 ⟨v372,rfl,ho0,hb⟩;refine ⟨_,rfl,?_⟩;have n0_:=Aside0.mk (Kd.R_below (rz HO_3.out) hb);have n1_:=Aside0.mk (Kd.R_elder' (rz HO_5.out) (Kd.R_base ho0) hb);have n2_:=Aside0.mk (Kd.R_below (rz HO_371001.out) hb);have n3_:=Aside0.mk (Kd.R_lower (Kd.R_new' ho0 (Kd.R_lt (rz HO_5.out))) (below_size bs));have n4_:=Aside0.mk (blk_below (g:=g0_) (o:=.cells #[.int .i64 a0_0,.slice A0_1 l0_1.length c0_1,.slice A0_2 l0_2.length c0_2] 32 (0,0)) (kz BK0.out) hb);have n5_:=Aside0.mk (blk_below (g:=gb363) (o:=.cells #[.int .i64 0,.slice none 0 0,.slice none 0 0] 32 (0,0)) (kz BK363.out) hb);have n6_:=Aside0.mk (blk_below (g:=gb370) (o:=.cells #[.int .i64 a0_0,u371001,.slice none 0 0] 32 (0,0)) (kz BK370.out) hb);have n7_:=Aside0.mk (below_step bs hb);clear HO_3 HO_5 HO_371001 BK0 BK363 BK370 HB;have HO_3:=n0_;have HO_5:=n1_;have HO_371001:=n2_;have HO373:=n3_;have BK0:=n4_;have BK363:=n5_;have BK370:=n6_;have HB:=n7_;clear n0_ n1_ n2_ n3_ n4_ n5_ n6_ n7_;(try clear hb);(try clear ho0);obtain ⟨Ao68,co68,eo68⟩:=Kd.R_slice HO373.out;subst eo68;have hnb69:=NB370_363.out;have hnc69:=NB363_370.out;have hcz70_0 : w67.cell? ⟨gb370,0,none⟩ = some (.int .i64 a0_0):=(blk_cell BK370.out 0).trans rfl;have hcz70_1 : w67.cell? ⟨gb370,1,none⟩ = some (u371001):=(blk_cell BK370.out 1).trans rfl;have hcz70_2 : w67.cell? ⟨gb370,2,none⟩ = some (.slice none 0 0):=(blk_cell BK370.out 2).trans rfl;have hfz70_0:=blk_frozen BK370.out 0;have hfz70_1:=blk_frozen BK370.out 1;have hfz70_2:=blk_frozen BK370.out 2;have hcz71_0 : w67.cell? ⟨gb363,0,none⟩ = some (.int .i64 0):=(blk_cell BK363.out 0).trans rfl;have hcz71_1 : w67.cell? ⟨gb363,1,none⟩ = some (.slice none 0 0):=(blk_cell BK363.out 1).trans rfl;have hcz71_2 : w67.cell? ⟨gb363,2,none⟩ = some (.slice none 0 0):=(blk_cell BK363.out 2).trans rfl;have hfz71_0:=blk_frozen BK363.out 0;have hfz71_1:=blk_frozen BK363.out 1;have hfz71_2:=blk_frozen BK363.out 2;obtain ⟨Ao72,co72,eo72⟩:=Kd.R_slice HO_371001.out;subst eo72))
    refine bodyPost_ret (results_cell_row rfl _ _ gb363 32 #[.int .i64 a0_0,.slice Ao72 x371001_1.length co72,.slice Ao68 t371.length co68] (0,0) _ rfl (by (with_reducible repeat (first|refine blk_drewN ?_ _|refine blk_drew ?_|refine blk_alloc ?_ _));refine blk_put (cs:=#[.int .i64 a0_0,.slice Ao72 x371001_1.length co72,.slice none 0 0]) ?_ 2 _ rfl;(with_reducible repeat (first|refine blk_drewN ?_ _|refine blk_drew ?_|refine blk_alloc ?_ _));refine blk_put (cs:=#[.int .i64 a0_0,.slice none 0 0,.slice none 0 0]) ?_ 1 _ rfl;(with_reducible repeat (first|refine blk_drewN ?_ _|refine blk_drew ?_|refine blk_alloc ?_ _));refine blk_put (cs:=#[.int .i64 0,.slice none 0 0,.slice none 0 0]) ?_ 0 _ rfl;(with_reducible repeat (first|refine blk_drewN ?_ _|refine blk_drew ?_|refine blk_alloc ?_ _));refine blk_far ?_ NB363_370.out _;(with_reducible repeat (first|refine blk_drewN ?_ _|refine blk_drew ?_|refine blk_alloc ?_ _));exact BK363.out) Try.underlying32 rfl (by kernel_rfl)) rfl ?_
    exact ⟨_,_,by first|rfl|(simp [errW_none,errW_some] <;> rfl)|(simp [*,errW_none,errW_some] <;> rfl),by (with_reducible repeat (first|apply Kd.R_alloc|apply Kd.R_drewN|apply Kd.R_drew));exact Kd.R_mono (Kd.R_far (p:=⟨gb363,2,none⟩) (Kd.R_far (p:=⟨gb363,1,none⟩) (Kd.R_far (p:=⟨gb363,0,none⟩) (Kd.R_far (p:=⟨gb370,2,none⟩) (Kd.R_types (Kd.R_types HO_371001.out BK370.out (by decide)) BK363.out (by decide)) (fun _ hk=>hk.1.2) (.slice Ao68 t371.length co68)) (fun _ hk=>hk.2) (.int .i64 a0_0)) (fun _ hk=>hk.2) (.slice Ao72 x371001_1.length co72)) (fun _ hk=>hk.2) (.slice Ao68 t371.length co68)) (fun _ hk=>trivial),by (with_reducible repeat (first|apply Kd.R_alloc|apply Kd.R_drewN|apply Kd.R_drew));exact Kd.R_mono (Kd.R_far (p:=⟨gb363,2,none⟩) (Kd.R_far (p:=⟨gb363,1,none⟩) (Kd.R_far (p:=⟨gb363,0,none⟩) (Kd.R_far (p:=⟨gb370,2,none⟩) (Kd.R_types (Kd.R_types HO373.out BK370.out (by decide)) BK363.out (by decide)) (fun _ hk=>hk.1.2) (.slice Ao68 t371.length co68)) (fun _ hk=>hk.2) (.int .i64 a0_0)) (fun _ hk=>hk.2) (.slice Ao72 x371001_1.length co72)) (fun _ hk=>hk.2) (.slice Ao68 t371.length co68)) (fun _ hk=>trivial),by repeat (first|(with_reducible first|exact HB.out|apply below_alloc|apply pw_below_drewN|apply below_drew1|refine below_set ?_ GE0.out|refine below_set ?_ GE363.out|refine below_set ?_ GE370.out)|exact HB.out)⟩
end Go.Proofs.Ytlefjgpkabijdaa.MFnNeededParts
--sq
