import Derived.Test.YtdcdaoancmpbeaaMFnSequencesx0
import Derived.Test.YtdcdaoancmpbeaaMFnSequencesx9
import Derived.Test.YtdcdaoancmpbeaaMFnSequencesx15
namespace Go.Proofs.Ytdcdaoancmpbeaa.MFnSequences
open Go.RowKit Go.Proofs.YtdcdaoancmpbeaaW.PrintWords Go.Proofs.YtdcdaoancmpbeaaW.PrintLast Go.Proofs.YtdcdaoancmpbeaaW.PrintMore Go.Proofs.YtdcdaoancmpbeaaV Go.Proofs.YtdcdaoancmpbeaaZ
attribute [local go_sem] max2_int min2_int max_two min_two max_three min_three max_four min_four   -- for this text's walks alone
set_option linter.unusedVariables false
set_option linter.unusedSimpArgs false
/-! ### impl_UsedSteps: function 81 -/
def impl_UsedSteps.l0 : Nat → List Int → List Bool → Int → Int → Option (List Int × Bool)
 | 0,_,_,_,_=>none
 | k + 1,x4,x14,x15,x16=>if x16 < x15 then (if 0 ≤ x16 then (if x16 < (x14.length : Int) then (if rdOf false x14 x16 = true then (if x4.length < 17592186044416 then (impl_UsedSteps.l0 k (x4 ++ [x16]) x14 x15 (wrap64 (x16 + 1))) else (none)) else (impl_UsedSteps.l0 k x4 x14 x15 (wrap64 (x16 + 1)))) else (none)) else (none)) else (some (x4,true))
def impl_UsedSteps.f (k : Nat) (a0_0 : Int) (l0_1 : List (S73)) (l0_2 : List Int) : Option (List Int × Bool):=(impl_IsPlan.f k a0_0 l0_1 l0_2).bind fun t520=>(if t520 = true then ((impl_Plan_used.f a0_0 l0_1 l0_2).bind fun t524=>(if 0 ≤ a0_0 then (if a0_0 ≤ (t524.length : Int) then ((some (t524.drop (a0_0 : Int).toNat : List Bool)).bind fun y527=>(impl_UsedSteps.l0 k (([] : List Int)) y527 (y527.length : Int) 0)) else (none)) else (none))) else (some (([] : List Int),false)))
theorem impl_UsedSteps.mono_l : ∀ k,(∀ y0 y1 y2 y3,LeO (impl_UsedSteps.l0 k y0 y1 y2 y3) (impl_UsedSteps.l0 (k + 1) y0 y1 y2 y3))
 | 0=>fun _ _ _ _ r h=>by simp [impl_UsedSteps.l0] at h
 | k + 1=>by
  have ih0:=impl_UsedSteps.mono_l k
  ·intro y0 y1 y2 y3
   unfold impl_UsedSteps.l0
   repeat' first
   | (with_reducible exact ih0 _ _ _ _)
   | (with_reducible exact impl_IsPlan.mono _ _ _ _)
   | (with_reducible exact LeO.refl _)
   | (with_reducible exact LeO.none _)
   | (with_reducible refine LeO.ite ?_ ?_)
   | (with_reducible refine LeO.bind ?_ (fun _=>?_))
   | exact ih0 _ _ _ _
   | exact impl_IsPlan.mono _ _ _ _
   | exact LeO.none _
   | refine LeO.ite ?_ ?_
   | refine LeO.bind ?_ (fun _=>?_)
theorem impl_UsedSteps.mono : ∀ a0 a1 a2 k,LeO (impl_UsedSteps.f k a0 a1 a2) (impl_UsedSteps.f (k + 1) a0 a1 a2):=by
 intro a0 a1 a2 k
 have ih0:=impl_UsedSteps.mono_l k
 unfold impl_UsedSteps.f
 repeat' first
   | (with_reducible exact ih0 _ _ _ _)
   | (with_reducible exact impl_IsPlan.mono _ _ _ _)
   | (with_reducible exact LeO.refl _)
   | (with_reducible exact LeO.none _)
   | (with_reducible refine LeO.ite ?_ ?_)
   | (with_reducible refine LeO.bind ?_ (fun _=>?_))
   | exact ih0 _ _ _ _
   | exact impl_IsPlan.mono _ _ _ _
   | exact LeO.none _
   | refine LeO.ite ?_ ?_
   | refine LeO.bind ?_ (fun _=>?_)
set_option maxHeartbeats 8000000 in
set_option maxRecDepth 100000 in
theorem impl_UsedSteps.calls (k : Nat) (a0_0 : Int) (A0_1 : Option Addr) (c0_1 : Nat) (l0_1 : List (S73)) (A0_2 : Option Addr) (c0_2 : Nat) (l0_2 : List Int) (r1 : List Int) (r2 : Bool) (w : World) (hr0_1 : Kd.C k73 w A0_1 l0_1.length l0_1) (hc0_1 : l0_1.length ≤ c0_1) (hr0_2 : Kd.C (Kd.int .i64) w A0_2 l0_2.length l0_2) (hc0_2 : l0_2.length ≤ c0_2) (h : impl_UsedSteps.f k a0_0 l0_1 l0_2 = some (r1,r2)) :
  Calls Try.prog 81 #[.agg #[.int .i64 a0_0,.slice A0_1 l0_1.length c0_1,.slice A0_2 l0_2.length c0_2]] w fun e w'=>∃ v0_ : Value,e = .returned (.tuple #[v0_,.bool r2]) ∧ Kd.R (Kd.int .i64) 3 w' w.heap.size (fun _=>True) v0_ r1 ∧ Below w.heap.size w w':=by
 have hu29:=Try.underlying29
 have HR0_1:=Aside0.mk hr0_1
 have HC0_1:=Aside0.mk hc0_1
 clear hr0_1 hc0_1
 have HR0_2:=Aside0.mk hr0_2
 have HC0_2:=Aside0.mk hc0_2
 clear hr0_2 hc0_2
 have HB:=Aside0.mk (Below.refl w.heap.size w)
 have H : ((impl_IsPlan.f k a0_0 l0_1 l0_2).bind fun t520=>(if t520 = true then ((impl_Plan_used.f a0_0 l0_1 l0_2).bind fun t524=>(if 0 ≤ a0_0 then (if a0_0 ≤ (t524.length : Int) then ((some (t524.drop (a0_0 : Int).toNat : List Bool)).bind fun y527=>(impl_UsedSteps.l0 k (([] : List Int)) y527 (y527.length : Int) 0)) else (none)) else (none))) else (some (([] : List Int),false)))) = some (r1,r2):=h
 clear h
 replace H:=Option.bind_eq_some_iff.mp H
 obtain ⟨t520,A20,H⟩:=H
 replace H : (if t520 = true then ((impl_Plan_used.f a0_0 l0_1 l0_2).bind fun t524=>(if 0 ≤ a0_0 then (if a0_0 ≤ (t524.length : Int) then ((some (t524.drop (a0_0 : Int).toNat : List Bool)).bind fun y527=>(impl_UsedSteps.l0 k (([] : List Int)) y527 (y527.length : Int) 0)) else (none)) else (none))) else (some (([] : List Int),false))) = some (r1,r2):=H
 have A2:=Aside0.mk A20
 clear A20
 by_cases c3 : t520 = true
 ·subst c3
  have H1 : ((impl_Plan_used.f a0_0 l0_1 l0_2).bind fun t524=>(if 0 ≤ a0_0 then (if a0_0 ≤ (t524.length : Int) then ((some (t524.drop (a0_0 : Int).toNat : List Bool)).bind fun y527=>(impl_UsedSteps.l0 k (([] : List Int)) y527 (y527.length : Int) 0)) else (none)) else (none))) = some (r1,r2):=by rw [if_pos rfl] at H;exact H
  clear H
  have H:=H1
  clear H1
  obtain ⟨y521,hy521⟩ : ∃ y_ : List Int,y_ = (([] : List Int)):=⟨_,rfl⟩
  replace H : ((impl_Plan_used.f a0_0 l0_1 l0_2).bind fun t524=>(if 0 ≤ a0_0 then (if a0_0 ≤ (t524.length : Int) then ((some (t524.drop (a0_0 : Int).toNat : List Bool)).bind fun y527=>(impl_UsedSteps.l0 k y521 y527 (y527.length : Int) 0)) else (none)) else (none))) = some (r1,r2):=by first|(rw [hy521];with_reducible exact H)|(have H2_:=(Option.bind_some _ _).symm.trans H;rw [hy521];with_reducible exact H2_)|(have H2_:=(Option.bind_some _ _).symm.trans H;with_reducible exact H2_)|with_reducible exact H|(rw [hy521];exact H)|exact H
  have Ny521:=Aside0.mk hy521
  clear hy521
  replace H:=Option.bind_eq_some_iff.mp H
  obtain ⟨t524,A40,H⟩:=H
  replace H : (if 0 ≤ a0_0 then (if a0_0 ≤ (t524.length : Int) then ((some (t524.drop (a0_0 : Int).toNat : List Bool)).bind fun y527=>(impl_UsedSteps.l0 k y521 y527 (y527.length : Int) 0)) else (none)) else (none)) = some (r1,r2):=H
  have A4:=Aside0.mk A40
  clear A40
  by_cases c5 : 0 ≤ a0_0
  ·rw [if_pos c5] at H
   have c5b0:=eq_true c5
   have c5b1 : decide (0 ≤ a0_0) = true:=decide_eq_true c5
   clear c5
   by_cases c6 : a0_0 ≤ (t524.length : Int)
   ·rw [if_pos c6] at H
    have c6b0:=eq_true c6
    have c6b1 : decide (a0_0 ≤ (t524.length : Int)) = true:=decide_eq_true c6
    clear c6
    obtain ⟨y527,hy527⟩ : ∃ y_ : List Bool,y_ = (t524.drop (a0_0 : Int).toNat):=⟨_,rfl⟩
    replace H : (impl_UsedSteps.l0 k y521 y527 (y527.length : Int) 0) = some (r1,r2):=by first|(rw [hy527];with_reducible exact H)|(have H2_:=(Option.bind_some _ _).symm.trans H;rw [hy527];with_reducible exact H2_)|(have H2_:=(Option.bind_some _ _).symm.trans H;with_reducible exact H2_)|with_reducible exact H|(rw [hy527];exact H)|exact H
    have Ny527:=Aside0.mk hy527
    clear hy527
    have H':=Aside0.mk H
    clear H
    go_enter Try.func81,Try.ntmps81
    try go_wp2_with (first|((with_reducible refine gate_dst (N:=1) rfl ?_);refine box_event ?hg (N:=1) ?hd (cs:=#[.int .i64 a0_0,.slice A0_1 l0_1.length c0_1,.slice A0_2 l0_2.length c0_2]) (t:=29) ?hr ?_;(case hd=>rfl);(case hg=>rfl);(case hr=>first|(go_simp;done)|(go_simp;rfl));intro gb519 hg w7 hbox hb;have n0_:=Aside0.mk (below_step bz hb);have n1_:=Aside0.mk (hbox);have n2_:=Aside0.mk ((by rw [hg];exact (below_size bz) : w.heap.size ≤ gb519));have n3_:=Aside0.mk ((by rw [hg];exact (below_size bz) : w.heap.size ≤ gb519));clear HB;have HB:=n0_;have BK519:=n1_;have GW519:=n2_;have GE519:=n3_;clear n0_ n1_ n2_ n3_;clear hb hbox hg;have hcz8_0 : w7.cell? ⟨gb519,0,none⟩ = some (.int .i64 a0_0):=(blk_cell BK519.out 0).trans rfl;have hcz8_1 : w7.cell? ⟨gb519,1,none⟩ = some (.slice A0_1 l0_1.length c0_1):=(blk_cell BK519.out 1).trans rfl;have hcz8_2 : w7.cell? ⟨gb519,2,none⟩ = some (.slice A0_2 l0_2.length c0_2):=(blk_cell BK519.out 2).trans rfl;have hfz8_0:=blk_frozen BK519.out 0;have hfz8_1:=blk_frozen BK519.out 1;have hfz8_2:=blk_frozen BK519.out 2)|((with_reducible refine gate_callee (f:=44) rfl ?_);refine goesL_ (some 8) rfl rfl Try.func44 (by kernel_rfl) rfl #[.agg #[.int .i64 a0_0,.slice A0_1 l0_1.length c0_1,.slice A0_2 l0_2.length c0_2]] rfl mz ?_;(with_reducible refine (impl_IsPlan.calls k a0_0 _ _ l0_1 _ _ l0_2 true _ ?side1 ?side2 ?side3 ?side4 A2.out).mono ?_);(case side1=>exact cz (Kd.C_below HR0_1.out HB.out));(case side2=>exact HC0_1.out);(case side3=>exact cz (Kd.C_below HR0_2.out HB.out));(case side4=>exact HC0_2.out);rintro e w9 ⟨rfl,hb⟩;refine ⟨_,rfl,?_⟩;have n0_:=Aside0.mk (blk_below (g:=gb519) (o:=.cells #[.int .i64 a0_0,.slice A0_1 l0_1.length c0_1,.slice A0_2 l0_2.length c0_2] 29 (0,0)) (kz BK519.out) hb);have n1_:=Aside0.mk (below_step bs hb);clear BK519 HB;have BK519:=n0_;have HB:=n1_;clear n0_ n1_;(try clear hb))|((with_reducible refine gate_dst (N:=10) rfl ?_);refine Kd.R_lit (Kd.int .i64) _ 3 ?hg (N:=10) ?hd (xs:=([] : List Int)) (inner:=[]) (ok:=fun _=>True) (okp:=fun _=>True) ?hr ?hp (fun _ hk=>hk) trivial (Below.refl _ _) (Nat.le_refl _) (by simp) ?_;(case hd=>rfl);(case hg=>rfl);(case hr=>first|(go_simp;done)|(go_simp;rfl));(case hp=>exact (Reps.none _ _));intro v522 w10 ho11 hb hg_ hnew_;clear hg_ hnew_;(first|rw [← Ny521.out] at ho11|(simp only [Int.reduceToNat] at ho11;rw [← Ny521.out] at ho11));have n0_:=Aside0.mk (Kd.R_lower ho11 (below_size bs));have n1_:=Aside0.mk (blk_below (g:=gb519) (o:=.cells #[.int .i64 a0_0,.slice A0_1 l0_1.length c0_1,.slice A0_2 l0_2.length c0_2] 29 (0,0)) (kz BK519.out) hb);have n2_:=Aside0.mk (below_step bs hb);clear BK519 HB;have HO523:=n0_;have BK519:=n1_;have HB:=n2_;clear n0_ n1_ n2_;clear hb ho11))
    have n0_:=Aside0.mk (Kd.R_drew HO523.out)
    have n1_:=Aside0.mk (blk_drew BK519.out)
    have n2_:=Aside0.mk (below_drew1 HB.out)
    clear HO523
    clear BK519
    clear HB
    have HO523:=n0_
    have BK519:=n1_
    have HB:=n2_
    clear n0_ n1_ n2_
    refine start_ (n:=6) (S:=fun w'=>w'.cell? ⟨gb519,0,none⟩ = some (.int .i64 a0_0) ∧ w'.cell? ⟨gb519,1,none⟩ = some (.slice A0_1 l0_1.length c0_1) ∧ w'.cell? ⟨gb519,2,none⟩ = some (.slice A0_2 l0_2.length c0_2)) (ds:=[]) #[false,false,false,false,false,false] (by kernel_rfl) rfl rfl ⟨(blk_cell BK519.out 0).trans rfl,(blk_cell BK519.out 1).trans rfl,(blk_cell BK519.out 2).trans rfl⟩ (fun hHeld=>?_)
    generalize w10.drew = w12 at HO523 BK519 HB hHeld ⊢
    refine pure_ (i:=1) (N:=some 12) (v:=?_) (a':=?_) #[false,true,false,false,false,false] rfl rfl (by kernel_rfl) (fun _ _ _ h=>h) (Or.inl ⟨by rfl,?_⟩) ?_ ?_
    rotate_left
    ·intro w'
     go_simp
     with_reducible rfl
    rotate_left
    ·simp only [Act.put,List.setIfInBounds_toArray,List.set_cons_zero,List.set_cons_succ,i64_w,i32_w]
     rfl
    refine pure_ (i:=5) (N:=some 16) (v:=?_) (a':=?_) #[false,true,false,false,false,true] rfl rfl (by kernel_rfl) (fun _ _ _ h=>h) (Or.inl ⟨by rfl,?_⟩) ?_ ?_
    rotate_left
    ·intro w'
     go_simp
     with_reducible rfl
    rotate_left
    ·simp only [Act.put,List.setIfInBounds_toArray,List.set_cons_zero,List.set_cons_succ,i64_w,i32_w]
     rfl
    refine take_ (i:=2) (N:=some 13) (v:=?_) (a':=?_) #[false,true,true,false,false,true] rfl rfl (by kernel_rfl) (fun _ _ _ h=>h) (Or.inl ⟨by rfl,?_⟩) hHeld ?_ ?_
    rotate_left
    ·rintro w' ⟨s0,s1,s2⟩
     go_simp
     with_reducible rfl
    rotate_left
    ·simp only [Act.put,List.setIfInBounds_toArray,List.set_cons_zero,List.set_cons_succ,i64_w,i32_w]
     rfl
    refine one_ (i:=0) (N:=some 11) #[true,true,true,false,false,true] rfl rfl (by kernel_rfl) (by decide) (fun K hK=>?_)
    refine goes_ Try.func103 (by kernel_rfl) rfl #[.pointer (some ⟨gb519,0,none⟩)] (by rfl) rfl rfl mz ?_
    with_reducible refine (impl_Plan_used.calls gb519 a0_0 A0_1 c0_1 l0_1 A0_2 c0_2 l0_2 t524 _ ?side1 ?side2 ?side3 ?side4 ?side5 A4.out).mono ?_
    (case side1=>exact by (with_reducible repeat (first|refine blk_drewN ?_ _|refine blk_drew ?_|refine blk_alloc ?_ _));exact BK519.out)
    (case side2=>exact cz (Kd.C_below HR0_1.out HB.out))
    (case side3=>exact HC0_1.out)
    (case side4=>exact cz (Kd.C_below HR0_2.out HB.out))
    (case side5=>exact HC0_2.out)
    rintro e w13 ⟨v525,rfl,ho0,hb⟩
    refine ⟨_,rfl,?_⟩
    have n0_:=Aside0.mk (Kd.R_below (rz HO523.out) hb)
    have n1_:=Aside0.mk (Kd.R_lower ho0 (below_size bs))
    have n2_:=Aside0.mk (blk_below (g:=gb519) (o:=.cells #[.int .i64 a0_0,.slice A0_1 l0_1.length c0_1,.slice A0_2 l0_2.length c0_2] 29 (0,0)) (kz BK519.out) hb)
    have n3_:=Aside0.mk (below_step bs hb)
    clear HO523
    clear BK519
    clear HB
    have HO523:=n0_
    have HO526:=n1_
    have BK519:=n2_
    have HB:=n3_
    clear n0_ n1_ n2_ n3_
    (try clear hb)
    (try clear ho0)
    obtain ⟨Ao14,co14,eo14⟩:=Kd.R_slice HO526.out
    (first|subst eo14|(injection eo14 with f1_ f2_ f3_;have f4_:=f1_.symm;have f5_:=f3_.symm;clear f1_ f2_ f3_;subst f4_;subst f5_))
    have q15 : (a0_0 : Int) ≤ ((t524.length : Int) : Int):=of_decide_eq_true az
    obtain ⟨i015,hi015,_,hsz15,_⟩:=info_parts info4
    have hcut15:=cut_from (P:=Try.prog) 102 4 .i64 Try.underlying102 hi015 1 hsz15 Ao14 t524.length co14 a0_0 (of_decide_eq_true az) q15
    have hr15:=Kd.Q_drop (k:=(a0_0 : Int).toNat) (Kd.Q_of_R HO526.out) (by omega)
    obtain ⟨A15,hA15⟩ : ∃ A1,A1 = (if co14 = (a0_0 : Int).toNat then Ao14 else (Ao14 : Option Addr).map (·.add ((a0_0 : Int).toNat * 1))):=⟨_,rfl⟩
    obtain ⟨c15,hc15⟩ : ∃ c1,c1 = co14 - (a0_0 : Int).toNat:=⟨_,rfl⟩
    have hy15 : y527.length = t524.length - (a0_0 : Int).toNat:=(by rw [Ny527.out,List.length_drop])
    rw [← Ny527.out] at hr15
    rw [← hy15,← hA15,← hc15] at hcut15
    replace hr15 : Kd.Q Kd.bool 4 w13 w.heap.size (fun _=>True) (.slice A15 y527.length c15) y527:=(by rw [hA15,hc15,hy15];exact hr15)
    have HE15 : Aside0 ((Value.slice A15 y527.length c15).ownBlock = (.slice Ao14 t524.length co14 : Value).ownBlock):=⟨by rw [hA15];split <;> (cases (Ao14 : Option Addr) <;> first|rfl|exact congrArg some (add_block _ _))⟩
    clear hy15 hi015 hsz15 HO526 hA15 hc15
    have HO529:=Aside0.mk hr15
    clear hr15
    replace q15:=eq_true q15
    refine hK.out _ _ ⟨(blk_cell BK519.out 0).trans rfl,(blk_cell BK519.out 1).trans rfl,(blk_cell BK519.out 2).trans rfl⟩ (fun hHeld=>?_)
    clear hK K
    refine norm_ (a':=?_) ?_ ?_
    rotate_left
    ·show Act.put _ (some 11) _ = _
     simp only [Act.put,List.setIfInBounds_toArray,List.set_cons_zero,List.set_cons_succ,i64_w,i32_w]
     rfl
    refine pure_ (i:=3) (N:=some 14) (v:=?_) (a':=?_) #[true,true,true,true,false,true] rfl rfl (by kernel_rfl) (fun _ _ _ h=>h) (Or.inl ⟨by rfl,?_⟩) ?_ ?_
    rotate_left
    ·intro w'
     go_simp
     with_reducible rfl
    rotate_left
    ·simp only [Act.put,List.setIfInBounds_toArray,List.set_cons_zero,List.set_cons_succ,i64_w,i32_w]
     rfl
    refine pure_ (i:=4) (N:=some 15) (v:=?_) (a':=?_) #[true,true,true,true,true,true] rfl rfl (by kernel_rfl) (fun _ _ _ h=>h) (Or.inl ⟨by rfl,?_⟩) ?_ ?_
    rotate_left
    ·intro w'
     go_simp
     with_reducible rfl
    rotate_left
    ·simp only [Act.put,List.setIfInBounds_toArray,List.set_cons_zero,List.set_cons_succ,i64_w,i32_w]
     rfl
    refine done_ (by kernel_rfl) ?_
    try go_wp2
    go_loopg [4,16] k (fun kq v4 v16 w'=>∃ (x4_1 : List Int) (x16_1 : Int),v16 = .int .i64 x16_1 ∧ Aside0 (impl_UsedSteps.l0 kq x4_1 y527 (y527.length : Int) x16_1 = some (r1,r2)) ∧ Aside0 (kq ≤ k) ∧ Aside0 (Kd.R (Kd.int .i64) 3 w' w.heap.size (fun _=>True) v4 x4_1) ∧ Aside0 (Kd.Q Kd.bool 4 w' w.heap.size (fun _=>True) (.slice A15 y527.length c15) y527) ∧ Aside0 (w'.heap[gb519]? = some (.cells #[.int .i64 a0_0,(.slice A0_1 l0_1.length c0_1),(.slice A0_2 l0_2.length c0_2)] 29 (0,0))) ∧ Aside0 (Below w.heap.size w w'))
    case atStart=>exact ⟨(y521),(0),fz,H',⟨Nat.le_refl _⟩,⟨by (with_reducible repeat (first|apply Kd.R_alloc|apply Kd.R_drewN|apply Kd.R_drew));exact HO523.out⟩,⟨by (with_reducible repeat (first|apply Kd.Q_alloc|apply Kd.Q_drewN|apply Kd.Q_drew));exact HO529.out⟩,⟨by (with_reducible repeat (first|refine blk_drewN ?_ _|refine blk_drew ?_|refine blk_alloc ?_ _));exact BK519.out⟩,⟨by repeat (first|(with_reducible first|exact HB.out|apply below_alloc|apply pw_below_drewN|apply below_drew1|refine below_set ?_ GE519.out)|exact HB.out)⟩⟩
    case round=>
     clear H'
     try clear c1
     try clear q1
     try clear p2
     try clear c3
     try clear c4
     try clear c5
     try clear c5b0
     try clear c5b1
     try clear c6
     try clear c6b0
     try clear c6b1
     try clear c8
     try clear c10
     try clear c15
     try clear q15
     try clear hcz8_0
     try clear hcz8_1
     try clear hcz8_2
     try clear hfz8_0
     try clear hfz8_1
     try clear hfz8_2
     try clear q15
     obtain ⟨x4_1,x16_1,rfl,HA,HK1,HO_4,HO_14,BK519,HB⟩:=hrel
     cases gk with
     | zero=>exact absurd HA.out (by simp [impl_UsedSteps.l0])
     | succ k1=>
      have H:=HA.out
      clear HA
      simp only [impl_UsedSteps.l0] at H
      by_cases c16 : x16_1 < (y527.length : Int)
      ·rw [if_pos c16] at H
       have c16b0 : decide (x16_1 < (y527.length : Int)) = true:=decide_eq_true c16
       clear c16
       by_cases c17 : 0 ≤ x16_1
       ·rw [if_pos c17] at H
        have c17b0 : decide (0 ≤ x16_1) = true:=decide_eq_true c17
        clear c17
        by_cases c18 : x16_1 < (y527.length : Int)
        ·rw [if_pos c18] at H
         have c18b0 : decide (x16_1 < (y527.length : Int)) = true:=decide_eq_true c18
         clear c18
         obtain ⟨bq19,hbq19⟩ : ∃ b_ : Bool,b_ = (rdOf false y527 x16_1):=⟨_,rfl⟩
         replace H : (if bq19 = true then (if x4_1.length < 17592186044416 then (impl_UsedSteps.l0 k1 (x4_1 ++ [x16_1]) y527 (y527.length : Int) (wrap64 (x16_1 + 1))) else (none)) else (impl_UsedSteps.l0 k1 x4_1 y527 (y527.length : Int) (wrap64 (x16_1 + 1)))) = some (r1,r2):=by rw [← hbq19] at H;exact H
         have Nbq19:=Aside0.mk hbq19
         clear hbq19
         by_cases c20 : bq19 = true
         ·subst c20
          have H1 : (if x4_1.length < 17592186044416 then (impl_UsedSteps.l0 k1 (x4_1 ++ [x16_1]) y527 (y527.length : Int) (wrap64 (x16_1 + 1))) else (none)) = some (r1,r2):=by rw [if_pos rfl] at H;exact H
          clear H
          have H:=H1
          clear H1
          by_cases c21 : x4_1.length < 17592186044416
          ·rw [if_pos c21] at H
           have LMc21:=Aside0.mk c21
           clear c21
           obtain ⟨y531,hy531⟩ : ∃ y_ : List Int,y_ = (x4_1 ++ [x16_1]):=⟨_,rfl⟩
           replace H : (impl_UsedSteps.l0 k1 y531 y527 (y527.length : Int) (wrap64 (x16_1 + 1))) = some (r1,r2):=by first|(rw [hy531];with_reducible exact H)|(have H2_:=(Option.bind_some _ _).symm.trans H;rw [hy531];with_reducible exact H2_)|(have H2_:=(Option.bind_some _ _).symm.trans H;with_reducible exact H2_)|with_reducible exact H|(rw [hy531];exact H)|exact H
           have Ny531:=Aside0.mk hy531
           clear hy531
           have H':=Aside0.mk H
           clear H
           have p530 : 0 ≤ (x16_1 : Int):=of_decide_eq_true az
           have q530 : x16_1 < (y527.length : Int):=of_decide_eq_true az
           obtain ⟨ad530,e530,hx530_0⟩:=Kd.at_bool (Kd.Q_reads' HO_14.out).2.2 x16_1 p530 q530
           (try rw [← Nbq19.out] at hx530_0)
           cases e530
           replace p530:=eq_true p530
           replace q530:=eq_true q530
           go_wp2_with (first|((with_reducible refine gate_builtin (b:=.append) (xs:=#[.tmp 22,.tmp 24]) rfl ?_);at_builtin;refine Kd.R_append (Kd.int .i64) (w0:=w) w.heap.size rfl (.tmp 22) (.tmp 24) 23 3 (.int .i64 0) 8 rfl Try.underlying23 info3 rfl (by decide) (by omega) u4 x4_1 x16_1 [.int .i64 x16_1] (fun _=>True) (fun _=>False) rfl rfl ?aP (fun _ hk=>hk.elim) ?aF ?aO ?aB ?aS ?aL ?_;(case aP=>exact rfl);(case aB=>exact bs);(case aF=>exact (fun _ _=>trivial));(case aO=>exact (rz HO_4.out));(case aS=>exact (below_size bs));(case aL=>have:=LMc21.out;omega);intro v532 w22 ho hb hg hat;rw [← Ny531.out] at ho;have n0_:=Aside0.mk (Kd.Q_over' (by (with_reducible repeat (first|apply Kd.Q_alloc|apply Kd.Q_drewN|apply Kd.Q_drew));exact HO_14.out) (Kd.R_typed (rz HO_4.out)) (by decide) hg);have n1_:=Aside0.mk (blk_grown (g:=gb519) (o:=.cells #[.int .i64 a0_0,.slice A0_1 l0_1.length c0_1,.slice A0_2 l0_2.length c0_2] 29 (0,0)) (kz BK519.out) hg (Kd.R_ne HO_4.out BK519.out (by decide)));have n2_:=Aside0.mk (hb);have n3_:=Aside0.mk (ho);clear HO_14 BK519 HB HO_4;have HO_14:=n0_;have BK519:=n1_;have HB:=n2_;have HO533:=n3_;clear n0_ n1_ n2_ n3_;clear ho hb hg hat))
           go_roundg k1
           case measure=>have:=HK1.out;omega
           case rel=>exact ⟨(y531),(wrap64 (x16_1 + 1)),fz,H',⟨by have:=HK1.out;omega⟩,⟨by (with_reducible repeat (first|apply Kd.R_alloc|apply Kd.R_drewN|apply Kd.R_drew));exact HO533.out⟩,⟨by (with_reducible repeat (first|apply Kd.Q_alloc|apply Kd.Q_drewN|apply Kd.Q_drew));exact HO_14.out⟩,⟨by (with_reducible repeat (first|refine blk_drewN ?_ _|refine blk_drew ?_|refine blk_alloc ?_ _));exact BK519.out⟩,⟨by repeat (first|(with_reducible first|exact HB.out|apply below_alloc|apply pw_below_drewN|apply below_drew1|refine below_set ?_ GE519.out)|exact HB.out)⟩⟩
          ·rw [if_neg c21] at H
           exact absurd H (by simp)
         ·replace c20:=Bool.eq_false_iff.mpr c20
          subst c20
          have H1 : (impl_UsedSteps.l0 k1 x4_1 y527 (y527.length : Int) (wrap64 (x16_1 + 1))) = some (r1,r2):=by rw [if_neg (show ¬ (false = true) by decide)] at H;exact H
          clear H
          have H:=H1
          clear H1
          have H':=Aside0.mk H
          clear H
          have p530 : 0 ≤ (x16_1 : Int):=of_decide_eq_true az
          have q530 : x16_1 < (y527.length : Int):=of_decide_eq_true az
          obtain ⟨ad530,e530,hx530_0⟩:=Kd.at_bool (Kd.Q_reads' HO_14.out).2.2 x16_1 p530 q530
          (try rw [← Nbq19.out] at hx530_0)
          cases e530
          replace p530:=eq_true p530
          replace q530:=eq_true q530
          go_wp2
          go_roundg k1
          case measure=>have:=HK1.out;omega
          case rel=>exact ⟨(x4_1),(wrap64 (x16_1 + 1)),fz,H',⟨by have:=HK1.out;omega⟩,⟨by (with_reducible repeat (first|apply Kd.R_alloc|apply Kd.R_drewN|apply Kd.R_drew));exact HO_4.out⟩,⟨by (with_reducible repeat (first|apply Kd.Q_alloc|apply Kd.Q_drewN|apply Kd.Q_drew));exact HO_14.out⟩,⟨by (with_reducible repeat (first|refine blk_drewN ?_ _|refine blk_drew ?_|refine blk_alloc ?_ _));exact BK519.out⟩,⟨by repeat (first|(with_reducible first|exact HB.out|apply below_alloc|apply pw_below_drewN|apply below_drew1|refine below_set ?_ GE519.out)|exact HB.out)⟩⟩
        ·rw [if_neg c18] at H
         exact absurd H (by simp)
       ·rw [if_neg c17] at H
        exact absurd H (by simp)
      ·rw [if_neg c16] at H
       have c16b0 : decide (x16_1 < (y527.length : Int)) = false:=decide_eq_false c16
       clear c16
       simp only [Option.some.injEq,Prod.mk.injEq] at H
       obtain ⟨rfl,rfl⟩:=H
       go_wp2
       go_ret2
       exact ⟨_,by first|rfl|(simp [errW_none,errW_some] <;> rfl)|(simp [*,errW_none,errW_some] <;> rfl),by (with_reducible repeat (first|apply Kd.R_alloc|apply Kd.R_drewN|apply Kd.R_drew));exact HO_4.out,by repeat (first|(with_reducible first|exact HB.out|apply below_alloc|apply pw_below_drewN|apply below_drew1|refine below_set ?_ GE519.out)|exact HB.out)⟩
   ·rw [if_neg c6] at H
    exact absurd H (by simp)
  ·rw [if_neg c5] at H
   exact absurd H (by simp)
 ·replace c3:=Bool.eq_false_iff.mpr c3
  subst c3
  have H1 : (some (([] : List Int),false)) = some (r1,r2):=by rw [if_neg (show ¬ (false = true) by decide)] at H;exact H
  clear H
  have H:=H1
  clear H1
  simp only [Option.some.injEq,Prod.mk.injEq] at H
  obtain ⟨rfl,rfl⟩:=H
  go_enter Try.func81,Try.ntmps81
  go_wp2_with (first|((with_reducible refine gate_dst (N:=1) rfl ?_);refine box_event ?hg (N:=1) ?hd (cs:=#[.int .i64 a0_0,.slice A0_1 l0_1.length c0_1,.slice A0_2 l0_2.length c0_2]) (t:=29) ?hr ?_;(case hd=>rfl);(case hg=>rfl);(case hr=>first|(go_simp;done)|(go_simp;rfl));intro gb519 hg w23 hbox hb;have n0_:=Aside0.mk (below_step bz hb);have n1_:=Aside0.mk (hbox);have n2_:=Aside0.mk ((by rw [hg];exact (below_size bz) : w.heap.size ≤ gb519));have n3_:=Aside0.mk ((by rw [hg];exact (below_size bz) : w.heap.size ≤ gb519));clear HB;have HB:=n0_;have BK519:=n1_;have GW519:=n2_;have GE519:=n3_;clear n0_ n1_ n2_ n3_;clear hb hbox hg;have hcz24_0 : w23.cell? ⟨gb519,0,none⟩ = some (.int .i64 a0_0):=(blk_cell BK519.out 0).trans rfl;have hcz24_1 : w23.cell? ⟨gb519,1,none⟩ = some (.slice A0_1 l0_1.length c0_1):=(blk_cell BK519.out 1).trans rfl;have hcz24_2 : w23.cell? ⟨gb519,2,none⟩ = some (.slice A0_2 l0_2.length c0_2):=(blk_cell BK519.out 2).trans rfl;have hfz24_0:=blk_frozen BK519.out 0;have hfz24_1:=blk_frozen BK519.out 1;have hfz24_2:=blk_frozen BK519.out 2)|((with_reducible refine gate_callee (f:=44) rfl ?_);refine goesL_ (some 8) rfl rfl Try.func44 (by kernel_rfl) rfl #[.agg #[.int .i64 a0_0,.slice A0_1 l0_1.length c0_1,.slice A0_2 l0_2.length c0_2]] rfl mz ?_;(with_reducible refine (impl_IsPlan.calls k a0_0 _ _ l0_1 _ _ l0_2 false _ ?side1 ?side2 ?side3 ?side4 A2.out).mono ?_);(case side1=>exact cz (Kd.C_below HR0_1.out HB.out));(case side2=>exact HC0_1.out);(case side3=>exact cz (Kd.C_below HR0_2.out HB.out));(case side4=>exact HC0_2.out);rintro e w25 ⟨rfl,hb⟩;refine ⟨_,rfl,?_⟩;have n0_:=Aside0.mk (blk_below (g:=gb519) (o:=.cells #[.int .i64 a0_0,.slice A0_1 l0_1.length c0_1,.slice A0_2 l0_2.length c0_2] 29 (0,0)) (kz BK519.out) hb);have n1_:=Aside0.mk (below_step bs hb);clear BK519 HB;have BK519:=n0_;have HB:=n1_;clear n0_ n1_;(try clear hb)))
  go_ret2
  exact ⟨_,by first|rfl|(simp [errW_none,errW_some] <;> rfl)|(simp [*,errW_none,errW_some] <;> rfl),by first|exact Kd.R_nil _ _ _ _ _|exact Kd.N_nil _ _ _ _ _|exact Kd.V_nil _ _ _ _ _|exact Kd.Q_nil _ _ _ _ _|exact Kd.S_nil _ _ _ _ _,by repeat (first|(with_reducible first|exact HB.out|apply below_alloc|apply pw_below_drewN|apply below_drew1|refine below_set ?_ GE519.out)|exact HB.out)⟩
/-! ### impl_IsTrim: function 35 -/
def impl_IsTrim.f (k : Nat) (a0_0 : Int) (l0_1 : List (S73)) (l0_2 : List Int) : Option (Bool × Bool):=(impl_UsedSteps.f k a0_0 l0_1 l0_2).bind fun bt535=>(if bt535.2 = true then (some (((bt535.1.length : Int) == (l0_1.length : Int)),bt535.2)) else (some (false,bt535.2)))
theorem impl_IsTrim.mono : ∀ a0 a1 a2 k,LeO (impl_IsTrim.f k a0 a1 a2) (impl_IsTrim.f (k + 1) a0 a1 a2):=by
 intro a0 a1 a2 k
 unfold impl_IsTrim.f
 repeat' first
   | (with_reducible exact impl_UsedSteps.mono _ _ _ _)
   | (with_reducible exact LeO.refl _)
   | (with_reducible exact LeO.none _)
   | (with_reducible refine LeO.ite ?_ ?_)
   | (with_reducible refine LeO.bind ?_ (fun _=>?_))
   | exact impl_UsedSteps.mono _ _ _ _
   | exact LeO.none _
   | refine LeO.ite ?_ ?_
   | refine LeO.bind ?_ (fun _=>?_)
set_option maxHeartbeats 8000000 in
set_option maxRecDepth 100000 in
theorem impl_IsTrim.calls (k : Nat) (a0_0 : Int) (A0_1 : Option Addr) (c0_1 : Nat) (l0_1 : List (S73)) (A0_2 : Option Addr) (c0_2 : Nat) (l0_2 : List Int) (r1 : Bool) (r2 : Bool) (w : World) (hr0_1 : Kd.C k73 w A0_1 l0_1.length l0_1) (hc0_1 : l0_1.length ≤ c0_1) (hr0_2 : Kd.C (Kd.int .i64) w A0_2 l0_2.length l0_2) (hc0_2 : l0_2.length ≤ c0_2) (h : impl_IsTrim.f k a0_0 l0_1 l0_2 = some (r1,r2)) :
  Calls Try.prog 35 #[.agg #[.int .i64 a0_0,.slice A0_1 l0_1.length c0_1,.slice A0_2 l0_2.length c0_2]] w fun e w'=>e = .returned (.tuple #[.bool r1,.bool r2]) ∧ Below w.heap.size w w':=by
 have hu29:=Try.underlying29
 have HR0_1:=Aside0.mk hr0_1
 have HC0_1:=Aside0.mk hc0_1
 clear hr0_1 hc0_1
 have HR0_2:=Aside0.mk hr0_2
 have HC0_2:=Aside0.mk hc0_2
 clear hr0_2 hc0_2
 have HB:=Aside0.mk (Below.refl w.heap.size w)
 have H : ((impl_UsedSteps.f k a0_0 l0_1 l0_2).bind fun bt535=>(if bt535.2 = true then (some (((bt535.1.length : Int) == (l0_1.length : Int)),bt535.2)) else (some (false,bt535.2)))) = some (r1,r2):=h
 clear h
 replace H:=Option.bind_eq_some_iff.mp H
 obtain ⟨⟨t535,t538⟩,A20,H⟩:=H
 replace H : (if t538 = true then (some (((t535.length : Int) == (l0_1.length : Int)),t538)) else (some (false,t538))) = some (r1,r2):=H
 have A2:=Aside0.mk A20
 clear A20
 by_cases c3 : t538 = true
 ·subst c3
  have H1 : (some (((t535.length : Int) == (l0_1.length : Int)),true)) = some (r1,r2):=by rw [if_pos rfl] at H;exact H
  clear H
  have H:=H1
  clear H1
  simp only [Option.some.injEq,Prod.mk.injEq] at H
  obtain ⟨rfl,rfl⟩:=H
  go_enter Try.func35,Try.ntmps35
  go_wp2_with (first|((with_reducible refine gate_dst (N:=1) rfl ?_);(try (refine gate_guard (by rfl) ?_;dsimp only));refine box_event ?hg (N:=1) ?hd (cs:=#[.int .i64 a0_0,.slice A0_1 l0_1.length c0_1,.slice A0_2 l0_2.length c0_2]) (t:=29) ?hr ?_;(case hd=>rfl);(case hg=>rfl);(case hr=>first|(go_simp;done)|(go_simp;rfl));intro gb534 hg w4 hbox hb;have n0_:=Aside0.mk (below_step bz hb);have n1_:=Aside0.mk (hbox);have n2_:=Aside0.mk ((by rw [hg];exact (below_size bz) : w.heap.size ≤ gb534));have n3_:=Aside0.mk ((by rw [hg];exact (below_size bz) : w.heap.size ≤ gb534));clear HB;have HB:=n0_;have BK534:=n1_;have GW534:=n2_;have GE534:=n3_;clear n0_ n1_ n2_ n3_;clear hb hbox hg;have hcz5_0 : w4.cell? ⟨gb534,0,none⟩ = some (.int .i64 a0_0):=(blk_cell BK534.out 0).trans rfl;have hcz5_1 : w4.cell? ⟨gb534,1,none⟩ = some (.slice A0_1 l0_1.length c0_1):=(blk_cell BK534.out 1).trans rfl;have hcz5_2 : w4.cell? ⟨gb534,2,none⟩ = some (.slice A0_2 l0_2.length c0_2):=(blk_cell BK534.out 2).trans rfl;have hfz5_0:=blk_frozen BK534.out 0;have hfz5_1:=blk_frozen BK534.out 1;have hfz5_2:=blk_frozen BK534.out 2)|((with_reducible refine gate_callee (f:=81) rfl ?_);refine goesL_ (some 8) rfl rfl Try.func81 (by kernel_rfl) rfl #[.agg #[.int .i64 a0_0,.slice A0_1 l0_1.length c0_1,.slice A0_2 l0_2.length c0_2]] rfl mz ?_;(with_reducible refine (impl_UsedSteps.calls k a0_0 _ _ l0_1 _ _ l0_2 t535 true _ ?side1 ?side2 ?side3 ?side4 A2.out).mono ?_);(case side1=>exact cz (Kd.C_below HR0_1.out HB.out));(case side2=>exact HC0_1.out);(case side3=>exact cz (Kd.C_below HR0_2.out HB.out));(case side4=>exact HC0_2.out);rintro e w6 ⟨v536,rfl,ho0,hb⟩;refine ⟨_,rfl,?_⟩;have n0_:=Aside0.mk (Kd.R_lower ho0 (below_size bs));have n1_:=Aside0.mk (blk_below (g:=gb534) (o:=.cells #[.int .i64 a0_0,.slice A0_1 l0_1.length c0_1,.slice A0_2 l0_2.length c0_2] 29 (0,0)) (kz BK534.out) hb);have n2_:=Aside0.mk (below_step bs hb);clear BK534 HB;have HO537:=n0_;have BK534:=n1_;have HB:=n2_;clear n0_ n1_ n2_;(try clear hb);(try clear ho0);obtain ⟨Ao7,co7,eo7⟩:=Kd.R_slice HO537.out;subst eo7;have hcz8_0 : w6.cell? ⟨gb534,0,none⟩ = some (.int .i64 a0_0):=(blk_cell BK534.out 0).trans rfl;have hcz8_1 : w6.cell? ⟨gb534,1,none⟩ = some (.slice A0_1 l0_1.length c0_1):=(blk_cell BK534.out 1).trans rfl;have hcz8_2 : w6.cell? ⟨gb534,2,none⟩ = some (.slice A0_2 l0_2.length c0_2):=(blk_cell BK534.out 2).trans rfl;have hfz8_0:=blk_frozen BK534.out 0;have hfz8_1:=blk_frozen BK534.out 1;have hfz8_2:=blk_frozen BK534.out 2))
  go_ret2
  exact ⟨by first|rfl|(simp [errW_none,errW_some] <;> rfl)|(simp [*,errW_none,errW_some] <;> rfl),by repeat (first|(with_reducible first|exact HB.out|apply below_alloc|apply pw_below_drewN|apply below_drew1|refine below_set ?_ GE534.out)|exact HB.out)⟩
 ·replace c3:=Bool.eq_false_iff.mpr c3
  subst c3
  have H1 : (some (false,false)) = some (r1,r2):=by rw [if_neg (show ¬ (false = true) by decide)] at H;exact H
  clear H
  have H:=H1
  clear H1
  simp only [Option.some.injEq,Prod.mk.injEq] at H
  obtain ⟨rfl,rfl⟩:=H
  go_enter Try.func35,Try.ntmps35
  go_wp2_with (first|((with_reducible refine gate_dst (N:=1) rfl ?_);(try (refine gate_guard (by rfl) ?_;dsimp only));refine box_event ?hg (N:=1) ?hd (cs:=#[.int .i64 a0_0,.slice A0_1 l0_1.length c0_1,.slice A0_2 l0_2.length c0_2]) (t:=29) ?hr ?_;(case hd=>rfl);(case hg=>rfl);(case hr=>first|(go_simp;done)|(go_simp;rfl));intro gb534 hg w9 hbox hb;have n0_:=Aside0.mk (below_step bz hb);have n1_:=Aside0.mk (hbox);have n2_:=Aside0.mk ((by rw [hg];exact (below_size bz) : w.heap.size ≤ gb534));have n3_:=Aside0.mk ((by rw [hg];exact (below_size bz) : w.heap.size ≤ gb534));clear HB;have HB:=n0_;have BK534:=n1_;have GW534:=n2_;have GE534:=n3_;clear n0_ n1_ n2_ n3_;clear hb hbox hg;have hcz10_0 : w9.cell? ⟨gb534,0,none⟩ = some (.int .i64 a0_0):=(blk_cell BK534.out 0).trans rfl;have hcz10_1 : w9.cell? ⟨gb534,1,none⟩ = some (.slice A0_1 l0_1.length c0_1):=(blk_cell BK534.out 1).trans rfl;have hcz10_2 : w9.cell? ⟨gb534,2,none⟩ = some (.slice A0_2 l0_2.length c0_2):=(blk_cell BK534.out 2).trans rfl;have hfz10_0:=blk_frozen BK534.out 0;have hfz10_1:=blk_frozen BK534.out 1;have hfz10_2:=blk_frozen BK534.out 2)|((with_reducible refine gate_callee (f:=81) rfl ?_);refine goesL_ (some 8) rfl rfl Try.func81 (by kernel_rfl) rfl #[.agg #[.int .i64 a0_0,.slice A0_1 l0_1.length c0_1,.slice A0_2 l0_2.length c0_2]] rfl mz ?_;(with_reducible refine (impl_UsedSteps.calls k a0_0 _ _ l0_1 _ _ l0_2 t535 false _ ?side1 ?side2 ?side3 ?side4 A2.out).mono ?_);(case side1=>exact cz (Kd.C_below HR0_1.out HB.out));(case side2=>exact HC0_1.out);(case side3=>exact cz (Kd.C_below HR0_2.out HB.out));(case side4=>exact HC0_2.out);rintro e w11 ⟨v536,rfl,ho0,hb⟩;refine ⟨_,rfl,?_⟩;have n0_:=Aside0.mk (Kd.R_lower ho0 (below_size bs));have n1_:=Aside0.mk (blk_below (g:=gb534) (o:=.cells #[.int .i64 a0_0,.slice A0_1 l0_1.length c0_1,.slice A0_2 l0_2.length c0_2] 29 (0,0)) (kz BK534.out) hb);have n2_:=Aside0.mk (below_step bs hb);clear BK534 HB;have HO537:=n0_;have BK534:=n1_;have HB:=n2_;clear n0_ n1_ n2_;(try clear hb);(try clear ho0)))
  go_ret2
  exact ⟨by first|rfl|(simp [errW_none,errW_some] <;> rfl)|(simp [*,errW_none,errW_some] <;> rfl),by repeat (first|(with_reducible first|exact HB.out|apply below_alloc|apply pw_below_drewN|apply below_drew1|refine below_set ?_ GE534.out)|exact HB.out)⟩
end Go.Proofs.Ytdcdaoancmpbeaa.MFnSequences
--sq
