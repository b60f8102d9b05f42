import Derived.Test.YtlefjgpkabijdaaMFnNeededPartsx0
import Derived.Test.YtlefjgpkabijdaaMFnNeededPartsx1
import Derived.Test.YtlefjgpkabijdaaMFnNeededPartsx5
namespace Go.Proofs.Ytlefjgpkabijdaa.MFnNeededParts
open Go.RowKit Go.Proofs.YtlefjgpkabijdaaW.PrintWords Go.Proofs.YtlefjgpkabijdaaW.PrintLast Go.Proofs.YtlefjgpkabijdaaW.PrintMore Go.Proofs.YtlefjgpkabijdaaV Go.Proofs.YtlefjgpkabijdaaZ
attribute [local go_sem] max2_int min2_int max_two min_two max_three min_three max_four min_four   -- for this text's walks alone
set_option linter.unusedVariables false
set_option linter.unusedSimpArgs false
/-! ### spec_NeededPart: function 9 -/
mutual
def spec_NeededPart.l0 : Nat → List Int → List (S56) → List Int → Int → Option (List Int × Bool)
 | 0,_,_,_,_=>none
 | k + 1,x0,x4,x5,x6=>if x6 > 0 then ((spec_l1Has.f k x5 x6).bind fun t277=>(if t277 = true then (if 0 ≤ (wrap64 (x6 - 1)) then (if (wrap64 (x6 - 1)) < (x4.length : Int) then ((spec_l1Put.f k x5 ((rd_T56 x4 (wrap64 (x6 - 1))).f0)).bind fun t279=>((spec_l1Put.f k t279 ((rd_T56 x4 (wrap64 (x6 - 1))).f1)).bind fun t283=>(spec_NeededPart.l0 k x0 x4 t283 (wrap64 (x6 - 1))))) else (none)) else (none)) else (spec_NeededPart.l0 k x0 x4 x5 (wrap64 (x6 - 1))))) else (spec_NeededPart.l1 k x0 ([] : List Int) x5 (x5.length : Int) 0)
def spec_NeededPart.l1 : Nat → List Int → List Int → List Int → Int → Int → Option (List Int × Bool)
 | 0,_,_,_,_,_=>none
 | k + 1,x0,x7,x44,x45,x46=>if x46 < x45 then (if 0 ≤ x46 then (if x46 < (x44.length : Int) then (if 0 ≤ (rd x44 x46) then (if (rd x44 x46) < (x0.length : Int) then (if x7.length < 17592186044416 then (spec_NeededPart.l1 k x0 (x7 ++ [rd x0 (rd x44 x46)]) x44 x45 (wrap64 (x46 + 1))) else (none)) else (none)) else (none)) else (none)) else (none)) else (some (x7,true))
end
def spec_NeededPart.f (k : Nat) (l0 : List Int) : Option (List Int × Bool):=(spec_chGood.f k l0).bind fun t270=>(if t270 = true then ((spec_chSteps.f k l0).bind fun t271=>(spec_NeededPart.l0 k l0 t271 (([wrap64 ((l0.length : Int) - 1)] : List Int)) (wrap64 ((l0.length : Int) - 1)))) else (some (([] : List Int),false)))
theorem spec_NeededPart.mono_l : ∀ k,(∀ y0 y1 y2 y3,LeO (spec_NeededPart.l0 k y0 y1 y2 y3) (spec_NeededPart.l0 (k + 1) y0 y1 y2 y3)) ∧ (∀ y0 y1 y2 y3 y4,LeO (spec_NeededPart.l1 k y0 y1 y2 y3 y4) (spec_NeededPart.l1 (k + 1) y0 y1 y2 y3 y4))
 | 0=>⟨fun _ _ _ _ r h=>by simp [spec_NeededPart.l0] at h,fun _ _ _ _ _ r h=>by simp [spec_NeededPart.l1] at h⟩
 | k + 1=>by
  obtain ⟨ih0,ih1⟩:=spec_NeededPart.mono_l k
  refine ⟨?_,?_⟩
  ·intro y0 y1 y2 y3
   unfold spec_NeededPart.l0
   repeat' first
   | (with_reducible exact ih0 _ _ _ _)
   | (with_reducible exact ih1 _ _ _ _ _)
   | (with_reducible exact spec_chGood.mono _ _)
   | (with_reducible exact spec_chSteps.mono _ _)
   | (with_reducible exact spec_l1Has.mono _ _ _)
   | (with_reducible exact spec_l1Put.mono _ _ _)
   | (with_reducible exact LeO.refl _)
   | (with_reducible exact LeO.none _)
   | (with_reducible refine LeO.ite ?_ ?_)
   | (with_reducible refine LeO.bind ?_ (fun _=>?_))
   | exact ih0 _ _ _ _
   | exact ih1 _ _ _ _ _
   | exact spec_chGood.mono _ _
   | exact spec_chSteps.mono _ _
   | exact spec_l1Has.mono _ _ _
   | exact spec_l1Put.mono _ _ _
   | exact LeO.none _
   | refine LeO.ite ?_ ?_
   | refine LeO.bind ?_ (fun _=>?_)
  ·intro y0 y1 y2 y3 y4
   unfold spec_NeededPart.l1
   repeat' first
   | (with_reducible exact ih0 _ _ _ _)
   | (with_reducible exact ih1 _ _ _ _ _)
   | (with_reducible exact spec_chGood.mono _ _)
   | (with_reducible exact spec_chSteps.mono _ _)
   | (with_reducible exact spec_l1Has.mono _ _ _)
   | (with_reducible exact spec_l1Put.mono _ _ _)
   | (with_reducible exact LeO.refl _)
   | (with_reducible exact LeO.none _)
   | (with_reducible refine LeO.ite ?_ ?_)
   | (with_reducible refine LeO.bind ?_ (fun _=>?_))
   | exact ih0 _ _ _ _
   | exact ih1 _ _ _ _ _
   | exact spec_chGood.mono _ _
   | exact spec_chSteps.mono _ _
   | exact spec_l1Has.mono _ _ _
   | exact spec_l1Put.mono _ _ _
   | exact LeO.none _
   | refine LeO.ite ?_ ?_
   | refine LeO.bind ?_ (fun _=>?_)
theorem spec_NeededPart.mono : ∀ a0 k,LeO (spec_NeededPart.f k a0) (spec_NeededPart.f (k + 1) a0):=by
 intro a0 k
 obtain ⟨ih0,ih1⟩:=spec_NeededPart.mono_l k
 unfold spec_NeededPart.f
 repeat' first
   | (with_reducible exact ih0 _ _ _ _)
   | (with_reducible exact ih1 _ _ _ _ _)
   | (with_reducible exact spec_chGood.mono _ _)
   | (with_reducible exact spec_chSteps.mono _ _)
   | (with_reducible exact spec_l1Has.mono _ _ _)
   | (with_reducible exact spec_l1Put.mono _ _ _)
   | (with_reducible exact LeO.refl _)
   | (with_reducible exact LeO.none _)
   | (with_reducible refine LeO.ite ?_ ?_)
   | (with_reducible refine LeO.bind ?_ (fun _=>?_))
   | exact ih0 _ _ _ _
   | exact ih1 _ _ _ _ _
   | exact spec_chGood.mono _ _
   | exact spec_chSteps.mono _ _
   | exact spec_l1Has.mono _ _ _
   | exact spec_l1Put.mono _ _ _
   | exact LeO.none _
   | refine LeO.ite ?_ ?_
   | refine LeO.bind ?_ (fun _=>?_)
def spec_NeededPart.T9 : Bool × List (List Nat × List Nat):=(true,[([],[]),([],[]),([],[]),([2],[2]),([1,3],[1,3]),([4],[4]),([5],[5]),([0,6],[0,6]),([],[]),([],[]),([9],[9]),([8,10],[8,10]),([11],[11]),([12],[12]),([7,13,7],[7,13]),([14,14,0,1,2,3,4,5,6,7,8,9,10,11,12,13,14],[0,14])])
def spec_NeededPart.B9 : List Nat:=[0,0,0,4,14,30,62,127,0,0,512,1792,3840,7936,16383,32767]
theorem spec_NeededPart.tab9 : rtab .any (opsOf Try.f9 9) = spec_NeededPart.T9:=by kernel_rfl
theorem spec_NeededPart.bits9 : waitsOk spec_NeededPart.T9.2 spec_NeededPart.B9 = true:=by kernel_rfl
set_option maxHeartbeats 8000000 in
set_option maxRecDepth 100000 in
theorem spec_NeededPart.calls (k : Nat) (A0 : Option Addr) (c0 : Nat) (l0 : List Int) (r1 : List Int) (r2 : Bool) (w : World) (hr0 : Kd.C (Kd.int .i64) w A0 l0.length l0) (hc0 : l0.length ≤ c0) (h : spec_NeededPart.f k l0 = some (r1,r2)) :
  Calls Try.prog 9 #[.slice A0 l0.length c0] w fun e w'=>∃ v0_ : Value,e = .returned (.tuple #[v0_,.bool r2]) ∧ Kd.R (Kd.int .i64) 3 w' w.heap.size (fun _=>True) v0_ r1 ∧ Below w.heap.size w w':=by
 have HR0:=Aside0.mk hr0
 have HC0:=Aside0.mk hc0
 clear hr0 hc0
 have HB:=Aside0.mk (Below.refl w.heap.size w)
 have H : ((spec_chGood.f k l0).bind fun t270=>(if t270 = true then ((spec_chSteps.f k l0).bind fun t271=>(spec_NeededPart.l0 k l0 t271 (([wrap64 ((l0.length : Int) - 1)] : List Int)) (wrap64 ((l0.length : Int) - 1)))) else (some (([] : List Int),false)))) = some (r1,r2):=h
 clear h
 obtain ⟨t270,A2,H⟩:=bd H
 by_cases c3 : t270 = true
 ·subst c3
  rw [if_pos rfl] at H
  obtain ⟨t271,A4,H⟩:=bd H
  obtain ⟨y274,hy274⟩ : ∃ y_ : List Int,y_ = (([wrap64 ((l0.length : Int) - 1)] : List Int)):=⟨_,rfl⟩
  replace H : (spec_NeededPart.l0 k l0 t271 y274 (wrap64 ((l0.length : Int) - 1))) = some (r1,r2):=by first|(rw [hy274];with_reducible exact H)|(have H2_:=(Option.bind_some _ _).symm.trans H;rw [hy274];with_reducible exact H2_)|(have H2_:=(Option.bind_some _ _).symm.trans H;with_reducible exact H2_)|with_reducible exact H|(rw [hy274];exact H)|exact H
  have Ny274:=Aside0.mk hy274
  clear hy274
  have H':=Aside0.mk H
  clear H
  go_enter Try.func9,Try.ntmps9
  go_wp2_with (first|((with_reducible refine gate_callee (f:=33) rfl ?_);refine goesL_ (some 11) rfl rfl Try.func33 (by kernel_rfl) rfl #[.slice A0 l0.length c0] rfl mz ?_;(with_reducible refine (spec_chGood.calls k _ _ l0 true _ ?side1 ?side2 A2.out).mono ?_);(case side1=>exact cz HR0.out);(case side2=>exact HC0.out);rintro e w5 ⟨rfl,hb⟩;refine ⟨_,rfl,?_⟩;have n0_:=Aside0.mk (below_step bz hb);clear HB;have HB:=n0_;clear n0_;(try clear hb))|((with_reducible refine gate_callee (f:=34) rfl ?_);refine goesL_ (some 14) rfl rfl Try.func34 (by kernel_rfl) rfl #[.slice A0 l0.length c0] rfl mz ?_;(with_reducible refine (spec_chSteps.calls k _ _ l0 t271 _ ?side1 ?side2 A4.out).mono ?_);(case side1=>exact cz (Kd.C_below HR0.out HB.out));(case side2=>exact HC0.out);rintro e w6 ⟨v272,rfl,ho0,hb⟩;refine ⟨_,rfl,?_⟩;have n0_:=Aside0.mk (Kd.R_lower ho0 (below_size bz));have n1_:=Aside0.mk (below_step bz hb);clear HB;have HO273:=n0_;have HB:=n1_;clear n0_ n1_;(try clear hb);(try clear ho0))|((with_reducible refine gate_dst (N:=18) rfl ?_);refine Kd.R_lit (Kd.int .i64) _ 3 ?hg (N:=18) ?hd (xs:=([wrap64 ((l0.length : Int) - 1)] : List Int)) (inner:=[.int .i64 (wrap64 ((l0.length : Int) - 1))]) (ok:=fun _=>True) (okp:=fun _=>True) ?hr ?hp (fun _ hk=>hk) trivial (Below.refl _ _) (Nat.le_refl _) (by simp) ?_;(case hd=>rfl);(case hg=>rfl);(case hr=>first|(go_simp;done)|(go_simp;rfl));(case hp=>exact (Reps.one (show Kd.M (Kd.int .i64) _ _ _ (wrap64 ((l0.length : Int) - 1)) [.int .i64 (wrap64 ((l0.length : Int) - 1))] from rfl) (Reps.none _ _)));intro v275 w7 ho8 hb hg_ hnew_;clear hg_ hnew_;(first|rw [← Ny274.out] at ho8|(simp only [Int.reduceToNat] at ho8;rw [← Ny274.out] at ho8));have n0_:=Aside0.mk (Kd.R_below (rz HO273.out) hb);have n1_:=Aside0.mk (Kd.R_lower ho8 (below_size bz));have n2_:=Aside0.mk (below_step bz hb);clear HO273 HB;have HO273:=n0_;have HO276:=n1_;have HB:=n2_;clear n0_ n1_ n2_;clear hb ho8))
  go_loopg [5,6] k (fun kq v5 v6 w'=>∃ (x5_1 : List Int) (x6_1 : Int),v6 = .int .i64 x6_1 ∧ Aside0 (spec_NeededPart.l0 kq l0 t271 x5_1 x6_1 = some (r1,r2)) ∧ Aside0 (kq ≤ k) ∧ Aside0 (Kd.R k56 56 w' w.heap.size (fun _=>True) v272 t271) ∧ Aside0 (Kd.R (Kd.int .i64) 3 w' w.heap.size (fun _=>True) v5 x5_1) ∧ Aside0 (Below w.heap.size w w'))
  case atStart=>exact ⟨(y274),(wrap64 ((l0.length : Int) - 1)),fz,H',⟨Nat.le_refl _⟩,⟨by (with_reducible repeat (first|apply Kd.R_alloc|apply Kd.R_drewN|apply Kd.R_drew));exact HO273.out⟩,⟨by (with_reducible repeat (first|apply Kd.R_alloc|apply Kd.R_drewN|apply Kd.R_drew));exact HO276.out⟩,⟨by repeat (first|(with_reducible first|exact HB.out|apply below_alloc|apply pw_below_drewN|apply below_drew1)|exact HB.out)⟩⟩
  case round=>
   clear H'
   try clear p2
   try clear c3
   try clear p6
   obtain ⟨x5_1,x6_1,rfl,HA,HK1,HO_4,HO_5,HB⟩:=hrel
   cases gk with
   | zero=>exact absurd HA.out (by simp [spec_NeededPart.l0])
   | succ k1=>
    have H:=HA.out
    clear HA
    simp only [spec_NeededPart.l0] at H
    by_cases c9 : x6_1 > 0
    ·rw [if_pos c9] at H
     have c9b0 : decide (0 < x6_1) = true:=decide_eq_true c9
     clear c9
     obtain ⟨t277,A10,H⟩:=bd H
     by_cases c11 : t277 = true
     ·subst c11
      rw [if_pos rfl] at H
      obtain ⟨ji12,hji12⟩ : ∃ j_ : Int,(wrap64 (x6_1 - 1)) = j_:=⟨_,rfl⟩
      replace H : (if 0 ≤ (ji12) then (if (ji12) < (t271.length : Int) then ((spec_l1Put.f k1 x5_1 ((rd_T56 t271 (ji12)).f0)).bind fun t279=>((spec_l1Put.f k1 t279 ((rd_T56 t271 (ji12)).f1)).bind fun t283=>(spec_NeededPart.l0 k1 l0 t271 t283 ji12))) else (none)) else (none)) = some (r1,r2):=by first|(rw [hji12] at H;exact H)|(simp only [hji12] at H ⊢;exact H)
      (try rw [hji12] at A10)
      have hji12w : (IntKind.i64.wrap (x6_1 - 1)) = ji12:=(i64_w _).trans hji12
      by_cases c13 : 0 ≤ (ji12)
      ·rw [if_pos c13] at H
       have c13b0 : decide (0 ≤ (ji12)) = true:=decide_eq_true c13
       clear c13
       by_cases c14 : (ji12) < (t271.length : Int)
       ·rw [if_pos c14] at H
        have c14b0 : decide ((ji12) < (t271.length : Int)) = true:=decide_eq_true c14
        clear c14
        obtain ⟨t279,A15,H⟩:=bd H
        obtain ⟨t283,A16,H⟩:=bd H
        have H':=Aside0.mk H
        clear H
        obtain ⟨Ao17,co17,eo17⟩:=Kd.R_slice HO_5.out
        subst eo17
        try go_wp2_with (first|((with_reducible refine gate_callee (f:=35) rfl ?_);refine goesL_ (some 28) rfl rfl Try.func35 (by kernel_rfl) rfl #[.slice Ao17 x5_1.length co17,.int .i64 x6_1] rfl mz ?_;(with_reducible refine (spec_l1Has.calls k1 _ _ x5_1 x6_1 true _ ?side1 ?side2 A10.out).mono ?_);(case side1=>exact cz (Kd.R_reads' HO_5.out).2.2);(case side2=>exact (Kd.R_reads' HO_5.out).2.1);rintro e w' ⟨rfl,⟨nd,rfl⟩⟩;refine ⟨_,rfl,?_⟩))
        (try (rw [drewN_self wr];generalize hq_ : World.drewN wr _ = wr;have n0_ : Aside0 (Kd.R k56 56 wr w.heap.size (fun _=>True) v272 t271):=⟨by rw [← hq_];exact (rz HO_4.out)⟩;have n1_ : Aside0 (Kd.R (Kd.int .i64) 3 wr w.heap.size (fun _=>True) (.slice Ao17 x5_1.length co17) x5_1):=⟨by rw [← hq_];exact (rz HO_5.out)⟩;have n2_ : Aside0 (Below w.heap.size w wr):=⟨by rw [← hq_];exact bz⟩;clear HO_4 HO_5 HB hq_;have HO_4:=n0_;have HO_5:=n1_;have HB:=n2_;clear n0_ n1_ n2_))
        have n0_:=Aside0.mk (Kd.R_drew HO_4.out)
        have n1_:=Aside0.mk (Kd.R_drew HO_5.out)
        have n2_:=Aside0.mk (below_drew1 HB.out)
        clear HO_4
        clear HO_5
        clear HB
        have HO_4:=n0_
        have HO_5:=n1_
        have HB:=n2_
        clear n0_ n1_ n2_
        obtain ⟨Ao19,co19,eo19⟩:=Kd.R_slice HO_4.out
        (first|subst eo19|(injection eo19 with f1_ f2_ f3_;have f4_:=f1_.symm;have f5_:=f3_.symm;clear f1_ f2_ f3_;subst f4_;subst f5_))
        have p278 : 0 ≤ ((ji12) : Int):=of_decide_eq_true az
        have q278 : (ji12) < (t271.length : Int):=of_decide_eq_true az
        obtain ⟨ad278,e278,hx278_0,hx278_1⟩:=at_T56 (Kd.R_reads' HO_4.out).2.2 (ji12) p278 q278
        cases e278
        replace p278:=eq_true p278
        replace q278:=eq_true q278
        have p282 : 0 ≤ ((ji12) : Int):=of_decide_eq_true az
        have q282 : (ji12) < (t271.length : Int):=of_decide_eq_true az
        obtain ⟨ad282,e282,hx282_0,hx282_1⟩:=at_T56 (Kd.R_reads' HO_4.out).2.2 (ji12) p282 q282
        obtain rfl : ad278 = ad282:=(by injection e282)
        replace p282:=eq_true p282
        replace q282:=eq_true q282
        refine start_ (n:=16) (S:=fun w'=>w'.cell? (ad278.add (((ji12)).toNat * 2)) = some (.int .i64 ((rd_T56 t271 (ji12)).f0)) ∧ w'.cell? ⟨(ad278.add (((ji12)).toNat * 2)).block,(ad278.add (((ji12)).toNat * 2)).off + 1,none⟩ = some (.int .i64 ((rd_T56 t271 (ji12)).f1)) ∧ w'.cell? (ad278.add (((ji12)).toNat * 2)) = some (.int .i64 ((rd_T56 t271 (ji12)).f0)) ∧ w'.cell? ⟨(ad278.add (((ji12)).toNat * 2)).block,(ad278.add (((ji12)).toNat * 2)).off + 1,none⟩ = some (.int .i64 ((rd_T56 t271 (ji12)).f1))) (ds:=[]) #[false,false,false,false,false,false,false,false,false,false,false,false,false,false,false,false] (by kernel_rfl) rfl rfl ⟨hx278_0,hx278_1,hx282_0,hx282_1⟩ (fun hHeld=>?_);refine with_tabW spec_NeededPart.tab9 spec_NeededPart.bits9 (fun HT_ HW_=>?_)
        generalize wr.drew = w18 at HO_4 HO_5 HB hx278_0 hx278_1 hx282_0 hx282_1 hHeld ⊢
        refine pure_ (i:=0) (N:=some 29) (v:=?_) (a':=?_) #[true,false,false,false,false,false,false,false,false,false,false,false,false,false,false,false] rfl rfl (any_of HT_.out (by kernel_rfl)) (fun _ _ _ h=>h) (Or.inl ⟨by rfl,?_⟩) ?_ ?_
        rotate_left
        ·intro w'
         go_simp
         with_reducible rfl
        rotate_left
        ·simp only [Act.put,xa,xb,xc,i64_w,i32_w]
         rfl
        refine pure_ (i:=1) (N:=some 30) (v:=?_) (a':=?_) #[true,true,false,false,false,false,false,false,false,false,false,false,false,false,false,false] rfl rfl (any_of HT_.out (by kernel_rfl)) (fun _ _ _ h=>h) (Or.inl ⟨by rfl,?_⟩) ?_ ?_
        rotate_left
        ·intro w'
         go_simp
         with_reducible rfl
        rotate_left
        ·simp only [Act.put,xa,xb,xc,i64_w,i32_w]
         rfl
        refine pure_ (i:=2) (N:=some 31) (v:=?_) (a':=?_) #[true,true,true,false,false,false,false,false,false,false,false,false,false,false,false,false] rfl rfl (any_of HT_.out (by kernel_rfl)) (fun _ _ _ h=>h) (Or.inl ⟨by rfl,?_⟩) ?_ ?_
        rotate_left
        ·intro w'
         go_simp
         with_reducible rfl
        rotate_left
        ·simp only [Act.put,xa,xb,xc,i64_w,i32_w]
         rfl
        refine pure_ (i:=3) (N:=some 32) (v:=?_) (a':=?_) #[true,true,true,true,false,false,false,false,false,false,false,false,false,false,false,false] rfl rfl (any_of HT_.out (by kernel_rfl)) (fun _ _ _ h=>h) (Or.inl ⟨by rfl,?_⟩) ?_ ?_
        rotate_left
        ·intro w'
         go_simp
         with_reducible rfl
        rotate_left
        ·simp only [Act.put,xa,xb,xc,i64_w,i32_w]
         rfl
        refine pure_ (i:=4) (N:=some 33) (v:=?_) (a':=?_) #[true,true,true,true,true,false,false,false,false,false,false,false,false,false,false,false] rfl rfl (any_of HT_.out (by kernel_rfl)) (fun _ _ _ h=>h) (Or.inl ⟨by rfl,?_⟩) ?_ ?_
        rotate_left
        ·intro w'
         go_simp
         with_reducible rfl
        rotate_left
        ·simp only [Act.put,xa,xb,xc,i64_w,i32_w]
         rfl
        refine pure_ (i:=5) (N:=some 34) (v:=?_) (a':=?_) #[true,true,true,true,true,true,false,false,false,false,false,false,false,false,false,false] rfl rfl (any_of HT_.out (by kernel_rfl)) (fun _ _ _ h=>h) (Or.inl ⟨by rfl,?_⟩) ?_ ?_
        rotate_left
        ·intro w'
         go_simp
         with_reducible rfl
        rotate_left
        ·simp only [Act.put,xa,xb,xc,i64_w,i32_w]
         rfl
        refine pure_ (i:=8) (N:=some 37) (v:=?_) (a':=?_) #[true,true,true,true,true,true,false,false,true,false,false,false,false,false,false,false] rfl rfl (any_of HT_.out (by kernel_rfl)) (fun _ _ _ h=>h) (Or.inl ⟨by rfl,?_⟩) ?_ ?_
        rotate_left
        ·intro w'
         go_simp
         with_reducible rfl
        rotate_left
        ·simp only [Act.put,xa,xb,xc,i64_w,i32_w]
         rfl
        refine pure_ (i:=9) (N:=some 38) (v:=?_) (a':=?_) #[true,true,true,true,true,true,false,false,true,true,false,false,false,false,false,false] rfl rfl (any_of HT_.out (by kernel_rfl)) (fun _ _ _ h=>h) (Or.inl ⟨by rfl,?_⟩) ?_ ?_
        rotate_left
        ·intro w'
         go_simp
         with_reducible rfl
        rotate_left
        ·simp only [Act.put,xa,xb,xc,i64_w,i32_w]
         rfl
        refine pure_ (i:=10) (N:=some 39) (v:=?_) (a':=?_) #[true,true,true,true,true,true,false,false,true,true,true,false,false,false,false,false] rfl rfl (any_of HT_.out (by kernel_rfl)) (fun _ _ _ h=>h) (Or.inl ⟨by rfl,?_⟩) ?_ ?_
        rotate_left
        ·intro w'
         go_simp
         with_reducible rfl
        rotate_left
        ·simp only [Act.put,xa,xb,xc,i64_w,i32_w]
         rfl
        refine pure_ (i:=11) (N:=some 40) (v:=?_) (a':=?_) #[true,true,true,true,true,true,false,false,true,true,true,true,false,false,false,false] rfl rfl (any_of HT_.out (by kernel_rfl)) (fun _ _ _ h=>h) (Or.inl ⟨by rfl,?_⟩) ?_ ?_
        rotate_left
        ·intro w'
         go_simp
         with_reducible rfl
        rotate_left
        ·simp only [Act.put,xa,xb,xc,i64_w,i32_w]
         rfl
        refine pure_ (i:=12) (N:=some 41) (v:=?_) (a':=?_) #[true,true,true,true,true,true,false,false,true,true,true,true,true,false,false,false] rfl rfl (any_of HT_.out (by kernel_rfl)) (fun _ _ _ h=>h) (Or.inl ⟨by rfl,?_⟩) ?_ ?_
        rotate_left
        ·intro w'
         go_simp
         with_reducible rfl
        rotate_left
        ·simp only [Act.put,xa,xb,xc,i64_w,i32_w]
         rfl
        refine take_ (i:=6) (N:=some 35) (v:=?_) (a':=?_) #[true,true,true,true,true,true,true,false,true,true,true,true,true,false,false,false] rfl rfl (take_ofW HT_.out HW_.out (by kernel_rfl)) (fun _ _ _ h=>h) (Or.inl ⟨by rfl,?_⟩) hHeld ?_ ?_
        rotate_left
        ·rintro w' ⟨s0,s1,s2,s3⟩
         go_simp
         with_reducible rfl
        rotate_left
        ·simp only [Act.put,xa,xb,xc,i64_w,i32_w]
         rfl
        refine take_ (i:=13) (N:=some 42) (v:=?_) (a':=?_) #[true,true,true,true,true,true,true,false,true,true,true,true,true,true,false,false] rfl rfl (take_ofW HT_.out HW_.out (by kernel_rfl)) (fun _ _ _ h=>h) (Or.inl ⟨by rfl,?_⟩) hHeld ?_ ?_
        rotate_left
        ·rintro w' ⟨s0,s1,s2,s3⟩
         go_simp
         with_reducible rfl
        rotate_left
        ·simp only [Act.put,xa,xb,xc,i64_w,i32_w]
         rfl
        refine one_ (i:=7) (N:=some 36) #[true,true,true,true,true,true,true,true,true,true,true,true,true,true,false,false] rfl rfl (one_of HT_.out (by kernel_rfl)) (by decide) (fun K hK=>?_)
        refine goes_ Try.func36 (by kernel_rfl) rfl #[.slice Ao17 x5_1.length co17,.int .i64 ((rd_T56 t271 (ji12)).f0)] (by rfl) rfl rfl (by (try simp only [List.map_toArray,List.map_cons,List.map_nil]);first|done|(simp only [hji12];rfl)|rfl|(simp only [List.length_drop,List.length_take];rfl)) ?_
        with_reducible refine (spec_l1Put.calls k1 (fun k_=>some k_ = (.slice Ao17 x5_1.length co17 : Value).ownBlock) (.slice Ao17 x5_1.length co17) x5_1 ((rd_T56 t271 (ji12)).f0) t279 w _ ?side1 ?side2 A15.out).mono ?_
        (case side1=>repeat (first|(with_reducible first|exact HB.out|apply below_alloc|apply pw_below_drewN|apply below_drew1)|exact HB.out))
        (case side2=>exact Kd.R_tight rfl HO_5.out)
        rintro e w20 ⟨v280,rfl,ho0,hb,hkp⟩
        have HS0_:=Go.Proofs.YtlefjgpkabijdaaW.PrintWords.cell_kept (hHeld.1) hkp (by first|(rw [add_block];exact (fun hs_=>((((Kd.R_apart' HO_4.out (Kd.R_typed HO_5.out) (by decide))).1 _ rfl).2) hs_))|(show ¬ _;simp only [add_block];exact (fun hs_=>((((Kd.R_apart' HO_4.out (Kd.R_typed HO_5.out) (by decide))).1 _ rfl).2) hs_))|exact (fun hs_=>((((Kd.R_apart' HO_4.out (Kd.R_typed HO_5.out) (by decide))).1 _ rfl).2) hs_))
        have HS1_:=Go.Proofs.YtlefjgpkabijdaaW.PrintWords.cell_kept (hHeld.2.1) hkp (by first|(rw [add_block];exact (fun hs_=>((((Kd.R_apart' HO_4.out (Kd.R_typed HO_5.out) (by decide))).1 _ rfl).2) hs_))|(show ¬ _;simp only [add_block];exact (fun hs_=>((((Kd.R_apart' HO_4.out (Kd.R_typed HO_5.out) (by decide))).1 _ rfl).2) hs_))|exact (fun hs_=>((((Kd.R_apart' HO_4.out (Kd.R_typed HO_5.out) (by decide))).1 _ rfl).2) hs_))
        have HS2_:=Go.Proofs.YtlefjgpkabijdaaW.PrintWords.cell_kept (hHeld.2.2.1) hkp (by first|(rw [add_block];exact (fun hs_=>((((Kd.R_apart' HO_4.out (Kd.R_typed HO_5.out) (by decide))).1 _ rfl).2) hs_))|(show ¬ _;simp only [add_block];exact (fun hs_=>((((Kd.R_apart' HO_4.out (Kd.R_typed HO_5.out) (by decide))).1 _ rfl).2) hs_))|exact (fun hs_=>((((Kd.R_apart' HO_4.out (Kd.R_typed HO_5.out) (by decide))).1 _ rfl).2) hs_))
        have HS3_:=Go.Proofs.YtlefjgpkabijdaaW.PrintWords.cell_kept (hHeld.2.2.2) hkp (by first|(rw [add_block];exact (fun hs_=>((((Kd.R_apart' HO_4.out (Kd.R_typed HO_5.out) (by decide))).1 _ rfl).2) hs_))|(show ¬ _;simp only [add_block];exact (fun hs_=>((((Kd.R_apart' HO_4.out (Kd.R_typed HO_5.out) (by decide))).1 _ rfl).2) hs_))|exact (fun hs_=>((((Kd.R_apart' HO_4.out (Kd.R_typed HO_5.out) (by decide))).1 _ rfl).2) hs_))
        refine ⟨_,rfl,?_⟩
        have n0_:=Aside0.mk (Kd.R_mono (ok':=fun k_=>True) (Kd.R_keptB ((Kd.R_apart' HO_4.out (Kd.R_typed HO_5.out) (by decide))) hkp (fun k_ hk_ hs_=>(hk_.2) hs_)) (fun k_ hk_=>trivial))
        have n1_:=Aside0.mk (Kd.R_mono (ok':=fun k_=>True) ho0 (fun k_ hk_=>trivial))
        have n2_:=Aside0.mk (hb)
        clear HO_4
        clear HB
        clear HO_5
        have HO_4:=n0_
        have HO281:=n1_
        have HB:=n2_
        clear n0_ n1_ n2_
        (try clear hb)
        (try clear hkp)
        (try clear ho0)
        obtain ⟨Ao21,co21,eo21⟩:=Kd.R_slice HO281.out
        (first|subst eo21|(injection eo21 with f1_ f2_ f3_;have f4_:=f1_.symm;have f5_:=f3_.symm;clear f1_ f2_ f3_;subst f4_;subst f5_))
        refine hK.out _ _ ⟨HS0_,HS1_,HS2_,HS3_⟩ (fun hHeld=>?_)
        clear hK K
        refine norm_ (a':=?_) ?_ ?_
        rotate_left
        ·show Act.put _ (some 36) _ = _
         simp only [Act.put,xa,xb,xc,i64_w,i32_w]
         rfl
        refine one_ (i:=14) (N:=some 43) #[true,true,true,true,true,true,true,true,true,true,true,true,true,true,true,false] rfl rfl (one_of HT_.out (by kernel_rfl)) (by decide) (fun K hK=>?_)
        refine goes_ Try.func36 (by kernel_rfl) rfl #[.slice Ao21 t279.length co21,.int .i64 ((rd_T56 t271 (ji12)).f1)] (by rfl) rfl rfl (by (try simp only [List.map_toArray,List.map_cons,List.map_nil]);first|done|(simp only [hji12];rfl)|rfl|(simp only [List.length_drop,List.length_take];rfl)) ?_
        with_reducible refine (spec_l1Put.calls k1 (fun k_=>some k_ = (.slice Ao21 t279.length co21 : Value).ownBlock) (.slice Ao21 t279.length co21) t279 ((rd_T56 t271 (ji12)).f1) t283 w _ ?side1 ?side2 A16.out).mono ?_
        (case side1=>repeat (first|(with_reducible first|exact HB.out|apply below_alloc|apply pw_below_drewN|apply below_drew1)|exact HB.out))
        (case side2=>exact Kd.R_tight rfl HO281.out)
        rintro e w22 ⟨v284,rfl,ho0,hb,hkp⟩
        have HS0_:=Go.Proofs.YtlefjgpkabijdaaW.PrintWords.cell_kept (hHeld.1) hkp (by first|(rw [add_block];exact (fun hs_=>((((Kd.R_apart' HO_4.out (Kd.R_typed HO281.out) (by decide))).1 _ rfl).2) hs_))|(show ¬ _;simp only [add_block];exact (fun hs_=>((((Kd.R_apart' HO_4.out (Kd.R_typed HO281.out) (by decide))).1 _ rfl).2) hs_))|exact (fun hs_=>((((Kd.R_apart' HO_4.out (Kd.R_typed HO281.out) (by decide))).1 _ rfl).2) hs_))
        have HS1_:=Go.Proofs.YtlefjgpkabijdaaW.PrintWords.cell_kept (hHeld.2.1) hkp (by first|(rw [add_block];exact (fun hs_=>((((Kd.R_apart' HO_4.out (Kd.R_typed HO281.out) (by decide))).1 _ rfl).2) hs_))|(show ¬ _;simp only [add_block];exact (fun hs_=>((((Kd.R_apart' HO_4.out (Kd.R_typed HO281.out) (by decide))).1 _ rfl).2) hs_))|exact (fun hs_=>((((Kd.R_apart' HO_4.out (Kd.R_typed HO281.out) (by decide))).1 _ rfl).2) hs_))
        have HS2_:=Go.Proofs.YtlefjgpkabijdaaW.PrintWords.cell_kept (hHeld.2.2.1) hkp (by first|(rw [add_block];exact (fun hs_=>((((Kd.R_apart' HO_4.out (Kd.R_typed HO281.out) (by decide))).1 _ rfl).2) hs_))|(show ¬ _;simp only [add_block];exact (fun hs_=>((((Kd.R_apart' HO_4.out (Kd.R_typed HO281.out) (by decide))).1 _ rfl).2) hs_))|exact (fun hs_=>((((Kd.R_apart' HO_4.out (Kd.R_typed HO281.out) (by decide))).1 _ rfl).2) hs_))
        have HS3_:=Go.Proofs.YtlefjgpkabijdaaW.PrintWords.cell_kept (hHeld.2.2.2) hkp (by first|(rw [add_block];exact (fun hs_=>((((Kd.R_apart' HO_4.out (Kd.R_typed HO281.out) (by decide))).1 _ rfl).2) hs_))|(show ¬ _;simp only [add_block];exact (fun hs_=>((((Kd.R_apart' HO_4.out (Kd.R_typed HO281.out) (by decide))).1 _ rfl).2) hs_))|exact (fun hs_=>((((Kd.R_apart' HO_4.out (Kd.R_typed HO281.out) (by decide))).1 _ rfl).2) hs_))
        refine ⟨_,rfl,?_⟩
        have n0_:=Aside0.mk (Kd.R_mono (ok':=fun k_=>True) (Kd.R_keptB ((Kd.R_apart' HO_4.out (Kd.R_typed HO281.out) (by decide))) hkp (fun k_ hk_ hs_=>(hk_.2) hs_)) (fun k_ hk_=>trivial))
        have n1_:=Aside0.mk (Kd.R_mono (ok':=fun k_=>True) ho0 (fun k_ hk_=>trivial))
        have n2_:=Aside0.mk (hb)
        clear HO_4
        clear HB
        clear HO281
        have HO_4:=n0_
        have HO285:=n1_
        have HB:=n2_
        clear n0_ n1_ n2_
        (try clear hb)
        (try clear hkp)
        (try clear ho0)
        refine hK.out _ _ ⟨HS0_,HS1_,HS2_,HS3_⟩ (fun hHeld=>?_)
        clear hK K
        refine norm_ (a':=?_) ?_ ?_
        rotate_left
        ·show Act.put _ (some 43) _ = _
         simp only [Act.put,xa,xb,xc,i64_w,i32_w]
         rfl
        refine pure_ (i:=15) (N:=some 5) (v:=?_) (a':=?_) #[true,true,true,true,true,true,true,true,true,true,true,true,true,true,true,true] rfl rfl (any_of HT_.out (by kernel_rfl)) (fun _ _ _ h=>h) (Or.inl ⟨by rfl,?_⟩) ?_ ?_
        rotate_left
        ·intro w'
         go_simp
         with_reducible rfl
        rotate_left
        ·simp only [Act.put,xa,xb,xc,i64_w,i32_w]
         rfl
        refine done_ (done_of HT_.out (by kernel_rfl)) ?_
        try go_wp2
        go_roundg k1
        case measure=>have:=HK1.out;omega
        case rel=>exact ⟨(t283),(ji12),(by first|rfl|(simp;done)|(simp only [← hji12] <;> (first|rfl|simp))|(simp [*];done)),H',⟨by have:=HK1.out;omega⟩,⟨by (with_reducible repeat (first|apply Kd.R_alloc|apply Kd.R_drewN|apply Kd.R_drew));exact HO_4.out⟩,⟨by (with_reducible repeat (first|apply Kd.R_alloc|apply Kd.R_drewN|apply Kd.R_drew));exact HO285.out⟩,⟨by repeat (first|(with_reducible first|exact HB.out|apply below_alloc|apply pw_below_drewN|apply below_drew1)|exact HB.out)⟩⟩
       ·rw [if_neg c14] at H
        exact absurd H (by simp)
      ·rw [if_neg c13] at H
       exact absurd H (by simp)
     ·replace c11:=Bool.eq_false_iff.mpr c11
      subst c11
      rw [if_neg (show ¬ (false = true) by decide)] at H
      have H':=Aside0.mk H
      clear H
      obtain ⟨Ao23,co23,eo23⟩:=Kd.R_slice HO_5.out
      subst eo23
      go_wp2_with (first|((with_reducible refine gate_callee (f:=35) rfl ?_);refine goesL_ (some 28) rfl rfl Try.func35 (by kernel_rfl) rfl #[.slice Ao23 x5_1.length co23,.int .i64 x6_1] rfl mz ?_;(with_reducible refine (spec_l1Has.calls k1 _ _ x5_1 x6_1 false _ ?side1 ?side2 A10.out).mono ?_);(case side1=>exact cz (Kd.R_reads' HO_5.out).2.2);(case side2=>exact (Kd.R_reads' HO_5.out).2.1);rintro e w' ⟨rfl,⟨nd,rfl⟩⟩;refine ⟨_,rfl,?_⟩))
      go_roundg k1
      case measure=>have:=HK1.out;omega
      case rel=>exact ⟨(x5_1),(wrap64 (x6_1 - 1)),fz,H',⟨by have:=HK1.out;omega⟩,⟨by (with_reducible repeat (first|apply Kd.R_alloc|apply Kd.R_drewN|apply Kd.R_drew));exact HO_4.out⟩,⟨by (with_reducible repeat (first|apply Kd.R_alloc|apply Kd.R_drewN|apply Kd.R_drew));exact HO_5.out⟩,⟨by repeat (first|(with_reducible first|exact HB.out|apply below_alloc|apply pw_below_drewN|apply below_drew1)|exact HB.out)⟩⟩
    ·rw [if_neg c9] at H
     have c9b0 : decide (0 < x6_1) = false:=decide_eq_false c9
     clear c9
     have H':=Aside0.mk H
     clear H
     obtain ⟨Ao24,co24,eo24⟩:=Kd.R_slice HO_5.out
     subst eo24
     go_wp2
     go_loopg [7,46] k1 (fun kq v7 v46 w'=>∃ (x7_2 : List Int) (x46_2 : Int),v46 = .int .i64 x46_2 ∧ Aside0 (spec_NeededPart.l1 kq l0 x7_2 x5_1 (x5_1.length : Int) x46_2 = some (r1,r2)) ∧ Aside0 (kq ≤ k1) ∧ Aside0 (Kd.R (Kd.int .i64) 3 w' w.heap.size (fun k_=>some k_ ≠ ((.slice Ao24 x5_1.length co24) : Value).ownBlock) v7 x7_2) ∧ Aside0 (Kd.R (Kd.int .i64) 3 w' w.heap.size (fun k_=>some k_ ≠ (v7 : Value).ownBlock) (.slice Ao24 x5_1.length co24) x5_1) ∧ Aside0 (Below w.heap.size w w'))
     case atStart=>exact ⟨(([] : List Int)),(0),fz,H',⟨Nat.le_refl _⟩,⟨by first|exact Kd.R_nil _ _ _ _ _|exact Kd.N_nil _ _ _ _ _|exact Kd.V_nil _ _ _ _ _|exact Kd.Q_nil _ _ _ _ _|exact Kd.S_nil _ _ _ _ _⟩,⟨by (with_reducible repeat (first|apply Kd.R_alloc|apply Kd.R_drewN|apply Kd.R_drew));exact Kd.R_mono HO_5.out (fun _ hk=>(by simp [Value.ownBlock]))⟩,⟨by repeat (first|(with_reducible first|exact HB.out|apply below_alloc|apply pw_below_drewN|apply below_drew1)|exact HB.out)⟩⟩
     case round=>
      clear H'
      try clear c1
      try clear p2
      try clear q2
      try clear hx2
      try clear c3
      try clear p6
      try clear c9
      try clear c9b0
      try clear c11
      try clear c13
      try clear c13b0
      try clear c14
      try clear c14b0
      try clear hx278_0
      try clear hx278_1
      try clear hx282_0
      try clear hx282_1
      try clear p2
      try clear p278
      try clear p282
      try clear p6
      try clear q278
      try clear q282
      obtain ⟨x7_2,x46_2,rfl,HA,HK2,HO_7,HO_44,HB⟩:=hrel
      cases gk with
      | zero=>exact absurd HA.out (by simp [spec_NeededPart.l1])
      | succ k2=>
       have H:=HA.out
       clear HA
       simp only [spec_NeededPart.l1] at H
       by_cases c25 : x46_2 < (x5_1.length : Int)
       ·rw [if_pos c25] at H
        have c25b0 : decide (x46_2 < (x5_1.length : Int)) = true:=decide_eq_true c25
        clear c25
        by_cases c26 : 0 ≤ x46_2
        ·rw [if_pos c26] at H
         have c26b0 : decide (0 ≤ x46_2) = true:=decide_eq_true c26
         clear c26
         by_cases c27 : x46_2 < (x5_1.length : Int)
         ·rw [if_pos c27] at H
          have c27b0 : decide (x46_2 < (x5_1.length : Int)) = true:=decide_eq_true c27
          clear c27
          by_cases c28 : 0 ≤ (rd x5_1 x46_2)
          ·rw [if_pos c28] at H
           have c28b0 : decide (0 ≤ (rd x5_1 x46_2)) = true:=decide_eq_true c28
           clear c28
           by_cases c29 : (rd x5_1 x46_2) < (l0.length : Int)
           ·rw [if_pos c29] at H
            have c29b0 : decide ((rd x5_1 x46_2) < (l0.length : Int)) = true:=decide_eq_true c29
            clear c29
            by_cases c30 : x7_2.length < 17592186044416
            ·rw [if_pos c30] at H
             have LMc30:=Aside0.mk c30
             clear c30
             obtain ⟨y288,hy288⟩ : ∃ y_ : List Int,y_ = (x7_2 ++ [rd l0 (rd x5_1 x46_2)]):=⟨_,rfl⟩
             replace H : (spec_NeededPart.l1 k2 l0 y288 x5_1 (x5_1.length : Int) (wrap64 (x46_2 + 1))) = some (r1,r2):=by first|(rw [hy288];with_reducible exact H)|(have H2_:=(Option.bind_some _ _).symm.trans H;rw [hy288];with_reducible exact H2_)|(have H2_:=(Option.bind_some _ _).symm.trans H;with_reducible exact H2_)|with_reducible exact H|(rw [hy288];exact H)|exact H
             have Ny288:=Aside0.mk hy288
             clear hy288
             have H':=Aside0.mk H
             clear H
             have p286 : 0 ≤ (x46_2 : Int):=of_decide_eq_true az
             have q286 : x46_2 < (x5_1.length : Int):=of_decide_eq_true az
             obtain ⟨ad286,e286,hx286_0⟩:=Kd.at_int (Kd.R_reads' HO_44.out).2.2 x46_2 p286 q286
             cases e286
             replace p286:=eq_true p286
             replace q286:=eq_true q286
             have p287 : 0 ≤ ((rd x5_1 x46_2) : Int):=of_decide_eq_true az
             have q287 : (rd x5_1 x46_2) < (l0.length : Int):=of_decide_eq_true az
             obtain ⟨ad287,e287,hx287_0⟩:=Kd.at_int HR0.out (rd x5_1 x46_2) p287 q287
             cases e287
             replace hx287_0:=(HB.out.cell (World.block_lt_of_cell? w _ hx287_0)).trans hx287_0
             replace p287:=eq_true p287
             replace q287:=eq_true q287
             go_wp2_with (first|((with_reducible refine gate_builtin (b:=.append) (xs:=#[.tmp 50,.tmp 55]) rfl ?_);at_builtin;refine Kd.R_append (Kd.int .i64) (w0:=w) w.heap.size rfl (.tmp 50) (.tmp 55) 24 3 (.int .i64 0) 8 rfl Try.underlying24 info3 rfl (by decide) (by omega) u7 x7_2 (rd l0 (rd x5_1 x46_2)) [.int .i64 (rd l0 (rd x5_1 x46_2))] (fun k_=>some k_ ≠ (.slice (some ad286) x5_1.length co24 : Value).ownBlock) (fun _=>False) rfl rfl ?aP (fun _ hk=>hk.elim) ?aF ?aO ?aB ?aS ?aL ?_;(case aP=>exact rfl);(case aB=>exact bz);(case aF=>exact (fun k_ hk=>Kd.fresh' (Kd.R_lt (rz HO_44.out)) k_ hk));(case aO=>exact (rz HO_7.out));(case aS=>exact (below_size bz));(case aL=>have:=LMc30.out;omega);intro v289 w31 ho hb hg hat;rw [← Ny288.out] at ho;have n0_:=Aside0.mk (Kd.R_after (ok:=(fun _=>True)) (by (with_reducible repeat (first|apply Kd.R_alloc|apply Kd.R_drewN|apply Kd.R_drew));exact Kd.R_mono HO_44.out (fun _ hk=>⟨trivial,hk⟩)) hg hat);have n1_:=Aside0.mk (hb);have n2_:=Aside0.mk (ho);clear HO_44 HB HO_7;have HO_44:=n0_;have HB:=n1_;have HO290:=n2_;clear n0_ n1_ n2_;clear ho hb hg hat))
             go_roundg k2
             case measure=>have:=HK1.out;have:=HK2.out;omega
             case rel=>exact ⟨(y288),(wrap64 (x46_2 + 1)),fz,H',⟨by have:=HK1.out;have:=HK2.out;omega⟩,⟨by (with_reducible repeat (first|apply Kd.R_alloc|apply Kd.R_drewN|apply Kd.R_drew));exact HO290.out⟩,⟨by (with_reducible repeat (first|apply Kd.R_alloc|apply Kd.R_drewN|apply Kd.R_drew));exact Kd.R_mono HO_44.out (fun _ hk=>hk.2)⟩,⟨by repeat (first|(with_reducible first|exact HB.out|apply below_alloc|apply pw_below_drewN|apply below_drew1)|exact HB.out)⟩⟩
            ·rw [if_neg c30] at H
             exact absurd H (by simp)
           ·rw [if_neg c29] at H
            exact absurd H (by simp)
          ·rw [if_neg c28] at H
           exact absurd H (by simp)
         ·rw [if_neg c27] at H
          exact absurd H (by simp)
        ·rw [if_neg c26] at H
         exact absurd H (by simp)
       ·rw [if_neg c25] at H
        have c25b0 : decide (x46_2 < (x5_1.length : Int)) = false:=decide_eq_false c25
        clear c25
        simp only [Option.some.injEq,Prod.mk.injEq] at H
        obtain ⟨rfl,rfl⟩:=H
        go_wp2
        go_ret2
        exact ⟨_,by first|rfl|(simp [errW_none,errW_some] <;> rfl)|(simp [*,errW_none,errW_some] <;> rfl),by (with_reducible repeat (first|apply Kd.R_alloc|apply Kd.R_drewN|apply Kd.R_drew));exact Kd.R_mono HO_7.out (fun _ hk=>trivial),by repeat (first|(with_reducible first|exact HB.out|apply below_alloc|apply pw_below_drewN|apply below_drew1)|exact HB.out)⟩
 ·replace c3:=Bool.eq_false_iff.mpr c3
  subst c3
  rw [if_neg (show ¬ (false = true) by decide)] at H
  simp only [Option.some.injEq,Prod.mk.injEq] at H
  obtain ⟨rfl,rfl⟩:=H
  go_enter Try.func9,Try.ntmps9
  go_wp2_with (first|((with_reducible refine gate_callee (f:=33) rfl ?_);refine goesL_ (some 11) rfl rfl Try.func33 (by kernel_rfl) rfl #[.slice A0 l0.length c0] rfl mz ?_;(with_reducible refine (spec_chGood.calls k _ _ l0 false _ ?side1 ?side2 A2.out).mono ?_);(case side1=>exact cz HR0.out);(case side2=>exact HC0.out);rintro e w32 ⟨rfl,hb⟩;refine ⟨_,rfl,?_⟩;have n0_:=Aside0.mk (below_step bz hb);clear HB;have HB:=n0_;clear n0_;(try clear hb)))
  go_ret2
  exact ⟨_,by first|rfl|(simp [errW_none,errW_some] <;> rfl)|(simp [*,errW_none,errW_some] <;> rfl),by first|exact Kd.R_nil _ _ _ _ _|exact Kd.N_nil _ _ _ _ _|exact Kd.V_nil _ _ _ _ _|exact Kd.Q_nil _ _ _ _ _|exact Kd.S_nil _ _ _ _ _,by repeat (first|(with_reducible first|exact HB.out|apply below_alloc|apply pw_below_drewN|apply below_drew1)|exact HB.out)⟩
/-! ### laws_pSameInts: function 10 -/
def laws_pSameInts.l0 : Nat → List Int → List Int → Int → Int → Option (Bool)
 | 0,_,_,_,_=>none
 | k + 1,x0,x1,x12,x13=>if x13 < x12 then (if 0 ≤ x13 then (if x13 < (x0.length : Int) then (if x13 < (x1.length : Int) then (if (rd x0 x13) = (rd x1 x13) then (laws_pSameInts.l0 k x0 x1 x12 (wrap64 (x13 + 1))) else (some false)) else (none)) else (none)) else (none)) else (some true)
def laws_pSameInts.f (k : Nat) (l0 : List Int) (l1 : List Int) : Option (Bool):=if (l0.length : Int) = (l1.length : Int) then (laws_pSameInts.l0 k l0 l1 (l0.length : Int) 0) else (some false)
theorem laws_pSameInts.mono_l : ∀ k,(∀ y0 y1 y2 y3,LeO (laws_pSameInts.l0 k y0 y1 y2 y3) (laws_pSameInts.l0 (k + 1) y0 y1 y2 y3))
 | 0=>fun _ _ _ _ r h=>by simp [laws_pSameInts.l0] at h
 | k + 1=>by
  have ih0:=laws_pSameInts.mono_l k
  ·intro y0 y1 y2 y3
   unfold laws_pSameInts.l0
   repeat' first
   | (with_reducible exact ih0 _ _ _ _)
   | (with_reducible exact LeO.refl _)
   | (with_reducible exact LeO.none _)
   | (with_reducible refine LeO.ite ?_ ?_)
   | (with_reducible refine LeO.bind ?_ (fun _=>?_))
   | exact ih0 _ _ _ _
   | exact LeO.none _
   | refine LeO.ite ?_ ?_
   | refine LeO.bind ?_ (fun _=>?_)
theorem laws_pSameInts.mono : ∀ a0 a1 k,LeO (laws_pSameInts.f k a0 a1) (laws_pSameInts.f (k + 1) a0 a1):=by
 intro a0 a1 k
 have ih0:=laws_pSameInts.mono_l k
 unfold laws_pSameInts.f
 repeat' first
   | (with_reducible exact ih0 _ _ _ _)
   | (with_reducible exact LeO.refl _)
   | (with_reducible exact LeO.none _)
   | (with_reducible refine LeO.ite ?_ ?_)
   | (with_reducible refine LeO.bind ?_ (fun _=>?_))
   | exact ih0 _ _ _ _
   | exact LeO.none _
   | refine LeO.ite ?_ ?_
   | refine LeO.bind ?_ (fun _=>?_)
set_option maxHeartbeats 8000000 in
set_option maxRecDepth 100000 in
theorem laws_pSameInts.calls (k : Nat) (A0 : Option Addr) (c0 : Nat) (l0 : List Int) (A1 : Option Addr) (c1 : Nat) (l1 : List Int) (r : Bool) (w : World) (hr0 : Kd.C (Kd.int .i64) w A0 l0.length l0) (hc0 : l0.length ≤ c0) (hr1 : Kd.C (Kd.int .i64) w A1 l1.length l1) (hc1 : l1.length ≤ c1) (h : laws_pSameInts.f k l0 l1 = some r) :
  Calls Try.prog 10 #[.slice A0 l0.length c0,.slice A1 l1.length c1] w fun e w'=>e = .returned (.bool r) ∧ Drawn0 w w':=by
 have HR0:=Aside0.mk hr0
 have HC0:=Aside0.mk hc0
 clear hr0 hc0
 have HR1:=Aside0.mk hr1
 have HC1:=Aside0.mk hc1
 clear hr1 hc1
 have H : (if (l0.length : Int) = (l1.length : Int) then (laws_pSameInts.l0 k l0 l1 (l0.length : Int) 0) else (some false)) = some r:=h
 clear h
 by_cases c3 : (l0.length : Int) = (l1.length : Int)
 ·rw [if_pos c3] at H
  have c3b0 : ((l0.length : Int) == (l1.length : Int)) = true:=beq_iff_eq.mpr c3
  have c3b1 : ((l0.length : Int) != (l1.length : Int)) = false:=bne_eq_false_iff_eq.mpr c3
  have c3b2 : (l0.length == l1.length) = true:=by first|simpa using c3|(simp at c3 ⊢;omega)
  clear c3
  have H':=Aside0.mk H
  clear H
  go_enter Try.func10,Try.ntmps10
  go_wp2
  repeat (go_quiet (fail);try go_wp2)
  go_loopg [13] k (fun kq v13 w'=>∃ (x13_1 : Int),v13 = .int .i64 x13_1 ∧ Aside0 (laws_pSameInts.l0 kq l0 l1 (l0.length : Int) x13_1 = some r) ∧ Aside0 (kq ≤ k) ∧ Drawn0 w w')
  case atStart=>exact ⟨(0),fz,H',⟨Nat.le_refl _⟩,by repeat (first|exact Drawn0.refl _|apply Drawn0.step)⟩
  case round=>
   clear H'
   try clear c1
   try clear p2
   try clear c3
   try clear c3b0
   try clear c3b1
   try clear c3b2
   obtain ⟨x13_1,rfl,HA,HK1,⟨m1,rfl⟩⟩:=hrel
   cases gk with
   | zero=>exact absurd HA.out (by simp [laws_pSameInts.l0])
   | succ k1=>
    have H:=HA.out
    clear HA
    simp only [laws_pSameInts.l0] at H
    by_cases c4 : x13_1 < (l0.length : Int)
    ·rw [if_pos c4] at H
     have c4b0 : decide (x13_1 < (l0.length : Int)) = true:=decide_eq_true c4
     clear c4
     by_cases c5 : 0 ≤ x13_1
     ·rw [if_pos c5] at H
      have c5b0 : decide (0 ≤ x13_1) = true:=decide_eq_true c5
      clear c5
      by_cases c6 : x13_1 < (l0.length : Int)
      ·rw [if_pos c6] at H
       have c6b0 : decide (x13_1 < (l0.length : Int)) = true:=decide_eq_true c6
       clear c6
       by_cases c7 : x13_1 < (l1.length : Int)
       ·rw [if_pos c7] at H
        have c7b0 : decide (x13_1 < (l1.length : Int)) = true:=decide_eq_true c7
        clear c7
        by_cases c8 : (rd l0 x13_1) = (rd l1 x13_1)
        ·rw [if_pos c8] at H
         have c8b0 : ((rd l0 x13_1) == (rd l1 x13_1)) = true:=beq_iff_eq.mpr c8
         have c8b1 : ((rd l0 x13_1) != (rd l1 x13_1)) = false:=bne_eq_false_iff_eq.mpr c8
         clear c8
         have H':=Aside0.mk H
         clear H
         have p291 : 0 ≤ (x13_1 : Int):=of_decide_eq_true az
         have q291 : x13_1 < (l0.length : Int):=of_decide_eq_true az
         obtain ⟨ad291,e291,hx291_0⟩:=Kd.at_int HR0.out x13_1 p291 q291
         cases e291
         replace p291:=eq_true p291
         replace q291:=eq_true q291
         have p292 : 0 ≤ (x13_1 : Int):=of_decide_eq_true az
         have q292 : x13_1 < (l1.length : Int):=of_decide_eq_true az
         obtain ⟨ad292,e292,hx292_0⟩:=Kd.at_int HR1.out x13_1 p292 q292
         cases e292
         replace p292:=eq_true p292
         replace q292:=eq_true q292
         go_wp2
         repeat (go_quiet (fail);try go_wp2)
         go_roundg k1
         case measure=>have:=HK1.out;omega
         case rel=>exact ⟨(wrap64 (x13_1 + 1)),fz,H',⟨by have:=HK1.out;omega⟩,by repeat (first|exact Drawn0.refl _|apply Drawn0.step)⟩
        ·rw [if_neg c8] at H
         have c8b0 : ((rd l0 x13_1) == (rd l1 x13_1)) = false:=beq_eq_false_iff_ne.mpr c8
         have c8b1 : ((rd l0 x13_1) != (rd l1 x13_1)) = true:=bne_iff_ne.mpr c8
         obtain rfl:=Option.some.inj H
         have p291 : 0 ≤ (x13_1 : Int):=of_decide_eq_true az
         have q291 : x13_1 < (l0.length : Int):=of_decide_eq_true az
         obtain ⟨ad291,e291,hx291_0⟩:=Kd.at_int HR0.out x13_1 p291 q291
         cases e291
         replace p291:=eq_true p291
         replace q291:=eq_true q291
         have p292 : 0 ≤ (x13_1 : Int):=of_decide_eq_true az
         have q292 : x13_1 < (l1.length : Int):=of_decide_eq_true az
         obtain ⟨ad292,e292,hx292_0⟩:=Kd.at_int HR1.out x13_1 p292 q292
         cases e292
         replace p292:=eq_true p292
         replace q292:=eq_true q292
         go_wp2
         repeat (go_quiet (fail);try go_wp2)
         go_ret
         exact ⟨by first|rfl|(simp;done)|(simp [*];done),by repeat (first|exact Drawn0.refl _|apply Drawn0.step)⟩
       ·rw [if_neg c7] at H
        exact absurd H (by simp)
      ·rw [if_neg c6] at H
       exact absurd H (by simp)
     ·rw [if_neg c5] at H
      exact absurd H (by simp)
    ·rw [if_neg c4] at H
     have c4b0 : decide (x13_1 < (l0.length : Int)) = false:=decide_eq_false c4
     clear c4
     obtain rfl:=Option.some.inj H
     go_wp2
     repeat (go_quiet (fail);try go_wp2)
     go_ret
     exact ⟨by first|rfl|(simp;done)|(simp [*];done),by repeat (first|exact Drawn0.refl _|apply Drawn0.step)⟩
 ·rw [if_neg c3] at H
  have c3b0 : ((l0.length : Int) == (l1.length : Int)) = false:=beq_eq_false_iff_ne.mpr c3
  have c3b1 : ((l0.length : Int) != (l1.length : Int)) = true:=bne_iff_ne.mpr c3
  have c3b2 : (l0.length == l1.length) = false:=by first|simpa using c3|(simp at c3 ⊢;omega)
  obtain rfl:=Option.some.inj H
  go_enter Try.func10,Try.ntmps10
  go_wp2
  repeat (go_quiet (fail);try go_wp2)
  go_ret
  exact ⟨by first|rfl|(simp;done)|(simp [*];done),by repeat (first|exact Drawn0.refl _|apply Drawn0.step)⟩
/-! ### laws_pHas: function 11 -/
def laws_pHas.l0 : Nat → Int → List Int → Int → Int → Option (Bool)
 | 0,_,_,_,_=>none
 | k + 1,x1,x7,x8,x9=>if x9 < x8 then (if 0 ≤ x9 then (if x9 < (x7.length : Int) then (if (rd x7 x9) = x1 then (some true) else (laws_pHas.l0 k x1 x7 x8 (wrap64 (x9 + 1)))) else (none)) else (none)) else (some false)
def laws_pHas.f (k : Nat) (l0 : List Int) (a1 : Int) : Option (Bool):=laws_pHas.l0 k a1 l0 (l0.length : Int) 0
theorem laws_pHas.mono_l : ∀ k,(∀ y0 y1 y2 y3,LeO (laws_pHas.l0 k y0 y1 y2 y3) (laws_pHas.l0 (k + 1) y0 y1 y2 y3))
 | 0=>fun _ _ _ _ r h=>by simp [laws_pHas.l0] at h
 | k + 1=>by
  have ih0:=laws_pHas.mono_l k
  ·intro y0 y1 y2 y3
   unfold laws_pHas.l0
   repeat' first
   | (with_reducible exact ih0 _ _ _ _)
   | (with_reducible exact LeO.refl _)
   | (with_reducible exact LeO.none _)
   | (with_reducible refine LeO.ite ?_ ?_)
   | (with_reducible refine LeO.bind ?_ (fun _=>?_))
   | exact ih0 _ _ _ _
   | exact LeO.none _
   | refine LeO.ite ?_ ?_
   | refine LeO.bind ?_ (fun _=>?_)
theorem laws_pHas.mono : ∀ a0 a1 k,LeO (laws_pHas.f k a0 a1) (laws_pHas.f (k + 1) a0 a1):=by
 intro a0 a1 k
 have ih0:=laws_pHas.mono_l k
 unfold laws_pHas.f
 repeat' first
   | (with_reducible exact ih0 _ _ _ _)
   | (with_reducible exact LeO.refl _)
   | (with_reducible exact LeO.none _)
   | (with_reducible refine LeO.ite ?_ ?_)
   | (with_reducible refine LeO.bind ?_ (fun _=>?_))
   | exact ih0 _ _ _ _
   | exact LeO.none _
   | refine LeO.ite ?_ ?_
   | refine LeO.bind ?_ (fun _=>?_)
set_option maxHeartbeats 8000000 in
set_option maxRecDepth 100000 in
theorem laws_pHas.calls (k : Nat) (A0 : Option Addr) (c0 : Nat) (l0 : List Int) (a1 : Int) (r : Bool) (w : World) (hr0 : Kd.C (Kd.int .i64) w A0 l0.length l0) (hc0 : l0.length ≤ c0) (h : laws_pHas.f k l0 a1 = some r) :
  Calls Try.prog 11 #[.slice A0 l0.length c0,.int .i64 a1] w fun e w'=>e = .returned (.bool r) ∧ Drawn0 w w':=by
 have HR0:=Aside0.mk hr0
 have HC0:=Aside0.mk hc0
 clear hr0 hc0
 have H : (laws_pHas.l0 k a1 l0 (l0.length : Int) 0) = some r:=h
 clear h
 have H':=Aside0.mk H
 clear H
 go_enter Try.func11,Try.ntmps11
 go_wp2
 go_loopg [9] k (fun kq v9 w'=>∃ (x9_1 : Int),v9 = .int .i64 x9_1 ∧ Aside0 (laws_pHas.l0 kq a1 l0 (l0.length : Int) x9_1 = some r) ∧ Aside0 (kq ≤ k) ∧ Drawn0 w w')
 case atStart=>exact ⟨(0),fz,H',⟨Nat.le_refl _⟩,by repeat (first|exact Drawn0.refl _|apply Drawn0.step)⟩
 case round=>
  clear H'
  try clear c1
  try clear p2
  obtain ⟨x9_1,rfl,HA,HK1,⟨m1,rfl⟩⟩:=hrel
  cases gk with
  | zero=>exact absurd HA.out (by simp [laws_pHas.l0])
  | succ k1=>
   have H:=HA.out
   clear HA
   simp only [laws_pHas.l0] at H
   by_cases c3 : x9_1 < (l0.length : Int)
   ·rw [if_pos c3] at H
    have c3b0 : decide (x9_1 < (l0.length : Int)) = true:=decide_eq_true c3
    clear c3
    by_cases c4 : 0 ≤ x9_1
    ·rw [if_pos c4] at H
     have c4b0 : decide (0 ≤ x9_1) = true:=decide_eq_true c4
     clear c4
     by_cases c5 : x9_1 < (l0.length : Int)
     ·rw [if_pos c5] at H
      have c5b0 : decide (x9_1 < (l0.length : Int)) = true:=decide_eq_true c5
      clear c5
      by_cases c6 : (rd l0 x9_1) = a1
      ·rw [if_pos c6] at H
       have c6b0 : ((rd l0 x9_1) == a1) = true:=beq_iff_eq.mpr c6
       have c6b1 : ((rd l0 x9_1) != a1) = false:=bne_eq_false_iff_eq.mpr c6
       clear c6
       obtain rfl:=Option.some.inj H
       have p293 : 0 ≤ (x9_1 : Int):=of_decide_eq_true az
       have q293 : x9_1 < (l0.length : Int):=of_decide_eq_true az
       obtain ⟨ad293,e293,hx293_0⟩:=Kd.at_int HR0.out x9_1 p293 q293
       cases e293
       replace p293:=eq_true p293
       replace q293:=eq_true q293
       go_wp2
       go_ret
       exact ⟨by first|rfl|(simp;done)|(simp [*];done),by repeat (first|exact Drawn0.refl _|apply Drawn0.step)⟩
      ·rw [if_neg c6] at H
       have c6b0 : ((rd l0 x9_1) == a1) = false:=beq_eq_false_iff_ne.mpr c6
       have c6b1 : ((rd l0 x9_1) != a1) = true:=bne_iff_ne.mpr c6
       have H':=Aside0.mk H
       clear H
       have p293 : 0 ≤ (x9_1 : Int):=of_decide_eq_true az
       have q293 : x9_1 < (l0.length : Int):=of_decide_eq_true az
       obtain ⟨ad293,e293,hx293_0⟩:=Kd.at_int HR0.out x9_1 p293 q293
       cases e293
       replace p293:=eq_true p293
       replace q293:=eq_true q293
       go_wp2
       go_roundg k1
       case measure=>have:=HK1.out;omega
       case rel=>exact ⟨(wrap64 (x9_1 + 1)),fz,H',⟨by have:=HK1.out;omega⟩,by repeat (first|exact Drawn0.refl _|apply Drawn0.step)⟩
     ·rw [if_neg c5] at H
      exact absurd H (by simp)
    ·rw [if_neg c4] at H
     exact absurd H (by simp)
   ·rw [if_neg c3] at H
    have c3b0 : decide (x9_1 < (l0.length : Int)) = false:=decide_eq_false c3
    clear c3
    obtain rfl:=Option.some.inj H
    go_wp2
    go_ret
    exact ⟨by first|rfl|(simp;done)|(simp [*];done),by repeat (first|exact Drawn0.refl _|apply Drawn0.step)⟩
end Go.Proofs.Ytlefjgpkabijdaa.MFnNeededParts
--sq
