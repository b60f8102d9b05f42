import Derived.Test.YtdcdaoancmpbeaaMFnSequencesx0
import Derived.Test.YtdcdaoancmpbeaaMFnSequencesx11
namespace Go.Proofs.Ytdcdaoancmpbeaa.MFnSequences
open Go.RowKit Go.Proofs.YtdcdaoancmpbeaaW.PrintWords Go.Proofs.YtdcdaoancmpbeaaW.PrintLast Go.Proofs.YtdcdaoancmpbeaaW.PrintMore Go.Proofs.YtdcdaoancmpbeaaV Go.Proofs.YtdcdaoancmpbeaaZ
attribute [local go_sem] max2_int min2_int max_two min_two max_three min_three max_four min_four   -- for this text's walks alone
set_option linter.unusedVariables false
set_option linter.unusedSimpArgs false
/-! ### spec_l1Cur_anyChain: function 73 -/
def spec_l1Cur_anyChain.l0 : Nat → List Int → List Int → Int → Int → Option (List Int × Int × Int)
 | 0,_,_,_,_=>none
 | k + 1,x5,x1000,x1001,x1002=>(spec_l1Cur_pick.f x1000 x1001 x1002 2).bind fun bt395=>(if (x5.length : Int) < (wrap64 (41 + bt395.1)) then (if x5.length < 17592186044416 then (spec_l1Cur_anyChain.l0 k (x5 ++ [wrap64 ((x5.length : Int) + 1)]) x1000 bt395.2.1 bt395.2.2) else (none)) else (some (x5,bt395.2.1,bt395.2.2)))
def spec_l1Cur_anyChain.f (k : Nat) (s0_0 : List Int) (s0_1 : Int) (s0_2 : Int) (a1 : Int) : Option (List Int × Int × Int):=(spec_l1Cur_chain.f k s0_0 s0_1 s0_2 a1).bind fun bt373=>((spec_l1Cur_pick.f s0_0 bt373.2.1 bt373.2.2 14).bind fun bt378=>(if bt378.1 = 0 then ((spec_l1Cur_pick.f s0_0 bt378.2.1 bt378.2.2 (bt373.1.length : Int)).bind fun bt381=>(if 0 ≤ bt381.1 then (if bt381.1 < (bt373.1.length : Int) then ((spec_l1Cur_pick.f s0_0 bt381.2.1 bt381.2.2 3).bind fun bt385=>(some ((bt373.1.set (bt381.1 : Int).toNat (wrap64 ((rd bt373.1 bt381.1) + (wrap64 (bt385.1 - 1))))),bt385.2.1,bt385.2.2))) else (none)) else (none))) else (if bt378.1 = 1 then ((spec_l1Cur_pick.f s0_0 bt378.2.1 bt378.2.2 40).bind fun bt389=>(if bt373.1.length < 17592186044416 then (some ((bt373.1 ++ [bt389.1]),bt389.2.1,bt389.2.2)) else (none))) else (if bt378.1 = 2 then (some (([] : List Int),bt378.2.1,bt378.2.2)) else (if bt378.1 = 3 then (spec_l1Cur_anyChain.l0 k ([] : List Int) s0_0 bt378.2.1 bt378.2.2) else (if bt378.1 = 4 then ((some (([1,2,4,8,16,32,64,128,256,512,1024,2048,4096,8192,16384,32768,65536,131072,262144,524288] : List Int) : List Int)).bind fun y401=>((spec_l1Cur_pick.f s0_0 bt378.2.1 bt378.2.2 4).bind fun bt404=>((some (([786432,wrap64 (786432 + (wrap64 (131072 * bt404.1)))] : List Int) : List Int)).bind fun y407=>(if y401.length + y407.length < 17592186044416 then (some ((y401 ++ y407),bt404.2.1,bt404.2.2)) else (none))))) else (some (bt373.1,bt378.2.1,bt378.2.2))))))))
theorem spec_l1Cur_anyChain.mono_l : ∀ k,(∀ y0 y1 y2 y3,LeO (spec_l1Cur_anyChain.l0 k y0 y1 y2 y3) (spec_l1Cur_anyChain.l0 (k + 1) y0 y1 y2 y3))
 | 0=>fun _ _ _ _ r h=>by simp [spec_l1Cur_anyChain.l0] at h
 | k + 1=>by
  have ih0:=spec_l1Cur_anyChain.mono_l k
  ·intro y0 y1 y2 y3
   unfold spec_l1Cur_anyChain.l0
   repeat' first
   | (with_reducible exact ih0 _ _ _ _)
   | (with_reducible exact spec_l1Cur_chain.mono _ _ _ _ _)
   | (with_reducible exact LeO.refl _)
   | (with_reducible exact LeO.none _)
   | (with_reducible refine LeO.ite ?_ ?_)
   | (with_reducible refine LeO.bind ?_ (fun _=>?_))
   | exact ih0 _ _ _ _
   | exact spec_l1Cur_chain.mono _ _ _ _ _
   | exact LeO.none _
   | refine LeO.ite ?_ ?_
   | refine LeO.bind ?_ (fun _=>?_)
theorem spec_l1Cur_anyChain.mono : ∀ a0 a1 a2 a3 k,LeO (spec_l1Cur_anyChain.f k a0 a1 a2 a3) (spec_l1Cur_anyChain.f (k + 1) a0 a1 a2 a3):=by
 intro a0 a1 a2 a3 k
 have ih0:=spec_l1Cur_anyChain.mono_l k
 unfold spec_l1Cur_anyChain.f
 repeat' first
   | (with_reducible exact ih0 _ _ _ _)
   | (with_reducible exact spec_l1Cur_chain.mono _ _ _ _ _)
   | (with_reducible exact LeO.refl _)
   | (with_reducible exact LeO.none _)
   | (with_reducible refine LeO.ite ?_ ?_)
   | (with_reducible refine LeO.bind ?_ (fun _=>?_))
   | exact ih0 _ _ _ _
   | exact spec_l1Cur_chain.mono _ _ _ _ _
   | exact LeO.none _
   | refine LeO.ite ?_ ?_
   | refine LeO.bind ?_ (fun _=>?_)
def spec_l1Cur_anyChain.T4 : Bool × List (List Nat × List Nat):=(true,[([],[]),([],[]),([],[]),([2],[2]),([1,3],[1,3]),([0,4],[0,4]),([5],[5]),([],[]),([7,4],[7]),([8],[8]),([6,9],[6,9]),([0,4,0,1,2,3,4,5,6,7,8,9,10],[0,4]),([11,10,8,0,1,2,3,4,5,6,7,8,9,10],[10,11])])
def spec_l1Cur_anyChain.B4 : List Nat:=[0,0,0,4,14,31,63,0,158,414,1023,2047,4095]
theorem spec_l1Cur_anyChain.tab4 : rtab .any (opsOf Try.f73 4) = spec_l1Cur_anyChain.T4:=by kernel_rfl
theorem spec_l1Cur_anyChain.bits4 : waitsOk spec_l1Cur_anyChain.T4.2 spec_l1Cur_anyChain.B4 = true:=by kernel_rfl
set_option maxHeartbeats 8000000 in
set_option maxRecDepth 100000 in
theorem spec_l1Cur_anyChain.calls (k : Nat) (g : Nat) (s0_0 : List Int) (s0_1 : Int) (s0_2 : Int) (a1 : Int) (r1 : List Int) (r2 : Int) (r3 : Int) (w0 w : World) (hI : IsS84 w0 w g s0_0 s0_1 s0_2) (hB : Below w0.heap.size w0 w) (h : spec_l1Cur_anyChain.f k s0_0 s0_1 s0_2 a1 = some (r1,r2,r3)) :
  Calls Try.prog 73 #[.pointer (some ⟨g,0,none⟩),.int .i64 a1] w fun e w'=>∃ v0_ : Value,e = .returned (v0_) ∧ Kd.R (Kd.int .i64) 3 w' w.heap.size (fun _=>True) v0_ r1 ∧ IsS84 w0 w' g s0_0 r2 r3 ∧ Below w0.heap.size w0 w' ∧ KeepBut w w' g none:=by
 have HI0:=Aside0.mk hI
 have HK:=Aside0.mk (KeepBut.refl w g none)
 have HL:=Aside0.mk hB.size
 clear hI
 have HW0:=Aside0.mk hB.size
 have HB:=Aside0.mk hB
 clear hB
 have H : ((spec_l1Cur_chain.f k s0_0 s0_1 s0_2 a1).bind fun bt373=>((spec_l1Cur_pick.f s0_0 bt373.2.1 bt373.2.2 14).bind fun bt378=>(if bt378.1 = 0 then ((spec_l1Cur_pick.f s0_0 bt378.2.1 bt378.2.2 (bt373.1.length : Int)).bind fun bt381=>(if 0 ≤ bt381.1 then (if bt381.1 < (bt373.1.length : Int) then ((spec_l1Cur_pick.f s0_0 bt381.2.1 bt381.2.2 3).bind fun bt385=>(some ((bt373.1.set (bt381.1 : Int).toNat (wrap64 ((rd bt373.1 bt381.1) + (wrap64 (bt385.1 - 1))))),bt385.2.1,bt385.2.2))) else (none)) else (none))) else (if bt378.1 = 1 then ((spec_l1Cur_pick.f s0_0 bt378.2.1 bt378.2.2 40).bind fun bt389=>(if bt373.1.length < 17592186044416 then (some ((bt373.1 ++ [bt389.1]),bt389.2.1,bt389.2.2)) else (none))) else (if bt378.1 = 2 then (some (([] : List Int),bt378.2.1,bt378.2.2)) else (if bt378.1 = 3 then (spec_l1Cur_anyChain.l0 k ([] : List Int) s0_0 bt378.2.1 bt378.2.2) else (if bt378.1 = 4 then ((some (([1,2,4,8,16,32,64,128,256,512,1024,2048,4096,8192,16384,32768,65536,131072,262144,524288] : List Int) : List Int)).bind fun y401=>((spec_l1Cur_pick.f s0_0 bt378.2.1 bt378.2.2 4).bind fun bt404=>((some (([786432,wrap64 (786432 + (wrap64 (131072 * bt404.1)))] : List Int) : List Int)).bind fun y407=>(if y401.length + y407.length < 17592186044416 then (some ((y401 ++ y407),bt404.2.1,bt404.2.2)) else (none))))) else (some (bt373.1,bt378.2.1,bt378.2.2))))))))) = some (r1,r2,r3):=h
 clear h
 replace H:=Option.bind_eq_some_iff.mp H
 obtain ⟨⟨t373,t376,t377⟩,A30,H⟩:=H
 replace H : ((spec_l1Cur_pick.f s0_0 t376 t377 14).bind fun bt378=>(if bt378.1 = 0 then ((spec_l1Cur_pick.f s0_0 bt378.2.1 bt378.2.2 (t373.length : Int)).bind fun bt381=>(if 0 ≤ bt381.1 then (if bt381.1 < (t373.length : Int) then ((spec_l1Cur_pick.f s0_0 bt381.2.1 bt381.2.2 3).bind fun bt385=>(some ((t373.set (bt381.1 : Int).toNat (wrap64 ((rd t373 bt381.1) + (wrap64 (bt385.1 - 1))))),bt385.2.1,bt385.2.2))) else (none)) else (none))) else (if bt378.1 = 1 then ((spec_l1Cur_pick.f s0_0 bt378.2.1 bt378.2.2 40).bind fun bt389=>(if t373.length < 17592186044416 then (some ((t373 ++ [bt389.1]),bt389.2.1,bt389.2.2)) else (none))) else (if bt378.1 = 2 then (some (([] : List Int),bt378.2.1,bt378.2.2)) else (if bt378.1 = 3 then (spec_l1Cur_anyChain.l0 k ([] : List Int) s0_0 bt378.2.1 bt378.2.2) else (if bt378.1 = 4 then ((some (([1,2,4,8,16,32,64,128,256,512,1024,2048,4096,8192,16384,32768,65536,131072,262144,524288] : List Int) : List Int)).bind fun y401=>((spec_l1Cur_pick.f s0_0 bt378.2.1 bt378.2.2 4).bind fun bt404=>((some (([786432,wrap64 (786432 + (wrap64 (131072 * bt404.1)))] : List Int) : List Int)).bind fun y407=>(if y401.length + y407.length < 17592186044416 then (some ((y401 ++ y407),bt404.2.1,bt404.2.2)) else (none))))) else (some (t373,bt378.2.1,bt378.2.2)))))))) = some (r1,r2,r3):=H
 have A3:=Aside0.mk A30
 clear A30
 replace H:=Option.bind_eq_some_iff.mp H
 obtain ⟨⟨t378,t379,t380⟩,A40,H⟩:=H
 replace H : (if t378 = 0 then ((spec_l1Cur_pick.f s0_0 t379 t380 (t373.length : Int)).bind fun bt381=>(if 0 ≤ bt381.1 then (if bt381.1 < (t373.length : Int) then ((spec_l1Cur_pick.f s0_0 bt381.2.1 bt381.2.2 3).bind fun bt385=>(some ((t373.set (bt381.1 : Int).toNat (wrap64 ((rd t373 bt381.1) + (wrap64 (bt385.1 - 1))))),bt385.2.1,bt385.2.2))) else (none)) else (none))) else (if t378 = 1 then ((spec_l1Cur_pick.f s0_0 t379 t380 40).bind fun bt389=>(if t373.length < 17592186044416 then (some ((t373 ++ [bt389.1]),bt389.2.1,bt389.2.2)) else (none))) else (if t378 = 2 then (some (([] : List Int),t379,t380)) else (if t378 = 3 then (spec_l1Cur_anyChain.l0 k ([] : List Int) s0_0 t379 t380) else (if t378 = 4 then ((some (([1,2,4,8,16,32,64,128,256,512,1024,2048,4096,8192,16384,32768,65536,131072,262144,524288] : List Int) : List Int)).bind fun y401=>((spec_l1Cur_pick.f s0_0 t379 t380 4).bind fun bt404=>((some (([786432,wrap64 (786432 + (wrap64 (131072 * bt404.1)))] : List Int) : List Int)).bind fun y407=>(if y401.length + y407.length < 17592186044416 then (some ((y401 ++ y407),bt404.2.1,bt404.2.2)) else (none))))) else (some (t373,t379,t380))))))) = some (r1,r2,r3):=H
 have A4:=Aside0.mk A40
 clear A40
 by_cases c5 : t378 = 0
 ·rw [if_pos c5] at H
  have c5b0 : (t378 == 0) = true:=beq_iff_eq.mpr c5
  have c5b1 : (t378 != 0) = false:=bne_eq_false_iff_eq.mpr c5
  clear c5
  replace H:=Option.bind_eq_some_iff.mp H
  obtain ⟨⟨t381,t382,t383⟩,A60,H⟩:=H
  replace H : (if 0 ≤ t381 then (if t381 < (t373.length : Int) then ((spec_l1Cur_pick.f s0_0 t382 t383 3).bind fun bt385=>(some ((t373.set (t381 : Int).toNat (wrap64 ((rd t373 t381) + (wrap64 (bt385.1 - 1))))),bt385.2.1,bt385.2.2))) else (none)) else (none)) = some (r1,r2,r3):=H
  have A6:=Aside0.mk A60
  clear A60
  by_cases c7 : 0 ≤ t381
  ·rw [if_pos c7] at H
   have c7b0 : decide (0 ≤ t381) = true:=decide_eq_true c7
   clear c7
   by_cases c8 : t381 < (t373.length : Int)
   ·rw [if_pos c8] at H
    have c8b0 : decide (t381 < (t373.length : Int)) = true:=decide_eq_true c8
    clear c8
    replace H:=Option.bind_eq_some_iff.mp H
    obtain ⟨⟨t385,t386,t387⟩,A90,H⟩:=H
    replace H : (some ((t373.set (t381 : Int).toNat (wrap64 ((rd t373 t381) + (wrap64 (t385 - 1))))),t386,t387)) = some (r1,r2,r3):=H
    have A9:=Aside0.mk A90
    clear A90
    obtain ⟨y388,hy388⟩ : ∃ y_ : List Int,y_ = (t373.set (t381 : Int).toNat (wrap64 ((rd t373 t381) + (wrap64 (t385 - 1))))):=⟨_,rfl⟩
    replace H : (some (y388,t386,t387)) = some (r1,r2,r3):=by first|(rw [hy388];with_reducible exact H)|(have H2_:=(Option.bind_some _ _).symm.trans H;rw [hy388];with_reducible exact H2_)|(have H2_:=(Option.bind_some _ _).symm.trans H;with_reducible exact H2_)|with_reducible exact H|(rw [hy388];exact H)|exact H
    have Ny388:=Aside0.mk hy388
    clear hy388
    simp only [Option.some.injEq,Prod.mk.injEq] at H
    obtain ⟨rfl,rfl,rfl⟩:=H
    go_enter Try.func73,Try.ntmps73
    try go_wp2_with (first|((with_reducible refine gate_callee (f:=115) rfl ?_);refine goesL_ (some 8) rfl rfl Try.func115 (by kernel_rfl) rfl #[.pointer (some ⟨g,0,none⟩),.int .i64 a1] rfl mz ?_;(with_reducible refine (spec_l1Cur_chain.calls k g s0_0 s0_1 s0_2 a1 t373 t376 t377 w0 _ ?side1 ?side2 A3.out).mono ?_);(case side1=>repeat (first|(with_reducible first|exact HI0.out|apply IsS84.alloc|apply IsS84.drewN|apply IsS84.drew|apply IsS84.set_1|apply IsS84.set_2)|exact HI0.out));(case side2=>repeat (first|(with_reducible first|exact HB.out|apply below_alloc|apply pw_below_drewN|apply below_drew1|refine below_set ?_ (IsS84.ge HI0.out))|exact HB.out));rintro e w11 ⟨v374,rfl,ho0,hi,hb,hk⟩;refine ⟨_,rfl,?_⟩;have n0_:=Aside0.mk (Kd.R_lower ho0 (keep_size (w:=w) (g:=g) (row:=none) (by repeat (first|(with_reducible first|exact HK.out|apply KeepBut.set_|apply keep_drewN|apply keep_drew|apply keep_alloc)|exact HK.out))));have n1_:=Aside0.mk (KeepBut.trans (by repeat (first|(with_reducible first|exact HK.out|apply KeepBut.set_|apply keep_drewN|apply keep_drew|apply keep_alloc)|exact HK.out)) hk (.inl rfl));have n2_:=Aside0.mk (hb);have n3_:=Aside0.mk (hi);clear HK HB HI0;have HO375:=n0_;have HK:=n1_;have HB:=n2_;have HI0:=n3_;clear n0_ n1_ n2_ n3_;(try clear hb);(try clear hb2);(try clear hk);(try clear hi);(try clear ho0))|((with_reducible refine gate_callee (f:=74) rfl ?_);refine goesL_ (some 10) rfl rfl Try.func74 (by kernel_rfl) rfl #[.pointer (some ⟨g,0,none⟩),.int .i64 14] rfl mz ?_;(with_reducible refine (spec_l1Cur_pick.calls g s0_0 t376 t377 14 t378 t379 t380 w0 _ ?side1 ?side2 A4.out).mono ?_);(case side1=>repeat (first|(with_reducible first|exact HI0.out|apply IsS84.alloc|apply IsS84.drewN|apply IsS84.drew|apply IsS84.set_1|apply IsS84.set_2)|exact HI0.out));(case side2=>repeat (first|(with_reducible first|exact HB.out|apply below_alloc|apply pw_below_drewN|apply below_drew1|refine below_set ?_ (IsS84.ge HI0.out))|exact HB.out));rintro e w12 ⟨rfl,hi,hb,hk⟩;refine ⟨_,rfl,?_⟩;have n0_:=Aside0.mk (Kd.R_mono (Kd.R_keep (IsS84.apart (show IsS84 w0 _ g s0_0 t376 t377 from by repeat (first|(with_reducible first|exact HI0.out|apply IsS84.alloc|apply IsS84.drewN|apply IsS84.drew|apply IsS84.set_1|apply IsS84.set_2)|exact HI0.out)) (rz HO375.out) (by decide)) hk (fun _ h=>h.2)) (fun _ h=>h.1));have n1_:=Aside0.mk (KeepBut.trans (by repeat (first|(with_reducible first|exact HK.out|apply KeepBut.set_|apply keep_drewN|apply keep_drew|apply keep_alloc)|exact HK.out)) hk (.inl rfl));have n2_:=Aside0.mk (hb);have n3_:=Aside0.mk (hi);clear HO375 HK HB HI0;have HO375:=n0_;have HK:=n1_;have HB:=n2_;have HI0:=n3_;clear n0_ n1_ n2_ n3_;(try clear hb);(try clear hb2);(try clear hk);(try clear hi)))
    have n0_:=Aside0.mk (Kd.R_drew HO375.out)
    have n1_:=Aside0.mk (IsS84.drew HI0.out)
    have n2_:=Aside0.mk (keep_drew HK.out)
    have n3_:=Aside0.mk (below_drew1 HB.out)
    clear HO375
    clear HI0
    clear HK
    clear HB
    have HO375:=n0_
    have HI0:=n1_
    have HK:=n2_
    have HB:=n3_
    clear n0_ n1_ n2_ n3_
    obtain ⟨Ao14,co14,eo14⟩:=Kd.R_slice HO375.out
    (first|subst eo14|(injection eo14 with f1_ f2_ f3_;have f4_:=f1_.symm;have f5_:=f3_.symm;clear f1_ f2_ f3_;subst f4_;subst f5_))
    have p384 : 0 ≤ (t381 : Int):=of_decide_eq_true az
    have q384 : t381 < (t373.length : Int):=of_decide_eq_true az
    obtain ⟨ad384,e384,hx384_0⟩:=Kd.at_int (Kd.R_reads' HO375.out).2.2 t381 p384 q384
    cases e384
    replace p384:=eq_true p384
    replace q384:=eq_true q384
    refine start_ (n:=13) (S:=fun w'=>w'.cell? (ad384.add (t381).toNat) = some (.int .i64 (rd t373 t381))) (ds:=[12]) #[false,false,false,false,false,false,false,false,false,false,false,false,false] (by kernel_rfl) rfl rfl (hx384_0) (fun hHeld=>?_);refine with_tabW spec_l1Cur_anyChain.tab4 spec_l1Cur_anyChain.bits4 (fun HT_ HW_=>?_)
    generalize w12.drew = w13 at HO375 HI0 HK HB hx384_0 hHeld ⊢
    refine pure_ (i:=0) (N:=some 13) (v:=?_) (a':=?_) #[true,false,false,false,false,false,false,false,false,false,false,false,false] rfl rfl (any_of HT_.out (by kernel_rfl)) (fun _ _ _ h=>h) (Or.inl ⟨by rfl,?_⟩) ?_ ?_
    rotate_left
    ·intro w'
     go_simp
     with_reducible rfl
    rotate_left
    ·simp only [Act.put,List.setIfInBounds_toArray,List.set_cons_zero,List.set_cons_succ,i64_w,i32_w]
     rfl
    refine pure_ (i:=1) (N:=some 14) (v:=?_) (a':=?_) #[true,true,false,false,false,false,false,false,false,false,false,false,false] rfl rfl (any_of HT_.out (by kernel_rfl)) (fun _ _ _ h=>h) (Or.inl ⟨by rfl,?_⟩) ?_ ?_
    rotate_left
    ·intro w'
     go_simp
     with_reducible rfl
    rotate_left
    ·simp only [Act.put,List.setIfInBounds_toArray,List.set_cons_zero,List.set_cons_succ,i64_w,i32_w]
     rfl
    refine pure_ (i:=2) (N:=some 15) (v:=?_) (a':=?_) #[true,true,true,false,false,false,false,false,false,false,false,false,false] rfl rfl (any_of HT_.out (by kernel_rfl)) (fun _ _ _ h=>h) (Or.inl ⟨by rfl,?_⟩) ?_ ?_
    rotate_left
    ·intro w'
     go_simp
     with_reducible rfl
    rotate_left
    ·simp only [Act.put,List.setIfInBounds_toArray,List.set_cons_zero,List.set_cons_succ,i64_w,i32_w]
     rfl
    refine pure_ (i:=3) (N:=some 16) (v:=?_) (a':=?_) #[true,true,true,true,false,false,false,false,false,false,false,false,false] rfl rfl (any_of HT_.out (by kernel_rfl)) (fun _ _ _ h=>h) (Or.inl ⟨by rfl,?_⟩) ?_ ?_
    rotate_left
    ·intro w'
     go_simp
     with_reducible rfl
    rotate_left
    ·simp only [Act.put,List.setIfInBounds_toArray,List.set_cons_zero,List.set_cons_succ,i64_w,i32_w]
     rfl
    refine pure_ (i:=7) (N:=some 20) (v:=?_) (a':=?_) #[true,true,true,true,false,false,false,true,false,false,false,false,false] rfl rfl (any_of HT_.out (by kernel_rfl)) (fun _ _ _ h=>h) (Or.inl ⟨by rfl,?_⟩) ?_ ?_
    rotate_left
    ·intro w'
     go_simp
     with_reducible rfl
    rotate_left
    ·simp only [Act.put,List.setIfInBounds_toArray,List.set_cons_zero,List.set_cons_succ,i64_w,i32_w]
     rfl
    refine one_ (i:=4) (N:=some 17) #[true,true,true,true,true,false,false,true,false,false,false,false,false] rfl rfl (one_of HT_.out (by kernel_rfl)) (by decide) (fun K hK=>?_)
    refine goes_ Try.func74 (by kernel_rfl) rfl #[.pointer (some ⟨g,0,none⟩),.int .i64 (t373.length : Int)] (by rfl) rfl rfl mz ?_
    with_reducible refine (spec_l1Cur_pick.calls g s0_0 t379 t380 (t373.length : Int) t381 t382 t383 w0 _ ?side1 ?side2 A6.out).mono ?_
    (case side1=>repeat (first|(with_reducible first|exact HI0.out|apply IsS84.alloc|apply IsS84.drewN|apply IsS84.drew|apply IsS84.set_1|apply IsS84.set_2)|exact HI0.out))
    (case side2=>repeat (first|(with_reducible first|exact HB.out|apply below_alloc|apply pw_below_drewN|apply below_drew1|refine below_set ?_ (IsS84.ge HI0.out))|exact HB.out))
    rintro e w15 ⟨rfl,hi,hb,hk⟩
    have HS0_:=keep_cell hk (hHeld) (by first|(rw [add_block];exact Kd.own_blk (IsS84.own_ne HI0.out HO375.out (by decide)))|(show (Addr.add _ _).block ≠ _;rw [add_block];exact Kd.own_blk (IsS84.own_ne HI0.out HO375.out (by decide)))|exact Kd.own_blk (IsS84.own_ne HI0.out HO375.out (by decide)))
    refine ⟨_,rfl,?_⟩
    have n0_:=Aside0.mk (Kd.R_mono (Kd.R_keep (IsS84.apart (show IsS84 w0 _ g s0_0 t379 t380 from by repeat (first|(with_reducible first|exact HI0.out|apply IsS84.alloc|apply IsS84.drewN|apply IsS84.drew|apply IsS84.set_1|apply IsS84.set_2)|exact HI0.out)) (rz HO375.out) (by decide)) hk (fun _ h=>h.2)) (fun _ h=>h.1))
    have n1_:=Aside0.mk (KeepBut.trans (by repeat (first|(with_reducible first|exact HK.out|apply KeepBut.set_|apply keep_drewN|apply keep_drew|apply keep_alloc)|exact HK.out)) hk (.inl rfl))
    have n2_:=Aside0.mk (hb)
    have n3_:=Aside0.mk (hi)
    clear HO375
    clear HK
    clear HB
    clear HI0
    have HO375:=n0_
    have HK:=n1_
    have HB:=n2_
    have HI0:=n3_
    clear n0_ n1_ n2_ n3_
    (try clear hb)
    (try clear hb2)
    (try clear hk)
    (try clear hi)
    refine hK.out _ _ (HS0_) (fun hHeld=>?_)
    clear hK K
    refine norm_ (a':=?_) ?_ ?_
    rotate_left
    ·show Act.put _ (some 17) _ = _
     simp only [Act.put,List.setIfInBounds_toArray,List.set_cons_zero,List.set_cons_succ,i64_w,i32_w]
     rfl
    refine pure_ (i:=5) (N:=some 18) (v:=?_) (a':=?_) #[true,true,true,true,true,true,false,true,false,false,false,false,false] rfl rfl (any_of HT_.out (by kernel_rfl)) (fun _ _ _ h=>h) (Or.inl ⟨by rfl,?_⟩) ?_ ?_
    rotate_left
    ·intro w'
     go_simp
     with_reducible rfl
    rotate_left
    ·simp only [Act.put,List.setIfInBounds_toArray,List.set_cons_zero,List.set_cons_succ,i64_w,i32_w]
     rfl
    refine take_ (i:=6) (N:=some 19) (v:=?_) (a':=?_) #[true,true,true,true,true,true,true,true,false,false,false,false,false] rfl rfl (take_ofW HT_.out HW_.out (by kernel_rfl)) (fun _ _ _ h=>h) (Or.inl ⟨by rfl,?_⟩) hHeld ?_ ?_
    rotate_left
    ·intro w' s0
     go_simp
     with_reducible rfl
    rotate_left
    ·simp only [Act.put,List.setIfInBounds_toArray,List.set_cons_zero,List.set_cons_succ,i64_w,i32_w]
     rfl
    refine one_ (i:=8) (N:=some 21) #[true,true,true,true,true,true,true,true,true,false,false,false,false] rfl rfl (one_of HT_.out (by kernel_rfl)) (by decide) (fun K hK=>?_)
    refine goes_ Try.func74 (by kernel_rfl) rfl #[.pointer (some ⟨g,0,none⟩),.int .i64 3] (by rfl) rfl rfl mz ?_
    with_reducible refine (spec_l1Cur_pick.calls g s0_0 t382 t383 3 t385 t386 t387 w0 _ ?side1 ?side2 A9.out).mono ?_
    (case side1=>repeat (first|(with_reducible first|exact HI0.out|apply IsS84.alloc|apply IsS84.drewN|apply IsS84.drew|apply IsS84.set_1|apply IsS84.set_2)|exact HI0.out))
    (case side2=>repeat (first|(with_reducible first|exact HB.out|apply below_alloc|apply pw_below_drewN|apply below_drew1|refine below_set ?_ (IsS84.ge HI0.out))|exact HB.out))
    rintro e w16 ⟨rfl,hi,hb,hk⟩
    have HS0_:=keep_cell hk (hHeld) (by first|(rw [add_block];exact Kd.own_blk (IsS84.own_ne HI0.out HO375.out (by decide)))|(show (Addr.add _ _).block ≠ _;rw [add_block];exact Kd.own_blk (IsS84.own_ne HI0.out HO375.out (by decide)))|exact Kd.own_blk (IsS84.own_ne HI0.out HO375.out (by decide)))
    refine ⟨_,rfl,?_⟩
    have n0_:=Aside0.mk (Kd.R_mono (Kd.R_keep (IsS84.apart (show IsS84 w0 _ g s0_0 t382 t383 from by repeat (first|(with_reducible first|exact HI0.out|apply IsS84.alloc|apply IsS84.drewN|apply IsS84.drew|apply IsS84.set_1|apply IsS84.set_2)|exact HI0.out)) (rz HO375.out) (by decide)) hk (fun _ h=>h.2)) (fun _ h=>h.1))
    have n1_:=Aside0.mk (KeepBut.trans (by repeat (first|(with_reducible first|exact HK.out|apply KeepBut.set_|apply keep_drewN|apply keep_drew|apply keep_alloc)|exact HK.out)) hk (.inl rfl))
    have n2_:=Aside0.mk (hb)
    have n3_:=Aside0.mk (hi)
    clear HO375
    clear HK
    clear HB
    clear HI0
    have HO375:=n0_
    have HK:=n1_
    have HB:=n2_
    have HI0:=n3_
    clear n0_ n1_ n2_ n3_
    (try clear hb)
    (try clear hb2)
    (try clear hk)
    (try clear hi)
    have p10 : 0 ≤ (t381 : Int):=of_decide_eq_true az
    have q10 : (t381 : Int) < ((t373.length : Int) : Int):=of_decide_eq_true az
    obtain ⟨go10,co10,eo10,gb10,gl10,cl10,HG10⟩:=Kd.R_form HO375.out (by omega)
    (first|cases eo10|(injection eo10 with ea_ en_ ec_;(first|subst ea_|(injection ea_ with ea_;subst ea_));subst ec_;clear en_))
    have GB10:=Aside0.mk gb10
    have GG10:=Aside0.mk HG10
    clear gb10 gl10 HG10
    (first|simp only [add_plain] at hx384_0|skip)
    obtain ⟨hx10_0,hf10_0⟩:=Kd.R_celln 0 HO375.out (t381 : Int) p10 q10
    replace p10:=eq_true p10
    replace q10:=eq_true q10
    have HN0_go10:=Aside0.mk (show g ≠ go10 from by have h_:=IsS84.own_ne HI0.out HO375.out (by decide);intro e_;exact h_ (by rw [e_];rfl))
    have HP17:=Kd.R_putn HO375.out (t381 : Int) (wrap64 ((rd t373 t381) + (wrap64 (t385 - 1))))
    rw [← Ny388.out] at HP17
    have HQ17:=Aside0.mk HP17
    clear HP17
    refine hK.out _ _ (HS0_) (fun hHeld=>?_)
    clear hK K
    refine norm_ (a':=?_) ?_ ?_
    rotate_left
    ·show Act.put _ (some 21) _ = _
     simp only [Act.put,List.setIfInBounds_toArray,List.set_cons_zero,List.set_cons_succ,i64_w,i32_w]
     rfl
    refine pure_ (i:=9) (N:=some 22) (v:=?_) (a':=?_) #[true,true,true,true,true,true,true,true,true,true,false,false,false] rfl rfl (any_of HT_.out (by kernel_rfl)) (fun _ _ _ h=>h) (Or.inl ⟨by rfl,?_⟩) ?_ ?_
    rotate_left
    ·intro w'
     go_simp
     with_reducible rfl
    rotate_left
    ·simp only [Act.put,List.setIfInBounds_toArray,List.set_cons_zero,List.set_cons_succ,i64_w,i32_w]
     rfl
    refine pure_ (i:=10) (N:=some 23) (v:=?_) (a':=?_) #[true,true,true,true,true,true,true,true,true,true,true,false,false] rfl rfl (any_of HT_.out (by kernel_rfl)) (fun _ _ _ h=>h) (Or.inl ⟨by rfl,?_⟩) ?_ ?_
    rotate_left
    ·intro w'
     go_simp
     with_reducible rfl
    rotate_left
    ·simp only [Act.put,List.setIfInBounds_toArray,List.set_cons_zero,List.set_cons_succ,i64_w,i32_w]
     rfl
    refine pure_ (i:=11) (N:=some 24) (v:=?_) (a':=?_) #[true,true,true,true,true,true,true,true,true,true,true,true,false] rfl rfl (any_of HT_.out (by kernel_rfl)) (fun _ _ _ h=>h) (Or.inl ⟨by rfl,?_⟩) ?_ ?_
    rotate_left
    ·intro w'
     go_simp
     with_reducible rfl
    rotate_left
    ·simp only [Act.put,List.setIfInBounds_toArray,List.set_cons_zero,List.set_cons_succ,i64_w,i32_w]
     rfl
    refine last_ (i:=12) (N:=none) #[true,true,true,true,true,true,true,true,true,true,true,true,true] rfl rfl (one_of HT_.out (by kernel_rfl)) (by decide) (fun K hK=>?_)
    refine skip_ (w1:=?_) (by rfl) rfl ?_ ?_
    rotate_left
    ·go_simp
     rfl
    refine hK.out _ _ ?_
    clear hK K
    refine done_ (done_of HT_.out (by kernel_rfl)) ?_
    try go_wp2
    go_ret
    exact ⟨_,by first|rfl|(simp [errW_none,errW_some] <;> rfl)|(simp [*,errW_none,errW_some] <;> rfl),by (with_reducible repeat (first|apply Kd.R_alloc|apply Kd.R_drewN|apply Kd.R_drew));exact HQ17.out,by repeat (first|(with_reducible first|exact HI0.out|apply IsS84.alloc|apply IsS84.drewN|apply IsS84.drew|apply IsS84.set_1|apply IsS84.set_2|refine IsS84.far ?_ HN0_go10.out _)|exact HI0.out),by repeat (first|(with_reducible first|exact HB.out|apply below_alloc|apply pw_below_drewN|apply below_drew1|refine below_set ?_ (Nat.le_trans HL.out GB10.out)|refine below_set ?_ (IsS84.ge HI0.out))|exact HB.out),by repeat (first|(with_reducible first|exact HK.out|apply KeepBut.set_|apply keep_drewN|apply keep_drew|apply keep_alloc|refine keep_far ?_ GB10.out _)|exact HK.out)⟩
   ·rw [if_neg c8] at H
    exact absurd H (by simp)
  ·rw [if_neg c7] at H
   exact absurd H (by simp)
 ·rw [if_neg c5] at H
  have c5b0 : (t378 == 0) = false:=beq_eq_false_iff_ne.mpr c5
  have c5b1 : (t378 != 0) = true:=bne_iff_ne.mpr c5
  by_cases c18 : t378 = 1
  ·rw [if_pos c18] at H
   have c18b0 : (t378 == 1) = true:=beq_iff_eq.mpr c18
   have c18b1 : (t378 != 1) = false:=bne_eq_false_iff_eq.mpr c18
   clear c18
   replace H:=Option.bind_eq_some_iff.mp H
   obtain ⟨⟨t389,t390,t391⟩,A190,H⟩:=H
   replace H : (if t373.length < 17592186044416 then (some ((t373 ++ [t389]),t390,t391)) else (none)) = some (r1,r2,r3):=H
   have A19:=Aside0.mk A190
   clear A190
   by_cases c20 : t373.length < 17592186044416
   ·rw [if_pos c20] at H
    have LMc20:=Aside0.mk c20
    clear c20
    obtain ⟨y392,hy392⟩ : ∃ y_ : List Int,y_ = (t373 ++ [t389]):=⟨_,rfl⟩
    replace H : (some (y392,t390,t391)) = some (r1,r2,r3):=by first|(rw [hy392];with_reducible exact H)|(have H2_:=(Option.bind_some _ _).symm.trans H;rw [hy392];with_reducible exact H2_)|(have H2_:=(Option.bind_some _ _).symm.trans H;with_reducible exact H2_)|with_reducible exact H|(rw [hy392];exact H)|exact H
    have Ny392:=Aside0.mk hy392
    clear hy392
    simp only [Option.some.injEq,Prod.mk.injEq] at H
    obtain ⟨rfl,rfl,rfl⟩:=H
    go_enter Try.func73,Try.ntmps73
    go_wp2_with (first|((with_reducible refine gate_callee (f:=115) rfl ?_);refine goesL_ (some 8) rfl rfl Try.func115 (by kernel_rfl) rfl #[.pointer (some ⟨g,0,none⟩),.int .i64 a1] rfl mz ?_;(with_reducible refine (spec_l1Cur_chain.calls k g s0_0 s0_1 s0_2 a1 t373 t376 t377 w0 _ ?side1 ?side2 A3.out).mono ?_);(case side1=>repeat (first|(with_reducible first|exact HI0.out|apply IsS84.alloc|apply IsS84.drewN|apply IsS84.drew|apply IsS84.set_1|apply IsS84.set_2)|exact HI0.out));(case side2=>repeat (first|(with_reducible first|exact HB.out|apply below_alloc|apply pw_below_drewN|apply below_drew1|refine below_set ?_ (IsS84.ge HI0.out))|exact HB.out));rintro e w21 ⟨v374,rfl,ho0,hi,hb,hk⟩;refine ⟨_,rfl,?_⟩;have n0_:=Aside0.mk (Kd.R_lower ho0 (keep_size (w:=w) (g:=g) (row:=none) (by repeat (first|(with_reducible first|exact HK.out|apply KeepBut.set_|apply keep_drewN|apply keep_drew|apply keep_alloc)|exact HK.out))));have n1_:=Aside0.mk (KeepBut.trans (by repeat (first|(with_reducible first|exact HK.out|apply KeepBut.set_|apply keep_drewN|apply keep_drew|apply keep_alloc)|exact HK.out)) hk (.inl rfl));have n2_:=Aside0.mk (hb);have n3_:=Aside0.mk (hi);clear HK HB HI0;have HO375:=n0_;have HK:=n1_;have HB:=n2_;have HI0:=n3_;clear n0_ n1_ n2_ n3_;(try clear hb);(try clear hb2);(try clear hk);(try clear hi);(try clear ho0))|((with_reducible refine gate_callee (f:=74) rfl ?_);refine goesL_ (some 10) rfl rfl Try.func74 (by kernel_rfl) rfl #[.pointer (some ⟨g,0,none⟩),.int .i64 14] rfl mz ?_;(with_reducible refine (spec_l1Cur_pick.calls g s0_0 t376 t377 14 t378 t379 t380 w0 _ ?side1 ?side2 A4.out).mono ?_);(case side1=>repeat (first|(with_reducible first|exact HI0.out|apply IsS84.alloc|apply IsS84.drewN|apply IsS84.drew|apply IsS84.set_1|apply IsS84.set_2)|exact HI0.out));(case side2=>repeat (first|(with_reducible first|exact HB.out|apply below_alloc|apply pw_below_drewN|apply below_drew1|refine below_set ?_ (IsS84.ge HI0.out))|exact HB.out));rintro e w22 ⟨rfl,hi,hb,hk⟩;refine ⟨_,rfl,?_⟩;have n0_:=Aside0.mk (Kd.R_mono (Kd.R_keep (IsS84.apart (show IsS84 w0 _ g s0_0 t376 t377 from by repeat (first|(with_reducible first|exact HI0.out|apply IsS84.alloc|apply IsS84.drewN|apply IsS84.drew|apply IsS84.set_1|apply IsS84.set_2)|exact HI0.out)) (rz HO375.out) (by decide)) hk (fun _ h=>h.2)) (fun _ h=>h.1));have n1_:=Aside0.mk (KeepBut.trans (by repeat (first|(with_reducible first|exact HK.out|apply KeepBut.set_|apply keep_drewN|apply keep_drew|apply keep_alloc)|exact HK.out)) hk (.inl rfl));have n2_:=Aside0.mk (hb);have n3_:=Aside0.mk (hi);clear HO375 HK HB HI0;have HO375:=n0_;have HK:=n1_;have HB:=n2_;have HI0:=n3_;clear n0_ n1_ n2_ n3_;(try clear hb);(try clear hb2);(try clear hk);(try clear hi))|((with_reducible refine gate_callee (f:=74) rfl ?_);refine goesL_ (some 29) rfl rfl Try.func74 (by kernel_rfl) rfl #[.pointer (some ⟨g,0,none⟩),.int .i64 40] rfl mz ?_;(with_reducible refine (spec_l1Cur_pick.calls g s0_0 t379 t380 40 t389 t390 t391 w0 _ ?side1 ?side2 A19.out).mono ?_);(case side1=>repeat (first|(with_reducible first|exact HI0.out|apply IsS84.alloc|apply IsS84.drewN|apply IsS84.drew|apply IsS84.set_1|apply IsS84.set_2)|exact HI0.out));(case side2=>repeat (first|(with_reducible first|exact HB.out|apply below_alloc|apply pw_below_drewN|apply below_drew1|refine below_set ?_ (IsS84.ge HI0.out))|exact HB.out));rintro e w23 ⟨rfl,hi,hb,hk⟩;refine ⟨_,rfl,?_⟩;have n0_:=Aside0.mk (Kd.R_mono (Kd.R_keep (IsS84.apart (show IsS84 w0 _ g s0_0 t379 t380 from by repeat (first|(with_reducible first|exact HI0.out|apply IsS84.alloc|apply IsS84.drewN|apply IsS84.drew|apply IsS84.set_1|apply IsS84.set_2)|exact HI0.out)) (rz HO375.out) (by decide)) hk (fun _ h=>h.2)) (fun _ h=>h.1));have n1_:=Aside0.mk (KeepBut.trans (by repeat (first|(with_reducible first|exact HK.out|apply KeepBut.set_|apply keep_drewN|apply keep_drew|apply keep_alloc)|exact HK.out)) hk (.inl rfl));have n2_:=Aside0.mk (hb);have n3_:=Aside0.mk (hi);clear HO375 HK HB HI0;have HO375:=n0_;have HK:=n1_;have HB:=n2_;have HI0:=n3_;clear n0_ n1_ n2_ n3_;(try clear hb);(try clear hb2);(try clear hk);(try clear hi))|((with_reducible refine gate_builtin (b:=.append) (xs:=#[.tmp 27,.tmp 30]) rfl ?_);at_builtin;refine Kd.R_append (Kd.int .i64) w.heap.size rfl (.tmp 27) (.tmp 30) 23 3 (.int .i64 0) 8 rfl Try.underlying23 info3 rfl (by decide) (by omega) v374 t373 t389 [.int .i64 t389] (fun _=>True) (fun _=>False) rfl rfl ?aP (fun _ hk=>hk.elim) ?aF ?aO (Below.refl _ _) ?aS ?aL ?_;(case aP=>exact rfl);(case aF=>exact (fun _ _=>trivial));(case aO=>exact (rz HO375.out));(case aS=>exact (keep_size (w:=w) (g:=g) (row:=none) (by repeat (first|(with_reducible first|exact HK.out|apply KeepBut.set_|apply keep_drewN|apply keep_drew|apply keep_alloc)|exact HK.out))));(case aL=>have:=LMc20.out;omega);intro v393 w24 ho hb hg hat;rw [← Ny392.out] at ho;have n0_:=Aside0.mk (IsS84.grown (by repeat (first|(with_reducible first|exact HI0.out|apply IsS84.alloc|apply IsS84.drewN|apply IsS84.drew|apply IsS84.set_1|apply IsS84.set_2)|exact HI0.out)) hg (IsS84.own_ne HI0.out HO375.out (by decide)));have n1_:=Aside0.mk (below_weaken (by repeat (first|(with_reducible first|exact HB.out|apply below_alloc|apply pw_below_drewN|apply below_drew1|refine below_set ?_ (IsS84.ge HI0.out))|exact HB.out)) HL.out hb);have n2_:=Aside0.mk (KeepBut.trans (by repeat (first|(with_reducible first|exact HK.out|apply KeepBut.set_|apply keep_drewN|apply keep_drew|apply keep_alloc)|exact HK.out)) (KeepBut.of_grown hg g) (Kd.R_base2 HO375.out));have n3_:=Aside0.mk (ho);clear HI0 HB HK HO375;have HI0:=n0_;have HB:=n1_;have HK:=n2_;have HO394:=n3_;clear n0_ n1_ n2_ n3_;clear ho hb hg hat))
    go_ret
    exact ⟨_,by first|rfl|(simp [errW_none,errW_some] <;> rfl)|(simp [*,errW_none,errW_some] <;> rfl),by (with_reducible repeat (first|apply Kd.R_alloc|apply Kd.R_drewN|apply Kd.R_drew));exact HO394.out,by repeat (first|(with_reducible first|exact HI0.out|apply IsS84.alloc|apply IsS84.drewN|apply IsS84.drew|apply IsS84.set_1|apply IsS84.set_2)|exact HI0.out),by repeat (first|(with_reducible first|exact HB.out|apply below_alloc|apply pw_below_drewN|apply below_drew1|refine below_set ?_ (IsS84.ge HI0.out))|exact HB.out),by repeat (first|(with_reducible first|exact HK.out|apply KeepBut.set_|apply keep_drewN|apply keep_drew|apply keep_alloc)|exact HK.out)⟩
   ·rw [if_neg c20] at H
    exact absurd H (by simp)
  ·rw [if_neg c18] at H
   have c18b0 : (t378 == 1) = false:=beq_eq_false_iff_ne.mpr c18
   have c18b1 : (t378 != 1) = true:=bne_iff_ne.mpr c18
   by_cases c25 : t378 = 2
   ·rw [if_pos c25] at H
    have c25b0 : (t378 == 2) = true:=beq_iff_eq.mpr c25
    have c25b1 : (t378 != 2) = false:=bne_eq_false_iff_eq.mpr c25
    clear c25
    simp only [Option.some.injEq,Prod.mk.injEq] at H
    obtain ⟨rfl,rfl,rfl⟩:=H
    go_enter Try.func73,Try.ntmps73
    go_wp2_with (first|((with_reducible refine gate_callee (f:=115) rfl ?_);refine goesL_ (some 8) rfl rfl Try.func115 (by kernel_rfl) rfl #[.pointer (some ⟨g,0,none⟩),.int .i64 a1] rfl mz ?_;(with_reducible refine (spec_l1Cur_chain.calls k g s0_0 s0_1 s0_2 a1 t373 t376 t377 w0 _ ?side1 ?side2 A3.out).mono ?_);(case side1=>repeat (first|(with_reducible first|exact HI0.out|apply IsS84.alloc|apply IsS84.drewN|apply IsS84.drew|apply IsS84.set_1|apply IsS84.set_2)|exact HI0.out));(case side2=>repeat (first|(with_reducible first|exact HB.out|apply below_alloc|apply pw_below_drewN|apply below_drew1|refine below_set ?_ (IsS84.ge HI0.out))|exact HB.out));rintro e w26 ⟨v374,rfl,ho0,hi,hb,hk⟩;refine ⟨_,rfl,?_⟩;have n0_:=Aside0.mk (Kd.R_lower ho0 (keep_size (w:=w) (g:=g) (row:=none) (by repeat (first|(with_reducible first|exact HK.out|apply KeepBut.set_|apply keep_drewN|apply keep_drew|apply keep_alloc)|exact HK.out))));have n1_:=Aside0.mk (KeepBut.trans (by repeat (first|(with_reducible first|exact HK.out|apply KeepBut.set_|apply keep_drewN|apply keep_drew|apply keep_alloc)|exact HK.out)) hk (.inl rfl));have n2_:=Aside0.mk (hb);have n3_:=Aside0.mk (hi);clear HK HB HI0;have HO375:=n0_;have HK:=n1_;have HB:=n2_;have HI0:=n3_;clear n0_ n1_ n2_ n3_;(try clear hb);(try clear hb2);(try clear hk);(try clear hi);(try clear ho0))|((with_reducible refine gate_callee (f:=74) rfl ?_);refine goesL_ (some 10) rfl rfl Try.func74 (by kernel_rfl) rfl #[.pointer (some ⟨g,0,none⟩),.int .i64 14] rfl mz ?_;(with_reducible refine (spec_l1Cur_pick.calls g s0_0 t376 t377 14 t378 t379 t380 w0 _ ?side1 ?side2 A4.out).mono ?_);(case side1=>repeat (first|(with_reducible first|exact HI0.out|apply IsS84.alloc|apply IsS84.drewN|apply IsS84.drew|apply IsS84.set_1|apply IsS84.set_2)|exact HI0.out));(case side2=>repeat (first|(with_reducible first|exact HB.out|apply below_alloc|apply pw_below_drewN|apply below_drew1|refine below_set ?_ (IsS84.ge HI0.out))|exact HB.out));rintro e w27 ⟨rfl,hi,hb,hk⟩;refine ⟨_,rfl,?_⟩;have n0_:=Aside0.mk (Kd.R_mono (Kd.R_keep (IsS84.apart (show IsS84 w0 _ g s0_0 t376 t377 from by repeat (first|(with_reducible first|exact HI0.out|apply IsS84.alloc|apply IsS84.drewN|apply IsS84.drew|apply IsS84.set_1|apply IsS84.set_2)|exact HI0.out)) (rz HO375.out) (by decide)) hk (fun _ h=>h.2)) (fun _ h=>h.1));have n1_:=Aside0.mk (KeepBut.trans (by repeat (first|(with_reducible first|exact HK.out|apply KeepBut.set_|apply keep_drewN|apply keep_drew|apply keep_alloc)|exact HK.out)) hk (.inl rfl));have n2_:=Aside0.mk (hb);have n3_:=Aside0.mk (hi);clear HO375 HK HB HI0;have HO375:=n0_;have HK:=n1_;have HB:=n2_;have HI0:=n3_;clear n0_ n1_ n2_ n3_;(try clear hb);(try clear hb2);(try clear hk);(try clear hi)))
    go_ret
    exact ⟨_,by first|rfl|(simp [errW_none,errW_some] <;> rfl)|(simp [*,errW_none,errW_some] <;> rfl),by first|exact Kd.R_nil _ _ _ _ _|exact Kd.N_nil _ _ _ _ _|exact Kd.V_nil _ _ _ _ _|exact Kd.Q_nil _ _ _ _ _|exact Kd.S_nil _ _ _ _ _,by repeat (first|(with_reducible first|exact HI0.out|apply IsS84.alloc|apply IsS84.drewN|apply IsS84.drew|apply IsS84.set_1|apply IsS84.set_2)|exact HI0.out),by repeat (first|(with_reducible first|exact HB.out|apply below_alloc|apply pw_below_drewN|apply below_drew1|refine below_set ?_ (IsS84.ge HI0.out))|exact HB.out),by repeat (first|(with_reducible first|exact HK.out|apply KeepBut.set_|apply keep_drewN|apply keep_drew|apply keep_alloc)|exact HK.out)⟩
   ·rw [if_neg c25] at H
    have c25b0 : (t378 == 2) = false:=beq_eq_false_iff_ne.mpr c25
    have c25b1 : (t378 != 2) = true:=bne_iff_ne.mpr c25
    by_cases c28 : t378 = 3
    ·rw [if_pos c28] at H
     have c28b0 : (t378 == 3) = true:=beq_iff_eq.mpr c28
     have c28b1 : (t378 != 3) = false:=bne_eq_false_iff_eq.mpr c28
     clear c28
     have H':=Aside0.mk H
     clear H
     go_enter Try.func73,Try.ntmps73
     go_wp2_with (first|((with_reducible refine gate_callee (f:=115) rfl ?_);refine goesL_ (some 8) rfl rfl Try.func115 (by kernel_rfl) rfl #[.pointer (some ⟨g,0,none⟩),.int .i64 a1] rfl mz ?_;(with_reducible refine (spec_l1Cur_chain.calls k g s0_0 s0_1 s0_2 a1 t373 t376 t377 w0 _ ?side1 ?side2 A3.out).mono ?_);(case side1=>repeat (first|(with_reducible first|exact HI0.out|apply IsS84.alloc|apply IsS84.drewN|apply IsS84.drew|apply IsS84.set_1|apply IsS84.set_2)|exact HI0.out));(case side2=>repeat (first|(with_reducible first|exact HB.out|apply below_alloc|apply pw_below_drewN|apply below_drew1|refine below_set ?_ (IsS84.ge HI0.out))|exact HB.out));rintro e w29 ⟨v374,rfl,ho0,hi,hb,hk⟩;refine ⟨_,rfl,?_⟩;have n0_:=Aside0.mk (Kd.R_lower ho0 (keep_size (w:=w) (g:=g) (row:=none) (by repeat (first|(with_reducible first|exact HK.out|apply KeepBut.set_|apply keep_drewN|apply keep_drew|apply keep_alloc)|exact HK.out))));have n1_:=Aside0.mk (KeepBut.trans (by repeat (first|(with_reducible first|exact HK.out|apply KeepBut.set_|apply keep_drewN|apply keep_drew|apply keep_alloc)|exact HK.out)) hk (.inl rfl));have n2_:=Aside0.mk (hb);have n3_:=Aside0.mk (hi);clear HK HB HI0;have HO375:=n0_;have HK:=n1_;have HB:=n2_;have HI0:=n3_;clear n0_ n1_ n2_ n3_;(try clear hb);(try clear hb2);(try clear hk);(try clear hi);(try clear ho0))|((with_reducible refine gate_callee (f:=74) rfl ?_);refine goesL_ (some 10) rfl rfl Try.func74 (by kernel_rfl) rfl #[.pointer (some ⟨g,0,none⟩),.int .i64 14] rfl mz ?_;(with_reducible refine (spec_l1Cur_pick.calls g s0_0 t376 t377 14 t378 t379 t380 w0 _ ?side1 ?side2 A4.out).mono ?_);(case side1=>repeat (first|(with_reducible first|exact HI0.out|apply IsS84.alloc|apply IsS84.drewN|apply IsS84.drew|apply IsS84.set_1|apply IsS84.set_2)|exact HI0.out));(case side2=>repeat (first|(with_reducible first|exact HB.out|apply below_alloc|apply pw_below_drewN|apply below_drew1|refine below_set ?_ (IsS84.ge HI0.out))|exact HB.out));rintro e w30 ⟨rfl,hi,hb,hk⟩;refine ⟨_,rfl,?_⟩;have n0_:=Aside0.mk (Kd.R_mono (Kd.R_keep (IsS84.apart (show IsS84 w0 _ g s0_0 t376 t377 from by repeat (first|(with_reducible first|exact HI0.out|apply IsS84.alloc|apply IsS84.drewN|apply IsS84.drew|apply IsS84.set_1|apply IsS84.set_2)|exact HI0.out)) (rz HO375.out) (by decide)) hk (fun _ h=>h.2)) (fun _ h=>h.1));have n1_:=Aside0.mk (KeepBut.trans (by repeat (first|(with_reducible first|exact HK.out|apply KeepBut.set_|apply keep_drewN|apply keep_drew|apply keep_alloc)|exact HK.out)) hk (.inl rfl));have n2_:=Aside0.mk (hb);have n3_:=Aside0.mk (hi);clear HO375 HK HB HI0;have HO375:=n0_;have HK:=n1_;have HB:=n2_;have HI0:=n3_;clear n0_ n1_ n2_ n3_;(try clear hb);(try clear hb2);(try clear hk);(try clear hi)))
     go_loopg [5] k (fun kq v5 w'=>∃ (x5_1 : List Int) (x1001_1 : Int) (x1002_1 : Int),Aside0 (spec_l1Cur_anyChain.l0 kq x5_1 s0_0 x1001_1 x1002_1 = some (r1,r2,r3)) ∧ Aside0 (kq ≤ k) ∧ Aside0 (Kd.R (Kd.int .i64) 3 w' w.heap.size (fun _=>True) v5 x5_1) ∧ Aside0 (IsS84 w0 w' g s0_0 x1001_1 x1002_1) ∧ Aside0 (KeepBut w w' g none) ∧ Aside0 (Below w0.heap.size w0 w'))
     case atStart=>exact ⟨(([] : List Int)),(t379),(t380),H',⟨Nat.le_refl _⟩,⟨by first|exact Kd.R_nil _ _ _ _ _|exact Kd.N_nil _ _ _ _ _|exact Kd.V_nil _ _ _ _ _|exact Kd.Q_nil _ _ _ _ _|exact Kd.S_nil _ _ _ _ _⟩,⟨by repeat (first|(with_reducible first|exact HI0.out|apply IsS84.alloc|apply IsS84.drewN|apply IsS84.drew|apply IsS84.set_1|apply IsS84.set_2)|exact HI0.out)⟩,⟨by repeat (first|(with_reducible first|exact HK.out|apply KeepBut.set_|apply keep_drewN|apply keep_drew|apply keep_alloc)|exact HK.out)⟩,⟨by repeat (first|(with_reducible first|exact HB.out|apply below_alloc|apply pw_below_drewN|apply below_drew1|refine below_set ?_ (IsS84.ge HI0.out))|exact HB.out)⟩⟩
     case round=>
      clear H'
      try clear c1
      try clear p1
      try clear q1
      try clear hx1
      try clear c2
      try clear p2
      try clear p3
      try clear q3
      try clear hx3
      try clear c5
      try clear c5b0
      try clear c5b1
      try clear p6
      try clear c7
      try clear c7b0
      try clear c8
      try clear c8b0
      try clear p10
      try clear q10
      try clear hx10
      try clear hf10
      try clear c11
      try clear c18
      try clear c18b0
      try clear c18b1
      try clear c20
      try clear c25
      try clear c25b0
      try clear c25b1
      try clear c28
      try clear c28b0
      try clear c28b1
      try clear hx10_0
      try clear hx384_0
      try clear p10
      try clear p384
      try clear q10
      try clear q384
      obtain ⟨x5_1,x1001_1,x1002_1,HA,HK1,HO_5,HI0,HK,HB⟩:=hrel
      cases gk with
      | zero=>exact absurd HA.out (by simp [spec_l1Cur_anyChain.l0])
      | succ k1=>
       have H:=HA.out
       clear HA
       simp only [spec_l1Cur_anyChain.l0] at H
       replace H:=Option.bind_eq_some_iff.mp H
       obtain ⟨⟨t395,t396,t397⟩,A310,H⟩:=H
       replace H : (if (x5_1.length : Int) < (wrap64 (41 + t395)) then (if x5_1.length < 17592186044416 then (spec_l1Cur_anyChain.l0 k1 (x5_1 ++ [wrap64 ((x5_1.length : Int) + 1)]) s0_0 t396 t397) else (none)) else (some (x5_1,t396,t397))) = some (r1,r2,r3):=H
       have A31:=Aside0.mk A310
       clear A310
       by_cases c32 : (x5_1.length : Int) < (wrap64 (41 + t395))
       ·rw [if_pos c32] at H
        have c32b0 : decide ((x5_1.length : Int) < (wrap64 (41 + t395))) = true:=decide_eq_true c32
        clear c32
        by_cases c33 : x5_1.length < 17592186044416
        ·rw [if_pos c33] at H
         have LMc33:=Aside0.mk c33
         clear c33
         obtain ⟨y398,hy398⟩ : ∃ y_ : List Int,y_ = (x5_1 ++ [wrap64 ((x5_1.length : Int) + 1)]):=⟨_,rfl⟩
         replace H : (spec_l1Cur_anyChain.l0 k1 y398 s0_0 t396 t397) = some (r1,r2,r3):=by first|(rw [hy398];with_reducible exact H)|(have H2_:=(Option.bind_some _ _).symm.trans H;rw [hy398];with_reducible exact H2_)|(have H2_:=(Option.bind_some _ _).symm.trans H;with_reducible exact H2_)|with_reducible exact H|(rw [hy398];exact H)|exact H
         have Ny398:=Aside0.mk hy398
         clear hy398
         have H':=Aside0.mk H
         clear H
         obtain ⟨Ao34,co34,eo34⟩:=Kd.R_slice HO_5.out
         subst eo34
         go_wp2_with (first|((with_reducible refine gate_callee (f:=74) rfl ?_);refine goesL_ (some 39) rfl rfl Try.func74 (by kernel_rfl) rfl #[.pointer (some ⟨g,0,none⟩),.int .i64 2] rfl mz ?_;(with_reducible refine (spec_l1Cur_pick.calls g s0_0 x1001_1 x1002_1 2 t395 t396 t397 w0 _ ?side1 ?side2 A31.out).mono ?_);(case side1=>repeat (first|(with_reducible first|exact HI0.out|apply IsS84.alloc|apply IsS84.drewN|apply IsS84.drew|apply IsS84.set_1|apply IsS84.set_2)|exact HI0.out));(case side2=>repeat (first|(with_reducible first|exact HB.out|apply below_alloc|apply pw_below_drewN|apply below_drew1|refine below_set ?_ (IsS84.ge HI0.out))|exact HB.out));rintro e w35 ⟨rfl,hi,hb,hk⟩;refine ⟨_,rfl,?_⟩;have n0_:=Aside0.mk (Kd.R_mono (Kd.R_keep (IsS84.apart (show IsS84 w0 _ g s0_0 x1001_1 x1002_1 from by repeat (first|(with_reducible first|exact HI0.out|apply IsS84.alloc|apply IsS84.drewN|apply IsS84.drew|apply IsS84.set_1|apply IsS84.set_2)|exact HI0.out)) (rz HO_5.out) (by decide)) hk (fun _ h=>h.2)) (fun _ h=>h.1));have n1_:=Aside0.mk (KeepBut.trans (by repeat (first|(with_reducible first|exact HK.out|apply KeepBut.set_|apply keep_drewN|apply keep_drew|apply keep_alloc)|exact HK.out)) hk (.inl rfl));have n2_:=Aside0.mk (hb);have n3_:=Aside0.mk (hi);clear HO_5 HK HB HI0;have HO_5:=n0_;have HK:=n1_;have HB:=n2_;have HI0:=n3_;clear n0_ n1_ n2_ n3_;(try clear hb);(try clear hb2);(try clear hk);(try clear hi))|((with_reducible refine gate_builtin (b:=.append) (xs:=#[.tmp 42,.tmp 46]) rfl ?_);at_builtin;refine Kd.R_append (Kd.int .i64) w.heap.size rfl (.tmp 42) (.tmp 46) 23 3 (.int .i64 0) 8 rfl Try.underlying23 info3 rfl (by decide) (by omega) (.slice Ao34 x5_1.length co34) x5_1 (wrap64 ((x5_1.length : Int) + 1)) [.int .i64 (wrap64 ((x5_1.length : Int) + 1))] (fun _=>True) (fun _=>False) rfl rfl ?aP (fun _ hk=>hk.elim) ?aF ?aO (Below.refl _ _) ?aS ?aL ?_;(case aP=>exact rfl);(case aF=>exact (fun _ _=>trivial));(case aO=>exact (rz HO_5.out));(case aS=>exact (keep_size (w:=w) (g:=g) (row:=none) (by repeat (first|(with_reducible first|exact HK.out|apply KeepBut.set_|apply keep_drewN|apply keep_drew|apply keep_alloc)|exact HK.out))));(case aL=>have:=LMc33.out;omega);intro v399 w36 ho hb hg hat;rw [← Ny398.out] at ho;have n0_:=Aside0.mk (IsS84.grown (by repeat (first|(with_reducible first|exact HI0.out|apply IsS84.alloc|apply IsS84.drewN|apply IsS84.drew|apply IsS84.set_1|apply IsS84.set_2)|exact HI0.out)) hg (IsS84.own_ne HI0.out HO_5.out (by decide)));have n1_:=Aside0.mk (below_weaken (by repeat (first|(with_reducible first|exact HB.out|apply below_alloc|apply pw_below_drewN|apply below_drew1|refine below_set ?_ (IsS84.ge HI0.out))|exact HB.out)) HL.out hb);have n2_:=Aside0.mk (KeepBut.trans (by repeat (first|(with_reducible first|exact HK.out|apply KeepBut.set_|apply keep_drewN|apply keep_drew|apply keep_alloc)|exact HK.out)) (KeepBut.of_grown hg g) (Kd.R_base2 HO_5.out));have n3_:=Aside0.mk (ho);clear HI0 HB HK HO_5;have HI0:=n0_;have HB:=n1_;have HK:=n2_;have HO400:=n3_;clear n0_ n1_ n2_ n3_;clear ho hb hg hat))
         go_roundg k1
         case measure=>have:=HK1.out;omega
         case rel=>exact ⟨(y398),(t396),(t397),H',⟨by have:=HK1.out;omega⟩,⟨by (with_reducible repeat (first|apply Kd.R_alloc|apply Kd.R_drewN|apply Kd.R_drew));exact HO400.out⟩,⟨by repeat (first|(with_reducible first|exact HI0.out|apply IsS84.alloc|apply IsS84.drewN|apply IsS84.drew|apply IsS84.set_1|apply IsS84.set_2)|exact HI0.out)⟩,⟨by repeat (first|(with_reducible first|exact HK.out|apply KeepBut.set_|apply keep_drewN|apply keep_drew|apply keep_alloc)|exact HK.out)⟩,⟨by repeat (first|(with_reducible first|exact HB.out|apply below_alloc|apply pw_below_drewN|apply below_drew1|refine below_set ?_ (IsS84.ge HI0.out))|exact HB.out)⟩⟩
        ·rw [if_neg c33] at H
         exact absurd H (by simp)
       ·rw [if_neg c32] at H
        have c32b0 : decide ((x5_1.length : Int) < (wrap64 (41 + t395))) = false:=decide_eq_false c32
        clear c32
        simp only [Option.some.injEq,Prod.mk.injEq] at H
        obtain ⟨rfl,rfl,rfl⟩:=H
        obtain ⟨Ao37,co37,eo37⟩:=Kd.R_slice HO_5.out
        subst eo37
        go_wp2_with (first|((with_reducible refine gate_callee (f:=74) rfl ?_);refine goesL_ (some 39) rfl rfl Try.func74 (by kernel_rfl) rfl #[.pointer (some ⟨g,0,none⟩),.int .i64 2] rfl mz ?_;(with_reducible refine (spec_l1Cur_pick.calls g s0_0 x1001_1 x1002_1 2 t395 t396 t397 w0 _ ?side1 ?side2 A31.out).mono ?_);(case side1=>repeat (first|(with_reducible first|exact HI0.out|apply IsS84.alloc|apply IsS84.drewN|apply IsS84.drew|apply IsS84.set_1|apply IsS84.set_2)|exact HI0.out));(case side2=>repeat (first|(with_reducible first|exact HB.out|apply below_alloc|apply pw_below_drewN|apply below_drew1|refine below_set ?_ (IsS84.ge HI0.out))|exact HB.out));rintro e w38 ⟨rfl,hi,hb,hk⟩;refine ⟨_,rfl,?_⟩;have n0_:=Aside0.mk (Kd.R_mono (Kd.R_keep (IsS84.apart (show IsS84 w0 _ g s0_0 x1001_1 x1002_1 from by repeat (first|(with_reducible first|exact HI0.out|apply IsS84.alloc|apply IsS84.drewN|apply IsS84.drew|apply IsS84.set_1|apply IsS84.set_2)|exact HI0.out)) (rz HO_5.out) (by decide)) hk (fun _ h=>h.2)) (fun _ h=>h.1));have n1_:=Aside0.mk (KeepBut.trans (by repeat (first|(with_reducible first|exact HK.out|apply KeepBut.set_|apply keep_drewN|apply keep_drew|apply keep_alloc)|exact HK.out)) hk (.inl rfl));have n2_:=Aside0.mk (hb);have n3_:=Aside0.mk (hi);clear HO_5 HK HB HI0;have HO_5:=n0_;have HK:=n1_;have HB:=n2_;have HI0:=n3_;clear n0_ n1_ n2_ n3_;(try clear hb);(try clear hb2);(try clear hk);(try clear hi)))
        go_ret
        exact ⟨_,by first|rfl|(simp [errW_none,errW_some] <;> rfl)|(simp [*,errW_none,errW_some] <;> rfl),by (with_reducible repeat (first|apply Kd.R_alloc|apply Kd.R_drewN|apply Kd.R_drew));exact HO_5.out,by repeat (first|(with_reducible first|exact HI0.out|apply IsS84.alloc|apply IsS84.drewN|apply IsS84.drew|apply IsS84.set_1|apply IsS84.set_2)|exact HI0.out),by repeat (first|(with_reducible first|exact HB.out|apply below_alloc|apply pw_below_drewN|apply below_drew1|refine below_set ?_ (IsS84.ge HI0.out))|exact HB.out),by repeat (first|(with_reducible first|exact HK.out|apply KeepBut.set_|apply keep_drewN|apply keep_drew|apply keep_alloc)|exact HK.out)⟩
    ·rw [if_neg c28] at H
     have c28b0 : (t378 == 3) = false:=beq_eq_false_iff_ne.mpr c28
     have c28b1 : (t378 != 3) = true:=bne_iff_ne.mpr c28
     by_cases c39 : t378 = 4
     ·rw [if_pos c39] at H
      have c39b0 : (t378 == 4) = true:=beq_iff_eq.mpr c39
      have c39b1 : (t378 != 4) = false:=bne_eq_false_iff_eq.mpr c39
      clear c39
      obtain ⟨y401,hy401⟩ : ∃ y_ : List Int,y_ = (([1,2,4,8,16,32,64,128,256,512,1024,2048,4096,8192,16384,32768,65536,131072,262144,524288] : List Int)):=⟨_,rfl⟩
      replace H : ((spec_l1Cur_pick.f s0_0 t379 t380 4).bind fun bt404=>((some (([786432,wrap64 (786432 + (wrap64 (131072 * bt404.1)))] : List Int) : List Int)).bind fun y407=>(if y401.length + y407.length < 17592186044416 then (some ((y401 ++ y407),bt404.2.1,bt404.2.2)) else (none)))) = some (r1,r2,r3):=by first|(rw [hy401];with_reducible exact H)|(have H2_:=(Option.bind_some _ _).symm.trans H;rw [hy401];with_reducible exact H2_)|(have H2_:=(Option.bind_some _ _).symm.trans H;with_reducible exact H2_)|with_reducible exact H|(rw [hy401];exact H)|exact H
      have Ny401:=Aside0.mk hy401
      clear hy401
      replace H:=Option.bind_eq_some_iff.mp H
      obtain ⟨⟨t404,t405,t406⟩,A400,H⟩:=H
      replace H : ((some (([786432,wrap64 (786432 + (wrap64 (131072 * t404)))] : List Int) : List Int)).bind fun y407=>(if y401.length + y407.length < 17592186044416 then (some ((y401 ++ y407),t405,t406)) else (none))) = some (r1,r2,r3):=H
      have A40:=Aside0.mk A400
      clear A400
      obtain ⟨y407,hy407⟩ : ∃ y_ : List Int,y_ = (([786432,wrap64 (786432 + (wrap64 (131072 * t404)))] : List Int)):=⟨_,rfl⟩
      replace H : (if y401.length + y407.length < 17592186044416 then (some ((y401 ++ y407),t405,t406)) else (none)) = some (r1,r2,r3):=by first|(rw [hy407];with_reducible exact H)|(have H2_:=(Option.bind_some _ _).symm.trans H;rw [hy407];with_reducible exact H2_)|(have H2_:=(Option.bind_some _ _).symm.trans H;with_reducible exact H2_)|with_reducible exact H|(rw [hy407];exact H)|exact H
      have Ny407:=Aside0.mk hy407
      clear hy407
      by_cases c41 : y401.length + y407.length < 17592186044416
      ·rw [if_pos c41] at H
       have LMc41:=Aside0.mk c41
       clear c41
       obtain ⟨y410,hy410⟩ : ∃ y_ : List Int,y_ = (y401 ++ y407):=⟨_,rfl⟩
       replace H : (some (y410,t405,t406)) = some (r1,r2,r3):=by first|(rw [hy410];with_reducible exact H)|(have H2_:=(Option.bind_some _ _).symm.trans H;rw [hy410];with_reducible exact H2_)|(have H2_:=(Option.bind_some _ _).symm.trans H;with_reducible exact H2_)|with_reducible exact H|(rw [hy410];exact H)|exact H
       have Ny410:=Aside0.mk hy410
       clear hy410
       simp only [Option.some.injEq,Prod.mk.injEq] at H
       obtain ⟨rfl,rfl,rfl⟩:=H
       go_enter Try.func73,Try.ntmps73
       go_wp2_with (first|((with_reducible refine gate_callee (f:=115) rfl ?_);refine goesL_ (some 8) rfl rfl Try.func115 (by kernel_rfl) rfl #[.pointer (some ⟨g,0,none⟩),.int .i64 a1] rfl mz ?_;(with_reducible refine (spec_l1Cur_chain.calls k g s0_0 s0_1 s0_2 a1 t373 t376 t377 w0 _ ?side1 ?side2 A3.out).mono ?_);(case side1=>repeat (first|(with_reducible first|exact HI0.out|apply IsS84.alloc|apply IsS84.drewN|apply IsS84.drew|apply IsS84.set_1|apply IsS84.set_2)|exact HI0.out));(case side2=>repeat (first|(with_reducible first|exact HB.out|apply below_alloc|apply pw_below_drewN|apply below_drew1|refine below_set ?_ (IsS84.ge HI0.out))|exact HB.out));rintro e w42 ⟨v374,rfl,ho0,hi,hb,hk⟩;refine ⟨_,rfl,?_⟩;have n0_:=Aside0.mk (Kd.R_lower ho0 (keep_size (w:=w) (g:=g) (row:=none) (by repeat (first|(with_reducible first|exact HK.out|apply KeepBut.set_|apply keep_drewN|apply keep_drew|apply keep_alloc)|exact HK.out))));have n1_:=Aside0.mk (KeepBut.trans (by repeat (first|(with_reducible first|exact HK.out|apply KeepBut.set_|apply keep_drewN|apply keep_drew|apply keep_alloc)|exact HK.out)) hk (.inl rfl));have n2_:=Aside0.mk (hb);have n3_:=Aside0.mk (hi);clear HK HB HI0;have HO375:=n0_;have HK:=n1_;have HB:=n2_;have HI0:=n3_;clear n0_ n1_ n2_ n3_;(try clear hb);(try clear hb2);(try clear hk);(try clear hi);(try clear ho0))|((with_reducible refine gate_callee (f:=74) rfl ?_);refine goesL_ (some 10) rfl rfl Try.func74 (by kernel_rfl) rfl #[.pointer (some ⟨g,0,none⟩),.int .i64 14] rfl mz ?_;(with_reducible refine (spec_l1Cur_pick.calls g s0_0 t376 t377 14 t378 t379 t380 w0 _ ?side1 ?side2 A4.out).mono ?_);(case side1=>repeat (first|(with_reducible first|exact HI0.out|apply IsS84.alloc|apply IsS84.drewN|apply IsS84.drew|apply IsS84.set_1|apply IsS84.set_2)|exact HI0.out));(case side2=>repeat (first|(with_reducible first|exact HB.out|apply below_alloc|apply pw_below_drewN|apply below_drew1|refine below_set ?_ (IsS84.ge HI0.out))|exact HB.out));rintro e w43 ⟨rfl,hi,hb,hk⟩;refine ⟨_,rfl,?_⟩;have n0_:=Aside0.mk (Kd.R_mono (Kd.R_keep (IsS84.apart (show IsS84 w0 _ g s0_0 t376 t377 from by repeat (first|(with_reducible first|exact HI0.out|apply IsS84.alloc|apply IsS84.drewN|apply IsS84.drew|apply IsS84.set_1|apply IsS84.set_2)|exact HI0.out)) (rz HO375.out) (by decide)) hk (fun _ h=>h.2)) (fun _ h=>h.1));have n1_:=Aside0.mk (KeepBut.trans (by repeat (first|(with_reducible first|exact HK.out|apply KeepBut.set_|apply keep_drewN|apply keep_drew|apply keep_alloc)|exact HK.out)) hk (.inl rfl));have n2_:=Aside0.mk (hb);have n3_:=Aside0.mk (hi);clear HO375 HK HB HI0;have HO375:=n0_;have HK:=n1_;have HB:=n2_;have HI0:=n3_;clear n0_ n1_ n2_ n3_;(try clear hb);(try clear hb2);(try clear hk);(try clear hi))|((with_reducible refine gate_dst (N:=50) rfl ?_);refine Kd.R_lit (Kd.int .i64) _ 3 ?hg (N:=50) ?hd (xs:=([1,2,4,8,16,32,64,128,256,512,1024,2048,4096,8192,16384,32768,65536,131072,262144,524288] : List Int)) (inner:=[.int .i64 1,.int .i64 2,.int .i64 4,.int .i64 8,.int .i64 16,.int .i64 32,.int .i64 64,.int .i64 128,.int .i64 256,.int .i64 512,.int .i64 1024,.int .i64 2048,.int .i64 4096,.int .i64 8192,.int .i64 16384,.int .i64 32768,.int .i64 65536,.int .i64 131072,.int .i64 262144,.int .i64 524288]) (ok:=fun _=>True) (okp:=fun _=>True) ?hr ?hp (fun _ hk=>hk) trivial (Below.refl _ _) (Nat.le_refl _) (by simp) ?_;(case hd=>rfl);(case hg=>rfl);(case hr=>first|(go_simp;done)|(go_simp;rfl));(case hp=>exact (Reps.one (show Kd.M (Kd.int .i64) _ _ _ 1 [.int .i64 1] from rfl) (Reps.one (show Kd.M (Kd.int .i64) _ _ _ 2 [.int .i64 2] from rfl) (Reps.one (show Kd.M (Kd.int .i64) _ _ _ 4 [.int .i64 4] from rfl) (Reps.one (show Kd.M (Kd.int .i64) _ _ _ 8 [.int .i64 8] from rfl) (Reps.one (show Kd.M (Kd.int .i64) _ _ _ 16 [.int .i64 16] from rfl) (Reps.one (show Kd.M (Kd.int .i64) _ _ _ 32 [.int .i64 32] from rfl) (Reps.one (show Kd.M (Kd.int .i64) _ _ _ 64 [.int .i64 64] from rfl) (Reps.one (show Kd.M (Kd.int .i64) _ _ _ 128 [.int .i64 128] from rfl) (Reps.one (show Kd.M (Kd.int .i64) _ _ _ 256 [.int .i64 256] from rfl) (Reps.one (show Kd.M (Kd.int .i64) _ _ _ 512 [.int .i64 512] from rfl) (Reps.one (show Kd.M (Kd.int .i64) _ _ _ 1024 [.int .i64 1024] from rfl) (Reps.one (show Kd.M (Kd.int .i64) _ _ _ 2048 [.int .i64 2048] from rfl) (Reps.one (show Kd.M (Kd.int .i64) _ _ _ 4096 [.int .i64 4096] from rfl) (Reps.one (show Kd.M (Kd.int .i64) _ _ _ 8192 [.int .i64 8192] from rfl) (Reps.one (show Kd.M (Kd.int .i64) _ _ _ 16384 [.int .i64 16384] from rfl) (Reps.one (show Kd.M (Kd.int .i64) _ _ _ 32768 [.int .i64 32768] from rfl) (Reps.one (show Kd.M (Kd.int .i64) _ _ _ 65536 [.int .i64 65536] from rfl) (Reps.one (show Kd.M (Kd.int .i64) _ _ _ 131072 [.int .i64 131072] from rfl) (Reps.one (show Kd.M (Kd.int .i64) _ _ _ 262144 [.int .i64 262144] from rfl) (Reps.one (show Kd.M (Kd.int .i64) _ _ _ 524288 [.int .i64 524288] from rfl) (Reps.none _ _))))))))))))))))))))));intro v402 w44 ho45 hb hg_ hnew_;clear hg_ hnew_;(first|rw [← Ny401.out] at ho45|(simp only [Int.reduceToNat] at ho45;rw [← Ny401.out] at ho45));have n0_:=Aside0.mk (Kd.R_elder' (rz HO375.out) (Kd.R_base ho45) hb);have n1_:=Aside0.mk (Kd.R_lower (Kd.R_new' ho45 (Kd.R_lt (rz HO375.out))) (keep_size (w:=w) (g:=g) (row:=none) (by repeat (first|(with_reducible first|exact HK.out|apply KeepBut.set_|apply keep_drewN|apply keep_drew|apply keep_alloc)|exact HK.out))));have n2_:=Aside0.mk (IsS84.below (by repeat (first|(with_reducible first|exact HI0.out|apply IsS84.alloc|apply IsS84.drewN|apply IsS84.drew|apply IsS84.set_1|apply IsS84.set_2)|exact HI0.out)) hb);have n3_:=Aside0.mk (KeepBut.trans (by repeat (first|(with_reducible first|exact HK.out|apply KeepBut.set_|apply keep_drewN|apply keep_drew|apply keep_alloc)|exact HK.out)) (KeepBut.of_below hb g none) (.inl rfl));have n4_:=Aside0.mk (below_step (by repeat (first|(with_reducible first|exact HB.out|apply below_alloc|apply pw_below_drewN|apply below_drew1|refine below_set ?_ (IsS84.ge HI0.out))|exact HB.out)) hb);clear HO375 HI0 HK HB;have HO375:=n0_;have HO403:=n1_;have HI0:=n2_;have HK:=n3_;have HB:=n4_;clear n0_ n1_ n2_ n3_ n4_;clear hb ho45)|((with_reducible refine gate_callee (f:=74) rfl ?_);refine goesL_ (some 53) rfl rfl Try.func74 (by kernel_rfl) rfl #[.pointer (some ⟨g,0,none⟩),.int .i64 4] rfl mz ?_;(with_reducible refine (spec_l1Cur_pick.calls g s0_0 t379 t380 4 t404 t405 t406 w0 _ ?side1 ?side2 A40.out).mono ?_);(case side1=>repeat (first|(with_reducible first|exact HI0.out|apply IsS84.alloc|apply IsS84.drewN|apply IsS84.drew|apply IsS84.set_1|apply IsS84.set_2)|exact HI0.out));(case side2=>repeat (first|(with_reducible first|exact HB.out|apply below_alloc|apply pw_below_drewN|apply below_drew1|refine below_set ?_ (IsS84.ge HI0.out))|exact HB.out));rintro e w46 ⟨rfl,hi,hb,hk⟩;refine ⟨_,rfl,?_⟩;have n0_:=Aside0.mk (Kd.R_mono (Kd.R_keep (IsS84.apart (show IsS84 w0 _ g s0_0 t379 t380 from by repeat (first|(with_reducible first|exact HI0.out|apply IsS84.alloc|apply IsS84.drewN|apply IsS84.drew|apply IsS84.set_1|apply IsS84.set_2)|exact HI0.out)) (rz HO375.out) (by decide)) hk (fun _ h=>h.2)) (fun _ h=>h.1));have n1_:=Aside0.mk (Kd.R_mono (Kd.R_keep (IsS84.apart (show IsS84 w0 _ g s0_0 t379 t380 from by repeat (first|(with_reducible first|exact HI0.out|apply IsS84.alloc|apply IsS84.drewN|apply IsS84.drew|apply IsS84.set_1|apply IsS84.set_2)|exact HI0.out)) (rz HO403.out) (by decide)) hk (fun _ h=>h.2)) (fun _ h=>h.1));have n2_:=Aside0.mk (KeepBut.trans (by repeat (first|(with_reducible first|exact HK.out|apply KeepBut.set_|apply keep_drewN|apply keep_drew|apply keep_alloc)|exact HK.out)) hk (.inl rfl));have n3_:=Aside0.mk (hb);have n4_:=Aside0.mk (hi);clear HO375 HO403 HK HB HI0;have HO375:=n0_;have HO403:=n1_;have HK:=n2_;have HB:=n3_;have HI0:=n4_;clear n0_ n1_ n2_ n3_ n4_;(try clear hb);(try clear hb2);(try clear hk);(try clear hi))|((with_reducible refine gate_dst (N:=56) rfl ?_);refine Kd.R_lit (Kd.int .i64) _ 3 ?hg (N:=56) ?hd (xs:=([786432,wrap64 (786432 + (wrap64 (131072 * t404)))] : List Int)) (inner:=[.int .i64 786432,.int .i64 (wrap64 (786432 + (wrap64 (131072 * t404))))]) (ok:=fun _=>True) (okp:=fun _=>True) ?hr ?hp (fun _ hk=>hk) trivial (Below.refl _ _) (Nat.le_refl _) (by simp) ?_;(case hd=>rfl);(case hg=>rfl);(case hr=>first|(go_simp;done)|(go_simp;rfl));(case hp=>exact (Reps.one (show Kd.M (Kd.int .i64) _ _ _ 786432 [.int .i64 786432] from rfl) (Reps.one (show Kd.M (Kd.int .i64) _ _ _ (wrap64 (786432 + (wrap64 (131072 * t404)))) [.int .i64 (wrap64 (786432 + (wrap64 (131072 * t404))))] from rfl) (Reps.none _ _))));intro v408 w47 ho48 hb hg_ hnew_;clear hg_ hnew_;(first|rw [← Ny407.out] at ho48|(simp only [Int.reduceToNat] at ho48;rw [← Ny407.out] at ho48));have n0_:=Aside0.mk (Kd.R_elder' (rz HO375.out) (Kd.R_base ho48) hb);have n1_:=Aside0.mk (Kd.R_elder' (rz HO403.out) (Kd.R_base ho48) hb);have n2_:=Aside0.mk (Kd.R_lower (Kd.R_new' (Kd.R_new' ho48 (Kd.R_lt (rz HO375.out))) (Kd.R_lt (rz HO403.out))) (keep_size (w:=w) (g:=g) (row:=none) (by repeat (first|(with_reducible first|exact HK.out|apply KeepBut.set_|apply keep_drewN|apply keep_drew|apply keep_alloc)|exact HK.out))));have n3_:=Aside0.mk (IsS84.below (by repeat (first|(with_reducible first|exact HI0.out|apply IsS84.alloc|apply IsS84.drewN|apply IsS84.drew|apply IsS84.set_1|apply IsS84.set_2)|exact HI0.out)) hb);have n4_:=Aside0.mk (KeepBut.trans (by repeat (first|(with_reducible first|exact HK.out|apply KeepBut.set_|apply keep_drewN|apply keep_drew|apply keep_alloc)|exact HK.out)) (KeepBut.of_below hb g none) (.inl rfl));have n5_:=Aside0.mk (below_step (by repeat (first|(with_reducible first|exact HB.out|apply below_alloc|apply pw_below_drewN|apply below_drew1|refine below_set ?_ (IsS84.ge HI0.out))|exact HB.out)) hb);clear HO375 HO403 HI0 HK HB;have HO375:=n0_;have HO403:=n1_;have HO409:=n2_;have HI0:=n3_;have HK:=n4_;have HB:=n5_;clear n0_ n1_ n2_ n3_ n4_ n5_;clear hb ho48;obtain ⟨Ao50,co50,eo50⟩:=Kd.R_slice HO409.out;subst eo50)|((with_reducible refine gate_builtin (b:=.append) (xs:=#[.tmp 51,.tmp 56]) rfl ?_);at_builtin;refine Kd.R_append_rows (Kd.int .i64) w.heap.size rfl (.tmp 51) (.tmp 56) 23 3 (.int .i64 0) 8 rfl Try.underlying23 info3 rfl (by decide) (by omega) v402 y401 y407 _ _ _ (fun k_=>some k_ ≠ (v374 : Value).ownBlock ∧ some k_ ≠ (.slice Ao50 y407.length co50 : Value).ownBlock) (fun _=>False) rfl rfl ?aO ?aR (fun _ _ h=>h) (fun _ h=>h.elim) ?aF (Below.refl _ _) ?aS ?aL ?_;(case aR=>repeat (first|exact (Kd.R_reads' HO409.out).2.2|(with_reducible refine Kd.C_alloc ?_ _)|(with_reducible refine Kd.C_drewN ?_ _)|(with_reducible refine Kd.C_drew ?_)));(case aF=>exact (fun k_ hk=>⟨Kd.fresh' (Kd.R_lt (rz HO375.out)) k_ hk,Kd.fresh' (Kd.R_lt (rz HO409.out)) k_ hk⟩));(case aO=>exact (by (with_reducible repeat (first|apply Kd.R_alloc|apply Kd.R_drewN|apply Kd.R_drew));exact Kd.R_mono HO403.out (fun _ hk=>⟨hk.1.2,hk.2⟩)));(case aS=>exact (keep_size (w:=w) (g:=g) (row:=none) (by repeat (first|(with_reducible first|exact HK.out|apply KeepBut.set_|apply keep_drewN|apply keep_drew|apply keep_alloc)|exact HK.out))));(case aL=>have:=LMc41.out;omega);intro v411 w49 ho hb hg hat;rw [← Ny410.out] at ho;have n0_:=Aside0.mk (IsS84.grown (by repeat (first|(with_reducible first|exact HI0.out|apply IsS84.alloc|apply IsS84.drewN|apply IsS84.drew|apply IsS84.set_1|apply IsS84.set_2)|exact HI0.out)) hg (IsS84.own_ne HI0.out HO403.out (by decide)));have n1_:=Aside0.mk (Kd.R_after (ok:=(fun k_=>some k_ ≠ (.slice Ao50 y407.length co50 : Value).ownBlock)) (by (with_reducible repeat (first|apply Kd.R_alloc|apply Kd.R_drewN|apply Kd.R_drew));exact Kd.R_mono HO375.out (fun _ hk=>⟨hk.2,hk.1.2⟩)) hg hat);have n2_:=Aside0.mk (Kd.R_after (ok:=(fun k_=>some k_ ≠ (v374 : Value).ownBlock)) (by (with_reducible repeat (first|apply Kd.R_alloc|apply Kd.R_drewN|apply Kd.R_drew));exact Kd.R_mono HO409.out (fun _ hk=>⟨hk.1.2,hk.2⟩)) hg hat);have n3_:=Aside0.mk (below_weaken (by repeat (first|(with_reducible first|exact HB.out|apply below_alloc|apply pw_below_drewN|apply below_drew1|refine below_set ?_ (IsS84.ge HI0.out))|exact HB.out)) HL.out hb);have n4_:=Aside0.mk (KeepBut.trans (by repeat (first|(with_reducible first|exact HK.out|apply KeepBut.set_|apply keep_drewN|apply keep_drew|apply keep_alloc)|exact HK.out)) (KeepBut.of_grown hg g) (Kd.R_base2 HO403.out));have n5_:=Aside0.mk (ho);clear HI0 HO375 HO409 HB HK HO403;have HI0:=n0_;have HO375:=n1_;have HO409:=n2_;have HB:=n3_;have HK:=n4_;have HO412:=n5_;clear n0_ n1_ n2_ n3_ n4_ n5_;clear ho hb hg hat))
       go_ret
       exact ⟨_,by first|rfl|(simp [errW_none,errW_some] <;> rfl)|(simp [*,errW_none,errW_some] <;> rfl),by (with_reducible repeat (first|apply Kd.R_alloc|apply Kd.R_drewN|apply Kd.R_drew));exact Kd.R_mono HO412.out (fun _ hk=>trivial),by repeat (first|(with_reducible first|exact HI0.out|apply IsS84.alloc|apply IsS84.drewN|apply IsS84.drew|apply IsS84.set_1|apply IsS84.set_2)|exact HI0.out),by repeat (first|(with_reducible first|exact HB.out|apply below_alloc|apply pw_below_drewN|apply below_drew1|refine below_set ?_ (IsS84.ge HI0.out))|exact HB.out),by repeat (first|(with_reducible first|exact HK.out|apply KeepBut.set_|apply keep_drewN|apply keep_drew|apply keep_alloc)|exact HK.out)⟩
      ·rw [if_neg c41] at H
       exact absurd H (by simp)
     ·rw [if_neg c39] at H
      have c39b0 : (t378 == 4) = false:=beq_eq_false_iff_ne.mpr c39
      have c39b1 : (t378 != 4) = true:=bne_iff_ne.mpr c39
      simp only [Option.some.injEq,Prod.mk.injEq] at H
      obtain ⟨rfl,rfl,rfl⟩:=H
      go_enter Try.func73,Try.ntmps73
      go_wp2_with (first|((with_reducible refine gate_callee (f:=115) rfl ?_);refine goesL_ (some 8) rfl rfl Try.func115 (by kernel_rfl) rfl #[.pointer (some ⟨g,0,none⟩),.int .i64 a1] rfl mz ?_;(with_reducible refine (spec_l1Cur_chain.calls k g s0_0 s0_1 s0_2 a1 t373 t376 t377 w0 _ ?side1 ?side2 A3.out).mono ?_);(case side1=>repeat (first|(with_reducible first|exact HI0.out|apply IsS84.alloc|apply IsS84.drewN|apply IsS84.drew|apply IsS84.set_1|apply IsS84.set_2)|exact HI0.out));(case side2=>repeat (first|(with_reducible first|exact HB.out|apply below_alloc|apply pw_below_drewN|apply below_drew1|refine below_set ?_ (IsS84.ge HI0.out))|exact HB.out));rintro e w51 ⟨v374,rfl,ho0,hi,hb,hk⟩;refine ⟨_,rfl,?_⟩;have n0_:=Aside0.mk (Kd.R_lower ho0 (keep_size (w:=w) (g:=g) (row:=none) (by repeat (first|(with_reducible first|exact HK.out|apply KeepBut.set_|apply keep_drewN|apply keep_drew|apply keep_alloc)|exact HK.out))));have n1_:=Aside0.mk (KeepBut.trans (by repeat (first|(with_reducible first|exact HK.out|apply KeepBut.set_|apply keep_drewN|apply keep_drew|apply keep_alloc)|exact HK.out)) hk (.inl rfl));have n2_:=Aside0.mk (hb);have n3_:=Aside0.mk (hi);clear HK HB HI0;have HO375:=n0_;have HK:=n1_;have HB:=n2_;have HI0:=n3_;clear n0_ n1_ n2_ n3_;(try clear hb);(try clear hb2);(try clear hk);(try clear hi);(try clear ho0))|((with_reducible refine gate_callee (f:=74) rfl ?_);refine goesL_ (some 10) rfl rfl Try.func74 (by kernel_rfl) rfl #[.pointer (some ⟨g,0,none⟩),.int .i64 14] rfl mz ?_;(with_reducible refine (spec_l1Cur_pick.calls g s0_0 t376 t377 14 t378 t379 t380 w0 _ ?side1 ?side2 A4.out).mono ?_);(case side1=>repeat (first|(with_reducible first|exact HI0.out|apply IsS84.alloc|apply IsS84.drewN|apply IsS84.drew|apply IsS84.set_1|apply IsS84.set_2)|exact HI0.out));(case side2=>repeat (first|(with_reducible first|exact HB.out|apply below_alloc|apply pw_below_drewN|apply below_drew1|refine below_set ?_ (IsS84.ge HI0.out))|exact HB.out));rintro e w52 ⟨rfl,hi,hb,hk⟩;refine ⟨_,rfl,?_⟩;have n0_:=Aside0.mk (Kd.R_mono (Kd.R_keep (IsS84.apart (show IsS84 w0 _ g s0_0 t376 t377 from by repeat (first|(with_reducible first|exact HI0.out|apply IsS84.alloc|apply IsS84.drewN|apply IsS84.drew|apply IsS84.set_1|apply IsS84.set_2)|exact HI0.out)) (rz HO375.out) (by decide)) hk (fun _ h=>h.2)) (fun _ h=>h.1));have n1_:=Aside0.mk (KeepBut.trans (by repeat (first|(with_reducible first|exact HK.out|apply KeepBut.set_|apply keep_drewN|apply keep_drew|apply keep_alloc)|exact HK.out)) hk (.inl rfl));have n2_:=Aside0.mk (hb);have n3_:=Aside0.mk (hi);clear HO375 HK HB HI0;have HO375:=n0_;have HK:=n1_;have HB:=n2_;have HI0:=n3_;clear n0_ n1_ n2_ n3_;(try clear hb);(try clear hb2);(try clear hk);(try clear hi)))
      go_ret
      exact ⟨_,by first|rfl|(simp [errW_none,errW_some] <;> rfl)|(simp [*,errW_none,errW_some] <;> rfl),by (with_reducible repeat (first|apply Kd.R_alloc|apply Kd.R_drewN|apply Kd.R_drew));exact HO375.out,by repeat (first|(with_reducible first|exact HI0.out|apply IsS84.alloc|apply IsS84.drewN|apply IsS84.drew|apply IsS84.set_1|apply IsS84.set_2)|exact HI0.out),by repeat (first|(with_reducible first|exact HB.out|apply below_alloc|apply pw_below_drewN|apply below_drew1|refine below_set ?_ (IsS84.ge HI0.out))|exact HB.out),by repeat (first|(with_reducible first|exact HK.out|apply KeepBut.set_|apply keep_drewN|apply keep_drew|apply keep_alloc)|exact HK.out)⟩
/-! ### spec_l1Cur_among: function 76 -/
def spec_l1Cur_among.f (s0_0 : List Int) (s0_1 : Int) (s0_2 : Int) (l1 : List Int) : Option (Int × Int × Int):=(spec_l1Cur_pick.f s0_0 s0_1 s0_2 (l1.length : Int)).bind fun bt413=>(if 0 ≤ bt413.1 then (if bt413.1 < (l1.length : Int) then (some (rd l1 bt413.1,bt413.2.1,bt413.2.2)) else (none)) else (none))
set_option maxHeartbeats 8000000 in
set_option maxRecDepth 100000 in
theorem spec_l1Cur_among.calls (g : Nat) (s0_0 : List Int) (s0_1 : Int) (s0_2 : Int) (A1 : Option Addr) (c1 : Nat) (l1 : List Int) (r1 : Int) (r2 : Int) (r3 : Int) (w0 w : World) (hI : IsS84 w0 w g s0_0 s0_1 s0_2) (hB : Below w0.heap.size w0 w) (hr1 : Kd.C (Kd.int .i64) w A1 l1.length l1) (hc1 : l1.length ≤ c1) (hf1 : ∀ ad,A1 = some ad → 0 < l1.length → ad.block ≠ g) (h : spec_l1Cur_among.f s0_0 s0_1 s0_2 l1 = some (r1,r2,r3)) :
  Calls Try.prog 76 #[.pointer (some ⟨g,0,none⟩),.slice A1 l1.length c1] w fun e w'=>e = .returned (.int .i64 r1) ∧ IsS84 w0 w' g s0_0 r2 r3 ∧ Below w0.heap.size w0 w' ∧ KeepBut w w' g none:=by
 have HR1:=Aside0.mk hr1
 have HC1:=Aside0.mk hc1
 clear hr1 hc1
 have HI0:=Aside0.mk hI
 have HK:=Aside0.mk (KeepBut.refl w g none)
 have HL:=Aside0.mk hB.size
 clear hI
 have HW0:=Aside0.mk hB.size
 have HB:=Aside0.mk hB
 clear hB
 have H : ((spec_l1Cur_pick.f s0_0 s0_1 s0_2 (l1.length : Int)).bind fun bt413=>(if 0 ≤ bt413.1 then (if bt413.1 < (l1.length : Int) then (some (rd l1 bt413.1,bt413.2.1,bt413.2.2)) else (none)) else (none))) = some (r1,r2,r3):=h
 clear h
 replace H:=Option.bind_eq_some_iff.mp H
 obtain ⟨⟨t413,t414,t415⟩,A30,H⟩:=H
 replace H : (if 0 ≤ t413 then (if t413 < (l1.length : Int) then (some (rd l1 t413,t414,t415)) else (none)) else (none)) = some (r1,r2,r3):=H
 have A3:=Aside0.mk A30
 clear A30
 by_cases c4 : 0 ≤ t413
 ·rw [if_pos c4] at H
  have c4b0 : decide (0 ≤ t413) = true:=decide_eq_true c4
  clear c4
  by_cases c5 : t413 < (l1.length : Int)
  ·rw [if_pos c5] at H
   have c5b0 : decide (t413 < (l1.length : Int)) = true:=decide_eq_true c5
   clear c5
   simp only [Option.some.injEq,Prod.mk.injEq] at H
   obtain ⟨rfl,rfl,rfl⟩:=H
   go_enter Try.func76,Try.ntmps76
   go_wp2_with (first|((with_reducible refine gate_callee (f:=74) rfl ?_);refine goesL_ (some 9) rfl rfl Try.func74 (by kernel_rfl) rfl #[.pointer (some ⟨g,0,none⟩),.int .i64 (l1.length : Int)] rfl mz ?_;(with_reducible refine (spec_l1Cur_pick.calls g s0_0 s0_1 s0_2 (l1.length : Int) t413 t414 t415 w0 _ ?side1 ?side2 A3.out).mono ?_);(case side1=>repeat (first|(with_reducible first|exact HI0.out|apply IsS84.alloc|apply IsS84.drewN|apply IsS84.drew|apply IsS84.set_1|apply IsS84.set_2)|exact HI0.out));(case side2=>repeat (first|(with_reducible first|exact HB.out|apply below_alloc|apply pw_below_drewN|apply below_drew1|refine below_set ?_ (IsS84.ge HI0.out))|exact HB.out));rintro e w6 ⟨rfl,hi,hb,hk⟩;refine ⟨_,rfl,?_⟩;have n0_:=Aside0.mk (KeepBut.trans (by repeat (first|(with_reducible first|exact HK.out|apply KeepBut.set_|apply keep_drewN|apply keep_drew|apply keep_alloc)|exact HK.out)) hk (.inl rfl));have n1_:=Aside0.mk (hb);have n2_:=Aside0.mk (hi);clear HK HB HI0;have HK:=n0_;have HB:=n1_;have HI0:=n2_;clear n0_ n1_ n2_;(try clear hb);(try clear hb2);(try clear hk);(try clear hi);have p416 : 0 ≤ (t413 : Int):=of_decide_eq_true az;have q416 : t413 < (l1.length : Int):=of_decide_eq_true az;obtain ⟨ad416,e416,hx416_0⟩:=Kd.at_int HR1.out t413 p416 q416;cases e416;replace hx416_0:=keep_cell HK.out hx416_0 (by first|(rw [add_block];exact hf1 _ rfl (by omega))|exact hf1 _ rfl (by omega)|exact hf1 ad416 rfl (by omega));replace p416:=eq_true p416;replace q416:=eq_true q416))
   go_ret
   exact ⟨by first|rfl|(simp [errW_none,errW_some] <;> rfl)|(simp [*,errW_none,errW_some] <;> rfl),by repeat (first|(with_reducible first|exact HI0.out|apply IsS84.alloc|apply IsS84.drewN|apply IsS84.drew|apply IsS84.set_1|apply IsS84.set_2)|exact HI0.out),by repeat (first|(with_reducible first|exact HB.out|apply below_alloc|apply pw_below_drewN|apply below_drew1|refine below_set ?_ (IsS84.ge HI0.out))|exact HB.out),by repeat (first|(with_reducible first|exact HK.out|apply KeepBut.set_|apply keep_drewN|apply keep_drew|apply keep_alloc)|exact HK.out)⟩
  ·rw [if_neg c5] at H
   exact absurd H (by simp)
 ·rw [if_neg c4] at H
  exact absurd H (by simp)
/-! ### spec_l1Cur_number: function 77 -/
def spec_l1Cur_number.f (s0_0 : List Int) (s0_1 : Int) (s0_2 : Int) : Option (Int × Int × Int):=(spec_l1Cur_pick.f s0_0 s0_1 s0_2 8).bind fun bt417=>(if bt417.1 = 0 then ((spec_l1Cur_among.f s0_0 bt417.2.1 bt417.2.2 (([(-1),0,1,2,1000000,1000001] : List Int))).bind fun bt423=>(some (bt423.1,bt423.2.1,bt423.2.2))) else (if bt417.1 = 1 then ((spec_l1Cur_pick.f s0_0 bt417.2.1 bt417.2.2 1000000).bind fun bt426=>(some (wrap64 (1 + bt426.1),bt426.2.1,bt426.2.2))) else ((spec_l1Cur_pick.f s0_0 bt417.2.1 bt417.2.2 120).bind fun bt429=>(some (wrap64 (1 + bt429.1),bt429.2.1,bt429.2.2)))))
set_option maxHeartbeats 8000000 in
set_option maxRecDepth 100000 in
theorem spec_l1Cur_number.calls (g : Nat) (s0_0 : List Int) (s0_1 : Int) (s0_2 : Int) (r1 : Int) (r2 : Int) (r3 : Int) (w0 w : World) (hI : IsS84 w0 w g s0_0 s0_1 s0_2) (hB : Below w0.heap.size w0 w) (h : spec_l1Cur_number.f s0_0 s0_1 s0_2 = some (r1,r2,r3)) :
  Calls Try.prog 77 #[.pointer (some ⟨g,0,none⟩)] w fun e w'=>e = .returned (.int .i64 r1) ∧ IsS84 w0 w' g s0_0 r2 r3 ∧ Below w0.heap.size w0 w' ∧ KeepBut w w' g none:=by
 have HI0:=Aside0.mk hI
 have HK:=Aside0.mk (KeepBut.refl w g none)
 have HL:=Aside0.mk hB.size
 clear hI
 have HW0:=Aside0.mk hB.size
 have HB:=Aside0.mk hB
 clear hB
 have H : ((spec_l1Cur_pick.f s0_0 s0_1 s0_2 8).bind fun bt417=>(if bt417.1 = 0 then ((spec_l1Cur_among.f s0_0 bt417.2.1 bt417.2.2 (([(-1),0,1,2,1000000,1000001] : List Int))).bind fun bt423=>(some (bt423.1,bt423.2.1,bt423.2.2))) else (if bt417.1 = 1 then ((spec_l1Cur_pick.f s0_0 bt417.2.1 bt417.2.2 1000000).bind fun bt426=>(some (wrap64 (1 + bt426.1),bt426.2.1,bt426.2.2))) else ((spec_l1Cur_pick.f s0_0 bt417.2.1 bt417.2.2 120).bind fun bt429=>(some (wrap64 (1 + bt429.1),bt429.2.1,bt429.2.2)))))) = some (r1,r2,r3):=h
 clear h
 replace H:=Option.bind_eq_some_iff.mp H
 obtain ⟨⟨t417,t418,t419⟩,A20,H⟩:=H
 replace H : (if t417 = 0 then ((spec_l1Cur_among.f s0_0 t418 t419 (([(-1),0,1,2,1000000,1000001] : List Int))).bind fun bt423=>(some (bt423.1,bt423.2.1,bt423.2.2))) else (if t417 = 1 then ((spec_l1Cur_pick.f s0_0 t418 t419 1000000).bind fun bt426=>(some (wrap64 (1 + bt426.1),bt426.2.1,bt426.2.2))) else ((spec_l1Cur_pick.f s0_0 t418 t419 120).bind fun bt429=>(some (wrap64 (1 + bt429.1),bt429.2.1,bt429.2.2))))) = some (r1,r2,r3):=H
 have A2:=Aside0.mk A20
 clear A20
 by_cases c3 : t417 = 0
 ·rw [if_pos c3] at H
  have c3b0 : (t417 == 0) = true:=beq_iff_eq.mpr c3
  have c3b1 : (t417 != 0) = false:=bne_eq_false_iff_eq.mpr c3
  clear c3
  obtain ⟨y420,hy420⟩ : ∃ y_ : List Int,y_ = (([(-1),0,1,2,1000000,1000001] : List Int)):=⟨_,rfl⟩
  replace H : ((spec_l1Cur_among.f s0_0 t418 t419 y420).bind fun bt423=>(some (bt423.1,bt423.2.1,bt423.2.2))) = some (r1,r2,r3):=by first|(rw [hy420];with_reducible exact H)|(have H2_:=(Option.bind_some _ _).symm.trans H;rw [hy420];with_reducible exact H2_)|(have H2_:=(Option.bind_some _ _).symm.trans H;with_reducible exact H2_)|with_reducible exact H|(rw [hy420];exact H)|exact H
  have Ny420:=Aside0.mk hy420
  clear hy420
  replace H:=Option.bind_eq_some_iff.mp H
  obtain ⟨⟨t423,t424,t425⟩,A40,H⟩:=H
  replace H : (some (t423,t424,t425)) = some (r1,r2,r3):=H
  have A4:=Aside0.mk A40
  clear A40
  simp only [Option.some.injEq,Prod.mk.injEq] at H
  obtain ⟨rfl,rfl,rfl⟩:=H
  go_enter Try.func77,Try.ntmps77
  go_wp2_with (first|((with_reducible refine gate_callee (f:=74) rfl ?_);refine goesL_ (some 4) rfl rfl Try.func74 (by kernel_rfl) rfl #[.pointer (some ⟨g,0,none⟩),.int .i64 8] rfl mz ?_;(with_reducible refine (spec_l1Cur_pick.calls g s0_0 s0_1 s0_2 8 t417 t418 t419 w0 _ ?side1 ?side2 A2.out).mono ?_);(case side1=>repeat (first|(with_reducible first|exact HI0.out|apply IsS84.alloc|apply IsS84.drewN|apply IsS84.drew|apply IsS84.set_1|apply IsS84.set_2)|exact HI0.out));(case side2=>repeat (first|(with_reducible first|exact HB.out|apply below_alloc|apply pw_below_drewN|apply below_drew1|refine below_set ?_ (IsS84.ge HI0.out))|exact HB.out));rintro e w5 ⟨rfl,hi,hb,hk⟩;refine ⟨_,rfl,?_⟩;have n0_:=Aside0.mk (KeepBut.trans (by repeat (first|(with_reducible first|exact HK.out|apply KeepBut.set_|apply keep_drewN|apply keep_drew|apply keep_alloc)|exact HK.out)) hk (.inl rfl));have n1_:=Aside0.mk (hb);have n2_:=Aside0.mk (hi);clear HK HB HI0;have HK:=n0_;have HB:=n1_;have HI0:=n2_;clear n0_ n1_ n2_;(try clear hb);(try clear hb2);(try clear hk);(try clear hi))|((with_reducible refine gate_dst (N:=8) rfl ?_);refine Kd.R_lit (Kd.int .i64) _ 3 ?hg (N:=8) ?hd (xs:=([(-1),0,1,2,1000000,1000001] : List Int)) (inner:=[.int .i64 (-1),.int .i64 0,.int .i64 1,.int .i64 2,.int .i64 1000000,.int .i64 1000001]) (ok:=fun _=>True) (okp:=fun _=>True) ?hr ?hp (fun _ hk=>hk) trivial (Below.refl _ _) (Nat.le_refl _) (by simp) ?_;(case hd=>rfl);(case hg=>rfl);(case hr=>first|(go_simp;done)|(go_simp;rfl));(case hp=>exact (Reps.one (show Kd.M (Kd.int .i64) _ _ _ (-1) [.int .i64 (-1)] from rfl) (Reps.one (show Kd.M (Kd.int .i64) _ _ _ 0 [.int .i64 0] from rfl) (Reps.one (show Kd.M (Kd.int .i64) _ _ _ 1 [.int .i64 1] from rfl) (Reps.one (show Kd.M (Kd.int .i64) _ _ _ 2 [.int .i64 2] from rfl) (Reps.one (show Kd.M (Kd.int .i64) _ _ _ 1000000 [.int .i64 1000000] from rfl) (Reps.one (show Kd.M (Kd.int .i64) _ _ _ 1000001 [.int .i64 1000001] from rfl) (Reps.none _ _))))))));intro v421 w6 ho7 hb hg_ hnew_;clear hg_ hnew_;(first|rw [← Ny420.out] at ho7|(simp only [Int.reduceToNat] at ho7;rw [← Ny420.out] at ho7));have n0_:=Aside0.mk (Kd.R_lower ho7 (keep_size (w:=w) (g:=g) (row:=none) (by repeat (first|(with_reducible first|exact HK.out|apply KeepBut.set_|apply keep_drewN|apply keep_drew|apply keep_alloc)|exact HK.out))));have n1_:=Aside0.mk (IsS84.below (by repeat (first|(with_reducible first|exact HI0.out|apply IsS84.alloc|apply IsS84.drewN|apply IsS84.drew|apply IsS84.set_1|apply IsS84.set_2)|exact HI0.out)) hb);have n2_:=Aside0.mk (KeepBut.trans (by repeat (first|(with_reducible first|exact HK.out|apply KeepBut.set_|apply keep_drewN|apply keep_drew|apply keep_alloc)|exact HK.out)) (KeepBut.of_below hb g none) (.inl rfl));have n3_:=Aside0.mk (below_step (by repeat (first|(with_reducible first|exact HB.out|apply below_alloc|apply pw_below_drewN|apply below_drew1|refine below_set ?_ (IsS84.ge HI0.out))|exact HB.out)) hb);clear HI0 HK HB;have HO422:=n0_;have HI0:=n1_;have HK:=n2_;have HB:=n3_;clear n0_ n1_ n2_ n3_;clear hb ho7;obtain ⟨Ao8,co8,eo8⟩:=Kd.R_slice HO422.out;subst eo8)|((with_reducible refine gate_callee (f:=76) rfl ?_);refine goesL_ (some 9) rfl rfl Try.func76 (by kernel_rfl) rfl #[.pointer (some ⟨g,0,none⟩),.slice Ao8 y420.length co8] rfl mz ?_;(with_reducible refine (spec_l1Cur_among.calls g s0_0 t418 t419 _ _ y420 t423 t424 t425 w0 _ ?side1 ?side2 ?side3 ?side4 ?side5 A4.out).mono ?_);(case side1=>repeat (first|(with_reducible first|exact HI0.out|apply IsS84.alloc|apply IsS84.drewN|apply IsS84.drew|apply IsS84.set_1|apply IsS84.set_2)|exact HI0.out));(case side2=>repeat (first|(with_reducible first|exact HB.out|apply below_alloc|apply pw_below_drewN|apply below_drew1|refine below_set ?_ (IsS84.ge HI0.out))|exact HB.out));(case side3=>exact cz (Kd.R_reads' HO422.out).2.2);(case side4=>exact (Kd.R_reads' HO422.out).2.1);(case side5=>exact far_slice (IsS84.own_ne HI0.out HO422.out (by decide)));rintro e w9 ⟨rfl,hi,hb,hk⟩;refine ⟨_,rfl,?_⟩;have n0_:=Aside0.mk (Kd.R_mono (Kd.R_keep (IsS84.apart (show IsS84 w0 _ g s0_0 t418 t419 from by repeat (first|(with_reducible first|exact HI0.out|apply IsS84.alloc|apply IsS84.drewN|apply IsS84.drew|apply IsS84.set_1|apply IsS84.set_2)|exact HI0.out)) (rz HO422.out) (by decide)) hk (fun _ h=>h.2)) (fun _ h=>h.1));have n1_:=Aside0.mk (KeepBut.trans (by repeat (first|(with_reducible first|exact HK.out|apply KeepBut.set_|apply keep_drewN|apply keep_drew|apply keep_alloc)|exact HK.out)) hk (.inl rfl));have n2_:=Aside0.mk (hb);have n3_:=Aside0.mk (hi);clear HO422 HK HB HI0;have HO422:=n0_;have HK:=n1_;have HB:=n2_;have HI0:=n3_;clear n0_ n1_ n2_ n3_;(try clear hb);(try clear hb2);(try clear hk);(try clear hi)))
  go_ret
  exact ⟨by first|rfl|(simp [errW_none,errW_some] <;> rfl)|(simp [*,errW_none,errW_some] <;> rfl),by repeat (first|(with_reducible first|exact HI0.out|apply IsS84.alloc|apply IsS84.drewN|apply IsS84.drew|apply IsS84.set_1|apply IsS84.set_2)|exact HI0.out),by repeat (first|(with_reducible first|exact HB.out|apply below_alloc|apply pw_below_drewN|apply below_drew1|refine below_set ?_ (IsS84.ge HI0.out))|exact HB.out),by repeat (first|(with_reducible first|exact HK.out|apply KeepBut.set_|apply keep_drewN|apply keep_drew|apply keep_alloc)|exact HK.out)⟩
 ·rw [if_neg c3] at H
  have c3b0 : (t417 == 0) = false:=beq_eq_false_iff_ne.mpr c3
  have c3b1 : (t417 != 0) = true:=bne_iff_ne.mpr c3
  by_cases c10 : t417 = 1
  ·rw [if_pos c10] at H
   have c10b0 : (t417 == 1) = true:=beq_iff_eq.mpr c10
   have c10b1 : (t417 != 1) = false:=bne_eq_false_iff_eq.mpr c10
   clear c10
   replace H:=Option.bind_eq_some_iff.mp H
   obtain ⟨⟨t426,t427,t428⟩,A110,H⟩:=H
   replace H : (some (wrap64 (1 + t426),t427,t428)) = some (r1,r2,r3):=H
   have A11:=Aside0.mk A110
   clear A110
   simp only [Option.some.injEq,Prod.mk.injEq] at H
   obtain ⟨rfl,rfl,rfl⟩:=H
   go_enter Try.func77,Try.ntmps77
   go_wp2_with (first|((with_reducible refine gate_callee (f:=74) rfl ?_);refine goesL_ (some 4) rfl rfl Try.func74 (by kernel_rfl) rfl #[.pointer (some ⟨g,0,none⟩),.int .i64 8] rfl mz ?_;(with_reducible refine (spec_l1Cur_pick.calls g s0_0 s0_1 s0_2 8 t417 t418 t419 w0 _ ?side1 ?side2 A2.out).mono ?_);(case side1=>repeat (first|(with_reducible first|exact HI0.out|apply IsS84.alloc|apply IsS84.drewN|apply IsS84.drew|apply IsS84.set_1|apply IsS84.set_2)|exact HI0.out));(case side2=>repeat (first|(with_reducible first|exact HB.out|apply below_alloc|apply pw_below_drewN|apply below_drew1|refine below_set ?_ (IsS84.ge HI0.out))|exact HB.out));rintro e w12 ⟨rfl,hi,hb,hk⟩;refine ⟨_,rfl,?_⟩;have n0_:=Aside0.mk (KeepBut.trans (by repeat (first|(with_reducible first|exact HK.out|apply KeepBut.set_|apply keep_drewN|apply keep_drew|apply keep_alloc)|exact HK.out)) hk (.inl rfl));have n1_:=Aside0.mk (hb);have n2_:=Aside0.mk (hi);clear HK HB HI0;have HK:=n0_;have HB:=n1_;have HI0:=n2_;clear n0_ n1_ n2_;(try clear hb);(try clear hb2);(try clear hk);(try clear hi))|((with_reducible refine gate_callee (f:=74) rfl ?_);refine goesL_ (some 13) rfl rfl Try.func74 (by kernel_rfl) rfl #[.pointer (some ⟨g,0,none⟩),.int .i64 1000000] rfl mz ?_;(with_reducible refine (spec_l1Cur_pick.calls g s0_0 t418 t419 1000000 t426 t427 t428 w0 _ ?side1 ?side2 A11.out).mono ?_);(case side1=>repeat (first|(with_reducible first|exact HI0.out|apply IsS84.alloc|apply IsS84.drewN|apply IsS84.drew|apply IsS84.set_1|apply IsS84.set_2)|exact HI0.out));(case side2=>repeat (first|(with_reducible first|exact HB.out|apply below_alloc|apply pw_below_drewN|apply below_drew1|refine below_set ?_ (IsS84.ge HI0.out))|exact HB.out));rintro e w13 ⟨rfl,hi,hb,hk⟩;refine ⟨_,rfl,?_⟩;have n0_:=Aside0.mk (KeepBut.trans (by repeat (first|(with_reducible first|exact HK.out|apply KeepBut.set_|apply keep_drewN|apply keep_drew|apply keep_alloc)|exact HK.out)) hk (.inl rfl));have n1_:=Aside0.mk (hb);have n2_:=Aside0.mk (hi);clear HK HB HI0;have HK:=n0_;have HB:=n1_;have HI0:=n2_;clear n0_ n1_ n2_;(try clear hb);(try clear hb2);(try clear hk);(try clear hi)))
   go_ret
   exact ⟨by first|rfl|(simp [errW_none,errW_some] <;> rfl)|(simp [*,errW_none,errW_some] <;> rfl),by repeat (first|(with_reducible first|exact HI0.out|apply IsS84.alloc|apply IsS84.drewN|apply IsS84.drew|apply IsS84.set_1|apply IsS84.set_2)|exact HI0.out),by repeat (first|(with_reducible first|exact HB.out|apply below_alloc|apply pw_below_drewN|apply below_drew1|refine below_set ?_ (IsS84.ge HI0.out))|exact HB.out),by repeat (first|(with_reducible first|exact HK.out|apply KeepBut.set_|apply keep_drewN|apply keep_drew|apply keep_alloc)|exact HK.out)⟩
  ·rw [if_neg c10] at H
   have c10b0 : (t417 == 1) = false:=beq_eq_false_iff_ne.mpr c10
   have c10b1 : (t417 != 1) = true:=bne_iff_ne.mpr c10
   replace H:=Option.bind_eq_some_iff.mp H
   obtain ⟨⟨t429,t430,t431⟩,A140,H⟩:=H
   replace H : (some (wrap64 (1 + t429),t430,t431)) = some (r1,r2,r3):=H
   have A14:=Aside0.mk A140
   clear A140
   simp only [Option.some.injEq,Prod.mk.injEq] at H
   obtain ⟨rfl,rfl,rfl⟩:=H
   go_enter Try.func77,Try.ntmps77
   go_wp2_with (first|((with_reducible refine gate_callee (f:=74) rfl ?_);refine goesL_ (some 4) rfl rfl Try.func74 (by kernel_rfl) rfl #[.pointer (some ⟨g,0,none⟩),.int .i64 8] rfl mz ?_;(with_reducible refine (spec_l1Cur_pick.calls g s0_0 s0_1 s0_2 8 t417 t418 t419 w0 _ ?side1 ?side2 A2.out).mono ?_);(case side1=>repeat (first|(with_reducible first|exact HI0.out|apply IsS84.alloc|apply IsS84.drewN|apply IsS84.drew|apply IsS84.set_1|apply IsS84.set_2)|exact HI0.out));(case side2=>repeat (first|(with_reducible first|exact HB.out|apply below_alloc|apply pw_below_drewN|apply below_drew1|refine below_set ?_ (IsS84.ge HI0.out))|exact HB.out));rintro e w15 ⟨rfl,hi,hb,hk⟩;refine ⟨_,rfl,?_⟩;have n0_:=Aside0.mk (KeepBut.trans (by repeat (first|(with_reducible first|exact HK.out|apply KeepBut.set_|apply keep_drewN|apply keep_drew|apply keep_alloc)|exact HK.out)) hk (.inl rfl));have n1_:=Aside0.mk (hb);have n2_:=Aside0.mk (hi);clear HK HB HI0;have HK:=n0_;have HB:=n1_;have HI0:=n2_;clear n0_ n1_ n2_;(try clear hb);(try clear hb2);(try clear hk);(try clear hi))|((with_reducible refine gate_callee (f:=74) rfl ?_);refine goesL_ (some 16) rfl rfl Try.func74 (by kernel_rfl) rfl #[.pointer (some ⟨g,0,none⟩),.int .i64 120] rfl mz ?_;(with_reducible refine (spec_l1Cur_pick.calls g s0_0 t418 t419 120 t429 t430 t431 w0 _ ?side1 ?side2 A14.out).mono ?_);(case side1=>repeat (first|(with_reducible first|exact HI0.out|apply IsS84.alloc|apply IsS84.drewN|apply IsS84.drew|apply IsS84.set_1|apply IsS84.set_2)|exact HI0.out));(case side2=>repeat (first|(with_reducible first|exact HB.out|apply below_alloc|apply pw_below_drewN|apply below_drew1|refine below_set ?_ (IsS84.ge HI0.out))|exact HB.out));rintro e w16 ⟨rfl,hi,hb,hk⟩;refine ⟨_,rfl,?_⟩;have n0_:=Aside0.mk (KeepBut.trans (by repeat (first|(with_reducible first|exact HK.out|apply KeepBut.set_|apply keep_drewN|apply keep_drew|apply keep_alloc)|exact HK.out)) hk (.inl rfl));have n1_:=Aside0.mk (hb);have n2_:=Aside0.mk (hi);clear HK HB HI0;have HK:=n0_;have HB:=n1_;have HI0:=n2_;clear n0_ n1_ n2_;(try clear hb);(try clear hb2);(try clear hk);(try clear hi)))
   go_ret
   exact ⟨by first|rfl|(simp [errW_none,errW_some] <;> rfl)|(simp [*,errW_none,errW_some] <;> rfl),by repeat (first|(with_reducible first|exact HI0.out|apply IsS84.alloc|apply IsS84.drewN|apply IsS84.drew|apply IsS84.set_1|apply IsS84.set_2)|exact HI0.out),by repeat (first|(with_reducible first|exact HB.out|apply below_alloc|apply pw_below_drewN|apply below_drew1|refine below_set ?_ (IsS84.ge HI0.out))|exact HB.out),by repeat (first|(with_reducible first|exact HK.out|apply KeepBut.set_|apply keep_drewN|apply keep_drew|apply keep_alloc)|exact HK.out)⟩
end Go.Proofs.Ytdcdaoancmpbeaa.MFnSequences
--sq
