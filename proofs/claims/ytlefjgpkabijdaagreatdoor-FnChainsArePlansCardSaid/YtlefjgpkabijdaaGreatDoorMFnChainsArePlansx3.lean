import Derived.Test.YtlefjgpkabijdaaGreatDoorMFnChainsArePlansx0
import Derived.Test.YtlefjgpkabijdaaGreatDoorMFnChainsArePlansx2
namespace Go.Proofs.YtlefjgpkabijdaaGreatDoor.MFnChainsArePlans
open Go.RowKit Go.Proofs.YtlefjgpkabijdaaGreatDoorW.PrintWords Go.Proofs.YtlefjgpkabijdaaGreatDoorW.PrintLast Go.Proofs.YtlefjgpkabijdaaGreatDoorW.PrintMore Go.Proofs.YtlefjgpkabijdaaGreatDoorV Go.Proofs.YtlefjgpkabijdaaGreatDoorZ
attribute [local go_sem] max2_int min2_int max_two min_two max_three min_three max_four min_four   -- for this text's walks alone
set_option linter.unusedVariables false
set_option linter.unusedSimpArgs false
/-! ### spec_l1Cur_anyChain: function 17 -/
def spec_l1Cur_anyChain.l0 : Nat → List Int → List Int → Int → Int → Option (List Int × Int × Int)
 | 0,_,_,_,_=>none
 | k + 1,x5,x1000,x1001,x1002=>(spec_l1Cur_pick.f x1000 x1001 x1002 2).bind fun bt196=>(if (x5.length : Int) < (wrap64 (41 + bt196.1)) then (if x5.length < 17592186044416 then (spec_l1Cur_anyChain.l0 k (x5 ++ [wrap64 ((x5.length : Int) + 1)]) x1000 bt196.2.1 bt196.2.2) else (none)) else (some (x5,bt196.2.1,bt196.2.2)))
def spec_l1Cur_anyChain.f (k : Nat) (s0_0 : List Int) (s0_1 : Int) (s0_2 : Int) (a1 : Int) : Option (List Int × Int × Int):=(spec_l1Cur_chain.f k s0_0 s0_1 s0_2 a1).bind fun bt174=>((spec_l1Cur_pick.f s0_0 bt174.2.1 bt174.2.2 14).bind fun bt179=>(if bt179.1 = 0 then ((spec_l1Cur_pick.f s0_0 bt179.2.1 bt179.2.2 (bt174.1.length : Int)).bind fun bt182=>(if 0 ≤ bt182.1 then (if bt182.1 < (bt174.1.length : Int) then ((spec_l1Cur_pick.f s0_0 bt182.2.1 bt182.2.2 3).bind fun bt186=>(some ((bt174.1.set (bt182.1 : Int).toNat (wrap64 ((rd bt174.1 bt182.1) + (wrap64 (bt186.1 - 1))))),bt186.2.1,bt186.2.2))) else (none)) else (none))) else (if bt179.1 = 1 then ((spec_l1Cur_pick.f s0_0 bt179.2.1 bt179.2.2 40).bind fun bt190=>(if bt174.1.length < 17592186044416 then (some ((bt174.1 ++ [bt190.1]),bt190.2.1,bt190.2.2)) else (none))) else (if bt179.1 = 2 then (some (([] : List Int),bt179.2.1,bt179.2.2)) else (if bt179.1 = 3 then (spec_l1Cur_anyChain.l0 k ([] : List Int) s0_0 bt179.2.1 bt179.2.2) else (if bt179.1 = 4 then ((some (([1,2,4,8,16,32,64,128,256,512,1024,2048,4096,8192,16384,32768,65536,131072,262144,524288] : List Int) : List Int)).bind fun y202=>((spec_l1Cur_pick.f s0_0 bt179.2.1 bt179.2.2 4).bind fun bt205=>((some (([786432,wrap64 (786432 + (wrap64 (131072 * bt205.1)))] : List Int) : List Int)).bind fun y208=>(if y202.length + y208.length < 17592186044416 then (some ((y202 ++ y208),bt205.2.1,bt205.2.2)) else (none))))) else (some (bt174.1,bt179.2.1,bt179.2.2))))))))
theorem spec_l1Cur_anyChain.mono_l : ∀ k,(∀ y0 y1 y2 y3,LeO (spec_l1Cur_anyChain.l0 k y0 y1 y2 y3) (spec_l1Cur_anyChain.l0 (k + 1) y0 y1 y2 y3))
 | 0=>fun _ _ _ _ r h=>by simp [spec_l1Cur_anyChain.l0] at h
 | k + 1=>by
  have ih0:=spec_l1Cur_anyChain.mono_l k
  ·intro y0 y1 y2 y3
   unfold spec_l1Cur_anyChain.l0
   repeat' first
   | (with_reducible exact ih0 _ _ _ _)
   | (with_reducible exact spec_l1Cur_chain.mono _ _ _ _ _)
   | (with_reducible exact LeO.refl _)
   | (with_reducible exact LeO.none _)
   | (with_reducible refine LeO.ite ?_ ?_)
   | (with_reducible refine LeO.bind ?_ (fun _=>?_))
   | exact ih0 _ _ _ _
   | exact spec_l1Cur_chain.mono _ _ _ _ _
   | exact LeO.none _
   | refine LeO.ite ?_ ?_
   | refine LeO.bind ?_ (fun _=>?_)
theorem spec_l1Cur_anyChain.mono : ∀ a0 a1 a2 a3 k,LeO (spec_l1Cur_anyChain.f k a0 a1 a2 a3) (spec_l1Cur_anyChain.f (k + 1) a0 a1 a2 a3):=by
 intro a0 a1 a2 a3 k
 have ih0:=spec_l1Cur_anyChain.mono_l k
 unfold spec_l1Cur_anyChain.f
 repeat' first
   | (with_reducible exact ih0 _ _ _ _)
   | (with_reducible exact spec_l1Cur_chain.mono _ _ _ _ _)
   | (with_reducible exact LeO.refl _)
   | (with_reducible exact LeO.none _)
   | (with_reducible refine LeO.ite ?_ ?_)
   | (with_reducible refine LeO.bind ?_ (fun _=>?_))
   | exact ih0 _ _ _ _
   | exact spec_l1Cur_chain.mono _ _ _ _ _
   | exact LeO.none _
   | refine LeO.ite ?_ ?_
   | refine LeO.bind ?_ (fun _=>?_)
def spec_l1Cur_anyChain.T4 : Bool × List (List Nat × List Nat):=(true,[([],[]),([],[]),([],[]),([2],[2]),([1,3],[1,3]),([0,4],[0,4]),([5],[5]),([],[]),([7,4],[7]),([8],[8]),([6,9],[6,9]),([0,4,0,1,2,3,4,5,6,7,8,9,10],[0,4]),([11,10,8,0,1,2,3,4,5,6,7,8,9,10],[10,11])])
def spec_l1Cur_anyChain.B4 : List Nat:=[0,0,0,4,14,31,63,0,158,414,1023,2047,4095]
theorem spec_l1Cur_anyChain.tab4 : rtab .any (opsOf Tryz.f17 4) = spec_l1Cur_anyChain.T4:=by kernel_rfl
theorem spec_l1Cur_anyChain.bits4 : waitsOk spec_l1Cur_anyChain.T4.2 spec_l1Cur_anyChain.B4 = true:=by kernel_rfl
set_option maxHeartbeats 8000000 in
set_option maxRecDepth 100000 in
theorem spec_l1Cur_anyChain.calls (k : Nat) (g : Nat) (s0_0 : List Int) (s0_1 : Int) (s0_2 : Int) (a1 : Int) (r1 : List Int) (r2 : Int) (r3 : Int) (w0 w : World) (hI : IsS48 w0 w g s0_0 s0_1 s0_2) (hB : Below w0.heap.size w0 w) (h : spec_l1Cur_anyChain.f k s0_0 s0_1 s0_2 a1 = some (r1,r2,r3)) :
  Calls Tryz.prog 17 #[.pointer (some ⟨g,0,none⟩),.int .i64 a1] w fun e w'=>∃ v0_ : Value,e = .returned (v0_) ∧ Kd.R (Kd.int .i64) 3 w' w.heap.size (fun _=>True) v0_ r1 ∧ IsS48 w0 w' g s0_0 r2 r3 ∧ Below w0.heap.size w0 w' ∧ KeepBut w w' g none:=by
 have HI0:=Aside0.mk hI
 have HK:=Aside0.mk (KeepBut.refl w g none)
 have HL:=Aside0.mk hB.size
 clear hI
 have HW0:=Aside0.mk hB.size
 have HB:=Aside0.mk hB
 clear hB
 have H : ((spec_l1Cur_chain.f k s0_0 s0_1 s0_2 a1).bind fun bt174=>((spec_l1Cur_pick.f s0_0 bt174.2.1 bt174.2.2 14).bind fun bt179=>(if bt179.1 = 0 then ((spec_l1Cur_pick.f s0_0 bt179.2.1 bt179.2.2 (bt174.1.length : Int)).bind fun bt182=>(if 0 ≤ bt182.1 then (if bt182.1 < (bt174.1.length : Int) then ((spec_l1Cur_pick.f s0_0 bt182.2.1 bt182.2.2 3).bind fun bt186=>(some ((bt174.1.set (bt182.1 : Int).toNat (wrap64 ((rd bt174.1 bt182.1) + (wrap64 (bt186.1 - 1))))),bt186.2.1,bt186.2.2))) else (none)) else (none))) else (if bt179.1 = 1 then ((spec_l1Cur_pick.f s0_0 bt179.2.1 bt179.2.2 40).bind fun bt190=>(if bt174.1.length < 17592186044416 then (some ((bt174.1 ++ [bt190.1]),bt190.2.1,bt190.2.2)) else (none))) else (if bt179.1 = 2 then (some (([] : List Int),bt179.2.1,bt179.2.2)) else (if bt179.1 = 3 then (spec_l1Cur_anyChain.l0 k ([] : List Int) s0_0 bt179.2.1 bt179.2.2) else (if bt179.1 = 4 then ((some (([1,2,4,8,16,32,64,128,256,512,1024,2048,4096,8192,16384,32768,65536,131072,262144,524288] : List Int) : List Int)).bind fun y202=>((spec_l1Cur_pick.f s0_0 bt179.2.1 bt179.2.2 4).bind fun bt205=>((some (([786432,wrap64 (786432 + (wrap64 (131072 * bt205.1)))] : List Int) : List Int)).bind fun y208=>(if y202.length + y208.length < 17592186044416 then (some ((y202 ++ y208),bt205.2.1,bt205.2.2)) else (none))))) else (some (bt174.1,bt179.2.1,bt179.2.2))))))))) = some (r1,r2,r3):=h
 clear h
 obtain ⟨⟨t174,t177,t178⟩,A3,H⟩:=bd H
 try dsimp only at H
 obtain ⟨⟨t179,t180,t181⟩,A4,H⟩:=bd H
 try dsimp only at H
 by_cases c5 : t179 = 0
 ·rw [if_pos c5] at H
  have c5b0 : (t179 == 0) = true:=beq_iff_eq.mpr c5
  have c5b1 : (t179 != 0) = false:=bne_eq_false_iff_eq.mpr c5
  clear c5
  obtain ⟨⟨t182,t183,t184⟩,A6,H⟩:=bd H
  try dsimp only at H
  by_cases c7 : 0 ≤ t182
  ·rw [if_pos c7] at H
   have c7b0 : decide (0 ≤ t182) = true:=decide_eq_true c7
   clear c7
   by_cases c8 : t182 < (t174.length : Int)
   ·rw [if_pos c8] at H
    have c8b0 : decide (t182 < (t174.length : Int)) = true:=decide_eq_true c8
    clear c8
    obtain ⟨⟨t186,t187,t188⟩,A9,H⟩:=bd H
    try dsimp only at H
    obtain ⟨y189,hy189⟩ : ∃ y_ : List Int,y_ = (t174.set (t182 : Int).toNat (wrap64 ((rd t174 t182) + (wrap64 (t186 - 1))))):=⟨_,rfl⟩
    replace H : (some (y189,t187,t188)) = some (r1,r2,r3):=by first|(rw [hy189];with_reducible exact H)|(have H2_:=(Option.bind_some _ _).symm.trans H;rw [hy189];with_reducible exact H2_)|(have H2_:=(Option.bind_some _ _).symm.trans H;with_reducible exact H2_)|with_reducible exact H|(rw [hy189];exact H)|exact H
    have Ny189:=Aside0.mk hy189
    clear hy189
    simp only [Option.some.injEq,Prod.mk.injEq] at H
    obtain ⟨rfl,rfl,rfl⟩:=H
    go_enter Tryz.func17,Tryz.ntmps17
    try go_wp2_with (first|((with_reducible refine gate_callee (f:=33) rfl ?_);refine goesL_ (some 8) rfl rfl Tryz.func33 (by kernel_rfl) rfl #[.pointer (some ⟨g,0,none⟩),.int .i64 a1] rfl mz ?_;(with_reducible refine (spec_l1Cur_chain.calls k g s0_0 s0_1 s0_2 a1 t174 t177 t178 w0 _ ?side1 ?side2 A3.out).mono ?_);(case side1=>repeat (first|(with_reducible first|exact HI0.out|apply IsS48.alloc|apply IsS48.drewN|apply IsS48.drew|apply IsS48.set_1|apply IsS48.set_2)|exact HI0.out));(case side2=>repeat (first|(with_reducible first|exact HB.out|apply below_alloc|apply pw_below_drewN|apply below_drew1|refine below_set ?_ (IsS48.ge HI0.out))|exact HB.out));rintro e w11 ⟨v175,rfl,ho0,hi,hb,hk⟩;refine ⟨_,rfl,?_⟩;have n0_:=Aside0.mk (Kd.R_lower ho0 (keep_size (w:=w) (g:=g) (row:=none) (by repeat (first|(with_reducible first|exact HK.out|apply KeepBut.set_|apply keep_drewN|apply keep_drew|apply keep_alloc)|exact HK.out))));have n1_:=Aside0.mk (KeepBut.trans (by repeat (first|(with_reducible first|exact HK.out|apply KeepBut.set_|apply keep_drewN|apply keep_drew|apply keep_alloc)|exact HK.out)) hk (.inl rfl));have n2_:=Aside0.mk (hb);have n3_:=Aside0.mk (hi);clear HK HB HI0;have HO176:=n0_;have HK:=n1_;have HB:=n2_;have HI0:=n3_;clear n0_ n1_ n2_ n3_;(try clear hb);(try clear hb2);(try clear hk);(try clear hi);(try clear ho0))|((with_reducible refine gate_callee (f:=34) rfl ?_);refine goesL_ (some 10) rfl rfl Tryz.func34 (by kernel_rfl) rfl #[.pointer (some ⟨g,0,none⟩),.int .i64 14] rfl mz ?_;(with_reducible refine (spec_l1Cur_pick.calls g s0_0 t177 t178 14 t179 t180 t181 w0 _ ?side1 ?side2 A4.out).mono ?_);(case side1=>repeat (first|(with_reducible first|exact HI0.out|apply IsS48.alloc|apply IsS48.drewN|apply IsS48.drew|apply IsS48.set_1|apply IsS48.set_2)|exact HI0.out));(case side2=>repeat (first|(with_reducible first|exact HB.out|apply below_alloc|apply pw_below_drewN|apply below_drew1|refine below_set ?_ (IsS48.ge HI0.out))|exact HB.out));rintro e w12 ⟨rfl,hi,hb,hk⟩;refine ⟨_,rfl,?_⟩;have n0_:=Aside0.mk (Kd.R_mono (Kd.R_keep (IsS48.apart (show IsS48 w0 _ g s0_0 t177 t178 from by repeat (first|(with_reducible first|exact HI0.out|apply IsS48.alloc|apply IsS48.drewN|apply IsS48.drew|apply IsS48.set_1|apply IsS48.set_2)|exact HI0.out)) (rz HO176.out) (by decide)) hk (fun _ h=>h.2)) (fun _ h=>h.1));have n1_:=Aside0.mk (KeepBut.trans (by repeat (first|(with_reducible first|exact HK.out|apply KeepBut.set_|apply keep_drewN|apply keep_drew|apply keep_alloc)|exact HK.out)) hk (.inl rfl));have n2_:=Aside0.mk (hb);have n3_:=Aside0.mk (hi);clear HO176 HK HB HI0;have HO176:=n0_;have HK:=n1_;have HB:=n2_;have HI0:=n3_;clear n0_ n1_ n2_ n3_;(try clear hb);(try clear hb2);(try clear hk);(try clear hi)))
    have n0_:=Aside0.mk (Kd.R_drew HO176.out)
    have n1_:=Aside0.mk (IsS48.drew HI0.out)
    have n2_:=Aside0.mk (keep_drew HK.out)
    have n3_:=Aside0.mk (below_drew1 HB.out)
    clear HO176
    clear HI0
    clear HK
    clear HB
    have HO176:=n0_
    have HI0:=n1_
    have HK:=n2_
    have HB:=n3_
    clear n0_ n1_ n2_ n3_
    obtain ⟨Ao14,co14,eo14⟩:=Kd.R_slice HO176.out
    (first|subst eo14|(injection eo14 with f1_ f2_ f3_;have f4_:=f1_.symm;have f5_:=f3_.symm;clear f1_ f2_ f3_;subst f4_;subst f5_))
    have p185 : 0 ≤ (t182 : Int):=of_decide_eq_true az
    have q185 : t182 < (t174.length : Int):=of_decide_eq_true az
    obtain ⟨ad185,e185,hx185_0⟩:=Kd.at_int (Kd.R_reads' HO176.out).2.2 t182 p185 q185
    cases e185
    replace p185:=eq_true p185
    replace q185:=eq_true q185
    refine start_ (n:=13) (S:=fun w'=>w'.cell? (ad185.add (t182).toNat) = some (.int .i64 (rd t174 t182))) (ds:=[12]) #[false,false,false,false,false,false,false,false,false,false,false,false,false] (by kernel_rfl) rfl rfl (hx185_0) (fun hHeld=>?_);refine with_tabW spec_l1Cur_anyChain.tab4 spec_l1Cur_anyChain.bits4 (fun HT_ HW_=>?_)
    generalize w12.drew = w13 at HO176 HI0 HK HB hx185_0 hHeld ⊢
    refine pure_ (i:=0) (N:=some 13) (v:=?_) (a':=?_) #[true,false,false,false,false,false,false,false,false,false,false,false,false] rfl rfl (any_of HT_.out (by kernel_rfl)) (fun _ _ _ h=>h) (Or.inl ⟨by rfl,?_⟩) ?_ ?_
    rotate_left
    ·intro w'
     go_simp
     with_reducible rfl
    rotate_left
    ·simp only [Act.put,xa,xb,xc,i64_w,i32_w]
     rfl
    refine pure_ (i:=1) (N:=some 14) (v:=?_) (a':=?_) #[true,true,false,false,false,false,false,false,false,false,false,false,false] rfl rfl (any_of HT_.out (by kernel_rfl)) (fun _ _ _ h=>h) (Or.inl ⟨by rfl,?_⟩) ?_ ?_
    rotate_left
    ·intro w'
     go_simp
     with_reducible rfl
    rotate_left
    ·simp only [Act.put,xa,xb,xc,i64_w,i32_w]
     rfl
    refine pure_ (i:=2) (N:=some 15) (v:=?_) (a':=?_) #[true,true,true,false,false,false,false,false,false,false,false,false,false] rfl rfl (any_of HT_.out (by kernel_rfl)) (fun _ _ _ h=>h) (Or.inl ⟨by rfl,?_⟩) ?_ ?_
    rotate_left
    ·intro w'
     go_simp
     with_reducible rfl
    rotate_left
    ·simp only [Act.put,xa,xb,xc,i64_w,i32_w]
     rfl
    refine pure_ (i:=3) (N:=some 16) (v:=?_) (a':=?_) #[true,true,true,true,false,false,false,false,false,false,false,false,false] rfl rfl (any_of HT_.out (by kernel_rfl)) (fun _ _ _ h=>h) (Or.inl ⟨by rfl,?_⟩) ?_ ?_
    rotate_left
    ·intro w'
     go_simp
     with_reducible rfl
    rotate_left
    ·simp only [Act.put,xa,xb,xc,i64_w,i32_w]
     rfl
    refine pure_ (i:=7) (N:=some 20) (v:=?_) (a':=?_) #[true,true,true,true,false,false,false,true,false,false,false,false,false] rfl rfl (any_of HT_.out (by kernel_rfl)) (fun _ _ _ h=>h) (Or.inl ⟨by rfl,?_⟩) ?_ ?_
    rotate_left
    ·intro w'
     go_simp
     with_reducible rfl
    rotate_left
    ·simp only [Act.put,xa,xb,xc,i64_w,i32_w]
     rfl
    refine one_ (i:=4) (N:=some 17) #[true,true,true,true,true,false,false,true,false,false,false,false,false] rfl rfl (one_of HT_.out (by kernel_rfl)) (by decide) (fun K hK=>?_)
    refine goes_ Tryz.func34 (by kernel_rfl) rfl #[.pointer (some ⟨g,0,none⟩),.int .i64 (t174.length : Int)] (by rfl) rfl rfl mz ?_
    with_reducible refine (spec_l1Cur_pick.calls g s0_0 t180 t181 (t174.length : Int) t182 t183 t184 w0 _ ?side1 ?side2 A6.out).mono ?_
    (case side1=>repeat (first|(with_reducible first|exact HI0.out|apply IsS48.alloc|apply IsS48.drewN|apply IsS48.drew|apply IsS48.set_1|apply IsS48.set_2)|exact HI0.out))
    (case side2=>repeat (first|(with_reducible first|exact HB.out|apply below_alloc|apply pw_below_drewN|apply below_drew1|refine below_set ?_ (IsS48.ge HI0.out))|exact HB.out))
    rintro e w15 ⟨rfl,hi,hb,hk⟩
    have HS0_:=keep_cell hk (hHeld) (by first|(rw [add_block];exact Kd.own_blk (IsS48.own_ne HI0.out HO176.out (by decide)))|(show (Addr.add _ _).block ≠ _;rw [add_block];exact Kd.own_blk (IsS48.own_ne HI0.out HO176.out (by decide)))|exact Kd.own_blk (IsS48.own_ne HI0.out HO176.out (by decide)))
    refine ⟨_,rfl,?_⟩
    have n0_:=Aside0.mk (Kd.R_mono (Kd.R_keep (IsS48.apart (show IsS48 w0 _ g s0_0 t180 t181 from by repeat (first|(with_reducible first|exact HI0.out|apply IsS48.alloc|apply IsS48.drewN|apply IsS48.drew|apply IsS48.set_1|apply IsS48.set_2)|exact HI0.out)) (rz HO176.out) (by decide)) hk (fun _ h=>h.2)) (fun _ h=>h.1))
    have n1_:=Aside0.mk (KeepBut.trans (by repeat (first|(with_reducible first|exact HK.out|apply KeepBut.set_|apply keep_drewN|apply keep_drew|apply keep_alloc)|exact HK.out)) hk (.inl rfl))
    have n2_:=Aside0.mk (hb)
    have n3_:=Aside0.mk (hi)
    clear HO176
    clear HK
    clear HB
    clear HI0
    have HO176:=n0_
    have HK:=n1_
    have HB:=n2_
    have HI0:=n3_
    clear n0_ n1_ n2_ n3_
    (try clear hb)
    (try clear hb2)
    (try clear hk)
    (try clear hi)
    refine hK.out _ _ (HS0_) (fun hHeld=>?_)
    clear hK K
    refine norm_ (a':=?_) ?_ ?_
    rotate_left
    ·show Act.put _ (some 17) _ = _
     simp only [Act.put,xa,xb,xc,i64_w,i32_w]
     rfl
    refine pure_ (i:=5) (N:=some 18) (v:=?_) (a':=?_) #[true,true,true,true,true,true,false,true,false,false,false,false,false] rfl rfl (any_of HT_.out (by kernel_rfl)) (fun _ _ _ h=>h) (Or.inl ⟨by rfl,?_⟩) ?_ ?_
    rotate_left
    ·intro w'
     go_simp
     with_reducible rfl
    rotate_left
    ·simp only [Act.put,xa,xb,xc,i64_w,i32_w]
     rfl
    refine take_ (i:=6) (N:=some 19) (v:=?_) (a':=?_) #[true,true,true,true,true,true,true,true,false,false,false,false,false] rfl rfl (take_ofW HT_.out HW_.out (by kernel_rfl)) (fun _ _ _ h=>h) (Or.inl ⟨by rfl,?_⟩) hHeld ?_ ?_
    rotate_left
    ·intro w' s0
     go_simp
     with_reducible rfl
    rotate_left
    ·simp only [Act.put,xa,xb,xc,i64_w,i32_w]
     rfl
    refine one_ (i:=8) (N:=some 21) #[true,true,true,true,true,true,true,true,true,false,false,false,false] rfl rfl (one_of HT_.out (by kernel_rfl)) (by decide) (fun K hK=>?_)
    refine goes_ Tryz.func34 (by kernel_rfl) rfl #[.pointer (some ⟨g,0,none⟩),.int .i64 3] (by rfl) rfl rfl mz ?_
    with_reducible refine (spec_l1Cur_pick.calls g s0_0 t183 t184 3 t186 t187 t188 w0 _ ?side1 ?side2 A9.out).mono ?_
    (case side1=>repeat (first|(with_reducible first|exact HI0.out|apply IsS48.alloc|apply IsS48.drewN|apply IsS48.drew|apply IsS48.set_1|apply IsS48.set_2)|exact HI0.out))
    (case side2=>repeat (first|(with_reducible first|exact HB.out|apply below_alloc|apply pw_below_drewN|apply below_drew1|refine below_set ?_ (IsS48.ge HI0.out))|exact HB.out))
    rintro e w16 ⟨rfl,hi,hb,hk⟩
    have HS0_:=keep_cell hk (hHeld) (by first|(rw [add_block];exact Kd.own_blk (IsS48.own_ne HI0.out HO176.out (by decide)))|(show (Addr.add _ _).block ≠ _;rw [add_block];exact Kd.own_blk (IsS48.own_ne HI0.out HO176.out (by decide)))|exact Kd.own_blk (IsS48.own_ne HI0.out HO176.out (by decide)))
    refine ⟨_,rfl,?_⟩
    have n0_:=Aside0.mk (Kd.R_mono (Kd.R_keep (IsS48.apart (show IsS48 w0 _ g s0_0 t183 t184 from by repeat (first|(with_reducible first|exact HI0.out|apply IsS48.alloc|apply IsS48.drewN|apply IsS48.drew|apply IsS48.set_1|apply IsS48.set_2)|exact HI0.out)) (rz HO176.out) (by decide)) hk (fun _ h=>h.2)) (fun _ h=>h.1))
    have n1_:=Aside0.mk (KeepBut.trans (by repeat (first|(with_reducible first|exact HK.out|apply KeepBut.set_|apply keep_drewN|apply keep_drew|apply keep_alloc)|exact HK.out)) hk (.inl rfl))
    have n2_:=Aside0.mk (hb)
    have n3_:=Aside0.mk (hi)
    clear HO176
    clear HK
    clear HB
    clear HI0
    have HO176:=n0_
    have HK:=n1_
    have HB:=n2_
    have HI0:=n3_
    clear n0_ n1_ n2_ n3_
    (try clear hb)
    (try clear hb2)
    (try clear hk)
    (try clear hi)
    have p10 : 0 ≤ (t182 : Int):=of_decide_eq_true az
    have q10 : (t182 : Int) < ((t174.length : Int) : Int):=of_decide_eq_true az
    obtain ⟨go10,co10,eo10,gb10,gl10,cl10,HG10⟩:=Kd.R_form HO176.out (by omega)
    (first|cases eo10|(injection eo10 with ea_ en_ ec_;(first|subst ea_|(injection ea_ with ea_;subst ea_));subst ec_;clear en_))
    have GB10:=Aside0.mk gb10
    have GG10:=Aside0.mk HG10
    clear gb10 gl10 HG10
    (first|simp only [add_plain] at hx185_0|skip)
    obtain ⟨hx10_0,hf10_0⟩:=Kd.R_celln 0 HO176.out (t182 : Int) p10 q10
    replace p10:=eq_true p10
    replace q10:=eq_true q10
    have HN0_go10:=Aside0.mk (show g ≠ go10 from by have h_:=IsS48.own_ne HI0.out HO176.out (by decide);intro e_;exact h_ (by rw [e_];rfl))
    have HP17:=Kd.R_putn HO176.out (t182 : Int) (wrap64 ((rd t174 t182) + (wrap64 (t186 - 1))))
    rw [← Ny189.out] at HP17
    have HQ17:=Aside0.mk HP17
    clear HP17
    refine hK.out _ _ (HS0_) (fun hHeld=>?_)
    clear hK K
    refine norm_ (a':=?_) ?_ ?_
    rotate_left
    ·show Act.put _ (some 21) _ = _
     simp only [Act.put,xa,xb,xc,i64_w,i32_w]
     rfl
    refine pure_ (i:=9) (N:=some 22) (v:=?_) (a':=?_) #[true,true,true,true,true,true,true,true,true,true,false,false,false] rfl rfl (any_of HT_.out (by kernel_rfl)) (fun _ _ _ h=>h) (Or.inl ⟨by rfl,?_⟩) ?_ ?_
    rotate_left
    ·intro w'
     go_simp
     with_reducible rfl
    rotate_left
    ·simp only [Act.put,xa,xb,xc,i64_w,i32_w]
     rfl
    refine pure_ (i:=10) (N:=some 23) (v:=?_) (a':=?_) #[true,true,true,true,true,true,true,true,true,true,true,false,false] rfl rfl (any_of HT_.out (by kernel_rfl)) (fun _ _ _ h=>h) (Or.inl ⟨by rfl,?_⟩) ?_ ?_
    rotate_left
    ·intro w'
     go_simp
     with_reducible rfl
    rotate_left
    ·simp only [Act.put,xa,xb,xc,i64_w,i32_w]
     rfl
    refine pure_ (i:=11) (N:=some 24) (v:=?_) (a':=?_) #[true,true,true,true,true,true,true,true,true,true,true,true,false] rfl rfl (any_of HT_.out (by kernel_rfl)) (fun _ _ _ h=>h) (Or.inl ⟨by rfl,?_⟩) ?_ ?_
    rotate_left
    ·intro w'
     go_simp
     with_reducible rfl
    rotate_left
    ·simp only [Act.put,xa,xb,xc,i64_w,i32_w]
     rfl
    refine last_ (i:=12) (N:=none) #[true,true,true,true,true,true,true,true,true,true,true,true,true] rfl rfl (one_of HT_.out (by kernel_rfl)) (by decide) (fun K hK=>?_)
    refine skip_ (w1:=?_) (by rfl) rfl ?_ ?_
    rotate_left
    ·go_simp
     rfl
    refine hK.out _ _ ?_
    clear hK K
    refine done_ (done_of HT_.out (by kernel_rfl)) ?_
    try go_wp2
    go_ret
    exact ⟨_,by first|rfl|(simp [errW_none,errW_some] <;> rfl)|(simp [*,errW_none,errW_some] <;> rfl),by (with_reducible repeat (first|apply Kd.R_alloc|apply Kd.R_drewN|apply Kd.R_drew));exact HQ17.out,by repeat (first|(with_reducible first|exact HI0.out|apply IsS48.alloc|apply IsS48.drewN|apply IsS48.drew|apply IsS48.set_1|apply IsS48.set_2|refine IsS48.far ?_ HN0_go10.out _)|exact HI0.out),by repeat (first|(with_reducible first|exact HB.out|apply below_alloc|apply pw_below_drewN|apply below_drew1|refine below_set ?_ (Nat.le_trans HL.out GB10.out)|refine below_set ?_ (IsS48.ge HI0.out))|exact HB.out),by repeat (first|(with_reducible first|exact HK.out|apply KeepBut.set_|apply keep_drewN|apply keep_drew|apply keep_alloc|refine keep_far ?_ GB10.out _)|exact HK.out)⟩
   ·rw [if_neg c8] at H
    exact absurd H (by simp)
  ·rw [if_neg c7] at H
   exact absurd H (by simp)
 ·rw [if_neg c5] at H
  have c5b0 : (t179 == 0) = false:=beq_eq_false_iff_ne.mpr c5
  have c5b1 : (t179 != 0) = true:=bne_iff_ne.mpr c5
  by_cases c18 : t179 = 1
  ·rw [if_pos c18] at H
   have c18b0 : (t179 == 1) = true:=beq_iff_eq.mpr c18
   have c18b1 : (t179 != 1) = false:=bne_eq_false_iff_eq.mpr c18
   clear c18
   obtain ⟨⟨t190,t191,t192⟩,A19,H⟩:=bd H
   try dsimp only at H
   by_cases c20 : t174.length < 17592186044416
   ·rw [if_pos c20] at H
    have LMc20:=Aside0.mk c20
    clear c20
    obtain ⟨y193,hy193⟩ : ∃ y_ : List Int,y_ = (t174 ++ [t190]):=⟨_,rfl⟩
    replace H : (some (y193,t191,t192)) = some (r1,r2,r3):=by first|(rw [hy193];with_reducible exact H)|(have H2_:=(Option.bind_some _ _).symm.trans H;rw [hy193];with_reducible exact H2_)|(have H2_:=(Option.bind_some _ _).symm.trans H;with_reducible exact H2_)|with_reducible exact H|(rw [hy193];exact H)|exact H
    have Ny193:=Aside0.mk hy193
    clear hy193
    simp only [Option.some.injEq,Prod.mk.injEq] at H
    obtain ⟨rfl,rfl,rfl⟩:=H
    go_enter Tryz.func17,Tryz.ntmps17
    go_wp2_with (first|((with_reducible refine gate_callee (f:=33) rfl ?_);refine goesL_ (some 8) rfl rfl Tryz.func33 (by kernel_rfl) rfl #[.pointer (some ⟨g,0,none⟩),.int .i64 a1] rfl mz ?_;(with_reducible refine (spec_l1Cur_chain.calls k g s0_0 s0_1 s0_2 a1 t174 t177 t178 w0 _ ?side1 ?side2 A3.out).mono ?_);(case side1=>repeat (first|(with_reducible first|exact HI0.out|apply IsS48.alloc|apply IsS48.drewN|apply IsS48.drew|apply IsS48.set_1|apply IsS48.set_2)|exact HI0.out));(case side2=>repeat (first|(with_reducible first|exact HB.out|apply below_alloc|apply pw_below_drewN|apply below_drew1|refine below_set ?_ (IsS48.ge HI0.out))|exact HB.out));rintro e w21 ⟨v175,rfl,ho0,hi,hb,hk⟩;refine ⟨_,rfl,?_⟩;have n0_:=Aside0.mk (Kd.R_lower ho0 (keep_size (w:=w) (g:=g) (row:=none) (by repeat (first|(with_reducible first|exact HK.out|apply KeepBut.set_|apply keep_drewN|apply keep_drew|apply keep_alloc)|exact HK.out))));have n1_:=Aside0.mk (KeepBut.trans (by repeat (first|(with_reducible first|exact HK.out|apply KeepBut.set_|apply keep_drewN|apply keep_drew|apply keep_alloc)|exact HK.out)) hk (.inl rfl));have n2_:=Aside0.mk (hb);have n3_:=Aside0.mk (hi);clear HK HB HI0;have HO176:=n0_;have HK:=n1_;have HB:=n2_;have HI0:=n3_;clear n0_ n1_ n2_ n3_;(try clear hb);(try clear hb2);(try clear hk);(try clear hi);(try clear ho0))|((with_reducible refine gate_callee (f:=34) rfl ?_);refine goesL_ (some 10) rfl rfl Tryz.func34 (by kernel_rfl) rfl #[.pointer (some ⟨g,0,none⟩),.int .i64 14] rfl mz ?_;(with_reducible refine (spec_l1Cur_pick.calls g s0_0 t177 t178 14 t179 t180 t181 w0 _ ?side1 ?side2 A4.out).mono ?_);(case side1=>repeat (first|(with_reducible first|exact HI0.out|apply IsS48.alloc|apply IsS48.drewN|apply IsS48.drew|apply IsS48.set_1|apply IsS48.set_2)|exact HI0.out));(case side2=>repeat (first|(with_reducible first|exact HB.out|apply below_alloc|apply pw_below_drewN|apply below_drew1|refine below_set ?_ (IsS48.ge HI0.out))|exact HB.out));rintro e w22 ⟨rfl,hi,hb,hk⟩;refine ⟨_,rfl,?_⟩;have n0_:=Aside0.mk (Kd.R_mono (Kd.R_keep (IsS48.apart (show IsS48 w0 _ g s0_0 t177 t178 from by repeat (first|(with_reducible first|exact HI0.out|apply IsS48.alloc|apply IsS48.drewN|apply IsS48.drew|apply IsS48.set_1|apply IsS48.set_2)|exact HI0.out)) (rz HO176.out) (by decide)) hk (fun _ h=>h.2)) (fun _ h=>h.1));have n1_:=Aside0.mk (KeepBut.trans (by repeat (first|(with_reducible first|exact HK.out|apply KeepBut.set_|apply keep_drewN|apply keep_drew|apply keep_alloc)|exact HK.out)) hk (.inl rfl));have n2_:=Aside0.mk (hb);have n3_:=Aside0.mk (hi);clear HO176 HK HB HI0;have HO176:=n0_;have HK:=n1_;have HB:=n2_;have HI0:=n3_;clear n0_ n1_ n2_ n3_;(try clear hb);(try clear hb2);(try clear hk);(try clear hi))|((with_reducible refine gate_callee (f:=34) rfl ?_);refine goesL_ (some 29) rfl rfl Tryz.func34 (by kernel_rfl) rfl #[.pointer (some ⟨g,0,none⟩),.int .i64 40] rfl mz ?_;(with_reducible refine (spec_l1Cur_pick.calls g s0_0 t180 t181 40 t190 t191 t192 w0 _ ?side1 ?side2 A19.out).mono ?_);(case side1=>repeat (first|(with_reducible first|exact HI0.out|apply IsS48.alloc|apply IsS48.drewN|apply IsS48.drew|apply IsS48.set_1|apply IsS48.set_2)|exact HI0.out));(case side2=>repeat (first|(with_reducible first|exact HB.out|apply below_alloc|apply pw_below_drewN|apply below_drew1|refine below_set ?_ (IsS48.ge HI0.out))|exact HB.out));rintro e w23 ⟨rfl,hi,hb,hk⟩;refine ⟨_,rfl,?_⟩;have n0_:=Aside0.mk (Kd.R_mono (Kd.R_keep (IsS48.apart (show IsS48 w0 _ g s0_0 t180 t181 from by repeat (first|(with_reducible first|exact HI0.out|apply IsS48.alloc|apply IsS48.drewN|apply IsS48.drew|apply IsS48.set_1|apply IsS48.set_2)|exact HI0.out)) (rz HO176.out) (by decide)) hk (fun _ h=>h.2)) (fun _ h=>h.1));have n1_:=Aside0.mk (KeepBut.trans (by repeat (first|(with_reducible first|exact HK.out|apply KeepBut.set_|apply keep_drewN|apply keep_drew|apply keep_alloc)|exact HK.out)) hk (.inl rfl));have n2_:=Aside0.mk (hb);have n3_:=Aside0.mk (hi);clear HO176 HK HB HI0;have HO176:=n0_;have HK:=n1_;have HB:=n2_;have HI0:=n3_;clear n0_ n1_ n2_ n3_;(try clear hb);(try clear hb2);(try clear hk);(try clear hi))|((with_reducible refine gate_builtin (b:=.append) (xs:=#[.tmp 27,.tmp 30]) rfl ?_);at_builtin;refine Kd.R_append (Kd.int .i64) w.heap.size rfl (.tmp 27) (.tmp 30) 24 3 (.int .i64 0) 8 rfl Tryz.underlying24 info3 rfl (by decide) (by omega) v175 t174 t190 [.int .i64 t190] (fun _=>True) (fun _=>False) rfl rfl ?aP (fun _ hk=>hk.elim) ?aF ?aO (Below.refl _ _) ?aS ?aL ?_;(case aP=>exact rfl);(case aF=>exact (fun _ _=>trivial));(case aO=>exact (rz HO176.out));(case aS=>exact (keep_size (w:=w) (g:=g) (row:=none) (by repeat (first|(with_reducible first|exact HK.out|apply KeepBut.set_|apply keep_drewN|apply keep_drew|apply keep_alloc)|exact HK.out))));(case aL=>have:=LMc20.out;omega);intro v194 w24 ho hb hg hat;rw [← Ny193.out] at ho;have n0_:=Aside0.mk (IsS48.grown (by repeat (first|(with_reducible first|exact HI0.out|apply IsS48.alloc|apply IsS48.drewN|apply IsS48.drew|apply IsS48.set_1|apply IsS48.set_2)|exact HI0.out)) hg (IsS48.own_ne HI0.out HO176.out (by decide)));have n1_:=Aside0.mk (below_weaken (by repeat (first|(with_reducible first|exact HB.out|apply below_alloc|apply pw_below_drewN|apply below_drew1|refine below_set ?_ (IsS48.ge HI0.out))|exact HB.out)) HL.out hb);have n2_:=Aside0.mk (KeepBut.trans (by repeat (first|(with_reducible first|exact HK.out|apply KeepBut.set_|apply keep_drewN|apply keep_drew|apply keep_alloc)|exact HK.out)) (KeepBut.of_grown hg g) (Kd.R_base2 HO176.out));have n3_:=Aside0.mk (ho);clear HI0 HB HK HO176;have HI0:=n0_;have HB:=n1_;have HK:=n2_;have HO195:=n3_;clear n0_ n1_ n2_ n3_;clear ho hb hg hat))
    go_ret
    exact ⟨_,by first|rfl|(simp [errW_none,errW_some] <;> rfl)|(simp [*,errW_none,errW_some] <;> rfl),by (with_reducible repeat (first|apply Kd.R_alloc|apply Kd.R_drewN|apply Kd.R_drew));exact HO195.out,by repeat (first|(with_reducible first|exact HI0.out|apply IsS48.alloc|apply IsS48.drewN|apply IsS48.drew|apply IsS48.set_1|apply IsS48.set_2)|exact HI0.out),by repeat (first|(with_reducible first|exact HB.out|apply below_alloc|apply pw_below_drewN|apply below_drew1|refine below_set ?_ (IsS48.ge HI0.out))|exact HB.out),by repeat (first|(with_reducible first|exact HK.out|apply KeepBut.set_|apply keep_drewN|apply keep_drew|apply keep_alloc)|exact HK.out)⟩
   ·rw [if_neg c20] at H
    exact absurd H (by simp)
  ·rw [if_neg c18] at H
   have c18b0 : (t179 == 1) = false:=beq_eq_false_iff_ne.mpr c18
   have c18b1 : (t179 != 1) = true:=bne_iff_ne.mpr c18
   by_cases c25 : t179 = 2
   ·rw [if_pos c25] at H
    have c25b0 : (t179 == 2) = true:=beq_iff_eq.mpr c25
    have c25b1 : (t179 != 2) = false:=bne_eq_false_iff_eq.mpr c25
    clear c25
    simp only [Option.some.injEq,Prod.mk.injEq] at H
    obtain ⟨rfl,rfl,rfl⟩:=H
    go_enter Tryz.func17,Tryz.ntmps17
    go_wp2_with (first|((with_reducible refine gate_callee (f:=33) rfl ?_);refine goesL_ (some 8) rfl rfl Tryz.func33 (by kernel_rfl) rfl #[.pointer (some ⟨g,0,none⟩),.int .i64 a1] rfl mz ?_;(with_reducible refine (spec_l1Cur_chain.calls k g s0_0 s0_1 s0_2 a1 t174 t177 t178 w0 _ ?side1 ?side2 A3.out).mono ?_);(case side1=>repeat (first|(with_reducible first|exact HI0.out|apply IsS48.alloc|apply IsS48.drewN|apply IsS48.drew|apply IsS48.set_1|apply IsS48.set_2)|exact HI0.out));(case side2=>repeat (first|(with_reducible first|exact HB.out|apply below_alloc|apply pw_below_drewN|apply below_drew1|refine below_set ?_ (IsS48.ge HI0.out))|exact HB.out));rintro e w26 ⟨v175,rfl,ho0,hi,hb,hk⟩;refine ⟨_,rfl,?_⟩;have n0_:=Aside0.mk (Kd.R_lower ho0 (keep_size (w:=w) (g:=g) (row:=none) (by repeat (first|(with_reducible first|exact HK.out|apply KeepBut.set_|apply keep_drewN|apply keep_drew|apply keep_alloc)|exact HK.out))));have n1_:=Aside0.mk (KeepBut.trans (by repeat (first|(with_reducible first|exact HK.out|apply KeepBut.set_|apply keep_drewN|apply keep_drew|apply keep_alloc)|exact HK.out)) hk (.inl rfl));have n2_:=Aside0.mk (hb);have n3_:=Aside0.mk (hi);clear HK HB HI0;have HO176:=n0_;have HK:=n1_;have HB:=n2_;have HI0:=n3_;clear n0_ n1_ n2_ n3_;(try clear hb);(try clear hb2);(try clear hk);(try clear hi);(try clear ho0))|((with_reducible refine gate_callee (f:=34) rfl ?_);refine goesL_ (some 10) rfl rfl Tryz.func34 (by kernel_rfl) rfl #[.pointer (some ⟨g,0,none⟩),.int .i64 14] rfl mz ?_;(with_reducible refine (spec_l1Cur_pick.calls g s0_0 t177 t178 14 t179 t180 t181 w0 _ ?side1 ?side2 A4.out).mono ?_);(case side1=>repeat (first|(with_reducible first|exact HI0.out|apply IsS48.alloc|apply IsS48.drewN|apply IsS48.drew|apply IsS48.set_1|apply IsS48.set_2)|exact HI0.out));(case side2=>repeat (first|(with_reducible first|exact HB.out|apply below_alloc|apply pw_below_drewN|apply below_drew1|refine below_set ?_ (IsS48.ge HI0.out))|exact HB.out));rintro e w27 ⟨rfl,hi,hb,hk⟩;refine ⟨_,rfl,?_⟩;have n0_:=Aside0.mk (Kd.R_mono (Kd.R_keep (IsS48.apart (show IsS48 w0 _ g s0_0 t177 t178 from by repeat (first|(with_reducible first|exact HI0.out|apply IsS48.alloc|apply IsS48.drewN|apply IsS48.drew|apply IsS48.set_1|apply IsS48.set_2)|exact HI0.out)) (rz HO176.out) (by decide)) hk (fun _ h=>h.2)) (fun _ h=>h.1));have n1_:=Aside0.mk (KeepBut.trans (by repeat (first|(with_reducible first|exact HK.out|apply KeepBut.set_|apply keep_drewN|apply keep_drew|apply keep_alloc)|exact HK.out)) hk (.inl rfl));have n2_:=Aside0.mk (hb);have n3_:=Aside0.mk (hi);clear HO176 HK HB HI0;have HO176:=n0_;have HK:=n1_;have HB:=n2_;have HI0:=n3_;clear n0_ n1_ n2_ n3_;(try clear hb);(try clear hb2);(try clear hk);(try clear hi)))
    go_ret
    exact ⟨_,by first|rfl|(simp [errW_none,errW_some] <;> rfl)|(simp [*,errW_none,errW_some] <;> rfl),by first|exact Kd.R_nil _ _ _ _ _|exact Kd.N_nil _ _ _ _ _|exact Kd.V_nil _ _ _ _ _|exact Kd.Q_nil _ _ _ _ _|exact Kd.S_nil _ _ _ _ _,by repeat (first|(with_reducible first|exact HI0.out|apply IsS48.alloc|apply IsS48.drewN|apply IsS48.drew|apply IsS48.set_1|apply IsS48.set_2)|exact HI0.out),by repeat (first|(with_reducible first|exact HB.out|apply below_alloc|apply pw_below_drewN|apply below_drew1|refine below_set ?_ (IsS48.ge HI0.out))|exact HB.out),by repeat (first|(with_reducible first|exact HK.out|apply KeepBut.set_|apply keep_drewN|apply keep_drew|apply keep_alloc)|exact HK.out)⟩
   ·rw [if_neg c25] at H
    have c25b0 : (t179 == 2) = false:=beq_eq_false_iff_ne.mpr c25
    have c25b1 : (t179 != 2) = true:=bne_iff_ne.mpr c25
    by_cases c28 : t179 = 3
    ·rw [if_pos c28] at H
     have c28b0 : (t179 == 3) = true:=beq_iff_eq.mpr c28
     have c28b1 : (t179 != 3) = false:=bne_eq_false_iff_eq.mpr c28
     clear c28
     have H':=Aside0.mk H
     clear H
     go_enter Tryz.func17,Tryz.ntmps17
     go_wp2_with (first|((with_reducible refine gate_callee (f:=33) rfl ?_);refine goesL_ (some 8) rfl rfl Tryz.func33 (by kernel_rfl) rfl #[.pointer (some ⟨g,0,none⟩),.int .i64 a1] rfl mz ?_;(with_reducible refine (spec_l1Cur_chain.calls k g s0_0 s0_1 s0_2 a1 t174 t177 t178 w0 _ ?side1 ?side2 A3.out).mono ?_);(case side1=>repeat (first|(with_reducible first|exact HI0.out|apply IsS48.alloc|apply IsS48.drewN|apply IsS48.drew|apply IsS48.set_1|apply IsS48.set_2)|exact HI0.out));(case side2=>repeat (first|(with_reducible first|exact HB.out|apply below_alloc|apply pw_below_drewN|apply below_drew1|refine below_set ?_ (IsS48.ge HI0.out))|exact HB.out));rintro e w29 ⟨v175,rfl,ho0,hi,hb,hk⟩;refine ⟨_,rfl,?_⟩;have n0_:=Aside0.mk (Kd.R_lower ho0 (keep_size (w:=w) (g:=g) (row:=none) (by repeat (first|(with_reducible first|exact HK.out|apply KeepBut.set_|apply keep_drewN|apply keep_drew|apply keep_alloc)|exact HK.out))));have n1_:=Aside0.mk (KeepBut.trans (by repeat (first|(with_reducible first|exact HK.out|apply KeepBut.set_|apply keep_drewN|apply keep_drew|apply keep_alloc)|exact HK.out)) hk (.inl rfl));have n2_:=Aside0.mk (hb);have n3_:=Aside0.mk (hi);clear HK HB HI0;have HO176:=n0_;have HK:=n1_;have HB:=n2_;have HI0:=n3_;clear n0_ n1_ n2_ n3_;(try clear hb);(try clear hb2);(try clear hk);(try clear hi);(try clear ho0))|((with_reducible refine gate_callee (f:=34) rfl ?_);refine goesL_ (some 10) rfl rfl Tryz.func34 (by kernel_rfl) rfl #[.pointer (some ⟨g,0,none⟩),.int .i64 14] rfl mz ?_;(with_reducible refine (spec_l1Cur_pick.calls g s0_0 t177 t178 14 t179 t180 t181 w0 _ ?side1 ?side2 A4.out).mono ?_);(case side1=>repeat (first|(with_reducible first|exact HI0.out|apply IsS48.alloc|apply IsS48.drewN|apply IsS48.drew|apply IsS48.set_1|apply IsS48.set_2)|exact HI0.out));(case side2=>repeat (first|(with_reducible first|exact HB.out|apply below_alloc|apply pw_below_drewN|apply below_drew1|refine below_set ?_ (IsS48.ge HI0.out))|exact HB.out));rintro e w30 ⟨rfl,hi,hb,hk⟩;refine ⟨_,rfl,?_⟩;have n0_:=Aside0.mk (Kd.R_mono (Kd.R_keep (IsS48.apart (show IsS48 w0 _ g s0_0 t177 t178 from by repeat (first|(with_reducible first|exact HI0.out|apply IsS48.alloc|apply IsS48.drewN|apply IsS48.drew|apply IsS48.set_1|apply IsS48.set_2)|exact HI0.out)) (rz HO176.out) (by decide)) hk (fun _ h=>h.2)) (fun _ h=>h.1));have n1_:=Aside0.mk (KeepBut.trans (by repeat (first|(with_reducible first|exact HK.out|apply KeepBut.set_|apply keep_drewN|apply keep_drew|apply keep_alloc)|exact HK.out)) hk (.inl rfl));have n2_:=Aside0.mk (hb);have n3_:=Aside0.mk (hi);clear HO176 HK HB HI0;have HO176:=n0_;have HK:=n1_;have HB:=n2_;have HI0:=n3_;clear n0_ n1_ n2_ n3_;(try clear hb);(try clear hb2);(try clear hk);(try clear hi)))
     go_loopg [5] k (fun kq v5 w'=>∃ (x5_1 : List Int) (x1001_1 : Int) (x1002_1 : Int),Aside0 (spec_l1Cur_anyChain.l0 kq x5_1 s0_0 x1001_1 x1002_1 = some (r1,r2,r3)) ∧ Aside0 (kq ≤ k) ∧ Aside0 (Kd.R (Kd.int .i64) 3 w' w.heap.size (fun _=>True) v5 x5_1) ∧ Aside0 (IsS48 w0 w' g s0_0 x1001_1 x1002_1) ∧ Aside0 (KeepBut w w' g none) ∧ Aside0 (Below w0.heap.size w0 w'))
     case atStart=>exact ⟨(([] : List Int)),(t180),(t181),H',⟨Nat.le_refl _⟩,⟨by first|exact Kd.R_nil _ _ _ _ _|exact Kd.N_nil _ _ _ _ _|exact Kd.V_nil _ _ _ _ _|exact Kd.Q_nil _ _ _ _ _|exact Kd.S_nil _ _ _ _ _⟩,⟨by repeat (first|(with_reducible first|exact HI0.out|apply IsS48.alloc|apply IsS48.drewN|apply IsS48.drew|apply IsS48.set_1|apply IsS48.set_2)|exact HI0.out)⟩,⟨by repeat (first|(with_reducible first|exact HK.out|apply KeepBut.set_|apply keep_drewN|apply keep_drew|apply keep_alloc)|exact HK.out)⟩,⟨by repeat (first|(with_reducible first|exact HB.out|apply below_alloc|apply pw_below_drewN|apply below_drew1|refine below_set ?_ (IsS48.ge HI0.out))|exact HB.out)⟩⟩
     case round=>
      clear H'
      try clear c1
      try clear p1
      try clear q1
      try clear hx1
      try clear c2
      try clear p2
      try clear c3
      try clear c5
      try clear c5b0
      try clear c5b1
      try clear p6
      try clear c7
      try clear c7b0
      try clear c8
      try clear c8b0
      try clear p10
      try clear q10
      try clear hx10
      try clear hf10
      try clear c17
      try clear c18
      try clear c18b0
      try clear c18b1
      try clear p18
      try clear q18
      try clear hx18
      try clear c20
      try clear c25
      try clear c25b0
      try clear c25b1
      try clear c28
      try clear c28b0
      try clear c28b1
      try clear hx10_0
      try clear hx185_0
      try clear p10
      try clear p185
      try clear q10
      try clear q185
      obtain ⟨x5_1,x1001_1,x1002_1,HA,HK1,HO_5,HI0,HK,HB⟩:=hrel
      cases gk with
      | zero=>exact absurd HA.out (by simp [spec_l1Cur_anyChain.l0])
      | succ k1=>
       have H:=HA.out
       clear HA
       simp only [spec_l1Cur_anyChain.l0] at H
       obtain ⟨⟨t196,t197,t198⟩,A31,H⟩:=bd H
       try dsimp only at H
       by_cases c32 : (x5_1.length : Int) < (wrap64 (41 + t196))
       ·rw [if_pos c32] at H
        have c32b0 : decide ((x5_1.length : Int) < (wrap64 (41 + t196))) = true:=decide_eq_true c32
        clear c32
        by_cases c33 : x5_1.length < 17592186044416
        ·rw [if_pos c33] at H
         have LMc33:=Aside0.mk c33
         clear c33
         obtain ⟨y199,hy199⟩ : ∃ y_ : List Int,y_ = (x5_1 ++ [wrap64 ((x5_1.length : Int) + 1)]):=⟨_,rfl⟩
         replace H : (spec_l1Cur_anyChain.l0 k1 y199 s0_0 t197 t198) = some (r1,r2,r3):=by first|(rw [hy199];with_reducible exact H)|(have H2_:=(Option.bind_some _ _).symm.trans H;rw [hy199];with_reducible exact H2_)|(have H2_:=(Option.bind_some _ _).symm.trans H;with_reducible exact H2_)|with_reducible exact H|(rw [hy199];exact H)|exact H
         have Ny199:=Aside0.mk hy199
         clear hy199
         have H':=Aside0.mk H
         clear H
         obtain ⟨Ao34,co34,eo34⟩:=Kd.R_slice HO_5.out
         subst eo34
         go_wp2_with (first|((with_reducible refine gate_callee (f:=34) rfl ?_);refine goesL_ (some 39) rfl rfl Tryz.func34 (by kernel_rfl) rfl #[.pointer (some ⟨g,0,none⟩),.int .i64 2] rfl mz ?_;(with_reducible refine (spec_l1Cur_pick.calls g s0_0 x1001_1 x1002_1 2 t196 t197 t198 w0 _ ?side1 ?side2 A31.out).mono ?_);(case side1=>repeat (first|(with_reducible first|exact HI0.out|apply IsS48.alloc|apply IsS48.drewN|apply IsS48.drew|apply IsS48.set_1|apply IsS48.set_2)|exact HI0.out));(case side2=>repeat (first|(with_reducible first|exact HB.out|apply below_alloc|apply pw_below_drewN|apply below_drew1|refine below_set ?_ (IsS48.ge HI0.out))|exact HB.out));rintro e w35 ⟨rfl,hi,hb,hk⟩;refine ⟨_,rfl,?_⟩;have n0_:=Aside0.mk (Kd.R_mono (Kd.R_keep (IsS48.apart (show IsS48 w0 _ g s0_0 x1001_1 x1002_1 from by repeat (first|(with_reducible first|exact HI0.out|apply IsS48.alloc|apply IsS48.drewN|apply IsS48.drew|apply IsS48.set_1|apply IsS48.set_2)|exact HI0.out)) (rz HO_5.out) (by decide)) hk (fun _ h=>h.2)) (fun _ h=>h.1));have n1_:=Aside0.mk (KeepBut.trans (by repeat (first|(with_reducible first|exact HK.out|apply KeepBut.set_|apply keep_drewN|apply keep_drew|apply keep_alloc)|exact HK.out)) hk (.inl rfl));have n2_:=Aside0.mk (hb);have n3_:=Aside0.mk (hi);clear HO_5 HK HB HI0;have HO_5:=n0_;have HK:=n1_;have HB:=n2_;have HI0:=n3_;clear n0_ n1_ n2_ n3_;(try clear hb);(try clear hb2);(try clear hk);(try clear hi))|((with_reducible refine gate_builtin (b:=.append) (xs:=#[.tmp 42,.tmp 46]) rfl ?_);at_builtin;refine Kd.R_append (Kd.int .i64) w.heap.size rfl (.tmp 42) (.tmp 46) 24 3 (.int .i64 0) 8 rfl Tryz.underlying24 info3 rfl (by decide) (by omega) (.slice Ao34 x5_1.length co34) x5_1 (wrap64 ((x5_1.length : Int) + 1)) [.int .i64 (wrap64 ((x5_1.length : Int) + 1))] (fun _=>True) (fun _=>False) rfl rfl ?aP (fun _ hk=>hk.elim) ?aF ?aO (Below.refl _ _) ?aS ?aL ?_;(case aP=>exact rfl);(case aF=>exact (fun _ _=>trivial));(case aO=>exact (rz HO_5.out));(case aS=>exact (keep_size (w:=w) (g:=g) (row:=none) (by repeat (first|(with_reducible first|exact HK.out|apply KeepBut.set_|apply keep_drewN|apply keep_drew|apply keep_alloc)|exact HK.out))));(case aL=>have:=LMc33.out;omega);intro v200 w36 ho hb hg hat;rw [← Ny199.out] at ho;have n0_:=Aside0.mk (IsS48.grown (by repeat (first|(with_reducible first|exact HI0.out|apply IsS48.alloc|apply IsS48.drewN|apply IsS48.drew|apply IsS48.set_1|apply IsS48.set_2)|exact HI0.out)) hg (IsS48.own_ne HI0.out HO_5.out (by decide)));have n1_:=Aside0.mk (below_weaken (by repeat (first|(with_reducible first|exact HB.out|apply below_alloc|apply pw_below_drewN|apply below_drew1|refine below_set ?_ (IsS48.ge HI0.out))|exact HB.out)) HL.out hb);have n2_:=Aside0.mk (KeepBut.trans (by repeat (first|(with_reducible first|exact HK.out|apply KeepBut.set_|apply keep_drewN|apply keep_drew|apply keep_alloc)|exact HK.out)) (KeepBut.of_grown hg g) (Kd.R_base2 HO_5.out));have n3_:=Aside0.mk (ho);clear HI0 HB HK HO_5;have HI0:=n0_;have HB:=n1_;have HK:=n2_;have HO201:=n3_;clear n0_ n1_ n2_ n3_;clear ho hb hg hat))
         go_roundg k1
         case measure=>have:=HK1.out;omega
         case rel=>exact ⟨(y199),(t197),(t198),H',⟨by have:=HK1.out;omega⟩,⟨by (with_reducible repeat (first|apply Kd.R_alloc|apply Kd.R_drewN|apply Kd.R_drew));exact HO201.out⟩,⟨by repeat (first|(with_reducible first|exact HI0.out|apply IsS48.alloc|apply IsS48.drewN|apply IsS48.drew|apply IsS48.set_1|apply IsS48.set_2)|exact HI0.out)⟩,⟨by repeat (first|(with_reducible first|exact HK.out|apply KeepBut.set_|apply keep_drewN|apply keep_drew|apply keep_alloc)|exact HK.out)⟩,⟨by repeat (first|(with_reducible first|exact HB.out|apply below_alloc|apply pw_below_drewN|apply below_drew1|refine below_set ?_ (IsS48.ge HI0.out))|exact HB.out)⟩⟩
        ·rw [if_neg c33] at H
         exact absurd H (by simp)
       ·rw [if_neg c32] at H
        have c32b0 : decide ((x5_1.length : Int) < (wrap64 (41 + t196))) = false:=decide_eq_false c32
        clear c32
        simp only [Option.some.injEq,Prod.mk.injEq] at H
        obtain ⟨rfl,rfl,rfl⟩:=H
        obtain ⟨Ao37,co37,eo37⟩:=Kd.R_slice HO_5.out
        subst eo37
        go_wp2_with (first|((with_reducible refine gate_callee (f:=34) rfl ?_);refine goesL_ (some 39) rfl rfl Tryz.func34 (by kernel_rfl) rfl #[.pointer (some ⟨g,0,none⟩),.int .i64 2] rfl mz ?_;(with_reducible refine (spec_l1Cur_pick.calls g s0_0 x1001_1 x1002_1 2 t196 t197 t198 w0 _ ?side1 ?side2 A31.out).mono ?_);(case side1=>repeat (first|(with_reducible first|exact HI0.out|apply IsS48.alloc|apply IsS48.drewN|apply IsS48.drew|apply IsS48.set_1|apply IsS48.set_2)|exact HI0.out));(case side2=>repeat (first|(with_reducible first|exact HB.out|apply below_alloc|apply pw_below_drewN|apply below_drew1|refine below_set ?_ (IsS48.ge HI0.out))|exact HB.out));rintro e w38 ⟨rfl,hi,hb,hk⟩;refine ⟨_,rfl,?_⟩;have n0_:=Aside0.mk (Kd.R_mono (Kd.R_keep (IsS48.apart (show IsS48 w0 _ g s0_0 x1001_1 x1002_1 from by repeat (first|(with_reducible first|exact HI0.out|apply IsS48.alloc|apply IsS48.drewN|apply IsS48.drew|apply IsS48.set_1|apply IsS48.set_2)|exact HI0.out)) (rz HO_5.out) (by decide)) hk (fun _ h=>h.2)) (fun _ h=>h.1));have n1_:=Aside0.mk (KeepBut.trans (by repeat (first|(with_reducible first|exact HK.out|apply KeepBut.set_|apply keep_drewN|apply keep_drew|apply keep_alloc)|exact HK.out)) hk (.inl rfl));have n2_:=Aside0.mk (hb);have n3_:=Aside0.mk (hi);clear HO_5 HK HB HI0;have HO_5:=n0_;have HK:=n1_;have HB:=n2_;have HI0:=n3_;clear n0_ n1_ n2_ n3_;(try clear hb);(try clear hb2);(try clear hk);(try clear hi)))
        go_ret
        exact ⟨_,by first|rfl|(simp [errW_none,errW_some] <;> rfl)|(simp [*,errW_none,errW_some] <;> rfl),by (with_reducible repeat (first|apply Kd.R_alloc|apply Kd.R_drewN|apply Kd.R_drew));exact HO_5.out,by repeat (first|(with_reducible first|exact HI0.out|apply IsS48.alloc|apply IsS48.drewN|apply IsS48.drew|apply IsS48.set_1|apply IsS48.set_2)|exact HI0.out),by repeat (first|(with_reducible first|exact HB.out|apply below_alloc|apply pw_below_drewN|apply below_drew1|refine below_set ?_ (IsS48.ge HI0.out))|exact HB.out),by repeat (first|(with_reducible first|exact HK.out|apply KeepBut.set_|apply keep_drewN|apply keep_drew|apply keep_alloc)|exact HK.out)⟩
    ·rw [if_neg c28] at H
     have c28b0 : (t179 == 3) = false:=beq_eq_false_iff_ne.mpr c28
     have c28b1 : (t179 != 3) = true:=bne_iff_ne.mpr c28
     by_cases c39 : t179 = 4
     ·rw [if_pos c39] at H
      have c39b0 : (t179 == 4) = true:=beq_iff_eq.mpr c39
      have c39b1 : (t179 != 4) = false:=bne_eq_false_iff_eq.mpr c39
      clear c39
      obtain ⟨y202,hy202⟩ : ∃ y_ : List Int,y_ = (([1,2,4,8,16,32,64,128,256,512,1024,2048,4096,8192,16384,32768,65536,131072,262144,524288] : List Int)):=⟨_,rfl⟩
      replace H : ((spec_l1Cur_pick.f s0_0 t180 t181 4).bind fun bt205=>((some (([786432,wrap64 (786432 + (wrap64 (131072 * bt205.1)))] : List Int) : List Int)).bind fun y208=>(if y202.length + y208.length < 17592186044416 then (some ((y202 ++ y208),bt205.2.1,bt205.2.2)) else (none)))) = some (r1,r2,r3):=by first|(rw [hy202];with_reducible exact H)|(have H2_:=(Option.bind_some _ _).symm.trans H;rw [hy202];with_reducible exact H2_)|(have H2_:=(Option.bind_some _ _).symm.trans H;with_reducible exact H2_)|with_reducible exact H|(rw [hy202];exact H)|exact H
      have Ny202:=Aside0.mk hy202
      clear hy202
      obtain ⟨⟨t205,t206,t207⟩,A40,H⟩:=bd H
      try dsimp only at H
      obtain ⟨y208,hy208⟩ : ∃ y_ : List Int,y_ = (([786432,wrap64 (786432 + (wrap64 (131072 * t205)))] : List Int)):=⟨_,rfl⟩
      replace H : (if y202.length + y208.length < 17592186044416 then (some ((y202 ++ y208),t206,t207)) else (none)) = some (r1,r2,r3):=by first|(rw [hy208];with_reducible exact H)|(have H2_:=(Option.bind_some _ _).symm.trans H;rw [hy208];with_reducible exact H2_)|(have H2_:=(Option.bind_some _ _).symm.trans H;with_reducible exact H2_)|with_reducible exact H|(rw [hy208];exact H)|exact H
      have Ny208:=Aside0.mk hy208
      clear hy208
      by_cases c41 : y202.length + y208.length < 17592186044416
      ·rw [if_pos c41] at H
       have LMc41:=Aside0.mk c41
       clear c41
       obtain ⟨y211,hy211⟩ : ∃ y_ : List Int,y_ = (y202 ++ y208):=⟨_,rfl⟩
       replace H : (some (y211,t206,t207)) = some (r1,r2,r3):=by first|(rw [hy211];with_reducible exact H)|(have H2_:=(Option.bind_some _ _).symm.trans H;rw [hy211];with_reducible exact H2_)|(have H2_:=(Option.bind_some _ _).symm.trans H;with_reducible exact H2_)|with_reducible exact H|(rw [hy211];exact H)|exact H
       have Ny211:=Aside0.mk hy211
       clear hy211
       simp only [Option.some.injEq,Prod.mk.injEq] at H
       obtain ⟨rfl,rfl,rfl⟩:=H
       go_enter Tryz.func17,Tryz.ntmps17
       go_wp2_with (first|((with_reducible refine gate_callee (f:=33) rfl ?_);refine goesL_ (some 8) rfl rfl Tryz.func33 (by kernel_rfl) rfl #[.pointer (some ⟨g,0,none⟩),.int .i64 a1] rfl mz ?_;(with_reducible refine (spec_l1Cur_chain.calls k g s0_0 s0_1 s0_2 a1 t174 t177 t178 w0 _ ?side1 ?side2 A3.out).mono ?_);(case side1=>repeat (first|(with_reducible first|exact HI0.out|apply IsS48.alloc|apply IsS48.drewN|apply IsS48.drew|apply IsS48.set_1|apply IsS48.set_2)|exact HI0.out));(case side2=>repeat (first|(with_reducible first|exact HB.out|apply below_alloc|apply pw_below_drewN|apply below_drew1|refine below_set ?_ (IsS48.ge HI0.out))|exact HB.out));rintro e w42 ⟨v175,rfl,ho0,hi,hb,hk⟩;refine ⟨_,rfl,?_⟩;have n0_:=Aside0.mk (Kd.R_lower ho0 (keep_size (w:=w) (g:=g) (row:=none) (by repeat (first|(with_reducible first|exact HK.out|apply KeepBut.set_|apply keep_drewN|apply keep_drew|apply keep_alloc)|exact HK.out))));have n1_:=Aside0.mk (KeepBut.trans (by repeat (first|(with_reducible first|exact HK.out|apply KeepBut.set_|apply keep_drewN|apply keep_drew|apply keep_alloc)|exact HK.out)) hk (.inl rfl));have n2_:=Aside0.mk (hb);have n3_:=Aside0.mk (hi);clear HK HB HI0;have HO176:=n0_;have HK:=n1_;have HB:=n2_;have HI0:=n3_;clear n0_ n1_ n2_ n3_;(try clear hb);(try clear hb2);(try clear hk);(try clear hi);(try clear ho0))|((with_reducible refine gate_callee (f:=34) rfl ?_);refine goesL_ (some 10) rfl rfl Tryz.func34 (by kernel_rfl) rfl #[.pointer (some ⟨g,0,none⟩),.int .i64 14] rfl mz ?_;(with_reducible refine (spec_l1Cur_pick.calls g s0_0 t177 t178 14 t179 t180 t181 w0 _ ?side1 ?side2 A4.out).mono ?_);(case side1=>repeat (first|(with_reducible first|exact HI0.out|apply IsS48.alloc|apply IsS48.drewN|apply IsS48.drew|apply IsS48.set_1|apply IsS48.set_2)|exact HI0.out));(case side2=>repeat (first|(with_reducible first|exact HB.out|apply below_alloc|apply pw_below_drewN|apply below_drew1|refine below_set ?_ (IsS48.ge HI0.out))|exact HB.out));rintro e w43 ⟨rfl,hi,hb,hk⟩;refine ⟨_,rfl,?_⟩;have n0_:=Aside0.mk (Kd.R_mono (Kd.R_keep (IsS48.apart (show IsS48 w0 _ g s0_0 t177 t178 from by repeat (first|(with_reducible first|exact HI0.out|apply IsS48.alloc|apply IsS48.drewN|apply IsS48.drew|apply IsS48.set_1|apply IsS48.set_2)|exact HI0.out)) (rz HO176.out) (by decide)) hk (fun _ h=>h.2)) (fun _ h=>h.1));have n1_:=Aside0.mk (KeepBut.trans (by repeat (first|(with_reducible first|exact HK.out|apply KeepBut.set_|apply keep_drewN|apply keep_drew|apply keep_alloc)|exact HK.out)) hk (.inl rfl));have n2_:=Aside0.mk (hb);have n3_:=Aside0.mk (hi);clear HO176 HK HB HI0;have HO176:=n0_;have HK:=n1_;have HB:=n2_;have HI0:=n3_;clear n0_ n1_ n2_ n3_;(try clear hb);(try clear hb2);(try clear hk);(try clear hi))|((with_reducible refine gate_dst (N:=50) rfl ?_);refine Kd.R_lit (Kd.int .i64) _ 3 ?hg (N:=50) ?hd (xs:=([1,2,4,8,16,32,64,128,256,512,1024,2048,4096,8192,16384,32768,65536,131072,262144,524288] : List Int)) (inner:=[.int .i64 1,.int .i64 2,.int .i64 4,.int .i64 8,.int .i64 16,.int .i64 32,.int .i64 64,.int .i64 128,.int .i64 256,.int .i64 512,.int .i64 1024,.int .i64 2048,.int .i64 4096,.int .i64 8192,.int .i64 16384,.int .i64 32768,.int .i64 65536,.int .i64 131072,.int .i64 262144,.int .i64 524288]) (ok:=fun _=>True) (okp:=fun _=>True) ?hr ?hp (fun _ hk=>hk) trivial (Below.refl _ _) (Nat.le_refl _) (by simp) ?_;(case hd=>rfl);(case hg=>rfl);(case hr=>first|(go_simp;done)|(go_simp;rfl));(case hp=>exact (Reps.one (show Kd.M (Kd.int .i64) _ _ _ 1 [.int .i64 1] from rfl) (Reps.one (show Kd.M (Kd.int .i64) _ _ _ 2 [.int .i64 2] from rfl) (Reps.one (show Kd.M (Kd.int .i64) _ _ _ 4 [.int .i64 4] from rfl) (Reps.one (show Kd.M (Kd.int .i64) _ _ _ 8 [.int .i64 8] from rfl) (Reps.one (show Kd.M (Kd.int .i64) _ _ _ 16 [.int .i64 16] from rfl) (Reps.one (show Kd.M (Kd.int .i64) _ _ _ 32 [.int .i64 32] from rfl) (Reps.one (show Kd.M (Kd.int .i64) _ _ _ 64 [.int .i64 64] from rfl) (Reps.one (show Kd.M (Kd.int .i64) _ _ _ 128 [.int .i64 128] from rfl) (Reps.one (show Kd.M (Kd.int .i64) _ _ _ 256 [.int .i64 256] from rfl) (Reps.one (show Kd.M (Kd.int .i64) _ _ _ 512 [.int .i64 512] from rfl) (Reps.one (show Kd.M (Kd.int .i64) _ _ _ 1024 [.int .i64 1024] from rfl) (Reps.one (show Kd.M (Kd.int .i64) _ _ _ 2048 [.int .i64 2048] from rfl) (Reps.one (show Kd.M (Kd.int .i64) _ _ _ 4096 [.int .i64 4096] from rfl) (Reps.one (show Kd.M (Kd.int .i64) _ _ _ 8192 [.int .i64 8192] from rfl) (Reps.one (show Kd.M (Kd.int .i64) _ _ _ 16384 [.int .i64 16384] from rfl) (Reps.one (show Kd.M (Kd.int .i64) _ _ _ 32768 [.int .i64 32768] from rfl) (Reps.one (show Kd.M (Kd.int .i64) _ _ _ 65536 [.int .i64 65536] from rfl) (Reps.one (show Kd.M (Kd.int .i64) _ _ _ 131072 [.int .i64 131072] from rfl) (Reps.one (show Kd.M (Kd.int .i64) _ _ _ 262144 [.int .i64 262144] from rfl) (Reps.one (show Kd.M (Kd.int .i64) _ _ _ 524288 [.int .i64 524288] from rfl) (Reps.none _ _))))))))))))))))))))));intro v203 w44 ho45 hb hg_ hnew_;clear hg_ hnew_;(first|rw [← Ny202.out] at ho45|(simp only [Int.reduceToNat] at ho45;rw [← Ny202.out] at ho45));have n0_:=Aside0.mk (Kd.R_elder' (rz HO176.out) (Kd.R_base ho45) hb);have n1_:=Aside0.mk (Kd.R_lower (Kd.R_new' ho45 (Kd.R_lt (rz HO176.out))) (keep_size (w:=w) (g:=g) (row:=none) (by repeat (first|(with_reducible first|exact HK.out|apply KeepBut.set_|apply keep_drewN|apply keep_drew|apply keep_alloc)|exact HK.out))));have n2_:=Aside0.mk (IsS48.below (by repeat (first|(with_reducible first|exact HI0.out|apply IsS48.alloc|apply IsS48.drewN|apply IsS48.drew|apply IsS48.set_1|apply IsS48.set_2)|exact HI0.out)) hb);have n3_:=Aside0.mk (KeepBut.trans (by repeat (first|(with_reducible first|exact HK.out|apply KeepBut.set_|apply keep_drewN|apply keep_drew|apply keep_alloc)|exact HK.out)) (KeepBut.of_below hb g none) (.inl rfl));have n4_:=Aside0.mk (below_step (by repeat (first|(with_reducible first|exact HB.out|apply below_alloc|apply pw_below_drewN|apply below_drew1|refine below_set ?_ (IsS48.ge HI0.out))|exact HB.out)) hb);clear HO176 HI0 HK HB;have HO176:=n0_;have HO204:=n1_;have HI0:=n2_;have HK:=n3_;have HB:=n4_;clear n0_ n1_ n2_ n3_ n4_;clear hb ho45)|((with_reducible refine gate_callee (f:=34) rfl ?_);refine goesL_ (some 53) rfl rfl Tryz.func34 (by kernel_rfl) rfl #[.pointer (some ⟨g,0,none⟩),.int .i64 4] rfl mz ?_;(with_reducible refine (spec_l1Cur_pick.calls g s0_0 t180 t181 4 t205 t206 t207 w0 _ ?side1 ?side2 A40.out).mono ?_);(case side1=>repeat (first|(with_reducible first|exact HI0.out|apply IsS48.alloc|apply IsS48.drewN|apply IsS48.drew|apply IsS48.set_1|apply IsS48.set_2)|exact HI0.out));(case side2=>repeat (first|(with_reducible first|exact HB.out|apply below_alloc|apply pw_below_drewN|apply below_drew1|refine below_set ?_ (IsS48.ge HI0.out))|exact HB.out));rintro e w46 ⟨rfl,hi,hb,hk⟩;refine ⟨_,rfl,?_⟩;have n0_:=Aside0.mk (Kd.R_mono (Kd.R_keep (IsS48.apart (show IsS48 w0 _ g s0_0 t180 t181 from by repeat (first|(with_reducible first|exact HI0.out|apply IsS48.alloc|apply IsS48.drewN|apply IsS48.drew|apply IsS48.set_1|apply IsS48.set_2)|exact HI0.out)) (rz HO176.out) (by decide)) hk (fun _ h=>h.2)) (fun _ h=>h.1));have n1_:=Aside0.mk (Kd.R_mono (Kd.R_keep (IsS48.apart (show IsS48 w0 _ g s0_0 t180 t181 from by repeat (first|(with_reducible first|exact HI0.out|apply IsS48.alloc|apply IsS48.drewN|apply IsS48.drew|apply IsS48.set_1|apply IsS48.set_2)|exact HI0.out)) (rz HO204.out) (by decide)) hk (fun _ h=>h.2)) (fun _ h=>h.1));have n2_:=Aside0.mk (KeepBut.trans (by repeat (first|(with_reducible first|exact HK.out|apply KeepBut.set_|apply keep_drewN|apply keep_drew|apply keep_alloc)|exact HK.out)) hk (.inl rfl));have n3_:=Aside0.mk (hb);have n4_:=Aside0.mk (hi);clear HO176 HO204 HK HB HI0;have HO176:=n0_;have HO204:=n1_;have HK:=n2_;have HB:=n3_;have HI0:=n4_;clear n0_ n1_ n2_ n3_ n4_;(try clear hb);(try clear hb2);(try clear hk);(try clear hi))|((with_reducible refine gate_dst (N:=56) rfl ?_);refine Kd.R_lit (Kd.int .i64) _ 3 ?hg (N:=56) ?hd (xs:=([786432,wrap64 (786432 + (wrap64 (131072 * t205)))] : List Int)) (inner:=[.int .i64 786432,.int .i64 (wrap64 (786432 + (wrap64 (131072 * t205))))]) (ok:=fun _=>True) (okp:=fun _=>True) ?hr ?hp (fun _ hk=>hk) trivial (Below.refl _ _) (Nat.le_refl _) (by simp) ?_;(case hd=>rfl);(case hg=>rfl);(case hr=>first|(go_simp;done)|(go_simp;rfl));(case hp=>exact (Reps.one (show Kd.M (Kd.int .i64) _ _ _ 786432 [.int .i64 786432] from rfl) (Reps.one (show Kd.M (Kd.int .i64) _ _ _ (wrap64 (786432 + (wrap64 (131072 * t205)))) [.int .i64 (wrap64 (786432 + (wrap64 (131072 * t205))))] from rfl) (Reps.none _ _))));intro v209 w47 ho48 hb hg_ hnew_;clear hg_ hnew_;(first|rw [← Ny208.out] at ho48|(simp only [Int.reduceToNat] at ho48;rw [← Ny208.out] at ho48));have n0_:=Aside0.mk (Kd.R_elder' (rz HO176.out) (Kd.R_base ho48) hb);have n1_:=Aside0.mk (Kd.R_elder' (rz HO204.out) (Kd.R_base ho48) hb);have n2_:=Aside0.mk (Kd.R_lower (Kd.R_new' (Kd.R_new' ho48 (Kd.R_lt (rz HO176.out))) (Kd.R_lt (rz HO204.out))) (keep_size (w:=w) (g:=g) (row:=none) (by repeat (first|(with_reducible first|exact HK.out|apply KeepBut.set_|apply keep_drewN|apply keep_drew|apply keep_alloc)|exact HK.out))));have n3_:=Aside0.mk (IsS48.below (by repeat (first|(with_reducible first|exact HI0.out|apply IsS48.alloc|apply IsS48.drewN|apply IsS48.drew|apply IsS48.set_1|apply IsS48.set_2)|exact HI0.out)) hb);have n4_:=Aside0.mk (KeepBut.trans (by repeat (first|(with_reducible first|exact HK.out|apply KeepBut.set_|apply keep_drewN|apply keep_drew|apply keep_alloc)|exact HK.out)) (KeepBut.of_below hb g none) (.inl rfl));have n5_:=Aside0.mk (below_step (by repeat (first|(with_reducible first|exact HB.out|apply below_alloc|apply pw_below_drewN|apply below_drew1|refine below_set ?_ (IsS48.ge HI0.out))|exact HB.out)) hb);clear HO176 HO204 HI0 HK HB;have HO176:=n0_;have HO204:=n1_;have HO210:=n2_;have HI0:=n3_;have HK:=n4_;have HB:=n5_;clear n0_ n1_ n2_ n3_ n4_ n5_;clear hb ho48;obtain ⟨Ao50,co50,eo50⟩:=Kd.R_slice HO210.out;subst eo50)|((with_reducible refine gate_builtin (b:=.append) (xs:=#[.tmp 51,.tmp 56]) rfl ?_);at_builtin;refine Kd.R_append_rows (Kd.int .i64) w.heap.size rfl (.tmp 51) (.tmp 56) 24 3 (.int .i64 0) 8 rfl Tryz.underlying24 info3 rfl (by decide) (by omega) v203 y202 y208 _ _ _ (fun k_=>some k_ ≠ (v175 : Value).ownBlock ∧ some k_ ≠ (.slice Ao50 y208.length co50 : Value).ownBlock) (fun _=>False) rfl rfl ?aO ?aR (fun _ _ h=>h) (fun _ h=>h.elim) ?aF (Below.refl _ _) ?aS ?aL ?_;(case aR=>repeat (first|exact (Kd.R_reads' HO210.out).2.2|(with_reducible refine Kd.C_alloc ?_ _)|(with_reducible refine Kd.C_drewN ?_ _)|(with_reducible refine Kd.C_drew ?_)));(case aF=>exact (fun k_ hk=>⟨Kd.fresh' (Kd.R_lt (rz HO176.out)) k_ hk,Kd.fresh' (Kd.R_lt (rz HO210.out)) k_ hk⟩));(case aO=>exact (by (with_reducible repeat (first|apply Kd.R_alloc|apply Kd.R_drewN|apply Kd.R_drew));exact Kd.R_mono HO204.out (fun _ hk=>⟨hk.1.2,hk.2⟩)));(case aS=>exact (keep_size (w:=w) (g:=g) (row:=none) (by repeat (first|(with_reducible first|exact HK.out|apply KeepBut.set_|apply keep_drewN|apply keep_drew|apply keep_alloc)|exact HK.out))));(case aL=>have:=LMc41.out;omega);intro v212 w49 ho hb hg hat;rw [← Ny211.out] at ho;have n0_:=Aside0.mk (IsS48.grown (by repeat (first|(with_reducible first|exact HI0.out|apply IsS48.alloc|apply IsS48.drewN|apply IsS48.drew|apply IsS48.set_1|apply IsS48.set_2)|exact HI0.out)) hg (IsS48.own_ne HI0.out HO204.out (by decide)));have n1_:=Aside0.mk (Kd.R_after (ok:=(fun k_=>some k_ ≠ (.slice Ao50 y208.length co50 : Value).ownBlock)) (by (with_reducible repeat (first|apply Kd.R_alloc|apply Kd.R_drewN|apply Kd.R_drew));exact Kd.R_mono HO176.out (fun _ hk=>⟨hk.2,hk.1.2⟩)) hg hat);have n2_:=Aside0.mk (Kd.R_after (ok:=(fun k_=>some k_ ≠ (v175 : Value).ownBlock)) (by (with_reducible repeat (first|apply Kd.R_alloc|apply Kd.R_drewN|apply Kd.R_drew));exact Kd.R_mono HO210.out (fun _ hk=>⟨hk.1.2,hk.2⟩)) hg hat);have n3_:=Aside0.mk (below_weaken (by repeat (first|(with_reducible first|exact HB.out|apply below_alloc|apply pw_below_drewN|apply below_drew1|refine below_set ?_ (IsS48.ge HI0.out))|exact HB.out)) HL.out hb);have n4_:=Aside0.mk (KeepBut.trans (by repeat (first|(with_reducible first|exact HK.out|apply KeepBut.set_|apply keep_drewN|apply keep_drew|apply keep_alloc)|exact HK.out)) (KeepBut.of_grown hg g) (Kd.R_base2 HO204.out));have n5_:=Aside0.mk (ho);clear HI0 HO176 HO210 HB HK HO204;have HI0:=n0_;have HO176:=n1_;have HO210:=n2_;have HB:=n3_;have HK:=n4_;have HO213:=n5_;clear n0_ n1_ n2_ n3_ n4_ n5_;clear ho hb hg hat))
       go_ret
       exact ⟨_,by first|rfl|(simp [errW_none,errW_some] <;> rfl)|(simp [*,errW_none,errW_some] <;> rfl),by (with_reducible repeat (first|apply Kd.R_alloc|apply Kd.R_drewN|apply Kd.R_drew));exact Kd.R_mono HO213.out (fun _ hk=>trivial),by repeat (first|(with_reducible first|exact HI0.out|apply IsS48.alloc|apply IsS48.drewN|apply IsS48.drew|apply IsS48.set_1|apply IsS48.set_2)|exact HI0.out),by repeat (first|(with_reducible first|exact HB.out|apply below_alloc|apply pw_below_drewN|apply below_drew1|refine below_set ?_ (IsS48.ge HI0.out))|exact HB.out),by repeat (first|(with_reducible first|exact HK.out|apply KeepBut.set_|apply keep_drewN|apply keep_drew|apply keep_alloc)|exact HK.out)⟩
      ·rw [if_neg c41] at H
       exact absurd H (by simp)
     ·rw [if_neg c39] at H
      have c39b0 : (t179 == 4) = false:=beq_eq_false_iff_ne.mpr c39
      have c39b1 : (t179 != 4) = true:=bne_iff_ne.mpr c39
      simp only [Option.some.injEq,Prod.mk.injEq] at H
      obtain ⟨rfl,rfl,rfl⟩:=H
      go_enter Tryz.func17,Tryz.ntmps17
      go_wp2_with (first|((with_reducible refine gate_callee (f:=33) rfl ?_);refine goesL_ (some 8) rfl rfl Tryz.func33 (by kernel_rfl) rfl #[.pointer (some ⟨g,0,none⟩),.int .i64 a1] rfl mz ?_;(with_reducible refine (spec_l1Cur_chain.calls k g s0_0 s0_1 s0_2 a1 t174 t177 t178 w0 _ ?side1 ?side2 A3.out).mono ?_);(case side1=>repeat (first|(with_reducible first|exact HI0.out|apply IsS48.alloc|apply IsS48.drewN|apply IsS48.drew|apply IsS48.set_1|apply IsS48.set_2)|exact HI0.out));(case side2=>repeat (first|(with_reducible first|exact HB.out|apply below_alloc|apply pw_below_drewN|apply below_drew1|refine below_set ?_ (IsS48.ge HI0.out))|exact HB.out));rintro e w51 ⟨v175,rfl,ho0,hi,hb,hk⟩;refine ⟨_,rfl,?_⟩;have n0_:=Aside0.mk (Kd.R_lower ho0 (keep_size (w:=w) (g:=g) (row:=none) (by repeat (first|(with_reducible first|exact HK.out|apply KeepBut.set_|apply keep_drewN|apply keep_drew|apply keep_alloc)|exact HK.out))));have n1_:=Aside0.mk (KeepBut.trans (by repeat (first|(with_reducible first|exact HK.out|apply KeepBut.set_|apply keep_drewN|apply keep_drew|apply keep_alloc)|exact HK.out)) hk (.inl rfl));have n2_:=Aside0.mk (hb);have n3_:=Aside0.mk (hi);clear HK HB HI0;have HO176:=n0_;have HK:=n1_;have HB:=n2_;have HI0:=n3_;clear n0_ n1_ n2_ n3_;(try clear hb);(try clear hb2);(try clear hk);(try clear hi);(try clear ho0))|((with_reducible refine gate_callee (f:=34) rfl ?_);refine goesL_ (some 10) rfl rfl Tryz.func34 (by kernel_rfl) rfl #[.pointer (some ⟨g,0,none⟩),.int .i64 14] rfl mz ?_;(with_reducible refine (spec_l1Cur_pick.calls g s0_0 t177 t178 14 t179 t180 t181 w0 _ ?side1 ?side2 A4.out).mono ?_);(case side1=>repeat (first|(with_reducible first|exact HI0.out|apply IsS48.alloc|apply IsS48.drewN|apply IsS48.drew|apply IsS48.set_1|apply IsS48.set_2)|exact HI0.out));(case side2=>repeat (first|(with_reducible first|exact HB.out|apply below_alloc|apply pw_below_drewN|apply below_drew1|refine below_set ?_ (IsS48.ge HI0.out))|exact HB.out));rintro e w52 ⟨rfl,hi,hb,hk⟩;refine ⟨_,rfl,?_⟩;have n0_:=Aside0.mk (Kd.R_mono (Kd.R_keep (IsS48.apart (show IsS48 w0 _ g s0_0 t177 t178 from by repeat (first|(with_reducible first|exact HI0.out|apply IsS48.alloc|apply IsS48.drewN|apply IsS48.drew|apply IsS48.set_1|apply IsS48.set_2)|exact HI0.out)) (rz HO176.out) (by decide)) hk (fun _ h=>h.2)) (fun _ h=>h.1));have n1_:=Aside0.mk (KeepBut.trans (by repeat (first|(with_reducible first|exact HK.out|apply KeepBut.set_|apply keep_drewN|apply keep_drew|apply keep_alloc)|exact HK.out)) hk (.inl rfl));have n2_:=Aside0.mk (hb);have n3_:=Aside0.mk (hi);clear HO176 HK HB HI0;have HO176:=n0_;have HK:=n1_;have HB:=n2_;have HI0:=n3_;clear n0_ n1_ n2_ n3_;(try clear hb);(try clear hb2);(try clear hk);(try clear hi)))
      go_ret
      exact ⟨_,by first|rfl|(simp [errW_none,errW_some] <;> rfl)|(simp [*,errW_none,errW_some] <;> rfl),by (with_reducible repeat (first|apply Kd.R_alloc|apply Kd.R_drewN|apply Kd.R_drew));exact HO176.out,by repeat (first|(with_reducible first|exact HI0.out|apply IsS48.alloc|apply IsS48.drewN|apply IsS48.drew|apply IsS48.set_1|apply IsS48.set_2)|exact HI0.out),by repeat (first|(with_reducible first|exact HB.out|apply below_alloc|apply pw_below_drewN|apply below_drew1|refine below_set ?_ (IsS48.ge HI0.out))|exact HB.out),by repeat (first|(with_reducible first|exact HK.out|apply KeepBut.set_|apply keep_drewN|apply keep_drew|apply keep_alloc)|exact HK.out)⟩
/-! ### spec_DrawChainPlan: function 5 -/
def spec_DrawChainPlan.f (k : Nat) (l0 : List Int) : Option (List Int):=(spec_l1Cur_anyChain.f k l0 0 0 9).bind fun bt215=>(some bt215.1)
theorem spec_DrawChainPlan.mono : ∀ a0 k,LeO (spec_DrawChainPlan.f k a0) (spec_DrawChainPlan.f (k + 1) a0):=by
 intro a0 k
 unfold spec_DrawChainPlan.f
 repeat' first
   | (with_reducible exact spec_l1Cur_anyChain.mono _ _ _ _ _)
   | (with_reducible exact LeO.refl _)
   | (with_reducible exact LeO.none _)
   | (with_reducible refine LeO.ite ?_ ?_)
   | (with_reducible refine LeO.bind ?_ (fun _=>?_))
   | exact spec_l1Cur_anyChain.mono _ _ _ _ _
   | exact LeO.none _
   | refine LeO.ite ?_ ?_
   | refine LeO.bind ?_ (fun _=>?_)
set_option maxHeartbeats 8000000 in
set_option maxRecDepth 100000 in
theorem spec_DrawChainPlan.calls (k : Nat) (A0 : Option Addr) (c0 : Nat) (l0 : List Int) (r : List Int) (w : World) (hr0 : Kd.C (Kd.int .u8) w A0 l0.length l0) (hc0 : l0.length ≤ c0) (h : spec_DrawChainPlan.f k l0 = some r) :
  Calls Tryz.prog 5 #[.slice A0 l0.length c0] w fun e w'=>∃ v0_ : Value,e = .returned (v0_) ∧ Kd.R (Kd.int .i64) 3 w' w.heap.size (fun _=>True) v0_ r ∧ Below w.heap.size w w':=by
 have hu48:=Tryz.underlying48
 have HR0:=Aside0.mk hr0
 have HC0:=Aside0.mk hc0
 clear hr0 hc0
 have HB:=Aside0.mk (Below.refl w.heap.size w)
 have H : ((spec_l1Cur_anyChain.f k l0 0 0 9).bind fun bt215=>(some bt215.1)) = some r:=h
 clear h
 obtain ⟨⟨t215,t218,t219⟩,A2,H⟩:=bd H
 try dsimp only at H
 obtain rfl:=Option.some.inj H
 go_enter Tryz.func5,Tryz.ntmps5
 go_wp2_with (first|((with_reducible refine gate_dst (N:=6) rfl ?_);refine box_event ?hg (N:=6) ?hd (cs:=#[.slice A0 l0.length c0,.int .i64 0,.int .u64 0]) (t:=48) ?hr ?_;(case hd=>rfl);(case hg=>rfl);(case hr=>first|(go_simp;done)|(go_simp;rfl));intro gb214 hg w3 hbox hb;have n0_:=Aside0.mk (below_step bz hb);have n1_:=Aside0.mk ((by rw [hg];exact (below_size bz) : w.heap.size ≤ gb214));have n2_:=Aside0.mk ((by rw [hg];exact (below_size bz) : w.heap.size ≤ gb214));have n3_:=Aside0.mk ((show IsS48 w w3 gb214 l0 0 0 from ⟨_,_,hbox,(by rw [hg];exact (below_size bz)),HR0.out⟩));clear HB;have HB:=n0_;have GW214:=n1_;have GE214:=n2_;have HI214:=n3_;clear n0_ n1_ n2_ n3_;clear hb hbox hg)|((with_reducible refine gate_callee (f:=17) rfl ?_);refine goesL_ (some 8) rfl rfl Tryz.func17 (by kernel_rfl) rfl #[.pointer (some ⟨gb214,0,none⟩),.int .i64 9] rfl mz ?_;(with_reducible refine (spec_l1Cur_anyChain.calls k gb214 l0 0 0 9 t215 t218 t219 w _ ?side1 ?side2 A2.out).mono ?_);(case side1=>repeat (first|(with_reducible first|exact HI214.out|apply IsS48.alloc|apply IsS48.drewN|apply IsS48.drew|apply IsS48.set_1|apply IsS48.set_2)|exact HI214.out));(case side2=>repeat (first|(with_reducible first|exact HB.out|apply below_alloc|apply pw_below_drewN|apply below_drew1|refine below_set ?_ (IsS48.ge HI214.out))|exact HB.out));rintro e w4 ⟨v216,rfl,ho0,hi,hb,hk⟩;refine ⟨_,rfl,?_⟩;have n0_:=Aside0.mk (Kd.R_lower ho0 (below_size (by repeat (first|(with_reducible first|exact HB.out|apply below_alloc|apply pw_below_drewN|apply below_drew1|refine below_set ?_ (IsS48.ge HI214.out))|exact HB.out))));have n1_:=Aside0.mk (hb);have n2_:=Aside0.mk (hi);clear HB HI214;have HO217:=n0_;have HB:=n1_;have HI214:=n2_;clear n0_ n1_ n2_;(try clear hb);(try clear hb2);(try clear hk);(try clear hi);(try clear ho0)))
 go_ret
 exact ⟨_,by first|rfl|(simp [errW_none,errW_some] <;> rfl)|(simp [*,errW_none,errW_some] <;> rfl),by (with_reducible repeat (first|apply Kd.R_alloc|apply Kd.R_drewN|apply Kd.R_drew));exact HO217.out,by repeat (first|(with_reducible first|exact HB.out|apply below_alloc|apply pw_below_drewN|apply below_drew1|refine below_set ?_ (IsS48.ge HI214.out))|exact HB.out)⟩
/-! ### impl_in: function 22 -/
def impl_in.f (a0 : Int) (a1 : Int) (a2 : Int) : Option (Bool):=if a0 ≥ a1 then (some (decide (a0 ≤ a2))) else (some false)
set_option maxHeartbeats 8000000 in
set_option maxRecDepth 100000 in
theorem impl_in.calls (a0 : Int) (a1 : Int) (a2 : Int) (r : Bool) (w : World) (h : impl_in.f a0 a1 a2 = some r) :
  Calls Tryz.prog 22 #[.int .i64 a0,.int .i64 a1,.int .i64 a2] w fun e w'=>e = .returned (.bool r) ∧ Drawn0 w w':=by
 have H : (if a0 ≥ a1 then (some (decide (a0 ≤ a2))) else (some false)) = some r:=h
 clear h
 by_cases c4 : a0 ≥ a1
 ·rw [if_pos c4] at H
  have c4b0 : decide (a1 ≤ a0) = true:=decide_eq_true c4
  clear c4
  obtain rfl:=Option.some.inj H
  go_enter Tryz.func22,Tryz.ntmps22
  go_wp2
  go_ret
  exact ⟨by first|rfl|(simp;done)|(simp [*];done),by repeat (first|exact Drawn0.refl _|apply Drawn0.step)⟩
 ·rw [if_neg c4] at H
  have c4b0 : decide (a1 ≤ a0) = false:=decide_eq_false c4
  clear c4
  obtain rfl:=Option.some.inj H
  go_enter Tryz.func22,Tryz.ntmps22
  go_wp2
  go_ret
  exact ⟨by first|rfl|(simp;done)|(simp [*];done),by repeat (first|exact Drawn0.refl _|apply Drawn0.step)⟩
/-! ### impl_sums: function 23 -/
mutual
def impl_sums.l0 : Nat → List Int → Int → List (S41) → Int → Int → Option ((List (S41)))
 | 0,_,_,_,_,_=>none
 | k + 1,x0,x1,x5,x9,x10=>if x10 < x9 then (impl_sums.l1 k x0 x1 x5 x10 x9 x10 (wrap64 (x10 + 1)) 0) else (some x5)
def impl_sums.l1 : Nat → List Int → Int → List (S41) → Int → Int → Int → Int → Int → Option ((List (S41)))
 | 0,_,_,_,_,_,_,_,_=>none
 | k + 1,x0,x1,x5,x6,x9,x10,x14,x15=>if x15 < x14 then (if 0 ≤ x15 then (if x15 < (x0.length : Int) then (if 0 ≤ x6 then (if x6 < (x0.length : Int) then (if 0 ≤ x1 then (if x1 < (x0.length : Int) then (if (wrap64 ((rd x0 x15) + (rd x0 x6))) = (rd x0 x1) then (if x5.length < 8796093022208 then (impl_sums.l1 k x0 x1 (x5 ++ [(⟨x15,x6⟩ : S41)]) x6 x9 x10 x14 (wrap64 (x15 + 1))) else (none)) else (impl_sums.l1 k x0 x1 x5 x6 x9 x10 x14 (wrap64 (x15 + 1)))) else (none)) else (none)) else (none)) else (none)) else (none)) else (none)) else (impl_sums.l0 k x0 x1 x5 x9 (wrap64 (x10 + 1)))
end
def impl_sums.f (k : Nat) (l0 : List Int) (a1 : Int) : Option ((List (S41))):=impl_sums.l0 k l0 a1 (([] : List (S41))) a1 0
theorem impl_sums.mono_l : ∀ k,(∀ y0 y1 y2 y3 y4,LeO (impl_sums.l0 k y0 y1 y2 y3 y4) (impl_sums.l0 (k + 1) y0 y1 y2 y3 y4)) ∧ (∀ y0 y1 y2 y3 y4 y5 y6 y7,LeO (impl_sums.l1 k y0 y1 y2 y3 y4 y5 y6 y7) (impl_sums.l1 (k + 1) y0 y1 y2 y3 y4 y5 y6 y7))
 | 0=>⟨fun _ _ _ _ _ r h=>by simp [impl_sums.l0] at h,fun _ _ _ _ _ _ _ _ r h=>by simp [impl_sums.l1] at h⟩
 | k + 1=>by
  obtain ⟨ih0,ih1⟩:=impl_sums.mono_l k
  refine ⟨?_,?_⟩
  ·intro y0 y1 y2 y3 y4
   unfold impl_sums.l0
   repeat' first
   | (with_reducible exact ih0 _ _ _ _ _)
   | (with_reducible exact ih1 _ _ _ _ _ _ _ _)
   | (with_reducible exact LeO.refl _)
   | (with_reducible exact LeO.none _)
   | (with_reducible refine LeO.ite ?_ ?_)
   | (with_reducible refine LeO.bind ?_ (fun _=>?_))
   | exact ih0 _ _ _ _ _
   | exact ih1 _ _ _ _ _ _ _ _
   | exact LeO.none _
   | refine LeO.ite ?_ ?_
   | refine LeO.bind ?_ (fun _=>?_)
  ·intro y0 y1 y2 y3 y4 y5 y6 y7
   unfold impl_sums.l1
   repeat' first
   | (with_reducible exact ih0 _ _ _ _ _)
   | (with_reducible exact ih1 _ _ _ _ _ _ _ _)
   | (with_reducible exact LeO.refl _)
   | (with_reducible exact LeO.none _)
   | (with_reducible refine LeO.ite ?_ ?_)
   | (with_reducible refine LeO.bind ?_ (fun _=>?_))
   | exact ih0 _ _ _ _ _
   | exact ih1 _ _ _ _ _ _ _ _
   | exact LeO.none _
   | refine LeO.ite ?_ ?_
   | refine LeO.bind ?_ (fun _=>?_)
theorem impl_sums.mono : ∀ a0 a1 k,LeO (impl_sums.f k a0 a1) (impl_sums.f (k + 1) a0 a1):=by
 intro a0 a1 k
 obtain ⟨ih0,ih1⟩:=impl_sums.mono_l k
 unfold impl_sums.f
 repeat' first
   | (with_reducible exact ih0 _ _ _ _ _)
   | (with_reducible exact ih1 _ _ _ _ _ _ _ _)
   | (with_reducible exact LeO.refl _)
   | (with_reducible exact LeO.none _)
   | (with_reducible refine LeO.ite ?_ ?_)
   | (with_reducible refine LeO.bind ?_ (fun _=>?_))
   | exact ih0 _ _ _ _ _
   | exact ih1 _ _ _ _ _ _ _ _
   | exact LeO.none _
   | refine LeO.ite ?_ ?_
   | refine LeO.bind ?_ (fun _=>?_)
set_option maxHeartbeats 8000000 in
set_option maxRecDepth 100000 in
theorem impl_sums.calls (k : Nat) (A0 : Option Addr) (c0 : Nat) (l0 : List Int) (a1 : Int) (r : List (S41)) (w : World) (hr0 : Kd.C (Kd.int .i64) w A0 l0.length l0) (hc0 : l0.length ≤ c0) (h : impl_sums.f k l0 a1 = some r) :
  Calls Tryz.prog 23 #[.slice A0 l0.length c0,.int .i64 a1] w fun e w'=>∃ v0_ : Value,e = .returned (v0_) ∧ Kd.R k41 41 w' w.heap.size (fun _=>True) v0_ r ∧ Below w.heap.size w w':=by
 have hu41:=Tryz.underlying41
 have HR0:=Aside0.mk hr0
 have HC0:=Aside0.mk hc0
 clear hr0 hc0
 have HB:=Aside0.mk (Below.refl w.heap.size w)
 have H : (impl_sums.l0 k l0 a1 (([] : List (S41))) a1 0) = some r:=h
 clear h
 obtain ⟨y220,hy220⟩ : ∃ y_ : List (S41),y_ = (([] : List (S41))):=⟨_,rfl⟩
 replace H : (impl_sums.l0 k l0 a1 y220 a1 0) = some r:=by first|(rw [hy220];with_reducible exact H)|(have H2_:=(Option.bind_some _ _).symm.trans H;rw [hy220];with_reducible exact H2_)|(have H2_:=(Option.bind_some _ _).symm.trans H;with_reducible exact H2_)|with_reducible exact H|(rw [hy220];exact H)|exact H
 have Ny220:=Aside0.mk hy220
 clear hy220
 have H':=Aside0.mk H
 clear H
 go_enter Tryz.func23,Tryz.ntmps23
 go_wp2_with (first|((with_reducible refine gate_dst (N:=8) rfl ?_);refine Kd.R_lit k41 _ 41 ?hg (N:=8) ?hd (xs:=([] : List (S41))) (inner:=[]) (ok:=fun _=>True) (okp:=fun _=>True) ?hr ?hp (fun _ hk=>hk) trivial (Below.refl _ _) (Nat.le_refl _) (by simp) ?_;(case hd=>rfl);(case hg=>rfl);(case hr=>first|(go_simp;done)|(go_simp;rfl));(case hp=>exact (Reps.none _ _));intro v221 w3 ho4 hb hg_ hnew_;clear hg_ hnew_;(first|rw [← Ny220.out] at ho4|(simp only [Int.reduceToNat] at ho4;rw [← Ny220.out] at ho4));have n0_:=Aside0.mk (Kd.R_lower ho4 (below_size bz));have n1_:=Aside0.mk (below_step bz hb);clear HB;have HO222:=n0_;have HB:=n1_;clear n0_ n1_;clear hb ho4))
 repeat (go_quiet (first|((with_reducible refine gate_dst (N:=8) rfl ?_);refine Kd.R_lit k41 _ 41 ?hg (N:=8) ?hd (xs:=([] : List (S41))) (inner:=[]) (ok:=fun _=>True) (okp:=fun _=>True) ?hr ?hp (fun _ hk=>hk) trivial (Below.refl _ _) (Nat.le_refl _) (by simp) ?_;(case hd=>rfl);(case hg=>rfl);(case hr=>first|(go_simp;done)|(go_simp;rfl));(case hp=>exact (Reps.none _ _));intro v221 w3 ho4 hb hg_ hnew_;clear hg_ hnew_;(first|rw [← Ny220.out] at ho4|(simp only [Int.reduceToNat] at ho4;rw [← Ny220.out] at ho4));have n0_:=Aside0.mk (Kd.R_lower ho4 (below_size bz));have n1_:=Aside0.mk (below_step bz hb);clear HB;have HO222:=n0_;have HB:=n1_;clear n0_ n1_;clear hb ho4));try go_wp2_with (first|((with_reducible refine gate_dst (N:=8) rfl ?_);refine Kd.R_lit k41 _ 41 ?hg (N:=8) ?hd (xs:=([] : List (S41))) (inner:=[]) (ok:=fun _=>True) (okp:=fun _=>True) ?hr ?hp (fun _ hk=>hk) trivial (Below.refl _ _) (Nat.le_refl _) (by simp) ?_;(case hd=>rfl);(case hg=>rfl);(case hr=>first|(go_simp;done)|(go_simp;rfl));(case hp=>exact (Reps.none _ _));intro v221 w3 ho4 hb hg_ hnew_;clear hg_ hnew_;(first|rw [← Ny220.out] at ho4|(simp only [Int.reduceToNat] at ho4;rw [← Ny220.out] at ho4));have n0_:=Aside0.mk (Kd.R_lower ho4 (below_size bz));have n1_:=Aside0.mk (below_step bz hb);clear HB;have HO222:=n0_;have HB:=n1_;clear n0_ n1_;clear hb ho4)))
 go_loopg [5,10] k (fun kq v5 v10 w'=>∃ (x5_1 : List (S41)) (x10_1 : Int),v10 = .int .i64 x10_1 ∧ Aside0 (impl_sums.l0 kq l0 a1 x5_1 a1 x10_1 = some r) ∧ Aside0 (kq ≤ k) ∧ Aside0 (Kd.R k41 41 w' w.heap.size (fun _=>True) v5 x5_1) ∧ Aside0 (Below w.heap.size w w'))
 case atStart=>exact ⟨(y220),(0),fz,H',⟨Nat.le_refl _⟩,⟨by (with_reducible repeat (first|apply Kd.R_alloc|apply Kd.R_drewN|apply Kd.R_drew));exact HO222.out⟩,⟨by repeat (first|(with_reducible first|exact HB.out|apply below_alloc|apply pw_below_drewN|apply below_drew1)|exact HB.out)⟩⟩
 case round=>
  clear H'
  try clear c2
  try clear p2
  obtain ⟨x5_1,x10_1,rfl,HA,HK1,HO_5,HB⟩:=hrel
  cases gk with
  | zero=>exact absurd HA.out (by simp [impl_sums.l0])
  | succ k1=>
   have H:=HA.out
   clear HA
   simp only [impl_sums.l0] at H
   by_cases c5 : x10_1 < a1
   ·rw [if_pos c5] at H
    have c5b0 : decide (x10_1 < a1) = true:=decide_eq_true c5
    clear c5
    have H':=Aside0.mk H
    clear H
    go_wp2
    repeat (go_quiet (fail);try go_wp2)
    go_loopg [5,15] k1 (fun kq v5 v15 w'=>∃ (x5_2 : List (S41)) (x15_2 : Int),v15 = .int .i64 x15_2 ∧ Aside0 (impl_sums.l1 kq l0 a1 x5_2 x10_1 a1 x10_1 (wrap64 (x10_1 + 1)) x15_2 = some r) ∧ Aside0 (kq ≤ k1) ∧ Aside0 (Kd.R k41 41 w' w.heap.size (fun _=>True) v5 x5_2) ∧ Aside0 (Below w.heap.size w w'))
    case atStart=>exact ⟨(x5_1),(0),fz,H',⟨Nat.le_refl _⟩,⟨by (with_reducible repeat (first|apply Kd.R_alloc|apply Kd.R_drewN|apply Kd.R_drew));exact HO_5.out⟩,⟨by repeat (first|(with_reducible first|exact HB.out|apply below_alloc|apply pw_below_drewN|apply below_drew1)|exact HB.out)⟩⟩
    case round=>
     clear H'
     try clear c2
     try clear p2
     try clear c5
     try clear c5b0
     try clear p2
     obtain ⟨x5_2,x15_2,rfl,HA,HK2,HO_5,HB⟩:=hrel
     cases gk with
     | zero=>exact absurd HA.out (by simp [impl_sums.l1])
     | succ k2=>
      have H:=HA.out
      clear HA
      simp only [impl_sums.l1] at H
      by_cases c6 : x15_2 < (wrap64 (x10_1 + 1))
      ·rw [if_pos c6] at H
       have c6b0 : decide (x15_2 < (wrap64 (x10_1 + 1))) = true:=decide_eq_true c6
       clear c6
       by_cases c7 : 0 ≤ x15_2
       ·rw [if_pos c7] at H
        have c7b0 : decide (0 ≤ x15_2) = true:=decide_eq_true c7
        clear c7
        by_cases c8 : x15_2 < (l0.length : Int)
        ·rw [if_pos c8] at H
         have c8b0 : decide (x15_2 < (l0.length : Int)) = true:=decide_eq_true c8
         clear c8
         by_cases c9 : 0 ≤ x10_1
         ·rw [if_pos c9] at H
          have c9b0 : decide (0 ≤ x10_1) = true:=decide_eq_true c9
          clear c9
          by_cases c10 : x10_1 < (l0.length : Int)
          ·rw [if_pos c10] at H
           have c10b0 : decide (x10_1 < (l0.length : Int)) = true:=decide_eq_true c10
           clear c10
           by_cases c11 : 0 ≤ a1
           ·rw [if_pos c11] at H
            have c11b0 : decide (0 ≤ a1) = true:=decide_eq_true c11
            clear c11
            by_cases c12 : a1 < (l0.length : Int)
            ·rw [if_pos c12] at H
             have c12b0 : decide (a1 < (l0.length : Int)) = true:=decide_eq_true c12
             clear c12
             by_cases c13 : (wrap64 ((rd l0 x15_2) + (rd l0 x10_1))) = (rd l0 a1)
             ·rw [if_pos c13] at H
              have c13b0 : ((wrap64 ((rd l0 x15_2) + (rd l0 x10_1))) == (rd l0 a1)) = true:=beq_iff_eq.mpr c13
              have c13b1 : ((wrap64 ((rd l0 x15_2) + (rd l0 x10_1))) != (rd l0 a1)) = false:=bne_eq_false_iff_eq.mpr c13
              clear c13
              by_cases c14 : x5_2.length < 8796093022208
              ·rw [if_pos c14] at H
               have LMc14:=Aside0.mk c14
               clear c14
               obtain ⟨y226,hy226⟩ : ∃ y_ : List (S41),y_ = (x5_2 ++ [(⟨x15_2,x10_1⟩ : S41)]):=⟨_,rfl⟩
               replace H : (impl_sums.l1 k2 l0 a1 y226 x10_1 a1 x10_1 (wrap64 (x10_1 + 1)) (wrap64 (x15_2 + 1))) = some r:=by first|(rw [hy226];with_reducible exact H)|(have H2_:=(Option.bind_some _ _).symm.trans H;rw [hy226];with_reducible exact H2_)|(have H2_:=(Option.bind_some _ _).symm.trans H;with_reducible exact H2_)|with_reducible exact H|(rw [hy226];exact H)|exact H
               have Ny226:=Aside0.mk hy226
               clear hy226
               have H':=Aside0.mk H
               clear H
               have p223 : 0 ≤ (x15_2 : Int):=of_decide_eq_true az
               have q223 : x15_2 < (l0.length : Int):=of_decide_eq_true az
               obtain ⟨ad223,e223,hx223_0⟩:=Kd.at_int HR0.out x15_2 p223 q223
               cases e223
               replace hx223_0:=(HB.out.cell (World.block_lt_of_cell? w _ hx223_0)).trans hx223_0
               replace p223:=eq_true p223
               replace q223:=eq_true q223
               have p224 : 0 ≤ (x10_1 : Int):=of_decide_eq_true az
               have q224 : x10_1 < (l0.length : Int):=of_decide_eq_true az
               obtain ⟨ad224,e224,hx224_0⟩:=Kd.at_int HR0.out x10_1 p224 q224
               obtain rfl : ad223 = ad224:=(by injection e224)
               replace hx224_0:=(HB.out.cell (World.block_lt_of_cell? w _ hx224_0)).trans hx224_0
               replace p224:=eq_true p224
               replace q224:=eq_true q224
               have p225 : 0 ≤ (a1 : Int):=of_decide_eq_true az
               have q225 : a1 < (l0.length : Int):=of_decide_eq_true az
               obtain ⟨ad225,e225,hx225_0⟩:=Kd.at_int HR0.out a1 p225 q225
               obtain rfl : ad223 = ad225:=(by injection e225)
               replace hx225_0:=(HB.out.cell (World.block_lt_of_cell? w _ hx225_0)).trans hx225_0
               replace p225:=eq_true p225
               replace q225:=eq_true q225
               go_wp2_with (first|((with_reducible refine gate_builtin (b:=.append) (xs:=#[.tmp 32,.tmp 36]) rfl ?_);at_builtin;refine Kd.R_append k41 (w0:=w) w.heap.size rfl (.tmp 32) (.tmp 36) 26 41 (.agg #[(.int .i64 0),(.int .i64 0)]) 16 rfl Tryz.underlying26 info41 rfl (by decide) (by omega) u5 x5_2 (⟨x15_2,x10_1⟩ : S41) [.int .i64 x15_2,.int .i64 x10_1] (fun _=>True) (fun _=>False) rfl rfl ?aP (fun _ hk=>hk.elim) ?aF ?aO ?aB ?aS ?aL ?_;(case aP=>exact k41_mkM _ _ _ (⟨x15_2,x10_1⟩ : S41));(case aB=>exact bz);(case aF=>exact (fun _ _=>trivial));(case aO=>exact (rz HO_5.out));(case aS=>exact (below_size bz));(case aL=>have:=LMc14.out;omega);intro v227 w15 ho hb hg hat;rw [← Ny226.out] at ho;have n0_:=Aside0.mk (hb);have n1_:=Aside0.mk (ho);clear HB HO_5;have HB:=n0_;have HO228:=n1_;clear n0_ n1_;clear ho hb hg hat))
               repeat (go_quiet (first|((with_reducible refine gate_builtin (b:=.append) (xs:=#[.tmp 32,.tmp 36]) rfl ?_);at_builtin;refine Kd.R_append k41 (w0:=w) w.heap.size rfl (.tmp 32) (.tmp 36) 26 41 (.agg #[(.int .i64 0),(.int .i64 0)]) 16 rfl Tryz.underlying26 info41 rfl (by decide) (by omega) u5 x5_2 (⟨x15_2,x10_1⟩ : S41) [.int .i64 x15_2,.int .i64 x10_1] (fun _=>True) (fun _=>False) rfl rfl ?aP (fun _ hk=>hk.elim) ?aF ?aO ?aB ?aS ?aL ?_;(case aP=>exact k41_mkM _ _ _ (⟨x15_2,x10_1⟩ : S41));(case aB=>exact bz);(case aF=>exact (fun _ _=>trivial));(case aO=>exact (rz HO_5.out));(case aS=>exact (below_size bz));(case aL=>have:=LMc14.out;omega);intro v227 w15 ho hb hg hat;rw [← Ny226.out] at ho;have n0_:=Aside0.mk (hb);have n1_:=Aside0.mk (ho);clear HB HO_5;have HB:=n0_;have HO228:=n1_;clear n0_ n1_;clear ho hb hg hat));try go_wp2_with (first|((with_reducible refine gate_builtin (b:=.append) (xs:=#[.tmp 32,.tmp 36]) rfl ?_);at_builtin;refine Kd.R_append k41 (w0:=w) w.heap.size rfl (.tmp 32) (.tmp 36) 26 41 (.agg #[(.int .i64 0),(.int .i64 0)]) 16 rfl Tryz.underlying26 info41 rfl (by decide) (by omega) u5 x5_2 (⟨x15_2,x10_1⟩ : S41) [.int .i64 x15_2,.int .i64 x10_1] (fun _=>True) (fun _=>False) rfl rfl ?aP (fun _ hk=>hk.elim) ?aF ?aO ?aB ?aS ?aL ?_;(case aP=>exact k41_mkM _ _ _ (⟨x15_2,x10_1⟩ : S41));(case aB=>exact bz);(case aF=>exact (fun _ _=>trivial));(case aO=>exact (rz HO_5.out));(case aS=>exact (below_size bz));(case aL=>have:=LMc14.out;omega);intro v227 w15 ho hb hg hat;rw [← Ny226.out] at ho;have n0_:=Aside0.mk (hb);have n1_:=Aside0.mk (ho);clear HB HO_5;have HB:=n0_;have HO228:=n1_;clear n0_ n1_;clear ho hb hg hat)))
               go_roundg k2
               case measure=>have:=HK1.out;have:=HK2.out;omega
               case rel=>exact ⟨(y226),(wrap64 (x15_2 + 1)),fz,H',⟨by have:=HK1.out;have:=HK2.out;omega⟩,⟨by (with_reducible repeat (first|apply Kd.R_alloc|apply Kd.R_drewN|apply Kd.R_drew));exact HO228.out⟩,⟨by repeat (first|(with_reducible first|exact HB.out|apply below_alloc|apply pw_below_drewN|apply below_drew1)|exact HB.out)⟩⟩
              ·rw [if_neg c14] at H
               exact absurd H (by simp)
             ·rw [if_neg c13] at H
              have c13b0 : ((wrap64 ((rd l0 x15_2) + (rd l0 x10_1))) == (rd l0 a1)) = false:=beq_eq_false_iff_ne.mpr c13
              have c13b1 : ((wrap64 ((rd l0 x15_2) + (rd l0 x10_1))) != (rd l0 a1)) = true:=bne_iff_ne.mpr c13
              have H':=Aside0.mk H
              clear H
              have p223 : 0 ≤ (x15_2 : Int):=of_decide_eq_true az
              have q223 : x15_2 < (l0.length : Int):=of_decide_eq_true az
              obtain ⟨ad223,e223,hx223_0⟩:=Kd.at_int HR0.out x15_2 p223 q223
              cases e223
              replace hx223_0:=(HB.out.cell (World.block_lt_of_cell? w _ hx223_0)).trans hx223_0
              replace p223:=eq_true p223
              replace q223:=eq_true q223
              have p224 : 0 ≤ (x10_1 : Int):=of_decide_eq_true az
              have q224 : x10_1 < (l0.length : Int):=of_decide_eq_true az
              obtain ⟨ad224,e224,hx224_0⟩:=Kd.at_int HR0.out x10_1 p224 q224
              obtain rfl : ad223 = ad224:=(by injection e224)
              replace hx224_0:=(HB.out.cell (World.block_lt_of_cell? w _ hx224_0)).trans hx224_0
              replace p224:=eq_true p224
              replace q224:=eq_true q224
              have p225 : 0 ≤ (a1 : Int):=of_decide_eq_true az
              have q225 : a1 < (l0.length : Int):=of_decide_eq_true az
              obtain ⟨ad225,e225,hx225_0⟩:=Kd.at_int HR0.out a1 p225 q225
              obtain rfl : ad223 = ad225:=(by injection e225)
              replace hx225_0:=(HB.out.cell (World.block_lt_of_cell? w _ hx225_0)).trans hx225_0
              replace p225:=eq_true p225
              replace q225:=eq_true q225
              go_wp2
              repeat (go_quiet (fail);try go_wp2)
              go_roundg k2
              case measure=>have:=HK1.out;have:=HK2.out;omega
              case rel=>exact ⟨(x5_2),(wrap64 (x15_2 + 1)),fz,H',⟨by have:=HK1.out;have:=HK2.out;omega⟩,⟨by (with_reducible repeat (first|apply Kd.R_alloc|apply Kd.R_drewN|apply Kd.R_drew));exact HO_5.out⟩,⟨by repeat (first|(with_reducible first|exact HB.out|apply below_alloc|apply pw_below_drewN|apply below_drew1)|exact HB.out)⟩⟩
            ·rw [if_neg c12] at H
             exact absurd H (by simp)
           ·rw [if_neg c11] at H
            exact absurd H (by simp)
          ·rw [if_neg c10] at H
           exact absurd H (by simp)
         ·rw [if_neg c9] at H
          exact absurd H (by simp)
        ·rw [if_neg c8] at H
         exact absurd H (by simp)
       ·rw [if_neg c7] at H
        exact absurd H (by simp)
      ·rw [if_neg c6] at H
       have c6b0 : decide (x15_2 < (wrap64 (x10_1 + 1))) = false:=decide_eq_false c6
       clear c6
       have H':=Aside0.mk H
       clear H
       go_wp2
       repeat (go_quiet (fail);try go_wp2)
       go_roundg k2
       case measure=>have:=HK1.out;have:=HK2.out;omega
       case rel=>exact ⟨(x5_2),(wrap64 (x10_1 + 1)),fz,H',⟨by have:=HK1.out;have:=HK2.out;omega⟩,⟨by (with_reducible repeat (first|apply Kd.R_alloc|apply Kd.R_drewN|apply Kd.R_drew));exact HO_5.out⟩,⟨by repeat (first|(with_reducible first|exact HB.out|apply below_alloc|apply pw_below_drewN|apply below_drew1)|exact HB.out)⟩⟩
   ·rw [if_neg c5] at H
    have c5b0 : decide (x10_1 < a1) = false:=decide_eq_false c5
    clear c5
    obtain rfl:=Option.some.inj H
    go_wp2
    repeat (go_quiet (fail);try go_wp2)
    go_ret
    exact ⟨_,by first|rfl|(simp [errW_none,errW_some] <;> rfl)|(simp [*,errW_none,errW_some] <;> rfl),by (with_reducible repeat (first|apply Kd.R_alloc|apply Kd.R_drewN|apply Kd.R_drew));exact HO_5.out,by repeat (first|(with_reducible first|exact HB.out|apply below_alloc|apply pw_below_drewN|apply below_drew1)|exact HB.out)⟩
end Go.Proofs.YtlefjgpkabijdaaGreatDoor.MFnChainsArePlans
--sq
