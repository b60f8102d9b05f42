import Derived.Test.YtlefjgpkabijdaaMFnScaledChainsx0
import Derived.Test.YtlefjgpkabijdaaMFnScaledChainsx2
import Derived.Test.YtlefjgpkabijdaaMFnScaledChainsx5
import Derived.Test.YtlefjgpkabijdaaMFnScaledChainsx1
import Derived.Test.YtlefjgpkabijdaaMFnScaledChainsx3
import Derived.Test.YtlefjgpkabijdaaMFnScaledChainsx4
namespace Go.Proofs.Ytlefjgpkabijdaa.MFnScaledChains
open Go.RowKit Go.Proofs.YtlefjgpkabijdaaW.PrintWords Go.Proofs.YtlefjgpkabijdaaW.PrintLast Go.Proofs.YtlefjgpkabijdaaW.PrintMore Go.Proofs.YtlefjgpkabijdaaV Go.Proofs.YtlefjgpkabijdaaZ
attribute [local go_sem] max2_int min2_int max_two min_two max_three min_three max_four min_four   -- for this text's walks alone
set_option linter.unusedVariables false
set_option linter.unusedSimpArgs false
/-! ### spec_l1Cur_chain: function 64 -/
mutual
def spec_l1Cur_chain.l0 : Nat → List Int → Int → List Int → Int → Int → Option (List Int × Int × Int)
 | 0,_,_,_,_,_=>none
 | k + 1,x5,x6,x1000,x1001,x1002=>if x6 > 0 then (if 0 ≤ (wrap64 ((x5.length : Int) - 1)) then (if (wrap64 ((x5.length : Int) - 1)) < (x5.length : Int) then ((spec_l1Cur_one.f x1000 x1001 x1002 4).bind fun bt254=>(if bt254.1 = true then ((spec_l1Cur_pick.f x1000 bt254.2.1 bt254.2.2 (x5.length : Int)).bind fun bt257=>(if 0 ≤ bt257.1 then (if bt257.1 < (x5.length : Int) then (spec_l1Cur_chain.j1 k x5 x6 (rd x5 bt257.1) x1000 bt257.2.1 bt257.2.2) else (none)) else (none))) else (spec_l1Cur_chain.j1 k x5 x6 (rd x5 (wrap64 ((x5.length : Int) - 1))) x1000 bt254.2.1 bt254.2.2))) else (none)) else (none)) else (some (x5,x1001,x1002))
def spec_l1Cur_chain.j1 : Nat → List Int → Int → Int → List Int → Int → Int → Option (List Int × Int × Int)
 | 0,_,_,_,_,_,_=>none
 | k + 1,x5,x6,x7,x1000,x1001,x1002=>(spec_l1Cur_pick.f x1000 x1001 x1002 (x5.length : Int)).bind fun bt261=>(if 0 ≤ bt261.1 then (if bt261.1 < (x5.length : Int) then (if (wrap64 (x7 + (rd x5 bt261.1))) ≤ 1000000 then ((spec_l1Put.f k x5 (wrap64 (x7 + (rd x5 bt261.1)))).bind fun t265=>(spec_l1Cur_chain.l0 k t265 (wrap64 (x6 - 1)) x1000 bt261.2.1 bt261.2.2)) else (spec_l1Cur_chain.l0 k x5 (wrap64 (x6 - 1)) x1000 bt261.2.1 bt261.2.2)) else (none)) else (none))
end
def spec_l1Cur_chain.f (k : Nat) (s0_0 : List Int) (s0_1 : Int) (s0_2 : Int) (a1 : Int) : Option (List Int × Int × Int):=(spec_l1Cur_pick.f s0_0 s0_1 s0_2 (wrap64 (a1 + 1))).bind fun bt250=>(spec_l1Cur_chain.l0 k (([1] : List Int)) bt250.1 s0_0 bt250.2.1 bt250.2.2)
theorem spec_l1Cur_chain.mono_l : ∀ k,(∀ y0 y1 y2 y3 y4,LeO (spec_l1Cur_chain.l0 k y0 y1 y2 y3 y4) (spec_l1Cur_chain.l0 (k + 1) y0 y1 y2 y3 y4)) ∧ (∀ y0 y1 y2 y3 y4 y5,LeO (spec_l1Cur_chain.j1 k y0 y1 y2 y3 y4 y5) (spec_l1Cur_chain.j1 (k + 1) y0 y1 y2 y3 y4 y5))
 | 0=>⟨fun _ _ _ _ _ r h=>by simp [spec_l1Cur_chain.l0] at h,fun _ _ _ _ _ _ r h=>by simp [spec_l1Cur_chain.j1] at h⟩
 | k + 1=>by
  obtain ⟨ih0,ih1⟩:=spec_l1Cur_chain.mono_l k
  refine ⟨?_,?_⟩
  ·intro y0 y1 y2 y3 y4
   unfold spec_l1Cur_chain.l0
   repeat' first
   | (with_reducible exact ih0 _ _ _ _ _)
   | (with_reducible exact ih1 _ _ _ _ _ _)
   | (with_reducible exact spec_l1Put.mono _ _ _)
   | (with_reducible exact LeO.refl _)
   | (with_reducible exact LeO.none _)
   | (with_reducible refine LeO.ite ?_ ?_)
   | (with_reducible refine LeO.bind ?_ (fun _=>?_))
   | exact ih0 _ _ _ _ _
   | exact ih1 _ _ _ _ _ _
   | exact spec_l1Put.mono _ _ _
   | exact LeO.none _
   | refine LeO.ite ?_ ?_
   | refine LeO.bind ?_ (fun _=>?_)
  ·intro y0 y1 y2 y3 y4 y5
   unfold spec_l1Cur_chain.j1
   repeat' first
   | (with_reducible exact ih0 _ _ _ _ _)
   | (with_reducible exact ih1 _ _ _ _ _ _)
   | (with_reducible exact spec_l1Put.mono _ _ _)
   | (with_reducible exact LeO.refl _)
   | (with_reducible exact LeO.none _)
   | (with_reducible refine LeO.ite ?_ ?_)
   | (with_reducible refine LeO.bind ?_ (fun _=>?_))
   | exact ih0 _ _ _ _ _
   | exact ih1 _ _ _ _ _ _
   | exact spec_l1Put.mono _ _ _
   | exact LeO.none _
   | refine LeO.ite ?_ ?_
   | refine LeO.bind ?_ (fun _=>?_)
theorem spec_l1Cur_chain.mono : ∀ a0 a1 a2 a3 k,LeO (spec_l1Cur_chain.f k a0 a1 a2 a3) (spec_l1Cur_chain.f (k + 1) a0 a1 a2 a3):=by
 intro a0 a1 a2 a3 k
 obtain ⟨ih0,ih1⟩:=spec_l1Cur_chain.mono_l k
 unfold spec_l1Cur_chain.f
 repeat' first
   | (with_reducible exact ih0 _ _ _ _ _)
   | (with_reducible exact ih1 _ _ _ _ _ _)
   | (with_reducible exact spec_l1Put.mono _ _ _)
   | (with_reducible exact LeO.refl _)
   | (with_reducible exact LeO.none _)
   | (with_reducible refine LeO.ite ?_ ?_)
   | (with_reducible refine LeO.bind ?_ (fun _=>?_))
   | exact ih0 _ _ _ _ _
   | exact ih1 _ _ _ _ _ _
   | exact spec_l1Put.mono _ _ _
   | exact LeO.none _
   | refine LeO.ite ?_ ?_
   | refine LeO.bind ?_ (fun _=>?_)
set_option maxHeartbeats 8000000 in
set_option maxRecDepth 100000 in
theorem spec_l1Cur_chain.calls (k : Nat) (g : Nat) (s0_0 : List Int) (s0_1 : Int) (s0_2 : Int) (a1 : Int) (r1 : List Int) (r2 : Int) (r3 : Int) (w0 w : World) (hI : IsS49 w0 w g s0_0 s0_1 s0_2) (hB : Below w0.heap.size w0 w) (h : spec_l1Cur_chain.f k s0_0 s0_1 s0_2 a1 = some (r1,r2,r3)) :
  Calls Try.prog 64 #[.pointer (some ⟨g,0,none⟩),.int .i64 a1] w fun e w'=>∃ v0_ : Value,e = .returned (v0_) ∧ Kd.R (Kd.int .i64) 3 w' w.heap.size (fun _=>True) v0_ r1 ∧ IsS49 w0 w' g s0_0 r2 r3 ∧ Below w0.heap.size w0 w' ∧ KeepBut w w' g none:=by
 have HI0:=Aside0.mk hI
 have HK:=Aside0.mk (KeepBut.refl w g none)
 have HL:=Aside0.mk hB.size
 clear hI
 have HW0:=Aside0.mk hB.size
 have HB:=Aside0.mk hB
 clear hB
 have H : ((spec_l1Cur_pick.f s0_0 s0_1 s0_2 (wrap64 (a1 + 1))).bind fun bt250=>(spec_l1Cur_chain.l0 k (([1] : List Int)) bt250.1 s0_0 bt250.2.1 bt250.2.2)) = some (r1,r2,r3):=h
 clear h
 obtain ⟨y247,hy247⟩ : ∃ y_ : List Int,y_ = (([1] : List Int)):=⟨_,rfl⟩
 replace H : ((spec_l1Cur_pick.f s0_0 s0_1 s0_2 (wrap64 (a1 + 1))).bind fun bt250=>(spec_l1Cur_chain.l0 k y247 bt250.1 s0_0 bt250.2.1 bt250.2.2)) = some (r1,r2,r3):=by first|(rw [hy247];with_reducible exact H)|(have H2_:=(Option.bind_some _ _).symm.trans H;rw [hy247];with_reducible exact H2_)|(have H2_:=(Option.bind_some _ _).symm.trans H;with_reducible exact H2_)|with_reducible exact H|(rw [hy247];exact H)|exact H
 have Ny247:=Aside0.mk hy247
 clear hy247
 replace H:=Option.bind_eq_some_iff.mp H
 obtain ⟨⟨t250,t251,t252⟩,A30,H⟩:=H
 replace H : (spec_l1Cur_chain.l0 k y247 t250 s0_0 t251 t252) = some (r1,r2,r3):=H
 have A3:=Aside0.mk A30
 clear A30
 have H':=Aside0.mk H
 clear H
 go_enter Try.func64,Try.ntmps64
 go_wp2_with (first|((with_reducible refine gate_dst (N:=9) rfl ?_);refine Kd.R_lit (Kd.int .i64) _ 3 ?hg (N:=9) ?hd (xs:=([1] : List Int)) (inner:=[.int .i64 1]) (ok:=fun _=>True) (okp:=fun _=>True) ?hr ?hp (fun _ hk=>hk) trivial (Below.refl _ _) (Nat.le_refl _) (by simp) ?_;(case hd=>rfl);(case hg=>rfl);(case hr=>first|(go_simp;done)|(go_simp;rfl));(case hp=>exact (Reps.one (show Kd.M (Kd.int .i64) _ _ _ 1 [.int .i64 1] from rfl) (Reps.none _ _)));intro v248 w4 ho5 hb hg_ hnew_;clear hg_ hnew_;(first|rw [← Ny247.out] at ho5|(simp only [Int.reduceToNat] at ho5;rw [← Ny247.out] at ho5));have n0_:=Aside0.mk (Kd.R_lower ho5 (keep_size (w:=w) (g:=g) (row:=none) (by repeat (first|(with_reducible first|exact HK.out|apply KeepBut.set_|apply keep_drewN|apply keep_drew|apply keep_alloc)|exact HK.out))));have n1_:=Aside0.mk (IsS49.below (by repeat (first|(with_reducible first|exact HI0.out|apply IsS49.alloc|apply IsS49.drewN|apply IsS49.drew|apply IsS49.set_1|apply IsS49.set_2)|exact HI0.out)) hb);have n2_:=Aside0.mk (KeepBut.trans (by repeat (first|(with_reducible first|exact HK.out|apply KeepBut.set_|apply keep_drewN|apply keep_drew|apply keep_alloc)|exact HK.out)) (KeepBut.of_below hb g none) (.inl rfl));have n3_:=Aside0.mk (below_step (by repeat (first|(with_reducible first|exact HB.out|apply below_alloc|apply pw_below_drewN|apply below_drew1|refine below_set ?_ (IsS49.ge HI0.out))|exact HB.out)) hb);clear HI0 HK HB;have HO249:=n0_;have HI0:=n1_;have HK:=n2_;have HB:=n3_;clear n0_ n1_ n2_ n3_;clear hb ho5)|((with_reducible refine gate_callee (f:=47) rfl ?_);refine goesL_ (some 13) rfl rfl Try.func47 (by kernel_rfl) rfl #[.pointer (some ⟨g,0,none⟩),.int .i64 (wrap64 (a1 + 1))] rfl mz ?_;(with_reducible refine (spec_l1Cur_pick.calls g s0_0 s0_1 s0_2 (wrap64 (a1 + 1)) t250 t251 t252 w0 _ ?side1 ?side2 A3.out).mono ?_);(case side1=>repeat (first|(with_reducible first|exact HI0.out|apply IsS49.alloc|apply IsS49.drewN|apply IsS49.drew|apply IsS49.set_1|apply IsS49.set_2)|exact HI0.out));(case side2=>repeat (first|(with_reducible first|exact HB.out|apply below_alloc|apply pw_below_drewN|apply below_drew1|refine below_set ?_ (IsS49.ge HI0.out))|exact HB.out));rintro e w6 ⟨rfl,hi,hb,hk⟩;refine ⟨_,rfl,?_⟩;have n0_:=Aside0.mk (Kd.R_mono (Kd.R_keep (IsS49.apart (show IsS49 w0 _ g s0_0 s0_1 s0_2 from by repeat (first|(with_reducible first|exact HI0.out|apply IsS49.alloc|apply IsS49.drewN|apply IsS49.drew|apply IsS49.set_1|apply IsS49.set_2)|exact HI0.out)) (rz HO249.out) (by decide)) hk (fun _ h=>h.2)) (fun _ h=>h.1));have n1_:=Aside0.mk (KeepBut.trans (by repeat (first|(with_reducible first|exact HK.out|apply KeepBut.set_|apply keep_drewN|apply keep_drew|apply keep_alloc)|exact HK.out)) hk (.inl rfl));have n2_:=Aside0.mk (hb);have n3_:=Aside0.mk (hi);clear HO249 HK HB HI0;have HO249:=n0_;have HK:=n1_;have HB:=n2_;have HI0:=n3_;clear n0_ n1_ n2_ n3_;(try clear hb);(try clear hb2);(try clear hk);(try clear hi)))
 go_loopg [5,6] k (fun kq v5 v6 w'=>∃ (x5_1 : List Int) (x6_1 : Int) (x1001_1 : Int) (x1002_1 : Int),v6 = .int .i64 x6_1 ∧ Aside0 (spec_l1Cur_chain.l0 kq x5_1 x6_1 s0_0 x1001_1 x1002_1 = some (r1,r2,r3)) ∧ Aside0 (kq ≤ k) ∧ Aside0 (Kd.R (Kd.int .i64) 3 w' w.heap.size (fun _=>True) v5 x5_1) ∧ Aside0 (IsS49 w0 w' g s0_0 x1001_1 x1002_1) ∧ Aside0 (KeepBut w w' g none) ∧ Aside0 (Below w0.heap.size w0 w'))
 case atStart=>exact ⟨(y247),(t250),(t251),(t252),fz,H',⟨Nat.le_refl _⟩,⟨by (with_reducible repeat (first|apply Kd.R_alloc|apply Kd.R_drewN|apply Kd.R_drew));exact HO249.out⟩,⟨by repeat (first|(with_reducible first|exact HI0.out|apply IsS49.alloc|apply IsS49.drewN|apply IsS49.drew|apply IsS49.set_1|apply IsS49.set_2)|exact HI0.out)⟩,⟨by repeat (first|(with_reducible first|exact HK.out|apply KeepBut.set_|apply keep_drewN|apply keep_drew|apply keep_alloc)|exact HK.out)⟩,⟨by repeat (first|(with_reducible first|exact HB.out|apply below_alloc|apply pw_below_drewN|apply below_drew1|refine below_set ?_ (IsS49.ge HI0.out))|exact HB.out)⟩⟩
 case round=>
  clear H'
  try clear p2
  try clear c4
  try clear c6
  try clear p6
  obtain ⟨x5_1,x6_1,x1001_1,x1002_1,rfl,HA,HK1,HO_5,HI0,HK,HB⟩:=hrel
  cases gk with
  | zero=>exact absurd HA.out (by simp [spec_l1Cur_chain.l0])
  | succ k1=>
   have H:=HA.out
   clear HA
   simp only [spec_l1Cur_chain.l0] at H
   by_cases c7 : x6_1 > 0
   ·rw [if_pos c7] at H
    have c7b0 : decide (0 < x6_1) = true:=decide_eq_true c7
    clear c7
    obtain ⟨ji8,hji8⟩ : ∃ j_ : Int,(wrap64 ((x5_1.length : Int) - 1)) = j_:=⟨_,rfl⟩
    replace H : (if 0 ≤ (ji8) then (if (ji8) < (x5_1.length : Int) then ((spec_l1Cur_one.f s0_0 x1001_1 x1002_1 4).bind fun bt254=>(if bt254.1 = true then ((spec_l1Cur_pick.f s0_0 bt254.2.1 bt254.2.2 (x5_1.length : Int)).bind fun bt257=>(if 0 ≤ bt257.1 then (if bt257.1 < (x5_1.length : Int) then (spec_l1Cur_chain.j1 k1 x5_1 x6_1 (rd x5_1 bt257.1) s0_0 bt257.2.1 bt257.2.2) else (none)) else (none))) else (spec_l1Cur_chain.j1 k1 x5_1 x6_1 (rd x5_1 (ji8)) s0_0 bt254.2.1 bt254.2.2))) else (none)) else (none)) = some (r1,r2,r3):=by first|(rw [hji8] at H;exact H)|(simp only [hji8] at H ⊢;exact H)
    have hji8w : (IntKind.i64.wrap ((x5_1.length : Int) - 1)) = ji8:=(i64_w _).trans hji8
    by_cases c9 : 0 ≤ (ji8)
    ·rw [if_pos c9] at H
     have c9b0 : decide (0 ≤ (ji8)) = true:=decide_eq_true c9
     clear c9
     by_cases c10 : (ji8) < (x5_1.length : Int)
     ·rw [if_pos c10] at H
      have c10b0 : decide ((ji8) < (x5_1.length : Int)) = true:=decide_eq_true c10
      clear c10
      replace H:=Option.bind_eq_some_iff.mp H
      obtain ⟨⟨t254,t255,t256⟩,A110,H⟩:=H
      replace H : (if t254 = true then ((spec_l1Cur_pick.f s0_0 t255 t256 (x5_1.length : Int)).bind fun bt257=>(if 0 ≤ bt257.1 then (if bt257.1 < (x5_1.length : Int) then (spec_l1Cur_chain.j1 k1 x5_1 x6_1 (rd x5_1 bt257.1) s0_0 bt257.2.1 bt257.2.2) else (none)) else (none))) else (spec_l1Cur_chain.j1 k1 x5_1 x6_1 (rd x5_1 (ji8)) s0_0 t255 t256)) = some (r1,r2,r3):=H
      have A11:=Aside0.mk A110
      clear A110
      have HC12:=Aside0.mk H
      clear H
      obtain ⟨Ao13,co13,eo13⟩:=Kd.R_slice HO_5.out
      subst eo13
      have p253 : 0 ≤ ((ji8) : Int):=of_decide_eq_true az
      have q253 : (ji8) < (x5_1.length : Int):=of_decide_eq_true az
      obtain ⟨ad253,e253,hx253_0⟩:=Kd.at_int (Kd.R_reads' HO_5.out).2.2 (ji8) p253 q253
      cases e253
      replace p253:=eq_true p253
      replace q253:=eq_true q253
      go_upto_if 25 with (first|((with_reducible refine gate_callee (f:=46) rfl ?_);refine goesL_ (some 25) rfl rfl Try.func46 (by kernel_rfl) rfl #[.pointer (some ⟨g,0,none⟩),.int .i64 4] rfl mz ?_;(with_reducible refine (spec_l1Cur_one.calls g s0_0 x1001_1 x1002_1 4 t254 t255 t256 w0 _ ?side1 ?side2 A11.out).mono ?_);(case side1=>repeat (first|(with_reducible first|exact HI0.out|apply IsS49.alloc|apply IsS49.drewN|apply IsS49.drew|apply IsS49.set_1|apply IsS49.set_2)|exact HI0.out));(case side2=>repeat (first|(with_reducible first|exact HB.out|apply below_alloc|apply pw_below_drewN|apply below_drew1|refine below_set ?_ (IsS49.ge HI0.out))|exact HB.out));rintro e w14 ⟨rfl,hi,hb,hk⟩;refine ⟨_,rfl,?_⟩;have n0_:=Aside0.mk (Kd.R_mono (Kd.R_keep (IsS49.apart (show IsS49 w0 _ g s0_0 x1001_1 x1002_1 from by repeat (first|(with_reducible first|exact HI0.out|apply IsS49.alloc|apply IsS49.drewN|apply IsS49.drew|apply IsS49.set_1|apply IsS49.set_2)|exact HI0.out)) (rz HO_5.out) (by decide)) hk (fun _ h=>h.2)) (fun _ h=>h.1));have n1_:=Aside0.mk (KeepBut.trans (by repeat (first|(with_reducible first|exact HK.out|apply KeepBut.set_|apply keep_drewN|apply keep_drew|apply keep_alloc)|exact HK.out)) hk (.inl rfl));have n2_:=Aside0.mk (hb);have n3_:=Aside0.mk (hi);clear HO_5 HK HB HI0;have HO_5:=n0_;have HK:=n1_;have HB:=n2_;have HI0:=n3_;clear n0_ n1_ n2_ n3_;(try clear hb);(try clear hb2);(try clear hk);(try clear hi)))
      (try simp only [Act.put,xa,xb,xc])
      go_cut [7] (fun v7 wc=>∃ (kq : Nat) (x7_11 : Int) (x1001_11 : Int) (x1002_11 : Int),v7 = .int .i64 x7_11 ∧ Aside0 (spec_l1Cur_chain.j1 kq x5_1 x6_1 x7_11 s0_0 x1001_11 x1002_11 = some (r1,r2,r3)) ∧ Aside0 (kq ≤ k1) ∧ Aside0 (Kd.R (Kd.int .i64) 3 wc w.heap.size (fun _=>True) (.slice (some ad253) x5_1.length co13) x5_1) ∧ Aside0 (IsS49 w0 wc g s0_0 x1001_11 x1002_11) ∧ Aside0 (KeepBut w wc g none) ∧ Aside0 (Below w0.heap.size w0 wc))
      case first=>
       have H:=HC12.out
       clear HC12
       by_cases c15 : t254 = true
       ·subst c15
        rw [if_pos rfl] at H
        replace H:=Option.bind_eq_some_iff.mp H
        obtain ⟨⟨t257,t258,t259⟩,A160,H⟩:=H
        replace H : (if 0 ≤ t257 then (if t257 < (x5_1.length : Int) then (spec_l1Cur_chain.j1 k1 x5_1 x6_1 (rd x5_1 t257) s0_0 t258 t259) else (none)) else (none)) = some (r1,r2,r3):=H
        have A16:=Aside0.mk A160
        clear A160
        by_cases c17 : 0 ≤ t257
        ·rw [if_pos c17] at H
         have c17b0 : decide (0 ≤ t257) = true:=decide_eq_true c17
         clear c17
         (first|rw [c17b0]|(simp only [i64_w,i32_w];rw [c17b0])|skip)
         by_cases c18 : t257 < (x5_1.length : Int)
         ·rw [if_pos c18] at H
          have c18b0 : decide (t257 < (x5_1.length : Int)) = true:=decide_eq_true c18
          clear c18
          have H':=Aside0.mk H
          clear H
          go_wp2_with (first|((with_reducible refine gate_callee (f:=47) rfl ?_);refine goesL_ (some 30) rfl rfl Try.func47 (by kernel_rfl) rfl #[.pointer (some ⟨g,0,none⟩),.int .i64 (x5_1.length : Int)] rfl mz ?_;(with_reducible refine (spec_l1Cur_pick.calls g s0_0 t255 t256 (x5_1.length : Int) t257 t258 t259 w0 _ ?side1 ?side2 A16.out).mono ?_);(case side1=>repeat (first|(with_reducible first|exact HI0.out|apply IsS49.alloc|apply IsS49.drewN|apply IsS49.drew|apply IsS49.set_1|apply IsS49.set_2)|exact HI0.out));(case side2=>repeat (first|(with_reducible first|exact HB.out|apply below_alloc|apply pw_below_drewN|apply below_drew1|refine below_set ?_ (IsS49.ge HI0.out))|exact HB.out));rintro e w19 ⟨rfl,hi,hb,hk⟩;refine ⟨_,rfl,?_⟩;have n0_:=Aside0.mk (Kd.R_mono (Kd.R_keep (IsS49.apart (show IsS49 w0 _ g s0_0 t255 t256 from by repeat (first|(with_reducible first|exact HI0.out|apply IsS49.alloc|apply IsS49.drewN|apply IsS49.drew|apply IsS49.set_1|apply IsS49.set_2)|exact HI0.out)) (rz HO_5.out) (by decide)) hk (fun _ h=>h.2)) (fun _ h=>h.1));have n1_:=Aside0.mk (KeepBut.trans (by repeat (first|(with_reducible first|exact HK.out|apply KeepBut.set_|apply keep_drewN|apply keep_drew|apply keep_alloc)|exact HK.out)) hk (.inl rfl));have n2_:=Aside0.mk (hb);have n3_:=Aside0.mk (hi);clear HO_5 HK HB HI0;have HO_5:=n0_;have HK:=n1_;have HB:=n2_;have HI0:=n3_;clear n0_ n1_ n2_ n3_;(try clear hb);(try clear hb2);(try clear hk);(try clear hi);have p260 : 0 ≤ (t257 : Int):=of_decide_eq_true az;have q260 : t257 < (x5_1.length : Int):=of_decide_eq_true az;obtain ⟨ad260,e260,hx260_0⟩:=Kd.at_int (Kd.R_reads' HO_5.out).2.2 t257 p260 q260;obtain rfl : ad253 = ad260:=(by injection e260);replace p260:=eq_true p260;replace q260:=eq_true q260))
          go_meet
          case rel=>exact ⟨_,(rd x5_1 t257),(t258),(t259),fz,H',⟨by have:=HK1.out;first|omega|exact Nat.le_refl _⟩,⟨by (with_reducible repeat (first|apply Kd.R_alloc|apply Kd.R_drewN|apply Kd.R_drew));exact HO_5.out⟩,⟨by repeat (first|(with_reducible first|exact HI0.out|apply IsS49.alloc|apply IsS49.drewN|apply IsS49.drew|apply IsS49.set_1|apply IsS49.set_2)|exact HI0.out)⟩,⟨by repeat (first|(with_reducible first|exact HK.out|apply KeepBut.set_|apply keep_drewN|apply keep_drew|apply keep_alloc)|exact HK.out)⟩,⟨by repeat (first|(with_reducible first|exact HB.out|apply below_alloc|apply pw_below_drewN|apply below_drew1|refine below_set ?_ (IsS49.ge HI0.out))|exact HB.out)⟩⟩
         ·rw [if_neg c18] at H
          exact absurd H (by simp)
        ·rw [if_neg c17] at H
         exact absurd H (by simp)
       ·replace c15:=Bool.eq_false_iff.mpr c15
        subst c15
        rw [if_neg (show ¬ (false = true) by decide)] at H
        have H':=Aside0.mk H
        clear H
        go_wp2
        go_meet
        case rel=>exact ⟨_,(rd x5_1 (ji8)),(t255),(t256),(by first|rfl|(simp;done)|(simp only [← hji8] <;> (first|rfl|simp))|(simp [*];done)),H',⟨by have:=HK1.out;first|omega|exact Nat.le_refl _⟩,⟨by (with_reducible repeat (first|apply Kd.R_alloc|apply Kd.R_drewN|apply Kd.R_drew));exact HO_5.out⟩,⟨by repeat (first|(with_reducible first|exact HI0.out|apply IsS49.alloc|apply IsS49.drewN|apply IsS49.drew|apply IsS49.set_1|apply IsS49.set_2)|exact HI0.out)⟩,⟨by repeat (first|(with_reducible first|exact HK.out|apply KeepBut.set_|apply keep_drewN|apply keep_drew|apply keep_alloc)|exact HK.out)⟩,⟨by repeat (first|(with_reducible first|exact HB.out|apply below_alloc|apply pw_below_drewN|apply below_drew1|refine below_set ?_ (IsS49.ge HI0.out))|exact HB.out)⟩⟩
      case rest=>
       clear HC12
       try clear c1
       try clear p2
       try clear q2
       try clear hx2
       try clear c4
       try clear c6
       try clear p6
       try clear c7
       try clear c7b0
       try clear c9
       try clear c9b0
       try clear c10
       try clear c10b0
       try clear c15
       try clear c17
       try clear c17b0
       try clear c18
       try clear c18b0
       try clear hx253_0
       try clear hx260_0
       try clear p2
       try clear p253
       try clear p260
       try clear p6
       try clear q253
       try clear q260
       obtain ⟨kq,x7_11,x1001_11,x1002_11,rfl,HA,HJ11,HO_5,HI0,HK,HB⟩:=hcut
       cases kq with
       | zero=>exact absurd HA.out (by simp [spec_l1Cur_chain.j1])
       | succ kj11=>
        have H:=HA.out
        clear HA
        simp only [spec_l1Cur_chain.j1] at H
        replace H:=Option.bind_eq_some_iff.mp H
        obtain ⟨⟨t261,t262,t263⟩,A200,H⟩:=H
        replace H : (if 0 ≤ t261 then (if t261 < (x5_1.length : Int) then (if (wrap64 (x7_11 + (rd x5_1 t261))) ≤ 1000000 then ((spec_l1Put.f kj11 x5_1 (wrap64 (x7_11 + (rd x5_1 t261)))).bind fun t265=>(spec_l1Cur_chain.l0 kj11 t265 (wrap64 (x6_1 - 1)) s0_0 t262 t263)) else (spec_l1Cur_chain.l0 kj11 x5_1 (wrap64 (x6_1 - 1)) s0_0 t262 t263)) else (none)) else (none)) = some (r1,r2,r3):=H
        have A20:=Aside0.mk A200
        clear A200
        by_cases c21 : 0 ≤ t261
        ·rw [if_pos c21] at H
         have c21b0 : decide (0 ≤ t261) = true:=decide_eq_true c21
         clear c21
         by_cases c22 : t261 < (x5_1.length : Int)
         ·rw [if_pos c22] at H
          have c22b0 : decide (t261 < (x5_1.length : Int)) = true:=decide_eq_true c22
          clear c22
          by_cases c23 : (wrap64 (x7_11 + (rd x5_1 t261))) ≤ 1000000
          ·rw [if_pos c23] at H
           have c23b0 : decide ((wrap64 (x7_11 + (rd x5_1 t261))) ≤ 1000000) = true:=decide_eq_true c23
           clear c23
           obtain ⟨t265,A24,H⟩:=bd H
           have H':=Aside0.mk H
           clear H
           go_wp2_with (first|((with_reducible refine gate_callee (f:=47) rfl ?_);refine goesL_ (some 38) rfl rfl Try.func47 (by kernel_rfl) rfl #[.pointer (some ⟨g,0,none⟩),.int .i64 (x5_1.length : Int)] rfl mz ?_;(with_reducible refine (spec_l1Cur_pick.calls g s0_0 x1001_11 x1002_11 (x5_1.length : Int) t261 t262 t263 w0 _ ?side1 ?side2 A20.out).mono ?_);(case side1=>repeat (first|(with_reducible first|exact HI0.out|apply IsS49.alloc|apply IsS49.drewN|apply IsS49.drew|apply IsS49.set_1|apply IsS49.set_2)|exact HI0.out));(case side2=>repeat (first|(with_reducible first|exact HB.out|apply below_alloc|apply pw_below_drewN|apply below_drew1|refine below_set ?_ (IsS49.ge HI0.out))|exact HB.out));rintro e w25 ⟨rfl,hi,hb,hk⟩;refine ⟨_,rfl,?_⟩;have n0_:=Aside0.mk (Kd.R_mono (Kd.R_keep (IsS49.apart (show IsS49 w0 _ g s0_0 x1001_11 x1002_11 from by repeat (first|(with_reducible first|exact HI0.out|apply IsS49.alloc|apply IsS49.drewN|apply IsS49.drew|apply IsS49.set_1|apply IsS49.set_2)|exact HI0.out)) (rz HO_5.out) (by decide)) hk (fun _ h=>h.2)) (fun _ h=>h.1));have n1_:=Aside0.mk (KeepBut.trans (by repeat (first|(with_reducible first|exact HK.out|apply KeepBut.set_|apply keep_drewN|apply keep_drew|apply keep_alloc)|exact HK.out)) hk (.inl rfl));have n2_:=Aside0.mk (hb);have n3_:=Aside0.mk (hi);clear HO_5 HK HB HI0;have HO_5:=n0_;have HK:=n1_;have HB:=n2_;have HI0:=n3_;clear n0_ n1_ n2_ n3_;(try clear hb);(try clear hb2);(try clear hk);(try clear hi);have p264 : 0 ≤ (t261 : Int):=of_decide_eq_true az;have q264 : t261 < (x5_1.length : Int):=of_decide_eq_true az;obtain ⟨ad264,e264,hx264_0⟩:=Kd.at_int (Kd.R_reads' HO_5.out).2.2 t261 p264 q264;obtain rfl : ad253 = ad264:=(by injection e264);replace p264:=eq_true p264;replace q264:=eq_true q264)|((with_reducible refine gate_callee (f:=36) rfl ?_);refine goesL_ (some 46) rfl rfl Try.func36 (by kernel_rfl) rfl #[.slice (some ad253) x5_1.length co13,.int .i64 (wrap64 (x7_11 + (rd x5_1 t261)))] rfl mz ?_;(with_reducible refine (spec_l1Put.calls kj11 (fun k_=>some k_ = (.slice (some ad253) x5_1.length co13 : Value).ownBlock) (.slice (some ad253) x5_1.length co13) x5_1 (wrap64 (x7_11 + (rd x5_1 t261))) t265 w0 _ ?side1 ?side2 A24.out).mono ?_);(case side1=>repeat (first|(with_reducible first|exact HB.out|apply below_alloc|apply pw_below_drewN|apply below_drew1|refine below_set ?_ (IsS49.ge HI0.out))|exact HB.out));(case side2=>exact Kd.R_lower (Kd.R_tight rfl HO_5.out) HL.out);rintro e w26 ⟨v266,rfl,ho0,hb,hkp⟩;refine ⟨_,rfl,?_⟩;have n0_:=Aside0.mk (IsS49.kept (by repeat (first|(with_reducible first|exact HI0.out|apply IsS49.alloc|apply IsS49.drewN|apply IsS49.drew|apply IsS49.set_1|apply IsS49.set_2)|exact HI0.out)) hkp (fun hs_=>(fun e_=>(IsS49.own_ne HI0.out HO_5.out (by decide)) e_) hs_));have n1_:=Aside0.mk (Kd.R_mono (ok':=fun k_=>True) (Kd.R_raise (d:=(Kd.int .i64)) (b:=w0.heap.size) (b':=w.heap.size) (fun _ _ _ _ h_=>h_) ho0 (fun k_ e_=>Or.elim (ho0.1 k_ e_) (fun hs_=>(fun e_=>Kd.R_base HO_5.out k_ e_.symm) hs_) (fun hn_=>Nat.le_trans (keep_size (w:=w) (g:=g) (row:=none) (by repeat (first|(with_reducible first|exact HK.out|apply KeepBut.set_|apply keep_drewN|apply keep_drew|apply keep_alloc)|exact HK.out))) hn_))) (fun k_ hk_=>trivial));have n2_:=Aside0.mk (Kept.keepG (by repeat (first|(with_reducible first|exact HK.out|apply KeepBut.set_|apply keep_drewN|apply keep_drew|apply keep_alloc)|exact HK.out)) hkp (fun k_ hs_=>(fun e_=>.inr (Kd.R_base HO_5.out k_ e_.symm)) hs_));have n3_:=Aside0.mk (hb);clear HI0 HK HB HO_5;have HI0:=n0_;have HO267:=n1_;have HK:=n2_;have HB:=n3_;clear n0_ n1_ n2_ n3_;(try clear hb);(try clear hkp);(try clear ho0)))
           go_roundg kj11
           case measure=>have:=HK1.out;have:=HJ11.out;omega
           case rel=>exact ⟨(t265),(wrap64 (x6_1 - 1)),(t262),(t263),fz,H',⟨by have:=HK1.out;have:=HJ11.out;omega⟩,⟨by (with_reducible repeat (first|apply Kd.R_alloc|apply Kd.R_drewN|apply Kd.R_drew));exact HO267.out⟩,⟨by repeat (first|(with_reducible first|exact HI0.out|apply IsS49.alloc|apply IsS49.drewN|apply IsS49.drew|apply IsS49.set_1|apply IsS49.set_2)|exact HI0.out)⟩,⟨by repeat (first|(with_reducible first|exact HK.out|apply KeepBut.set_|apply keep_drewN|apply keep_drew|apply keep_alloc)|exact HK.out)⟩,⟨by repeat (first|(with_reducible first|exact HB.out|apply below_alloc|apply pw_below_drewN|apply below_drew1|refine below_set ?_ (IsS49.ge HI0.out))|exact HB.out)⟩⟩
          ·rw [if_neg c23] at H
           have c23b0 : decide ((wrap64 (x7_11 + (rd x5_1 t261))) ≤ 1000000) = false:=decide_eq_false c23
           clear c23
           have H':=Aside0.mk H
           clear H
           go_wp2_with (first|((with_reducible refine gate_callee (f:=47) rfl ?_);refine goesL_ (some 38) rfl rfl Try.func47 (by kernel_rfl) rfl #[.pointer (some ⟨g,0,none⟩),.int .i64 (x5_1.length : Int)] rfl mz ?_;(with_reducible refine (spec_l1Cur_pick.calls g s0_0 x1001_11 x1002_11 (x5_1.length : Int) t261 t262 t263 w0 _ ?side1 ?side2 A20.out).mono ?_);(case side1=>repeat (first|(with_reducible first|exact HI0.out|apply IsS49.alloc|apply IsS49.drewN|apply IsS49.drew|apply IsS49.set_1|apply IsS49.set_2)|exact HI0.out));(case side2=>repeat (first|(with_reducible first|exact HB.out|apply below_alloc|apply pw_below_drewN|apply below_drew1|refine below_set ?_ (IsS49.ge HI0.out))|exact HB.out));rintro e w27 ⟨rfl,hi,hb,hk⟩;refine ⟨_,rfl,?_⟩;have n0_:=Aside0.mk (Kd.R_mono (Kd.R_keep (IsS49.apart (show IsS49 w0 _ g s0_0 x1001_11 x1002_11 from by repeat (first|(with_reducible first|exact HI0.out|apply IsS49.alloc|apply IsS49.drewN|apply IsS49.drew|apply IsS49.set_1|apply IsS49.set_2)|exact HI0.out)) (rz HO_5.out) (by decide)) hk (fun _ h=>h.2)) (fun _ h=>h.1));have n1_:=Aside0.mk (KeepBut.trans (by repeat (first|(with_reducible first|exact HK.out|apply KeepBut.set_|apply keep_drewN|apply keep_drew|apply keep_alloc)|exact HK.out)) hk (.inl rfl));have n2_:=Aside0.mk (hb);have n3_:=Aside0.mk (hi);clear HO_5 HK HB HI0;have HO_5:=n0_;have HK:=n1_;have HB:=n2_;have HI0:=n3_;clear n0_ n1_ n2_ n3_;(try clear hb);(try clear hb2);(try clear hk);(try clear hi);have p264 : 0 ≤ (t261 : Int):=of_decide_eq_true az;have q264 : t261 < (x5_1.length : Int):=of_decide_eq_true az;obtain ⟨ad264,e264,hx264_0⟩:=Kd.at_int (Kd.R_reads' HO_5.out).2.2 t261 p264 q264;obtain rfl : ad253 = ad264:=(by injection e264);replace p264:=eq_true p264;replace q264:=eq_true q264))
           go_roundg kj11
           case measure=>have:=HK1.out;have:=HJ11.out;omega
           case rel=>exact ⟨(x5_1),(wrap64 (x6_1 - 1)),(t262),(t263),fz,H',⟨by have:=HK1.out;have:=HJ11.out;omega⟩,⟨by (with_reducible repeat (first|apply Kd.R_alloc|apply Kd.R_drewN|apply Kd.R_drew));exact HO_5.out⟩,⟨by repeat (first|(with_reducible first|exact HI0.out|apply IsS49.alloc|apply IsS49.drewN|apply IsS49.drew|apply IsS49.set_1|apply IsS49.set_2)|exact HI0.out)⟩,⟨by repeat (first|(with_reducible first|exact HK.out|apply KeepBut.set_|apply keep_drewN|apply keep_drew|apply keep_alloc)|exact HK.out)⟩,⟨by repeat (first|(with_reducible first|exact HB.out|apply below_alloc|apply pw_below_drewN|apply below_drew1|refine below_set ?_ (IsS49.ge HI0.out))|exact HB.out)⟩⟩
         ·rw [if_neg c22] at H
          exact absurd H (by simp)
        ·rw [if_neg c21] at H
         exact absurd H (by simp)
     ·rw [if_neg c10] at H
      exact absurd H (by simp)
    ·rw [if_neg c9] at H
     exact absurd H (by simp)
   ·rw [if_neg c7] at H
    have c7b0 : decide (0 < x6_1) = false:=decide_eq_false c7
    clear c7
    simp only [Option.some.injEq,Prod.mk.injEq] at H
    obtain ⟨rfl,rfl,rfl⟩:=H
    go_wp2
    go_ret
    exact ⟨_,by first|rfl|(simp [errW_none,errW_some] <;> rfl)|(simp [*,errW_none,errW_some] <;> rfl),by (with_reducible repeat (first|apply Kd.R_alloc|apply Kd.R_drewN|apply Kd.R_drew));exact HO_5.out,by repeat (first|(with_reducible first|exact HI0.out|apply IsS49.alloc|apply IsS49.drewN|apply IsS49.drew|apply IsS49.set_1|apply IsS49.set_2)|exact HI0.out),by repeat (first|(with_reducible first|exact HB.out|apply below_alloc|apply pw_below_drewN|apply below_drew1|refine below_set ?_ (IsS49.ge HI0.out))|exact HB.out),by repeat (first|(with_reducible first|exact HK.out|apply KeepBut.set_|apply keep_drewN|apply keep_drew|apply keep_alloc)|exact HK.out)⟩
/-! ### spec_l1Cur_anyChain: function 30 -/
def spec_l1Cur_anyChain.l0 : Nat → List Int → List Int → Int → Int → Option (List Int × Int × Int)
 | 0,_,_,_,_=>none
 | k + 1,x5,x1000,x1001,x1002=>(spec_l1Cur_pick.f x1000 x1001 x1002 2).bind fun bt290=>(if (x5.length : Int) < (wrap64 (41 + bt290.1)) then (if x5.length < 17592186044416 then (spec_l1Cur_anyChain.l0 k (x5 ++ [wrap64 ((x5.length : Int) + 1)]) x1000 bt290.2.1 bt290.2.2) else (none)) else (some (x5,bt290.2.1,bt290.2.2)))
def spec_l1Cur_anyChain.f (k : Nat) (s0_0 : List Int) (s0_1 : Int) (s0_2 : Int) (a1 : Int) : Option (List Int × Int × Int):=(spec_l1Cur_chain.f k s0_0 s0_1 s0_2 a1).bind fun bt268=>((spec_l1Cur_pick.f s0_0 bt268.2.1 bt268.2.2 14).bind fun bt273=>(if bt273.1 = 0 then ((spec_l1Cur_pick.f s0_0 bt273.2.1 bt273.2.2 (bt268.1.length : Int)).bind fun bt276=>(if 0 ≤ bt276.1 then (if bt276.1 < (bt268.1.length : Int) then ((spec_l1Cur_pick.f s0_0 bt276.2.1 bt276.2.2 3).bind fun bt280=>(some ((bt268.1.set (bt276.1 : Int).toNat (wrap64 ((rd bt268.1 bt276.1) + (wrap64 (bt280.1 - 1))))),bt280.2.1,bt280.2.2))) else (none)) else (none))) else (if bt273.1 = 1 then ((spec_l1Cur_pick.f s0_0 bt273.2.1 bt273.2.2 40).bind fun bt284=>(if bt268.1.length < 17592186044416 then (some ((bt268.1 ++ [bt284.1]),bt284.2.1,bt284.2.2)) else (none))) else (if bt273.1 = 2 then (some (([] : List Int),bt273.2.1,bt273.2.2)) else (if bt273.1 = 3 then (spec_l1Cur_anyChain.l0 k ([] : List Int) s0_0 bt273.2.1 bt273.2.2) else (if bt273.1 = 4 then ((some (([1,2,4,8,16,32,64,128,256,512,1024,2048,4096,8192,16384,32768,65536,131072,262144,524288] : List Int) : List Int)).bind fun y296=>((spec_l1Cur_pick.f s0_0 bt273.2.1 bt273.2.2 4).bind fun bt299=>((some (([786432,wrap64 (786432 + (wrap64 (131072 * bt299.1)))] : List Int) : List Int)).bind fun y302=>(if y296.length + y302.length < 17592186044416 then (some ((y296 ++ y302),bt299.2.1,bt299.2.2)) else (none))))) else (some (bt268.1,bt273.2.1,bt273.2.2))))))))
theorem spec_l1Cur_anyChain.mono_l : ∀ k,(∀ y0 y1 y2 y3,LeO (spec_l1Cur_anyChain.l0 k y0 y1 y2 y3) (spec_l1Cur_anyChain.l0 (k + 1) y0 y1 y2 y3))
 | 0=>fun _ _ _ _ r h=>by simp [spec_l1Cur_anyChain.l0] at h
 | k + 1=>by
  have ih0:=spec_l1Cur_anyChain.mono_l k
  ·intro y0 y1 y2 y3
   unfold spec_l1Cur_anyChain.l0
   repeat' first
   | (with_reducible exact ih0 _ _ _ _)
   | (with_reducible exact spec_l1Cur_chain.mono _ _ _ _ _)
   | (with_reducible exact LeO.refl _)
   | (with_reducible exact LeO.none _)
   | (with_reducible refine LeO.ite ?_ ?_)
   | (with_reducible refine LeO.bind ?_ (fun _=>?_))
   | exact ih0 _ _ _ _
   | exact spec_l1Cur_chain.mono _ _ _ _ _
   | exact LeO.none _
   | refine LeO.ite ?_ ?_
   | refine LeO.bind ?_ (fun _=>?_)
theorem spec_l1Cur_anyChain.mono : ∀ a0 a1 a2 a3 k,LeO (spec_l1Cur_anyChain.f k a0 a1 a2 a3) (spec_l1Cur_anyChain.f (k + 1) a0 a1 a2 a3):=by
 intro a0 a1 a2 a3 k
 have ih0:=spec_l1Cur_anyChain.mono_l k
 unfold spec_l1Cur_anyChain.f
 repeat' first
   | (with_reducible exact ih0 _ _ _ _)
   | (with_reducible exact spec_l1Cur_chain.mono _ _ _ _ _)
   | (with_reducible exact LeO.refl _)
   | (with_reducible exact LeO.none _)
   | (with_reducible refine LeO.ite ?_ ?_)
   | (with_reducible refine LeO.bind ?_ (fun _=>?_))
   | exact ih0 _ _ _ _
   | exact spec_l1Cur_chain.mono _ _ _ _ _
   | exact LeO.none _
   | refine LeO.ite ?_ ?_
   | refine LeO.bind ?_ (fun _=>?_)
def spec_l1Cur_anyChain.T4 : Bool × List (List Nat × List Nat):=(true,[([],[]),([],[]),([],[]),([2],[2]),([1,3],[1,3]),([0,4],[0,4]),([5],[5]),([],[]),([7,4],[7]),([8],[8]),([6,9],[6,9]),([0,4,0,1,2,3,4,5,6,7,8,9,10],[0,4]),([11,10,8,0,1,2,3,4,5,6,7,8,9,10],[10,11])])
def spec_l1Cur_anyChain.B4 : List Nat:=[0,0,0,4,14,31,63,0,158,414,1023,2047,4095]
theorem spec_l1Cur_anyChain.tab4 : rtab .any (opsOf Try.f30 4) = spec_l1Cur_anyChain.T4:=by kernel_rfl
theorem spec_l1Cur_anyChain.bits4 : waitsOk spec_l1Cur_anyChain.T4.2 spec_l1Cur_anyChain.B4 = true:=by kernel_rfl
set_option maxHeartbeats 8000000 in
set_option maxRecDepth 100000 in
theorem spec_l1Cur_anyChain.calls (k : Nat) (g : Nat) (s0_0 : List Int) (s0_1 : Int) (s0_2 : Int) (a1 : Int) (r1 : List Int) (r2 : Int) (r3 : Int) (w0 w : World) (hI : IsS49 w0 w g s0_0 s0_1 s0_2) (hB : Below w0.heap.size w0 w) (h : spec_l1Cur_anyChain.f k s0_0 s0_1 s0_2 a1 = some (r1,r2,r3)) :
  Calls Try.prog 30 #[.pointer (some ⟨g,0,none⟩),.int .i64 a1] w fun e w'=>∃ v0_ : Value,e = .returned (v0_) ∧ Kd.R (Kd.int .i64) 3 w' w.heap.size (fun _=>True) v0_ r1 ∧ IsS49 w0 w' g s0_0 r2 r3 ∧ Below w0.heap.size w0 w' ∧ KeepBut w w' g none:=by
 have HI0:=Aside0.mk hI
 have HK:=Aside0.mk (KeepBut.refl w g none)
 have HL:=Aside0.mk hB.size
 clear hI
 have HW0:=Aside0.mk hB.size
 have HB:=Aside0.mk hB
 clear hB
 have H : ((spec_l1Cur_chain.f k s0_0 s0_1 s0_2 a1).bind fun bt268=>((spec_l1Cur_pick.f s0_0 bt268.2.1 bt268.2.2 14).bind fun bt273=>(if bt273.1 = 0 then ((spec_l1Cur_pick.f s0_0 bt273.2.1 bt273.2.2 (bt268.1.length : Int)).bind fun bt276=>(if 0 ≤ bt276.1 then (if bt276.1 < (bt268.1.length : Int) then ((spec_l1Cur_pick.f s0_0 bt276.2.1 bt276.2.2 3).bind fun bt280=>(some ((bt268.1.set (bt276.1 : Int).toNat (wrap64 ((rd bt268.1 bt276.1) + (wrap64 (bt280.1 - 1))))),bt280.2.1,bt280.2.2))) else (none)) else (none))) else (if bt273.1 = 1 then ((spec_l1Cur_pick.f s0_0 bt273.2.1 bt273.2.2 40).bind fun bt284=>(if bt268.1.length < 17592186044416 then (some ((bt268.1 ++ [bt284.1]),bt284.2.1,bt284.2.2)) else (none))) else (if bt273.1 = 2 then (some (([] : List Int),bt273.2.1,bt273.2.2)) else (if bt273.1 = 3 then (spec_l1Cur_anyChain.l0 k ([] : List Int) s0_0 bt273.2.1 bt273.2.2) else (if bt273.1 = 4 then ((some (([1,2,4,8,16,32,64,128,256,512,1024,2048,4096,8192,16384,32768,65536,131072,262144,524288] : List Int) : List Int)).bind fun y296=>((spec_l1Cur_pick.f s0_0 bt273.2.1 bt273.2.2 4).bind fun bt299=>((some (([786432,wrap64 (786432 + (wrap64 (131072 * bt299.1)))] : List Int) : List Int)).bind fun y302=>(if y296.length + y302.length < 17592186044416 then (some ((y296 ++ y302),bt299.2.1,bt299.2.2)) else (none))))) else (some (bt268.1,bt273.2.1,bt273.2.2))))))))) = some (r1,r2,r3):=h
 clear h
 replace H:=Option.bind_eq_some_iff.mp H
 obtain ⟨⟨t268,t271,t272⟩,A30,H⟩:=H
 replace H : ((spec_l1Cur_pick.f s0_0 t271 t272 14).bind fun bt273=>(if bt273.1 = 0 then ((spec_l1Cur_pick.f s0_0 bt273.2.1 bt273.2.2 (t268.length : Int)).bind fun bt276=>(if 0 ≤ bt276.1 then (if bt276.1 < (t268.length : Int) then ((spec_l1Cur_pick.f s0_0 bt276.2.1 bt276.2.2 3).bind fun bt280=>(some ((t268.set (bt276.1 : Int).toNat (wrap64 ((rd t268 bt276.1) + (wrap64 (bt280.1 - 1))))),bt280.2.1,bt280.2.2))) else (none)) else (none))) else (if bt273.1 = 1 then ((spec_l1Cur_pick.f s0_0 bt273.2.1 bt273.2.2 40).bind fun bt284=>(if t268.length < 17592186044416 then (some ((t268 ++ [bt284.1]),bt284.2.1,bt284.2.2)) else (none))) else (if bt273.1 = 2 then (some (([] : List Int),bt273.2.1,bt273.2.2)) else (if bt273.1 = 3 then (spec_l1Cur_anyChain.l0 k ([] : List Int) s0_0 bt273.2.1 bt273.2.2) else (if bt273.1 = 4 then ((some (([1,2,4,8,16,32,64,128,256,512,1024,2048,4096,8192,16384,32768,65536,131072,262144,524288] : List Int) : List Int)).bind fun y296=>((spec_l1Cur_pick.f s0_0 bt273.2.1 bt273.2.2 4).bind fun bt299=>((some (([786432,wrap64 (786432 + (wrap64 (131072 * bt299.1)))] : List Int) : List Int)).bind fun y302=>(if y296.length + y302.length < 17592186044416 then (some ((y296 ++ y302),bt299.2.1,bt299.2.2)) else (none))))) else (some (t268,bt273.2.1,bt273.2.2)))))))) = some (r1,r2,r3):=H
 have A3:=Aside0.mk A30
 clear A30
 replace H:=Option.bind_eq_some_iff.mp H
 obtain ⟨⟨t273,t274,t275⟩,A40,H⟩:=H
 replace H : (if t273 = 0 then ((spec_l1Cur_pick.f s0_0 t274 t275 (t268.length : Int)).bind fun bt276=>(if 0 ≤ bt276.1 then (if bt276.1 < (t268.length : Int) then ((spec_l1Cur_pick.f s0_0 bt276.2.1 bt276.2.2 3).bind fun bt280=>(some ((t268.set (bt276.1 : Int).toNat (wrap64 ((rd t268 bt276.1) + (wrap64 (bt280.1 - 1))))),bt280.2.1,bt280.2.2))) else (none)) else (none))) else (if t273 = 1 then ((spec_l1Cur_pick.f s0_0 t274 t275 40).bind fun bt284=>(if t268.length < 17592186044416 then (some ((t268 ++ [bt284.1]),bt284.2.1,bt284.2.2)) else (none))) else (if t273 = 2 then (some (([] : List Int),t274,t275)) else (if t273 = 3 then (spec_l1Cur_anyChain.l0 k ([] : List Int) s0_0 t274 t275) else (if t273 = 4 then ((some (([1,2,4,8,16,32,64,128,256,512,1024,2048,4096,8192,16384,32768,65536,131072,262144,524288] : List Int) : List Int)).bind fun y296=>((spec_l1Cur_pick.f s0_0 t274 t275 4).bind fun bt299=>((some (([786432,wrap64 (786432 + (wrap64 (131072 * bt299.1)))] : List Int) : List Int)).bind fun y302=>(if y296.length + y302.length < 17592186044416 then (some ((y296 ++ y302),bt299.2.1,bt299.2.2)) else (none))))) else (some (t268,t274,t275))))))) = some (r1,r2,r3):=H
 have A4:=Aside0.mk A40
 clear A40
 by_cases c5 : t273 = 0
 ·rw [if_pos c5] at H
  have c5b0 : (t273 == 0) = true:=beq_iff_eq.mpr c5
  have c5b1 : (t273 != 0) = false:=bne_eq_false_iff_eq.mpr c5
  clear c5
  replace H:=Option.bind_eq_some_iff.mp H
  obtain ⟨⟨t276,t277,t278⟩,A60,H⟩:=H
  replace H : (if 0 ≤ t276 then (if t276 < (t268.length : Int) then ((spec_l1Cur_pick.f s0_0 t277 t278 3).bind fun bt280=>(some ((t268.set (t276 : Int).toNat (wrap64 ((rd t268 t276) + (wrap64 (bt280.1 - 1))))),bt280.2.1,bt280.2.2))) else (none)) else (none)) = some (r1,r2,r3):=H
  have A6:=Aside0.mk A60
  clear A60
  by_cases c7 : 0 ≤ t276
  ·rw [if_pos c7] at H
   have c7b0 : decide (0 ≤ t276) = true:=decide_eq_true c7
   clear c7
   by_cases c8 : t276 < (t268.length : Int)
   ·rw [if_pos c8] at H
    have c8b0 : decide (t276 < (t268.length : Int)) = true:=decide_eq_true c8
    clear c8
    replace H:=Option.bind_eq_some_iff.mp H
    obtain ⟨⟨t280,t281,t282⟩,A90,H⟩:=H
    replace H : (some ((t268.set (t276 : Int).toNat (wrap64 ((rd t268 t276) + (wrap64 (t280 - 1))))),t281,t282)) = some (r1,r2,r3):=H
    have A9:=Aside0.mk A90
    clear A90
    obtain ⟨y283,hy283⟩ : ∃ y_ : List Int,y_ = (t268.set (t276 : Int).toNat (wrap64 ((rd t268 t276) + (wrap64 (t280 - 1))))):=⟨_,rfl⟩
    replace H : (some (y283,t281,t282)) = some (r1,r2,r3):=by first|(rw [hy283];with_reducible exact H)|(have H2_:=(Option.bind_some _ _).symm.trans H;rw [hy283];with_reducible exact H2_)|(have H2_:=(Option.bind_some _ _).symm.trans H;with_reducible exact H2_)|with_reducible exact H|(rw [hy283];exact H)|exact H
    have Ny283:=Aside0.mk hy283
    clear hy283
    simp only [Option.some.injEq,Prod.mk.injEq] at H
    obtain ⟨rfl,rfl,rfl⟩:=H
    go_enter Try.func30,Try.ntmps30
    try go_wp2_with (first|((with_reducible refine gate_callee (f:=64) rfl ?_);refine goesL_ (some 8) rfl rfl Try.func64 (by kernel_rfl) rfl #[.pointer (some ⟨g,0,none⟩),.int .i64 a1] rfl mz ?_;(with_reducible refine (spec_l1Cur_chain.calls k g s0_0 s0_1 s0_2 a1 t268 t271 t272 w0 _ ?side1 ?side2 A3.out).mono ?_);(case side1=>repeat (first|(with_reducible first|exact HI0.out|apply IsS49.alloc|apply IsS49.drewN|apply IsS49.drew|apply IsS49.set_1|apply IsS49.set_2)|exact HI0.out));(case side2=>repeat (first|(with_reducible first|exact HB.out|apply below_alloc|apply pw_below_drewN|apply below_drew1|refine below_set ?_ (IsS49.ge HI0.out))|exact HB.out));rintro e w11 ⟨v269,rfl,ho0,hi,hb,hk⟩;refine ⟨_,rfl,?_⟩;have n0_:=Aside0.mk (Kd.R_lower ho0 (keep_size (w:=w) (g:=g) (row:=none) (by repeat (first|(with_reducible first|exact HK.out|apply KeepBut.set_|apply keep_drewN|apply keep_drew|apply keep_alloc)|exact HK.out))));have n1_:=Aside0.mk (KeepBut.trans (by repeat (first|(with_reducible first|exact HK.out|apply KeepBut.set_|apply keep_drewN|apply keep_drew|apply keep_alloc)|exact HK.out)) hk (.inl rfl));have n2_:=Aside0.mk (hb);have n3_:=Aside0.mk (hi);clear HK HB HI0;have HO270:=n0_;have HK:=n1_;have HB:=n2_;have HI0:=n3_;clear n0_ n1_ n2_ n3_;(try clear hb);(try clear hb2);(try clear hk);(try clear hi);(try clear ho0))|((with_reducible refine gate_callee (f:=47) rfl ?_);refine goesL_ (some 10) rfl rfl Try.func47 (by kernel_rfl) rfl #[.pointer (some ⟨g,0,none⟩),.int .i64 14] rfl mz ?_;(with_reducible refine (spec_l1Cur_pick.calls g s0_0 t271 t272 14 t273 t274 t275 w0 _ ?side1 ?side2 A4.out).mono ?_);(case side1=>repeat (first|(with_reducible first|exact HI0.out|apply IsS49.alloc|apply IsS49.drewN|apply IsS49.drew|apply IsS49.set_1|apply IsS49.set_2)|exact HI0.out));(case side2=>repeat (first|(with_reducible first|exact HB.out|apply below_alloc|apply pw_below_drewN|apply below_drew1|refine below_set ?_ (IsS49.ge HI0.out))|exact HB.out));rintro e w12 ⟨rfl,hi,hb,hk⟩;refine ⟨_,rfl,?_⟩;have n0_:=Aside0.mk (Kd.R_mono (Kd.R_keep (IsS49.apart (show IsS49 w0 _ g s0_0 t271 t272 from by repeat (first|(with_reducible first|exact HI0.out|apply IsS49.alloc|apply IsS49.drewN|apply IsS49.drew|apply IsS49.set_1|apply IsS49.set_2)|exact HI0.out)) (rz HO270.out) (by decide)) hk (fun _ h=>h.2)) (fun _ h=>h.1));have n1_:=Aside0.mk (KeepBut.trans (by repeat (first|(with_reducible first|exact HK.out|apply KeepBut.set_|apply keep_drewN|apply keep_drew|apply keep_alloc)|exact HK.out)) hk (.inl rfl));have n2_:=Aside0.mk (hb);have n3_:=Aside0.mk (hi);clear HO270 HK HB HI0;have HO270:=n0_;have HK:=n1_;have HB:=n2_;have HI0:=n3_;clear n0_ n1_ n2_ n3_;(try clear hb);(try clear hb2);(try clear hk);(try clear hi)))
    have n0_:=Aside0.mk (Kd.R_drew HO270.out)
    have n1_:=Aside0.mk (IsS49.drew HI0.out)
    have n2_:=Aside0.mk (keep_drew HK.out)
    have n3_:=Aside0.mk (below_drew1 HB.out)
    clear HO270
    clear HI0
    clear HK
    clear HB
    have HO270:=n0_
    have HI0:=n1_
    have HK:=n2_
    have HB:=n3_
    clear n0_ n1_ n2_ n3_
    obtain ⟨Ao14,co14,eo14⟩:=Kd.R_slice HO270.out
    (first|subst eo14|(injection eo14 with f1_ f2_ f3_;have f4_:=f1_.symm;have f5_:=f3_.symm;clear f1_ f2_ f3_;subst f4_;subst f5_))
    have p279 : 0 ≤ (t276 : Int):=of_decide_eq_true az
    have q279 : t276 < (t268.length : Int):=of_decide_eq_true az
    obtain ⟨ad279,e279,hx279_0⟩:=Kd.at_int (Kd.R_reads' HO270.out).2.2 t276 p279 q279
    cases e279
    replace p279:=eq_true p279
    replace q279:=eq_true q279
    refine start_ (n:=13) (S:=fun w'=>w'.cell? (ad279.add (t276).toNat) = some (.int .i64 (rd t268 t276))) (ds:=[12]) #[false,false,false,false,false,false,false,false,false,false,false,false,false] (by kernel_rfl) rfl rfl (hx279_0) (fun hHeld=>?_);refine with_tabW spec_l1Cur_anyChain.tab4 spec_l1Cur_anyChain.bits4 (fun HT_ HW_=>?_)
    generalize w12.drew = w13 at HO270 HI0 HK HB hx279_0 hHeld ⊢
    refine pure_ (i:=0) (N:=some 13) (v:=?_) (a':=?_) #[true,false,false,false,false,false,false,false,false,false,false,false,false] rfl rfl (any_of HT_.out (by kernel_rfl)) (fun _ _ _ h=>h) (Or.inl ⟨by rfl,?_⟩) ?_ ?_
    rotate_left
    ·intro w'
     go_simp
     with_reducible rfl
    rotate_left
    ·simp only [Act.put,xa,xb,xc,i64_w,i32_w]
     rfl
    refine pure_ (i:=1) (N:=some 14) (v:=?_) (a':=?_) #[true,true,false,false,false,false,false,false,false,false,false,false,false] rfl rfl (any_of HT_.out (by kernel_rfl)) (fun _ _ _ h=>h) (Or.inl ⟨by rfl,?_⟩) ?_ ?_
    rotate_left
    ·intro w'
     go_simp
     with_reducible rfl
    rotate_left
    ·simp only [Act.put,xa,xb,xc,i64_w,i32_w]
     rfl
    refine pure_ (i:=2) (N:=some 15) (v:=?_) (a':=?_) #[true,true,true,false,false,false,false,false,false,false,false,false,false] rfl rfl (any_of HT_.out (by kernel_rfl)) (fun _ _ _ h=>h) (Or.inl ⟨by rfl,?_⟩) ?_ ?_
    rotate_left
    ·intro w'
     go_simp
     with_reducible rfl
    rotate_left
    ·simp only [Act.put,xa,xb,xc,i64_w,i32_w]
     rfl
    refine pure_ (i:=3) (N:=some 16) (v:=?_) (a':=?_) #[true,true,true,true,false,false,false,false,false,false,false,false,false] rfl rfl (any_of HT_.out (by kernel_rfl)) (fun _ _ _ h=>h) (Or.inl ⟨by rfl,?_⟩) ?_ ?_
    rotate_left
    ·intro w'
     go_simp
     with_reducible rfl
    rotate_left
    ·simp only [Act.put,xa,xb,xc,i64_w,i32_w]
     rfl
    refine pure_ (i:=7) (N:=some 20) (v:=?_) (a':=?_) #[true,true,true,true,false,false,false,true,false,false,false,false,false] rfl rfl (any_of HT_.out (by kernel_rfl)) (fun _ _ _ h=>h) (Or.inl ⟨by rfl,?_⟩) ?_ ?_
    rotate_left
    ·intro w'
     go_simp
     with_reducible rfl
    rotate_left
    ·simp only [Act.put,xa,xb,xc,i64_w,i32_w]
     rfl
    refine one_ (i:=4) (N:=some 17) #[true,true,true,true,true,false,false,true,false,false,false,false,false] rfl rfl (one_of HT_.out (by kernel_rfl)) (by decide) (fun K hK=>?_)
    refine goes_ Try.func47 (by kernel_rfl) rfl #[.pointer (some ⟨g,0,none⟩),.int .i64 (t268.length : Int)] (by rfl) rfl rfl mz ?_
    with_reducible refine (spec_l1Cur_pick.calls g s0_0 t274 t275 (t268.length : Int) t276 t277 t278 w0 _ ?side1 ?side2 A6.out).mono ?_
    (case side1=>repeat (first|(with_reducible first|exact HI0.out|apply IsS49.alloc|apply IsS49.drewN|apply IsS49.drew|apply IsS49.set_1|apply IsS49.set_2)|exact HI0.out))
    (case side2=>repeat (first|(with_reducible first|exact HB.out|apply below_alloc|apply pw_below_drewN|apply below_drew1|refine below_set ?_ (IsS49.ge HI0.out))|exact HB.out))
    rintro e w15 ⟨rfl,hi,hb,hk⟩
    have HS0_:=keep_cell hk (hHeld) (by first|(rw [add_block];exact Kd.own_blk (IsS49.own_ne HI0.out HO270.out (by decide)))|(show (Addr.add _ _).block ≠ _;rw [add_block];exact Kd.own_blk (IsS49.own_ne HI0.out HO270.out (by decide)))|exact Kd.own_blk (IsS49.own_ne HI0.out HO270.out (by decide)))
    refine ⟨_,rfl,?_⟩
    have n0_:=Aside0.mk (Kd.R_mono (Kd.R_keep (IsS49.apart (show IsS49 w0 _ g s0_0 t274 t275 from by repeat (first|(with_reducible first|exact HI0.out|apply IsS49.alloc|apply IsS49.drewN|apply IsS49.drew|apply IsS49.set_1|apply IsS49.set_2)|exact HI0.out)) (rz HO270.out) (by decide)) hk (fun _ h=>h.2)) (fun _ h=>h.1))
    have n1_:=Aside0.mk (KeepBut.trans (by repeat (first|(with_reducible first|exact HK.out|apply KeepBut.set_|apply keep_drewN|apply keep_drew|apply keep_alloc)|exact HK.out)) hk (.inl rfl))
    have n2_:=Aside0.mk (hb)
    have n3_:=Aside0.mk (hi)
    clear HO270
    clear HK
    clear HB
    clear HI0
    have HO270:=n0_
    have HK:=n1_
    have HB:=n2_
    have HI0:=n3_
    clear n0_ n1_ n2_ n3_
    (try clear hb)
    (try clear hb2)
    (try clear hk)
    (try clear hi)
    refine hK.out _ _ (HS0_) (fun hHeld=>?_)
    clear hK K
    refine norm_ (a':=?_) ?_ ?_
    rotate_left
    ·show Act.put _ (some 17) _ = _
     simp only [Act.put,xa,xb,xc,i64_w,i32_w]
     rfl
    refine pure_ (i:=5) (N:=some 18) (v:=?_) (a':=?_) #[true,true,true,true,true,true,false,true,false,false,false,false,false] rfl rfl (any_of HT_.out (by kernel_rfl)) (fun _ _ _ h=>h) (Or.inl ⟨by rfl,?_⟩) ?_ ?_
    rotate_left
    ·intro w'
     go_simp
     with_reducible rfl
    rotate_left
    ·simp only [Act.put,xa,xb,xc,i64_w,i32_w]
     rfl
    refine take_ (i:=6) (N:=some 19) (v:=?_) (a':=?_) #[true,true,true,true,true,true,true,true,false,false,false,false,false] rfl rfl (take_ofW HT_.out HW_.out (by kernel_rfl)) (fun _ _ _ h=>h) (Or.inl ⟨by rfl,?_⟩) hHeld ?_ ?_
    rotate_left
    ·intro w' s0
     go_simp
     with_reducible rfl
    rotate_left
    ·simp only [Act.put,xa,xb,xc,i64_w,i32_w]
     rfl
    refine one_ (i:=8) (N:=some 21) #[true,true,true,true,true,true,true,true,true,false,false,false,false] rfl rfl (one_of HT_.out (by kernel_rfl)) (by decide) (fun K hK=>?_)
    refine goes_ Try.func47 (by kernel_rfl) rfl #[.pointer (some ⟨g,0,none⟩),.int .i64 3] (by rfl) rfl rfl mz ?_
    with_reducible refine (spec_l1Cur_pick.calls g s0_0 t277 t278 3 t280 t281 t282 w0 _ ?side1 ?side2 A9.out).mono ?_
    (case side1=>repeat (first|(with_reducible first|exact HI0.out|apply IsS49.alloc|apply IsS49.drewN|apply IsS49.drew|apply IsS49.set_1|apply IsS49.set_2)|exact HI0.out))
    (case side2=>repeat (first|(with_reducible first|exact HB.out|apply below_alloc|apply pw_below_drewN|apply below_drew1|refine below_set ?_ (IsS49.ge HI0.out))|exact HB.out))
    rintro e w16 ⟨rfl,hi,hb,hk⟩
    have HS0_:=keep_cell hk (hHeld) (by first|(rw [add_block];exact Kd.own_blk (IsS49.own_ne HI0.out HO270.out (by decide)))|(show (Addr.add _ _).block ≠ _;rw [add_block];exact Kd.own_blk (IsS49.own_ne HI0.out HO270.out (by decide)))|exact Kd.own_blk (IsS49.own_ne HI0.out HO270.out (by decide)))
    refine ⟨_,rfl,?_⟩
    have n0_:=Aside0.mk (Kd.R_mono (Kd.R_keep (IsS49.apart (show IsS49 w0 _ g s0_0 t277 t278 from by repeat (first|(with_reducible first|exact HI0.out|apply IsS49.alloc|apply IsS49.drewN|apply IsS49.drew|apply IsS49.set_1|apply IsS49.set_2)|exact HI0.out)) (rz HO270.out) (by decide)) hk (fun _ h=>h.2)) (fun _ h=>h.1))
    have n1_:=Aside0.mk (KeepBut.trans (by repeat (first|(with_reducible first|exact HK.out|apply KeepBut.set_|apply keep_drewN|apply keep_drew|apply keep_alloc)|exact HK.out)) hk (.inl rfl))
    have n2_:=Aside0.mk (hb)
    have n3_:=Aside0.mk (hi)
    clear HO270
    clear HK
    clear HB
    clear HI0
    have HO270:=n0_
    have HK:=n1_
    have HB:=n2_
    have HI0:=n3_
    clear n0_ n1_ n2_ n3_
    (try clear hb)
    (try clear hb2)
    (try clear hk)
    (try clear hi)
    have p10 : 0 ≤ (t276 : Int):=of_decide_eq_true az
    have q10 : (t276 : Int) < ((t268.length : Int) : Int):=of_decide_eq_true az
    obtain ⟨go10,co10,eo10,gb10,gl10,cl10,HG10⟩:=Kd.R_form HO270.out (by omega)
    (first|cases eo10|(injection eo10 with ea_ en_ ec_;(first|subst ea_|(injection ea_ with ea_;subst ea_));subst ec_;clear en_))
    have GB10:=Aside0.mk gb10
    have GG10:=Aside0.mk HG10
    clear gb10 gl10 HG10
    (first|simp only [add_plain] at hx279_0|skip)
    obtain ⟨hx10_0,hf10_0⟩:=Kd.R_celln 0 HO270.out (t276 : Int) p10 q10
    replace p10:=eq_true p10
    replace q10:=eq_true q10
    have HN0_go10:=Aside0.mk (show g ≠ go10 from by have h_:=IsS49.own_ne HI0.out HO270.out (by decide);intro e_;exact h_ (by rw [e_];rfl))
    have HP17:=Kd.R_putn HO270.out (t276 : Int) (wrap64 ((rd t268 t276) + (wrap64 (t280 - 1))))
    rw [← Ny283.out] at HP17
    have HQ17:=Aside0.mk HP17
    clear HP17
    refine hK.out _ _ (HS0_) (fun hHeld=>?_)
    clear hK K
    refine norm_ (a':=?_) ?_ ?_
    rotate_left
    ·show Act.put _ (some 21) _ = _
     simp only [Act.put,xa,xb,xc,i64_w,i32_w]
     rfl
    refine pure_ (i:=9) (N:=some 22) (v:=?_) (a':=?_) #[true,true,true,true,true,true,true,true,true,true,false,false,false] rfl rfl (any_of HT_.out (by kernel_rfl)) (fun _ _ _ h=>h) (Or.inl ⟨by rfl,?_⟩) ?_ ?_
    rotate_left
    ·intro w'
     go_simp
     with_reducible rfl
    rotate_left
    ·simp only [Act.put,xa,xb,xc,i64_w,i32_w]
     rfl
    refine pure_ (i:=10) (N:=some 23) (v:=?_) (a':=?_) #[true,true,true,true,true,true,true,true,true,true,true,false,false] rfl rfl (any_of HT_.out (by kernel_rfl)) (fun _ _ _ h=>h) (Or.inl ⟨by rfl,?_⟩) ?_ ?_
    rotate_left
    ·intro w'
     go_simp
     with_reducible rfl
    rotate_left
    ·simp only [Act.put,xa,xb,xc,i64_w,i32_w]
     rfl
    refine pure_ (i:=11) (N:=some 24) (v:=?_) (a':=?_) #[true,true,true,true,true,true,true,true,true,true,true,true,false] rfl rfl (any_of HT_.out (by kernel_rfl)) (fun _ _ _ h=>h) (Or.inl ⟨by rfl,?_⟩) ?_ ?_
    rotate_left
    ·intro w'
     go_simp
     with_reducible rfl
    rotate_left
    ·simp only [Act.put,xa,xb,xc,i64_w,i32_w]
     rfl
    refine last_ (i:=12) (N:=none) #[true,true,true,true,true,true,true,true,true,true,true,true,true] rfl rfl (one_of HT_.out (by kernel_rfl)) (by decide) (fun K hK=>?_)
    refine skip_ (w1:=?_) (by rfl) rfl ?_ ?_
    rotate_left
    ·go_simp
     rfl
    refine hK.out _ _ ?_
    clear hK K
    refine done_ (done_of HT_.out (by kernel_rfl)) ?_
    try go_wp2
    go_ret
    exact ⟨_,by first|rfl|(simp [errW_none,errW_some] <;> rfl)|(simp [*,errW_none,errW_some] <;> rfl),by (with_reducible repeat (first|apply Kd.R_alloc|apply Kd.R_drewN|apply Kd.R_drew));exact HQ17.out,by repeat (first|(with_reducible first|exact HI0.out|apply IsS49.alloc|apply IsS49.drewN|apply IsS49.drew|apply IsS49.set_1|apply IsS49.set_2|refine IsS49.far ?_ HN0_go10.out _)|exact HI0.out),by repeat (first|(with_reducible first|exact HB.out|apply below_alloc|apply pw_below_drewN|apply below_drew1|refine below_set ?_ (Nat.le_trans HL.out GB10.out)|refine below_set ?_ (IsS49.ge HI0.out))|exact HB.out),by repeat (first|(with_reducible first|exact HK.out|apply KeepBut.set_|apply keep_drewN|apply keep_drew|apply keep_alloc|refine keep_far ?_ GB10.out _)|exact HK.out)⟩
   ·rw [if_neg c8] at H
    exact absurd H (by simp)
  ·rw [if_neg c7] at H
   exact absurd H (by simp)
 ·rw [if_neg c5] at H
  have c5b0 : (t273 == 0) = false:=beq_eq_false_iff_ne.mpr c5
  have c5b1 : (t273 != 0) = true:=bne_iff_ne.mpr c5
  by_cases c18 : t273 = 1
  ·rw [if_pos c18] at H
   have c18b0 : (t273 == 1) = true:=beq_iff_eq.mpr c18
   have c18b1 : (t273 != 1) = false:=bne_eq_false_iff_eq.mpr c18
   clear c18
   replace H:=Option.bind_eq_some_iff.mp H
   obtain ⟨⟨t284,t285,t286⟩,A190,H⟩:=H
   replace H : (if t268.length < 17592186044416 then (some ((t268 ++ [t284]),t285,t286)) else (none)) = some (r1,r2,r3):=H
   have A19:=Aside0.mk A190
   clear A190
   by_cases c20 : t268.length < 17592186044416
   ·rw [if_pos c20] at H
    have LMc20:=Aside0.mk c20
    clear c20
    obtain ⟨y287,hy287⟩ : ∃ y_ : List Int,y_ = (t268 ++ [t284]):=⟨_,rfl⟩
    replace H : (some (y287,t285,t286)) = some (r1,r2,r3):=by first|(rw [hy287];with_reducible exact H)|(have H2_:=(Option.bind_some _ _).symm.trans H;rw [hy287];with_reducible exact H2_)|(have H2_:=(Option.bind_some _ _).symm.trans H;with_reducible exact H2_)|with_reducible exact H|(rw [hy287];exact H)|exact H
    have Ny287:=Aside0.mk hy287
    clear hy287
    simp only [Option.some.injEq,Prod.mk.injEq] at H
    obtain ⟨rfl,rfl,rfl⟩:=H
    go_enter Try.func30,Try.ntmps30
    go_wp2_with (first|((with_reducible refine gate_callee (f:=64) rfl ?_);refine goesL_ (some 8) rfl rfl Try.func64 (by kernel_rfl) rfl #[.pointer (some ⟨g,0,none⟩),.int .i64 a1] rfl mz ?_;(with_reducible refine (spec_l1Cur_chain.calls k g s0_0 s0_1 s0_2 a1 t268 t271 t272 w0 _ ?side1 ?side2 A3.out).mono ?_);(case side1=>repeat (first|(with_reducible first|exact HI0.out|apply IsS49.alloc|apply IsS49.drewN|apply IsS49.drew|apply IsS49.set_1|apply IsS49.set_2)|exact HI0.out));(case side2=>repeat (first|(with_reducible first|exact HB.out|apply below_alloc|apply pw_below_drewN|apply below_drew1|refine below_set ?_ (IsS49.ge HI0.out))|exact HB.out));rintro e w21 ⟨v269,rfl,ho0,hi,hb,hk⟩;refine ⟨_,rfl,?_⟩;have n0_:=Aside0.mk (Kd.R_lower ho0 (keep_size (w:=w) (g:=g) (row:=none) (by repeat (first|(with_reducible first|exact HK.out|apply KeepBut.set_|apply keep_drewN|apply keep_drew|apply keep_alloc)|exact HK.out))));have n1_:=Aside0.mk (KeepBut.trans (by repeat (first|(with_reducible first|exact HK.out|apply KeepBut.set_|apply keep_drewN|apply keep_drew|apply keep_alloc)|exact HK.out)) hk (.inl rfl));have n2_:=Aside0.mk (hb);have n3_:=Aside0.mk (hi);clear HK HB HI0;have HO270:=n0_;have HK:=n1_;have HB:=n2_;have HI0:=n3_;clear n0_ n1_ n2_ n3_;(try clear hb);(try clear hb2);(try clear hk);(try clear hi);(try clear ho0))|((with_reducible refine gate_callee (f:=47) rfl ?_);refine goesL_ (some 10) rfl rfl Try.func47 (by kernel_rfl) rfl #[.pointer (some ⟨g,0,none⟩),.int .i64 14] rfl mz ?_;(with_reducible refine (spec_l1Cur_pick.calls g s0_0 t271 t272 14 t273 t274 t275 w0 _ ?side1 ?side2 A4.out).mono ?_);(case side1=>repeat (first|(with_reducible first|exact HI0.out|apply IsS49.alloc|apply IsS49.drewN|apply IsS49.drew|apply IsS49.set_1|apply IsS49.set_2)|exact HI0.out));(case side2=>repeat (first|(with_reducible first|exact HB.out|apply below_alloc|apply pw_below_drewN|apply below_drew1|refine below_set ?_ (IsS49.ge HI0.out))|exact HB.out));rintro e w22 ⟨rfl,hi,hb,hk⟩;refine ⟨_,rfl,?_⟩;have n0_:=Aside0.mk (Kd.R_mono (Kd.R_keep (IsS49.apart (show IsS49 w0 _ g s0_0 t271 t272 from by repeat (first|(with_reducible first|exact HI0.out|apply IsS49.alloc|apply IsS49.drewN|apply IsS49.drew|apply IsS49.set_1|apply IsS49.set_2)|exact HI0.out)) (rz HO270.out) (by decide)) hk (fun _ h=>h.2)) (fun _ h=>h.1));have n1_:=Aside0.mk (KeepBut.trans (by repeat (first|(with_reducible first|exact HK.out|apply KeepBut.set_|apply keep_drewN|apply keep_drew|apply keep_alloc)|exact HK.out)) hk (.inl rfl));have n2_:=Aside0.mk (hb);have n3_:=Aside0.mk (hi);clear HO270 HK HB HI0;have HO270:=n0_;have HK:=n1_;have HB:=n2_;have HI0:=n3_;clear n0_ n1_ n2_ n3_;(try clear hb);(try clear hb2);(try clear hk);(try clear hi))|((with_reducible refine gate_callee (f:=47) rfl ?_);refine goesL_ (some 29) rfl rfl Try.func47 (by kernel_rfl) rfl #[.pointer (some ⟨g,0,none⟩),.int .i64 40] rfl mz ?_;(with_reducible refine (spec_l1Cur_pick.calls g s0_0 t274 t275 40 t284 t285 t286 w0 _ ?side1 ?side2 A19.out).mono ?_);(case side1=>repeat (first|(with_reducible first|exact HI0.out|apply IsS49.alloc|apply IsS49.drewN|apply IsS49.drew|apply IsS49.set_1|apply IsS49.set_2)|exact HI0.out));(case side2=>repeat (first|(with_reducible first|exact HB.out|apply below_alloc|apply pw_below_drewN|apply below_drew1|refine below_set ?_ (IsS49.ge HI0.out))|exact HB.out));rintro e w23 ⟨rfl,hi,hb,hk⟩;refine ⟨_,rfl,?_⟩;have n0_:=Aside0.mk (Kd.R_mono (Kd.R_keep (IsS49.apart (show IsS49 w0 _ g s0_0 t274 t275 from by repeat (first|(with_reducible first|exact HI0.out|apply IsS49.alloc|apply IsS49.drewN|apply IsS49.drew|apply IsS49.set_1|apply IsS49.set_2)|exact HI0.out)) (rz HO270.out) (by decide)) hk (fun _ h=>h.2)) (fun _ h=>h.1));have n1_:=Aside0.mk (KeepBut.trans (by repeat (first|(with_reducible first|exact HK.out|apply KeepBut.set_|apply keep_drewN|apply keep_drew|apply keep_alloc)|exact HK.out)) hk (.inl rfl));have n2_:=Aside0.mk (hb);have n3_:=Aside0.mk (hi);clear HO270 HK HB HI0;have HO270:=n0_;have HK:=n1_;have HB:=n2_;have HI0:=n3_;clear n0_ n1_ n2_ n3_;(try clear hb);(try clear hb2);(try clear hk);(try clear hi))|((with_reducible refine gate_builtin (b:=.append) (xs:=#[.tmp 27,.tmp 30]) rfl ?_);at_builtin;refine Kd.R_append (Kd.int .i64) w.heap.size rfl (.tmp 27) (.tmp 30) 24 3 (.int .i64 0) 8 rfl Try.underlying24 info3 rfl (by decide) (by omega) v269 t268 t284 [.int .i64 t284] (fun _=>True) (fun _=>False) rfl rfl ?aP (fun _ hk=>hk.elim) ?aF ?aO (Below.refl _ _) ?aS ?aL ?_;(case aP=>exact rfl);(case aF=>exact (fun _ _=>trivial));(case aO=>exact (rz HO270.out));(case aS=>exact (keep_size (w:=w) (g:=g) (row:=none) (by repeat (first|(with_reducible first|exact HK.out|apply KeepBut.set_|apply keep_drewN|apply keep_drew|apply keep_alloc)|exact HK.out))));(case aL=>have:=LMc20.out;omega);intro v288 w24 ho hb hg hat;rw [← Ny287.out] at ho;have n0_:=Aside0.mk (IsS49.grown (by repeat (first|(with_reducible first|exact HI0.out|apply IsS49.alloc|apply IsS49.drewN|apply IsS49.drew|apply IsS49.set_1|apply IsS49.set_2)|exact HI0.out)) hg (IsS49.own_ne HI0.out HO270.out (by decide)));have n1_:=Aside0.mk (below_weaken (by repeat (first|(with_reducible first|exact HB.out|apply below_alloc|apply pw_below_drewN|apply below_drew1|refine below_set ?_ (IsS49.ge HI0.out))|exact HB.out)) HL.out hb);have n2_:=Aside0.mk (KeepBut.trans (by repeat (first|(with_reducible first|exact HK.out|apply KeepBut.set_|apply keep_drewN|apply keep_drew|apply keep_alloc)|exact HK.out)) (KeepBut.of_grown hg g) (Kd.R_base2 HO270.out));have n3_:=Aside0.mk (ho);clear HI0 HB HK HO270;have HI0:=n0_;have HB:=n1_;have HK:=n2_;have HO289:=n3_;clear n0_ n1_ n2_ n3_;clear ho hb hg hat))
    go_ret
    exact ⟨_,by first|rfl|(simp [errW_none,errW_some] <;> rfl)|(simp [*,errW_none,errW_some] <;> rfl),by (with_reducible repeat (first|apply Kd.R_alloc|apply Kd.R_drewN|apply Kd.R_drew));exact HO289.out,by repeat (first|(with_reducible first|exact HI0.out|apply IsS49.alloc|apply IsS49.drewN|apply IsS49.drew|apply IsS49.set_1|apply IsS49.set_2)|exact HI0.out),by repeat (first|(with_reducible first|exact HB.out|apply below_alloc|apply pw_below_drewN|apply below_drew1|refine below_set ?_ (IsS49.ge HI0.out))|exact HB.out),by repeat (first|(with_reducible first|exact HK.out|apply KeepBut.set_|apply keep_drewN|apply keep_drew|apply keep_alloc)|exact HK.out)⟩
   ·rw [if_neg c20] at H
    exact absurd H (by simp)
  ·rw [if_neg c18] at H
   have c18b0 : (t273 == 1) = false:=beq_eq_false_iff_ne.mpr c18
   have c18b1 : (t273 != 1) = true:=bne_iff_ne.mpr c18
   by_cases c25 : t273 = 2
   ·rw [if_pos c25] at H
    have c25b0 : (t273 == 2) = true:=beq_iff_eq.mpr c25
    have c25b1 : (t273 != 2) = false:=bne_eq_false_iff_eq.mpr c25
    clear c25
    simp only [Option.some.injEq,Prod.mk.injEq] at H
    obtain ⟨rfl,rfl,rfl⟩:=H
    go_enter Try.func30,Try.ntmps30
    go_wp2_with (first|((with_reducible refine gate_callee (f:=64) rfl ?_);refine goesL_ (some 8) rfl rfl Try.func64 (by kernel_rfl) rfl #[.pointer (some ⟨g,0,none⟩),.int .i64 a1] rfl mz ?_;(with_reducible refine (spec_l1Cur_chain.calls k g s0_0 s0_1 s0_2 a1 t268 t271 t272 w0 _ ?side1 ?side2 A3.out).mono ?_);(case side1=>repeat (first|(with_reducible first|exact HI0.out|apply IsS49.alloc|apply IsS49.drewN|apply IsS49.drew|apply IsS49.set_1|apply IsS49.set_2)|exact HI0.out));(case side2=>repeat (first|(with_reducible first|exact HB.out|apply below_alloc|apply pw_below_drewN|apply below_drew1|refine below_set ?_ (IsS49.ge HI0.out))|exact HB.out));rintro e w26 ⟨v269,rfl,ho0,hi,hb,hk⟩;refine ⟨_,rfl,?_⟩;have n0_:=Aside0.mk (Kd.R_lower ho0 (keep_size (w:=w) (g:=g) (row:=none) (by repeat (first|(with_reducible first|exact HK.out|apply KeepBut.set_|apply keep_drewN|apply keep_drew|apply keep_alloc)|exact HK.out))));have n1_:=Aside0.mk (KeepBut.trans (by repeat (first|(with_reducible first|exact HK.out|apply KeepBut.set_|apply keep_drewN|apply keep_drew|apply keep_alloc)|exact HK.out)) hk (.inl rfl));have n2_:=Aside0.mk (hb);have n3_:=Aside0.mk (hi);clear HK HB HI0;have HO270:=n0_;have HK:=n1_;have HB:=n2_;have HI0:=n3_;clear n0_ n1_ n2_ n3_;(try clear hb);(try clear hb2);(try clear hk);(try clear hi);(try clear ho0))|((with_reducible refine gate_callee (f:=47) rfl ?_);refine goesL_ (some 10) rfl rfl Try.func47 (by kernel_rfl) rfl #[.pointer (some ⟨g,0,none⟩),.int .i64 14] rfl mz ?_;(with_reducible refine (spec_l1Cur_pick.calls g s0_0 t271 t272 14 t273 t274 t275 w0 _ ?side1 ?side2 A4.out).mono ?_);(case side1=>repeat (first|(with_reducible first|exact HI0.out|apply IsS49.alloc|apply IsS49.drewN|apply IsS49.drew|apply IsS49.set_1|apply IsS49.set_2)|exact HI0.out));(case side2=>repeat (first|(with_reducible first|exact HB.out|apply below_alloc|apply pw_below_drewN|apply below_drew1|refine below_set ?_ (IsS49.ge HI0.out))|exact HB.out));rintro e w27 ⟨rfl,hi,hb,hk⟩;refine ⟨_,rfl,?_⟩;have n0_:=Aside0.mk (Kd.R_mono (Kd.R_keep (IsS49.apart (show IsS49 w0 _ g s0_0 t271 t272 from by repeat (first|(with_reducible first|exact HI0.out|apply IsS49.alloc|apply IsS49.drewN|apply IsS49.drew|apply IsS49.set_1|apply IsS49.set_2)|exact HI0.out)) (rz HO270.out) (by decide)) hk (fun _ h=>h.2)) (fun _ h=>h.1));have n1_:=Aside0.mk (KeepBut.trans (by repeat (first|(with_reducible first|exact HK.out|apply KeepBut.set_|apply keep_drewN|apply keep_drew|apply keep_alloc)|exact HK.out)) hk (.inl rfl));have n2_:=Aside0.mk (hb);have n3_:=Aside0.mk (hi);clear HO270 HK HB HI0;have HO270:=n0_;have HK:=n1_;have HB:=n2_;have HI0:=n3_;clear n0_ n1_ n2_ n3_;(try clear hb);(try clear hb2);(try clear hk);(try clear hi)))
    go_ret
    exact ⟨_,by first|rfl|(simp [errW_none,errW_some] <;> rfl)|(simp [*,errW_none,errW_some] <;> rfl),by first|exact Kd.R_nil _ _ _ _ _|exact Kd.N_nil _ _ _ _ _|exact Kd.V_nil _ _ _ _ _|exact Kd.Q_nil _ _ _ _ _|exact Kd.S_nil _ _ _ _ _,by repeat (first|(with_reducible first|exact HI0.out|apply IsS49.alloc|apply IsS49.drewN|apply IsS49.drew|apply IsS49.set_1|apply IsS49.set_2)|exact HI0.out),by repeat (first|(with_reducible first|exact HB.out|apply below_alloc|apply pw_below_drewN|apply below_drew1|refine below_set ?_ (IsS49.ge HI0.out))|exact HB.out),by repeat (first|(with_reducible first|exact HK.out|apply KeepBut.set_|apply keep_drewN|apply keep_drew|apply keep_alloc)|exact HK.out)⟩
   ·rw [if_neg c25] at H
    have c25b0 : (t273 == 2) = false:=beq_eq_false_iff_ne.mpr c25
    have c25b1 : (t273 != 2) = true:=bne_iff_ne.mpr c25
    by_cases c28 : t273 = 3
    ·rw [if_pos c28] at H
     have c28b0 : (t273 == 3) = true:=beq_iff_eq.mpr c28
     have c28b1 : (t273 != 3) = false:=bne_eq_false_iff_eq.mpr c28
     clear c28
     have H':=Aside0.mk H
     clear H
     go_enter Try.func30,Try.ntmps30
     go_wp2_with (first|((with_reducible refine gate_callee (f:=64) rfl ?_);refine goesL_ (some 8) rfl rfl Try.func64 (by kernel_rfl) rfl #[.pointer (some ⟨g,0,none⟩),.int .i64 a1] rfl mz ?_;(with_reducible refine (spec_l1Cur_chain.calls k g s0_0 s0_1 s0_2 a1 t268 t271 t272 w0 _ ?side1 ?side2 A3.out).mono ?_);(case side1=>repeat (first|(with_reducible first|exact HI0.out|apply IsS49.alloc|apply IsS49.drewN|apply IsS49.drew|apply IsS49.set_1|apply IsS49.set_2)|exact HI0.out));(case side2=>repeat (first|(with_reducible first|exact HB.out|apply below_alloc|apply pw_below_drewN|apply below_drew1|refine below_set ?_ (IsS49.ge HI0.out))|exact HB.out));rintro e w29 ⟨v269,rfl,ho0,hi,hb,hk⟩;refine ⟨_,rfl,?_⟩;have n0_:=Aside0.mk (Kd.R_lower ho0 (keep_size (w:=w) (g:=g) (row:=none) (by repeat (first|(with_reducible first|exact HK.out|apply KeepBut.set_|apply keep_drewN|apply keep_drew|apply keep_alloc)|exact HK.out))));have n1_:=Aside0.mk (KeepBut.trans (by repeat (first|(with_reducible first|exact HK.out|apply KeepBut.set_|apply keep_drewN|apply keep_drew|apply keep_alloc)|exact HK.out)) hk (.inl rfl));have n2_:=Aside0.mk (hb);have n3_:=Aside0.mk (hi);clear HK HB HI0;have HO270:=n0_;have HK:=n1_;have HB:=n2_;have HI0:=n3_;clear n0_ n1_ n2_ n3_;(try clear hb);(try clear hb2);(try clear hk);(try clear hi);(try clear ho0))|((with_reducible refine gate_callee (f:=47) rfl ?_);refine goesL_ (some 10) rfl rfl Try.func47 (by kernel_rfl) rfl #[.pointer (some ⟨g,0,none⟩),.int .i64 14] rfl mz ?_;(with_reducible refine (spec_l1Cur_pick.calls g s0_0 t271 t272 14 t273 t274 t275 w0 _ ?side1 ?side2 A4.out).mono ?_);(case side1=>repeat (first|(with_reducible first|exact HI0.out|apply IsS49.alloc|apply IsS49.drewN|apply IsS49.drew|apply IsS49.set_1|apply IsS49.set_2)|exact HI0.out));(case side2=>repeat (first|(with_reducible first|exact HB.out|apply below_alloc|apply pw_below_drewN|apply below_drew1|refine below_set ?_ (IsS49.ge HI0.out))|exact HB.out));rintro e w30 ⟨rfl,hi,hb,hk⟩;refine ⟨_,rfl,?_⟩;have n0_:=Aside0.mk (Kd.R_mono (Kd.R_keep (IsS49.apart (show IsS49 w0 _ g s0_0 t271 t272 from by repeat (first|(with_reducible first|exact HI0.out|apply IsS49.alloc|apply IsS49.drewN|apply IsS49.drew|apply IsS49.set_1|apply IsS49.set_2)|exact HI0.out)) (rz HO270.out) (by decide)) hk (fun _ h=>h.2)) (fun _ h=>h.1));have n1_:=Aside0.mk (KeepBut.trans (by repeat (first|(with_reducible first|exact HK.out|apply KeepBut.set_|apply keep_drewN|apply keep_drew|apply keep_alloc)|exact HK.out)) hk (.inl rfl));have n2_:=Aside0.mk (hb);have n3_:=Aside0.mk (hi);clear HO270 HK HB HI0;have HO270:=n0_;have HK:=n1_;have HB:=n2_;have HI0:=n3_;clear n0_ n1_ n2_ n3_;(try clear hb);(try clear hb2);(try clear hk);(try clear hi)))
     go_loopg [5] k (fun kq v5 w'=>∃ (x5_1 : List Int) (x1001_1 : Int) (x1002_1 : Int),Aside0 (spec_l1Cur_anyChain.l0 kq x5_1 s0_0 x1001_1 x1002_1 = some (r1,r2,r3)) ∧ Aside0 (kq ≤ k) ∧ Aside0 (Kd.R (Kd.int .i64) 3 w' w.heap.size (fun _=>True) v5 x5_1) ∧ Aside0 (IsS49 w0 w' g s0_0 x1001_1 x1002_1) ∧ Aside0 (KeepBut w w' g none) ∧ Aside0 (Below w0.heap.size w0 w'))
     case atStart=>exact ⟨(([] : List Int)),(t274),(t275),H',⟨Nat.le_refl _⟩,⟨by first|exact Kd.R_nil _ _ _ _ _|exact Kd.N_nil _ _ _ _ _|exact Kd.V_nil _ _ _ _ _|exact Kd.Q_nil _ _ _ _ _|exact Kd.S_nil _ _ _ _ _⟩,⟨by repeat (first|(with_reducible first|exact HI0.out|apply IsS49.alloc|apply IsS49.drewN|apply IsS49.drew|apply IsS49.set_1|apply IsS49.set_2)|exact HI0.out)⟩,⟨by repeat (first|(with_reducible first|exact HK.out|apply KeepBut.set_|apply keep_drewN|apply keep_drew|apply keep_alloc)|exact HK.out)⟩,⟨by repeat (first|(with_reducible first|exact HB.out|apply below_alloc|apply pw_below_drewN|apply below_drew1|refine below_set ?_ (IsS49.ge HI0.out))|exact HB.out)⟩⟩
     case round=>
      clear H'
      try clear c1
      try clear p1
      try clear q1
      try clear hx1
      try clear c2
      try clear p2
      try clear q2
      try clear hx2
      try clear c3
      try clear c4
      try clear c5
      try clear c5b0
      try clear c5b1
      try clear c6
      try clear p6
      try clear c7
      try clear c7b0
      try clear c8
      try clear c8b0
      try clear p10
      try clear q10
      try clear hx10
      try clear hf10
      try clear c18
      try clear c18b0
      try clear c18b1
      try clear c20
      try clear c25
      try clear c25b0
      try clear c25b1
      try clear p27
      try clear q27
      try clear hx27
      try clear c28
      try clear c28b0
      try clear c28b1
      try clear c30
      try clear hx10_0
      try clear hx279_0
      try clear p10
      try clear p279
      try clear q10
      try clear q279
      obtain ⟨x5_1,x1001_1,x1002_1,HA,HK1,HO_5,HI0,HK,HB⟩:=hrel
      cases gk with
      | zero=>exact absurd HA.out (by simp [spec_l1Cur_anyChain.l0])
      | succ k1=>
       have H:=HA.out
       clear HA
       simp only [spec_l1Cur_anyChain.l0] at H
       replace H:=Option.bind_eq_some_iff.mp H
       obtain ⟨⟨t290,t291,t292⟩,A310,H⟩:=H
       replace H : (if (x5_1.length : Int) < (wrap64 (41 + t290)) then (if x5_1.length < 17592186044416 then (spec_l1Cur_anyChain.l0 k1 (x5_1 ++ [wrap64 ((x5_1.length : Int) + 1)]) s0_0 t291 t292) else (none)) else (some (x5_1,t291,t292))) = some (r1,r2,r3):=H
       have A31:=Aside0.mk A310
       clear A310
       by_cases c32 : (x5_1.length : Int) < (wrap64 (41 + t290))
       ·rw [if_pos c32] at H
        have c32b0 : decide ((x5_1.length : Int) < (wrap64 (41 + t290))) = true:=decide_eq_true c32
        clear c32
        by_cases c33 : x5_1.length < 17592186044416
        ·rw [if_pos c33] at H
         have LMc33:=Aside0.mk c33
         clear c33
         obtain ⟨y293,hy293⟩ : ∃ y_ : List Int,y_ = (x5_1 ++ [wrap64 ((x5_1.length : Int) + 1)]):=⟨_,rfl⟩
         replace H : (spec_l1Cur_anyChain.l0 k1 y293 s0_0 t291 t292) = some (r1,r2,r3):=by first|(rw [hy293];with_reducible exact H)|(have H2_:=(Option.bind_some _ _).symm.trans H;rw [hy293];with_reducible exact H2_)|(have H2_:=(Option.bind_some _ _).symm.trans H;with_reducible exact H2_)|with_reducible exact H|(rw [hy293];exact H)|exact H
         have Ny293:=Aside0.mk hy293
         clear hy293
         have H':=Aside0.mk H
         clear H
         obtain ⟨Ao34,co34,eo34⟩:=Kd.R_slice HO_5.out
         subst eo34
         go_wp2_with (first|((with_reducible refine gate_callee (f:=47) rfl ?_);refine goesL_ (some 39) rfl rfl Try.func47 (by kernel_rfl) rfl #[.pointer (some ⟨g,0,none⟩),.int .i64 2] rfl mz ?_;(with_reducible refine (spec_l1Cur_pick.calls g s0_0 x1001_1 x1002_1 2 t290 t291 t292 w0 _ ?side1 ?side2 A31.out).mono ?_);(case side1=>repeat (first|(with_reducible first|exact HI0.out|apply IsS49.alloc|apply IsS49.drewN|apply IsS49.drew|apply IsS49.set_1|apply IsS49.set_2)|exact HI0.out));(case side2=>repeat (first|(with_reducible first|exact HB.out|apply below_alloc|apply pw_below_drewN|apply below_drew1|refine below_set ?_ (IsS49.ge HI0.out))|exact HB.out));rintro e w35 ⟨rfl,hi,hb,hk⟩;refine ⟨_,rfl,?_⟩;have n0_:=Aside0.mk (Kd.R_mono (Kd.R_keep (IsS49.apart (show IsS49 w0 _ g s0_0 x1001_1 x1002_1 from by repeat (first|(with_reducible first|exact HI0.out|apply IsS49.alloc|apply IsS49.drewN|apply IsS49.drew|apply IsS49.set_1|apply IsS49.set_2)|exact HI0.out)) (rz HO_5.out) (by decide)) hk (fun _ h=>h.2)) (fun _ h=>h.1));have n1_:=Aside0.mk (KeepBut.trans (by repeat (first|(with_reducible first|exact HK.out|apply KeepBut.set_|apply keep_drewN|apply keep_drew|apply keep_alloc)|exact HK.out)) hk (.inl rfl));have n2_:=Aside0.mk (hb);have n3_:=Aside0.mk (hi);clear HO_5 HK HB HI0;have HO_5:=n0_;have HK:=n1_;have HB:=n2_;have HI0:=n3_;clear n0_ n1_ n2_ n3_;(try clear hb);(try clear hb2);(try clear hk);(try clear hi))|((with_reducible refine gate_builtin (b:=.append) (xs:=#[.tmp 42,.tmp 46]) rfl ?_);at_builtin;refine Kd.R_append (Kd.int .i64) w.heap.size rfl (.tmp 42) (.tmp 46) 24 3 (.int .i64 0) 8 rfl Try.underlying24 info3 rfl (by decide) (by omega) (.slice Ao34 x5_1.length co34) x5_1 (wrap64 ((x5_1.length : Int) + 1)) [.int .i64 (wrap64 ((x5_1.length : Int) + 1))] (fun _=>True) (fun _=>False) rfl rfl ?aP (fun _ hk=>hk.elim) ?aF ?aO (Below.refl _ _) ?aS ?aL ?_;(case aP=>exact rfl);(case aF=>exact (fun _ _=>trivial));(case aO=>exact (rz HO_5.out));(case aS=>exact (keep_size (w:=w) (g:=g) (row:=none) (by repeat (first|(with_reducible first|exact HK.out|apply KeepBut.set_|apply keep_drewN|apply keep_drew|apply keep_alloc)|exact HK.out))));(case aL=>have:=LMc33.out;omega);intro v294 w36 ho hb hg hat;rw [← Ny293.out] at ho;have n0_:=Aside0.mk (IsS49.grown (by repeat (first|(with_reducible first|exact HI0.out|apply IsS49.alloc|apply IsS49.drewN|apply IsS49.drew|apply IsS49.set_1|apply IsS49.set_2)|exact HI0.out)) hg (IsS49.own_ne HI0.out HO_5.out (by decide)));have n1_:=Aside0.mk (below_weaken (by repeat (first|(with_reducible first|exact HB.out|apply below_alloc|apply pw_below_drewN|apply below_drew1|refine below_set ?_ (IsS49.ge HI0.out))|exact HB.out)) HL.out hb);have n2_:=Aside0.mk (KeepBut.trans (by repeat (first|(with_reducible first|exact HK.out|apply KeepBut.set_|apply keep_drewN|apply keep_drew|apply keep_alloc)|exact HK.out)) (KeepBut.of_grown hg g) (Kd.R_base2 HO_5.out));have n3_:=Aside0.mk (ho);clear HI0 HB HK HO_5;have HI0:=n0_;have HB:=n1_;have HK:=n2_;have HO295:=n3_;clear n0_ n1_ n2_ n3_;clear ho hb hg hat))
         go_roundg k1
         case measure=>have:=HK1.out;omega
         case rel=>exact ⟨(y293),(t291),(t292),H',⟨by have:=HK1.out;omega⟩,⟨by (with_reducible repeat (first|apply Kd.R_alloc|apply Kd.R_drewN|apply Kd.R_drew));exact HO295.out⟩,⟨by repeat (first|(with_reducible first|exact HI0.out|apply IsS49.alloc|apply IsS49.drewN|apply IsS49.drew|apply IsS49.set_1|apply IsS49.set_2)|exact HI0.out)⟩,⟨by repeat (first|(with_reducible first|exact HK.out|apply KeepBut.set_|apply keep_drewN|apply keep_drew|apply keep_alloc)|exact HK.out)⟩,⟨by repeat (first|(with_reducible first|exact HB.out|apply below_alloc|apply pw_below_drewN|apply below_drew1|refine below_set ?_ (IsS49.ge HI0.out))|exact HB.out)⟩⟩
        ·rw [if_neg c33] at H
         exact absurd H (by simp)
       ·rw [if_neg c32] at H
        have c32b0 : decide ((x5_1.length : Int) < (wrap64 (41 + t290))) = false:=decide_eq_false c32
        clear c32
        simp only [Option.some.injEq,Prod.mk.injEq] at H
        obtain ⟨rfl,rfl,rfl⟩:=H
        obtain ⟨Ao37,co37,eo37⟩:=Kd.R_slice HO_5.out
        subst eo37
        go_wp2_with (first|((with_reducible refine gate_callee (f:=47) rfl ?_);refine goesL_ (some 39) rfl rfl Try.func47 (by kernel_rfl) rfl #[.pointer (some ⟨g,0,none⟩),.int .i64 2] rfl mz ?_;(with_reducible refine (spec_l1Cur_pick.calls g s0_0 x1001_1 x1002_1 2 t290 t291 t292 w0 _ ?side1 ?side2 A31.out).mono ?_);(case side1=>repeat (first|(with_reducible first|exact HI0.out|apply IsS49.alloc|apply IsS49.drewN|apply IsS49.drew|apply IsS49.set_1|apply IsS49.set_2)|exact HI0.out));(case side2=>repeat (first|(with_reducible first|exact HB.out|apply below_alloc|apply pw_below_drewN|apply below_drew1|refine below_set ?_ (IsS49.ge HI0.out))|exact HB.out));rintro e w38 ⟨rfl,hi,hb,hk⟩;refine ⟨_,rfl,?_⟩;have n0_:=Aside0.mk (Kd.R_mono (Kd.R_keep (IsS49.apart (show IsS49 w0 _ g s0_0 x1001_1 x1002_1 from by repeat (first|(with_reducible first|exact HI0.out|apply IsS49.alloc|apply IsS49.drewN|apply IsS49.drew|apply IsS49.set_1|apply IsS49.set_2)|exact HI0.out)) (rz HO_5.out) (by decide)) hk (fun _ h=>h.2)) (fun _ h=>h.1));have n1_:=Aside0.mk (KeepBut.trans (by repeat (first|(with_reducible first|exact HK.out|apply KeepBut.set_|apply keep_drewN|apply keep_drew|apply keep_alloc)|exact HK.out)) hk (.inl rfl));have n2_:=Aside0.mk (hb);have n3_:=Aside0.mk (hi);clear HO_5 HK HB HI0;have HO_5:=n0_;have HK:=n1_;have HB:=n2_;have HI0:=n3_;clear n0_ n1_ n2_ n3_;(try clear hb);(try clear hb2);(try clear hk);(try clear hi)))
        go_ret
        exact ⟨_,by first|rfl|(simp [errW_none,errW_some] <;> rfl)|(simp [*,errW_none,errW_some] <;> rfl),by (with_reducible repeat (first|apply Kd.R_alloc|apply Kd.R_drewN|apply Kd.R_drew));exact HO_5.out,by repeat (first|(with_reducible first|exact HI0.out|apply IsS49.alloc|apply IsS49.drewN|apply IsS49.drew|apply IsS49.set_1|apply IsS49.set_2)|exact HI0.out),by repeat (first|(with_reducible first|exact HB.out|apply below_alloc|apply pw_below_drewN|apply below_drew1|refine below_set ?_ (IsS49.ge HI0.out))|exact HB.out),by repeat (first|(with_reducible first|exact HK.out|apply KeepBut.set_|apply keep_drewN|apply keep_drew|apply keep_alloc)|exact HK.out)⟩
    ·rw [if_neg c28] at H
     have c28b0 : (t273 == 3) = false:=beq_eq_false_iff_ne.mpr c28
     have c28b1 : (t273 != 3) = true:=bne_iff_ne.mpr c28
     by_cases c39 : t273 = 4
     ·rw [if_pos c39] at H
      have c39b0 : (t273 == 4) = true:=beq_iff_eq.mpr c39
      have c39b1 : (t273 != 4) = false:=bne_eq_false_iff_eq.mpr c39
      clear c39
      obtain ⟨y296,hy296⟩ : ∃ y_ : List Int,y_ = (([1,2,4,8,16,32,64,128,256,512,1024,2048,4096,8192,16384,32768,65536,131072,262144,524288] : List Int)):=⟨_,rfl⟩
      replace H : ((spec_l1Cur_pick.f s0_0 t274 t275 4).bind fun bt299=>((some (([786432,wrap64 (786432 + (wrap64 (131072 * bt299.1)))] : List Int) : List Int)).bind fun y302=>(if y296.length + y302.length < 17592186044416 then (some ((y296 ++ y302),bt299.2.1,bt299.2.2)) else (none)))) = some (r1,r2,r3):=by first|(rw [hy296];with_reducible exact H)|(have H2_:=(Option.bind_some _ _).symm.trans H;rw [hy296];with_reducible exact H2_)|(have H2_:=(Option.bind_some _ _).symm.trans H;with_reducible exact H2_)|with_reducible exact H|(rw [hy296];exact H)|exact H
      have Ny296:=Aside0.mk hy296
      clear hy296
      replace H:=Option.bind_eq_some_iff.mp H
      obtain ⟨⟨t299,t300,t301⟩,A400,H⟩:=H
      replace H : ((some (([786432,wrap64 (786432 + (wrap64 (131072 * t299)))] : List Int) : List Int)).bind fun y302=>(if y296.length + y302.length < 17592186044416 then (some ((y296 ++ y302),t300,t301)) else (none))) = some (r1,r2,r3):=H
      have A40:=Aside0.mk A400
      clear A400
      obtain ⟨y302,hy302⟩ : ∃ y_ : List Int,y_ = (([786432,wrap64 (786432 + (wrap64 (131072 * t299)))] : List Int)):=⟨_,rfl⟩
      replace H : (if y296.length + y302.length < 17592186044416 then (some ((y296 ++ y302),t300,t301)) else (none)) = some (r1,r2,r3):=by first|(rw [hy302];with_reducible exact H)|(have H2_:=(Option.bind_some _ _).symm.trans H;rw [hy302];with_reducible exact H2_)|(have H2_:=(Option.bind_some _ _).symm.trans H;with_reducible exact H2_)|with_reducible exact H|(rw [hy302];exact H)|exact H
      have Ny302:=Aside0.mk hy302
      clear hy302
      by_cases c41 : y296.length + y302.length < 17592186044416
      ·rw [if_pos c41] at H
       have LMc41:=Aside0.mk c41
       clear c41
       obtain ⟨y305,hy305⟩ : ∃ y_ : List Int,y_ = (y296 ++ y302):=⟨_,rfl⟩
       replace H : (some (y305,t300,t301)) = some (r1,r2,r3):=by first|(rw [hy305];with_reducible exact H)|(have H2_:=(Option.bind_some _ _).symm.trans H;rw [hy305];with_reducible exact H2_)|(have H2_:=(Option.bind_some _ _).symm.trans H;with_reducible exact H2_)|with_reducible exact H|(rw [hy305];exact H)|exact H
       have Ny305:=Aside0.mk hy305
       clear hy305
       simp only [Option.some.injEq,Prod.mk.injEq] at H
       obtain ⟨rfl,rfl,rfl⟩:=H
       go_enter Try.func30,Try.ntmps30
       go_wp2_with (first|((with_reducible refine gate_callee (f:=64) rfl ?_);refine goesL_ (some 8) rfl rfl Try.func64 (by kernel_rfl) rfl #[.pointer (some ⟨g,0,none⟩),.int .i64 a1] rfl mz ?_;(with_reducible refine (spec_l1Cur_chain.calls k g s0_0 s0_1 s0_2 a1 t268 t271 t272 w0 _ ?side1 ?side2 A3.out).mono ?_);(case side1=>repeat (first|(with_reducible first|exact HI0.out|apply IsS49.alloc|apply IsS49.drewN|apply IsS49.drew|apply IsS49.set_1|apply IsS49.set_2)|exact HI0.out));(case side2=>repeat (first|(with_reducible first|exact HB.out|apply below_alloc|apply pw_below_drewN|apply below_drew1|refine below_set ?_ (IsS49.ge HI0.out))|exact HB.out));rintro e w42 ⟨v269,rfl,ho0,hi,hb,hk⟩;refine ⟨_,rfl,?_⟩;have n0_:=Aside0.mk (Kd.R_lower ho0 (keep_size (w:=w) (g:=g) (row:=none) (by repeat (first|(with_reducible first|exact HK.out|apply KeepBut.set_|apply keep_drewN|apply keep_drew|apply keep_alloc)|exact HK.out))));have n1_:=Aside0.mk (KeepBut.trans (by repeat (first|(with_reducible first|exact HK.out|apply KeepBut.set_|apply keep_drewN|apply keep_drew|apply keep_alloc)|exact HK.out)) hk (.inl rfl));have n2_:=Aside0.mk (hb);have n3_:=Aside0.mk (hi);clear HK HB HI0;have HO270:=n0_;have HK:=n1_;have HB:=n2_;have HI0:=n3_;clear n0_ n1_ n2_ n3_;(try clear hb);(try clear hb2);(try clear hk);(try clear hi);(try clear ho0))|((with_reducible refine gate_callee (f:=47) rfl ?_);refine goesL_ (some 10) rfl rfl Try.func47 (by kernel_rfl) rfl #[.pointer (some ⟨g,0,none⟩),.int .i64 14] rfl mz ?_;(with_reducible refine (spec_l1Cur_pick.calls g s0_0 t271 t272 14 t273 t274 t275 w0 _ ?side1 ?side2 A4.out).mono ?_);(case side1=>repeat (first|(with_reducible first|exact HI0.out|apply IsS49.alloc|apply IsS49.drewN|apply IsS49.drew|apply IsS49.set_1|apply IsS49.set_2)|exact HI0.out));(case side2=>repeat (first|(with_reducible first|exact HB.out|apply below_alloc|apply pw_below_drewN|apply below_drew1|refine below_set ?_ (IsS49.ge HI0.out))|exact HB.out));rintro e w43 ⟨rfl,hi,hb,hk⟩;refine ⟨_,rfl,?_⟩;have n0_:=Aside0.mk (Kd.R_mono (Kd.R_keep (IsS49.apart (show IsS49 w0 _ g s0_0 t271 t272 from by repeat (first|(with_reducible first|exact HI0.out|apply IsS49.alloc|apply IsS49.drewN|apply IsS49.drew|apply IsS49.set_1|apply IsS49.set_2)|exact HI0.out)) (rz HO270.out) (by decide)) hk (fun _ h=>h.2)) (fun _ h=>h.1));have n1_:=Aside0.mk (KeepBut.trans (by repeat (first|(with_reducible first|exact HK.out|apply KeepBut.set_|apply keep_drewN|apply keep_drew|apply keep_alloc)|exact HK.out)) hk (.inl rfl));have n2_:=Aside0.mk (hb);have n3_:=Aside0.mk (hi);clear HO270 HK HB HI0;have HO270:=n0_;have HK:=n1_;have HB:=n2_;have HI0:=n3_;clear n0_ n1_ n2_ n3_;(try clear hb);(try clear hb2);(try clear hk);(try clear hi))|((with_reducible refine gate_dst (N:=50) rfl ?_);refine Kd.R_lit (Kd.int .i64) _ 3 ?hg (N:=50) ?hd (xs:=([1,2,4,8,16,32,64,128,256,512,1024,2048,4096,8192,16384,32768,65536,131072,262144,524288] : List Int)) (inner:=[.int .i64 1,.int .i64 2,.int .i64 4,.int .i64 8,.int .i64 16,.int .i64 32,.int .i64 64,.int .i64 128,.int .i64 256,.int .i64 512,.int .i64 1024,.int .i64 2048,.int .i64 4096,.int .i64 8192,.int .i64 16384,.int .i64 32768,.int .i64 65536,.int .i64 131072,.int .i64 262144,.int .i64 524288]) (ok:=fun _=>True) (okp:=fun _=>True) ?hr ?hp (fun _ hk=>hk) trivial (Below.refl _ _) (Nat.le_refl _) (by simp) ?_;(case hd=>rfl);(case hg=>rfl);(case hr=>first|(go_simp;done)|(go_simp;rfl));(case hp=>exact (Reps.one (show Kd.M (Kd.int .i64) _ _ _ 1 [.int .i64 1] from rfl) (Reps.one (show Kd.M (Kd.int .i64) _ _ _ 2 [.int .i64 2] from rfl) (Reps.one (show Kd.M (Kd.int .i64) _ _ _ 4 [.int .i64 4] from rfl) (Reps.one (show Kd.M (Kd.int .i64) _ _ _ 8 [.int .i64 8] from rfl) (Reps.one (show Kd.M (Kd.int .i64) _ _ _ 16 [.int .i64 16] from rfl) (Reps.one (show Kd.M (Kd.int .i64) _ _ _ 32 [.int .i64 32] from rfl) (Reps.one (show Kd.M (Kd.int .i64) _ _ _ 64 [.int .i64 64] from rfl) (Reps.one (show Kd.M (Kd.int .i64) _ _ _ 128 [.int .i64 128] from rfl) (Reps.one (show Kd.M (Kd.int .i64) _ _ _ 256 [.int .i64 256] from rfl) (Reps.one (show Kd.M (Kd.int .i64) _ _ _ 512 [.int .i64 512] from rfl) (Reps.one (show Kd.M (Kd.int .i64) _ _ _ 1024 [.int .i64 1024] from rfl) (Reps.one (show Kd.M (Kd.int .i64) _ _ _ 2048 [.int .i64 2048] from rfl) (Reps.one (show Kd.M (Kd.int .i64) _ _ _ 4096 [.int .i64 4096] from rfl) (Reps.one (show Kd.M (Kd.int .i64) _ _ _ 8192 [.int .i64 8192] from rfl) (Reps.one (show Kd.M (Kd.int .i64) _ _ _ 16384 [.int .i64 16384] from rfl) (Reps.one (show Kd.M (Kd.int .i64) _ _ _ 32768 [.int .i64 32768] from rfl) (Reps.one (show Kd.M (Kd.int .i64) _ _ _ 65536 [.int .i64 65536] from rfl) (Reps.one (show Kd.M (Kd.int .i64) _ _ _ 131072 [.int .i64 131072] from rfl) (Reps.one (show Kd.M (Kd.int .i64) _ _ _ 262144 [.int .i64 262144] from rfl) (Reps.one (show Kd.M (Kd.int .i64) _ _ _ 524288 [.int .i64 524288] from rfl) (Reps.none _ _))))))))))))))))))))));intro v297 w44 ho45 hb hg_ hnew_;clear hg_ hnew_;(first|rw [← Ny296.out] at ho45|(simp only [Int.reduceToNat] at ho45;rw [← Ny296.out] at ho45));have n0_:=Aside0.mk (Kd.R_elder' (rz HO270.out) (Kd.R_base ho45) hb);have n1_:=Aside0.mk (Kd.R_lower (Kd.R_new' ho45 (Kd.R_lt (rz HO270.out))) (keep_size (w:=w) (g:=g) (row:=none) (by repeat (first|(with_reducible first|exact HK.out|apply KeepBut.set_|apply keep_drewN|apply keep_drew|apply keep_alloc)|exact HK.out))));have n2_:=Aside0.mk (IsS49.below (by repeat (first|(with_reducible first|exact HI0.out|apply IsS49.alloc|apply IsS49.drewN|apply IsS49.drew|apply IsS49.set_1|apply IsS49.set_2)|exact HI0.out)) hb);have n3_:=Aside0.mk (KeepBut.trans (by repeat (first|(with_reducible first|exact HK.out|apply KeepBut.set_|apply keep_drewN|apply keep_drew|apply keep_alloc)|exact HK.out)) (KeepBut.of_below hb g none) (.inl rfl));have n4_:=Aside0.mk (below_step (by repeat (first|(with_reducible first|exact HB.out|apply below_alloc|apply pw_below_drewN|apply below_drew1|refine below_set ?_ (IsS49.ge HI0.out))|exact HB.out)) hb);clear HO270 HI0 HK HB;have HO270:=n0_;have HO298:=n1_;have HI0:=n2_;have HK:=n3_;have HB:=n4_;clear n0_ n1_ n2_ n3_ n4_;clear hb ho45)|((with_reducible refine gate_callee (f:=47) rfl ?_);refine goesL_ (some 53) rfl rfl Try.func47 (by kernel_rfl) rfl #[.pointer (some ⟨g,0,none⟩),.int .i64 4] rfl mz ?_;(with_reducible refine (spec_l1Cur_pick.calls g s0_0 t274 t275 4 t299 t300 t301 w0 _ ?side1 ?side2 A40.out).mono ?_);(case side1=>repeat (first|(with_reducible first|exact HI0.out|apply IsS49.alloc|apply IsS49.drewN|apply IsS49.drew|apply IsS49.set_1|apply IsS49.set_2)|exact HI0.out));(case side2=>repeat (first|(with_reducible first|exact HB.out|apply below_alloc|apply pw_below_drewN|apply below_drew1|refine below_set ?_ (IsS49.ge HI0.out))|exact HB.out));rintro e w46 ⟨rfl,hi,hb,hk⟩;refine ⟨_,rfl,?_⟩;have n0_:=Aside0.mk (Kd.R_mono (Kd.R_keep (IsS49.apart (show IsS49 w0 _ g s0_0 t274 t275 from by repeat (first|(with_reducible first|exact HI0.out|apply IsS49.alloc|apply IsS49.drewN|apply IsS49.drew|apply IsS49.set_1|apply IsS49.set_2)|exact HI0.out)) (rz HO270.out) (by decide)) hk (fun _ h=>h.2)) (fun _ h=>h.1));have n1_:=Aside0.mk (Kd.R_mono (Kd.R_keep (IsS49.apart (show IsS49 w0 _ g s0_0 t274 t275 from by repeat (first|(with_reducible first|exact HI0.out|apply IsS49.alloc|apply IsS49.drewN|apply IsS49.drew|apply IsS49.set_1|apply IsS49.set_2)|exact HI0.out)) (rz HO298.out) (by decide)) hk (fun _ h=>h.2)) (fun _ h=>h.1));have n2_:=Aside0.mk (KeepBut.trans (by repeat (first|(with_reducible first|exact HK.out|apply KeepBut.set_|apply keep_drewN|apply keep_drew|apply keep_alloc)|exact HK.out)) hk (.inl rfl));have n3_:=Aside0.mk (hb);have n4_:=Aside0.mk (hi);clear HO270 HO298 HK HB HI0;have HO270:=n0_;have HO298:=n1_;have HK:=n2_;have HB:=n3_;have HI0:=n4_;clear n0_ n1_ n2_ n3_ n4_;(try clear hb);(try clear hb2);(try clear hk);(try clear hi))|((with_reducible refine gate_dst (N:=56) rfl ?_);refine Kd.R_lit (Kd.int .i64) _ 3 ?hg (N:=56) ?hd (xs:=([786432,wrap64 (786432 + (wrap64 (131072 * t299)))] : List Int)) (inner:=[.int .i64 786432,.int .i64 (wrap64 (786432 + (wrap64 (131072 * t299))))]) (ok:=fun _=>True) (okp:=fun _=>True) ?hr ?hp (fun _ hk=>hk) trivial (Below.refl _ _) (Nat.le_refl _) (by simp) ?_;(case hd=>rfl);(case hg=>rfl);(case hr=>first|(go_simp;done)|(go_simp;rfl));(case hp=>exact (Reps.one (show Kd.M (Kd.int .i64) _ _ _ 786432 [.int .i64 786432] from rfl) (Reps.one (show Kd.M (Kd.int .i64) _ _ _ (wrap64 (786432 + (wrap64 (131072 * t299)))) [.int .i64 (wrap64 (786432 + (wrap64 (131072 * t299))))] from rfl) (Reps.none _ _))));intro v303 w47 ho48 hb hg_ hnew_;clear hg_ hnew_;(first|rw [← Ny302.out] at ho48|(simp only [Int.reduceToNat] at ho48;rw [← Ny302.out] at ho48));have n0_:=Aside0.mk (Kd.R_elder' (rz HO270.out) (Kd.R_base ho48) hb);have n1_:=Aside0.mk (Kd.R_elder' (rz HO298.out) (Kd.R_base ho48) hb);have n2_:=Aside0.mk (Kd.R_lower (Kd.R_new' (Kd.R_new' ho48 (Kd.R_lt (rz HO270.out))) (Kd.R_lt (rz HO298.out))) (keep_size (w:=w) (g:=g) (row:=none) (by repeat (first|(with_reducible first|exact HK.out|apply KeepBut.set_|apply keep_drewN|apply keep_drew|apply keep_alloc)|exact HK.out))));have n3_:=Aside0.mk (IsS49.below (by repeat (first|(with_reducible first|exact HI0.out|apply IsS49.alloc|apply IsS49.drewN|apply IsS49.drew|apply IsS49.set_1|apply IsS49.set_2)|exact HI0.out)) hb);have n4_:=Aside0.mk (KeepBut.trans (by repeat (first|(with_reducible first|exact HK.out|apply KeepBut.set_|apply keep_drewN|apply keep_drew|apply keep_alloc)|exact HK.out)) (KeepBut.of_below hb g none) (.inl rfl));have n5_:=Aside0.mk (below_step (by repeat (first|(with_reducible first|exact HB.out|apply below_alloc|apply pw_below_drewN|apply below_drew1|refine below_set ?_ (IsS49.ge HI0.out))|exact HB.out)) hb);clear HO270 HO298 HI0 HK HB;have HO270:=n0_;have HO298:=n1_;have HO304:=n2_;have HI0:=n3_;have HK:=n4_;have HB:=n5_;clear n0_ n1_ n2_ n3_ n4_ n5_;clear hb ho48;obtain ⟨Ao50,co50,eo50⟩:=Kd.R_slice HO304.out;subst eo50)|((with_reducible refine gate_builtin (b:=.append) (xs:=#[.tmp 51,.tmp 56]) rfl ?_);at_builtin;refine Kd.R_append_rows (Kd.int .i64) w.heap.size rfl (.tmp 51) (.tmp 56) 24 3 (.int .i64 0) 8 rfl Try.underlying24 info3 rfl (by decide) (by omega) v297 y296 y302 _ _ _ (fun k_=>some k_ ≠ (v269 : Value).ownBlock ∧ some k_ ≠ (.slice Ao50 y302.length co50 : Value).ownBlock) (fun _=>False) rfl rfl ?aO ?aR (fun _ _ h=>h) (fun _ h=>h.elim) ?aF (Below.refl _ _) ?aS ?aL ?_;(case aR=>repeat (first|exact (Kd.R_reads' HO304.out).2.2|(with_reducible refine Kd.C_alloc ?_ _)|(with_reducible refine Kd.C_drewN ?_ _)|(with_reducible refine Kd.C_drew ?_)));(case aF=>exact (fun k_ hk=>⟨Kd.fresh' (Kd.R_lt (rz HO270.out)) k_ hk,Kd.fresh' (Kd.R_lt (rz HO304.out)) k_ hk⟩));(case aO=>exact (by (with_reducible repeat (first|apply Kd.R_alloc|apply Kd.R_drewN|apply Kd.R_drew));exact Kd.R_mono HO298.out (fun _ hk=>⟨hk.1.2,hk.2⟩)));(case aS=>exact (keep_size (w:=w) (g:=g) (row:=none) (by repeat (first|(with_reducible first|exact HK.out|apply KeepBut.set_|apply keep_drewN|apply keep_drew|apply keep_alloc)|exact HK.out))));(case aL=>have:=LMc41.out;omega);intro v306 w49 ho hb hg hat;rw [← Ny305.out] at ho;have n0_:=Aside0.mk (IsS49.grown (by repeat (first|(with_reducible first|exact HI0.out|apply IsS49.alloc|apply IsS49.drewN|apply IsS49.drew|apply IsS49.set_1|apply IsS49.set_2)|exact HI0.out)) hg (IsS49.own_ne HI0.out HO298.out (by decide)));have n1_:=Aside0.mk (Kd.R_after (ok:=(fun k_=>some k_ ≠ (.slice Ao50 y302.length co50 : Value).ownBlock)) (by (with_reducible repeat (first|apply Kd.R_alloc|apply Kd.R_drewN|apply Kd.R_drew));exact Kd.R_mono HO270.out (fun _ hk=>⟨hk.2,hk.1.2⟩)) hg hat);have n2_:=Aside0.mk (Kd.R_after (ok:=(fun k_=>some k_ ≠ (v269 : Value).ownBlock)) (by (with_reducible repeat (first|apply Kd.R_alloc|apply Kd.R_drewN|apply Kd.R_drew));exact Kd.R_mono HO304.out (fun _ hk=>⟨hk.1.2,hk.2⟩)) hg hat);have n3_:=Aside0.mk (below_weaken (by repeat (first|(with_reducible first|exact HB.out|apply below_alloc|apply pw_below_drewN|apply below_drew1|refine below_set ?_ (IsS49.ge HI0.out))|exact HB.out)) HL.out hb);have n4_:=Aside0.mk (KeepBut.trans (by repeat (first|(with_reducible first|exact HK.out|apply KeepBut.set_|apply keep_drewN|apply keep_drew|apply keep_alloc)|exact HK.out)) (KeepBut.of_grown hg g) (Kd.R_base2 HO298.out));have n5_:=Aside0.mk (ho);clear HI0 HO270 HO304 HB HK HO298;have HI0:=n0_;have HO270:=n1_;have HO304:=n2_;have HB:=n3_;have HK:=n4_;have HO307:=n5_;clear n0_ n1_ n2_ n3_ n4_ n5_;clear ho hb hg hat))
       go_ret
       exact ⟨_,by first|rfl|(simp [errW_none,errW_some] <;> rfl)|(simp [*,errW_none,errW_some] <;> rfl),by (with_reducible repeat (first|apply Kd.R_alloc|apply Kd.R_drewN|apply Kd.R_drew));exact Kd.R_mono HO307.out (fun _ hk=>trivial),by repeat (first|(with_reducible first|exact HI0.out|apply IsS49.alloc|apply IsS49.drewN|apply IsS49.drew|apply IsS49.set_1|apply IsS49.set_2)|exact HI0.out),by repeat (first|(with_reducible first|exact HB.out|apply below_alloc|apply pw_below_drewN|apply below_drew1|refine below_set ?_ (IsS49.ge HI0.out))|exact HB.out),by repeat (first|(with_reducible first|exact HK.out|apply KeepBut.set_|apply keep_drewN|apply keep_drew|apply keep_alloc)|exact HK.out)⟩
      ·rw [if_neg c41] at H
       exact absurd H (by simp)
     ·rw [if_neg c39] at H
      have c39b0 : (t273 == 4) = false:=beq_eq_false_iff_ne.mpr c39
      have c39b1 : (t273 != 4) = true:=bne_iff_ne.mpr c39
      simp only [Option.some.injEq,Prod.mk.injEq] at H
      obtain ⟨rfl,rfl,rfl⟩:=H
      go_enter Try.func30,Try.ntmps30
      go_wp2_with (first|((with_reducible refine gate_callee (f:=64) rfl ?_);refine goesL_ (some 8) rfl rfl Try.func64 (by kernel_rfl) rfl #[.pointer (some ⟨g,0,none⟩),.int .i64 a1] rfl mz ?_;(with_reducible refine (spec_l1Cur_chain.calls k g s0_0 s0_1 s0_2 a1 t268 t271 t272 w0 _ ?side1 ?side2 A3.out).mono ?_);(case side1=>repeat (first|(with_reducible first|exact HI0.out|apply IsS49.alloc|apply IsS49.drewN|apply IsS49.drew|apply IsS49.set_1|apply IsS49.set_2)|exact HI0.out));(case side2=>repeat (first|(with_reducible first|exact HB.out|apply below_alloc|apply pw_below_drewN|apply below_drew1|refine below_set ?_ (IsS49.ge HI0.out))|exact HB.out));rintro e w51 ⟨v269,rfl,ho0,hi,hb,hk⟩;refine ⟨_,rfl,?_⟩;have n0_:=Aside0.mk (Kd.R_lower ho0 (keep_size (w:=w) (g:=g) (row:=none) (by repeat (first|(with_reducible first|exact HK.out|apply KeepBut.set_|apply keep_drewN|apply keep_drew|apply keep_alloc)|exact HK.out))));have n1_:=Aside0.mk (KeepBut.trans (by repeat (first|(with_reducible first|exact HK.out|apply KeepBut.set_|apply keep_drewN|apply keep_drew|apply keep_alloc)|exact HK.out)) hk (.inl rfl));have n2_:=Aside0.mk (hb);have n3_:=Aside0.mk (hi);clear HK HB HI0;have HO270:=n0_;have HK:=n1_;have HB:=n2_;have HI0:=n3_;clear n0_ n1_ n2_ n3_;(try clear hb);(try clear hb2);(try clear hk);(try clear hi);(try clear ho0))|((with_reducible refine gate_callee (f:=47) rfl ?_);refine goesL_ (some 10) rfl rfl Try.func47 (by kernel_rfl) rfl #[.pointer (some ⟨g,0,none⟩),.int .i64 14] rfl mz ?_;(with_reducible refine (spec_l1Cur_pick.calls g s0_0 t271 t272 14 t273 t274 t275 w0 _ ?side1 ?side2 A4.out).mono ?_);(case side1=>repeat (first|(with_reducible first|exact HI0.out|apply IsS49.alloc|apply IsS49.drewN|apply IsS49.drew|apply IsS49.set_1|apply IsS49.set_2)|exact HI0.out));(case side2=>repeat (first|(with_reducible first|exact HB.out|apply below_alloc|apply pw_below_drewN|apply below_drew1|refine below_set ?_ (IsS49.ge HI0.out))|exact HB.out));rintro e w52 ⟨rfl,hi,hb,hk⟩;refine ⟨_,rfl,?_⟩;have n0_:=Aside0.mk (Kd.R_mono (Kd.R_keep (IsS49.apart (show IsS49 w0 _ g s0_0 t271 t272 from by repeat (first|(with_reducible first|exact HI0.out|apply IsS49.alloc|apply IsS49.drewN|apply IsS49.drew|apply IsS49.set_1|apply IsS49.set_2)|exact HI0.out)) (rz HO270.out) (by decide)) hk (fun _ h=>h.2)) (fun _ h=>h.1));have n1_:=Aside0.mk (KeepBut.trans (by repeat (first|(with_reducible first|exact HK.out|apply KeepBut.set_|apply keep_drewN|apply keep_drew|apply keep_alloc)|exact HK.out)) hk (.inl rfl));have n2_:=Aside0.mk (hb);have n3_:=Aside0.mk (hi);clear HO270 HK HB HI0;have HO270:=n0_;have HK:=n1_;have HB:=n2_;have HI0:=n3_;clear n0_ n1_ n2_ n3_;(try clear hb);(try clear hb2);(try clear hk);(try clear hi)))
      go_ret
      exact ⟨_,by first|rfl|(simp [errW_none,errW_some] <;> rfl)|(simp [*,errW_none,errW_some] <;> rfl),by (with_reducible repeat (first|apply Kd.R_alloc|apply Kd.R_drewN|apply Kd.R_drew));exact HO270.out,by repeat (first|(with_reducible first|exact HI0.out|apply IsS49.alloc|apply IsS49.drewN|apply IsS49.drew|apply IsS49.set_1|apply IsS49.set_2)|exact HI0.out),by repeat (first|(with_reducible first|exact HB.out|apply below_alloc|apply pw_below_drewN|apply below_drew1|refine below_set ?_ (IsS49.ge HI0.out))|exact HB.out),by repeat (first|(with_reducible first|exact HK.out|apply KeepBut.set_|apply keep_drewN|apply keep_drew|apply keep_alloc)|exact HK.out)⟩
/-! ### spec_DrawScaleChain: function 25 -/
def spec_DrawScaleChain.f (k : Nat) (l0 : List Int) : Option (List Int × List Int):=(spec_l1Cur_anyChain.f k l0 0 0 7).bind fun bt309=>((spec_l1Cur_anyChain.f k l0 bt309.2.1 bt309.2.2 7).bind fun bt314=>(some (bt309.1,bt314.1)))
theorem spec_DrawScaleChain.mono : ∀ a0 k,LeO (spec_DrawScaleChain.f k a0) (spec_DrawScaleChain.f (k + 1) a0):=by
 intro a0 k
 unfold spec_DrawScaleChain.f
 repeat' first
   | (with_reducible exact spec_l1Cur_anyChain.mono _ _ _ _ _)
   | (with_reducible exact LeO.refl _)
   | (with_reducible exact LeO.none _)
   | (with_reducible refine LeO.ite ?_ ?_)
   | (with_reducible refine LeO.bind ?_ (fun _=>?_))
   | exact spec_l1Cur_anyChain.mono _ _ _ _ _
   | exact LeO.none _
   | refine LeO.ite ?_ ?_
   | refine LeO.bind ?_ (fun _=>?_)
set_option maxHeartbeats 8000000 in
set_option maxRecDepth 100000 in
theorem spec_DrawScaleChain.calls (k : Nat) (A0 : Option Addr) (c0 : Nat) (l0 : List Int) (r1 : List Int) (r2 : List Int) (w : World) (hr0 : Kd.C (Kd.int .u8) w A0 l0.length l0) (hc0 : l0.length ≤ c0) (h : spec_DrawScaleChain.f k l0 = some (r1,r2)) :
  Calls Try.prog 25 #[.slice A0 l0.length c0] w fun e w'=>∃ v0_ v1_ : Value,e = .returned (.tuple #[v0_,v1_]) ∧ Kd.R (Kd.int .i64) 3 w' w.heap.size (fun k_=>some k_ ≠ (v1_ : Value).ownBlock) v0_ r1 ∧ Kd.R (Kd.int .i64) 3 w' w.heap.size (fun k_=>some k_ ≠ (v0_ : Value).ownBlock) v1_ r2 ∧ Below w.heap.size w w':=by
 have hu49:=Try.underlying49
 have HR0:=Aside0.mk hr0
 have HC0:=Aside0.mk hc0
 clear hr0 hc0
 have HB:=Aside0.mk (Below.refl w.heap.size w)
 have H : ((spec_l1Cur_anyChain.f k l0 0 0 7).bind fun bt309=>((spec_l1Cur_anyChain.f k l0 bt309.2.1 bt309.2.2 7).bind fun bt314=>(some (bt309.1,bt314.1)))) = some (r1,r2):=h
 clear h
 replace H:=Option.bind_eq_some_iff.mp H
 obtain ⟨⟨t309,t312,t313⟩,A20,H⟩:=H
 replace H : ((spec_l1Cur_anyChain.f k l0 t312 t313 7).bind fun bt314=>(some (t309,bt314.1))) = some (r1,r2):=H
 have A2:=Aside0.mk A20
 clear A20
 replace H:=Option.bind_eq_some_iff.mp H
 obtain ⟨⟨t314,t317,t318⟩,A30,H⟩:=H
 replace H : (some (t309,t314)) = some (r1,r2):=H
 have A3:=Aside0.mk A30
 clear A30
 simp only [Option.some.injEq,Prod.mk.injEq] at H
 obtain ⟨rfl,rfl⟩:=H
 go_enter Try.func25,Try.ntmps25
 go_wp2_with (first|((with_reducible refine gate_dst (N:=7) rfl ?_);refine box_event ?hg (N:=7) ?hd (cs:=#[.slice A0 l0.length c0,.int .i64 0,.int .u64 0]) (t:=49) ?hr ?_;(case hd=>rfl);(case hg=>rfl);(case hr=>first|(go_simp;done)|(go_simp;rfl));intro gb308 hg w4 hbox hb;have n0_:=Aside0.mk (below_step bz hb);have n1_:=Aside0.mk ((by rw [hg];exact (below_size bz) : w.heap.size ≤ gb308));have n2_:=Aside0.mk ((by rw [hg];exact (below_size bz) : w.heap.size ≤ gb308));have n3_:=Aside0.mk ((show IsS49 w w4 gb308 l0 0 0 from ⟨_,_,hbox,(by rw [hg];exact (below_size bz)),HR0.out⟩));clear HB;have HB:=n0_;have GW308:=n1_;have GE308:=n2_;have HI308:=n3_;clear n0_ n1_ n2_ n3_;clear hb hbox hg)|((with_reducible refine gate_callee (f:=30) rfl ?_);refine goesL_ (some 9) rfl rfl Try.func30 (by kernel_rfl) rfl #[.pointer (some ⟨gb308,0,none⟩),.int .i64 7] rfl mz ?_;(with_reducible refine (spec_l1Cur_anyChain.calls k gb308 l0 0 0 7 t309 t312 t313 w _ ?side1 ?side2 A2.out).mono ?_);(case side1=>repeat (first|(with_reducible first|exact HI308.out|apply IsS49.alloc|apply IsS49.drewN|apply IsS49.drew|apply IsS49.set_1|apply IsS49.set_2)|exact HI308.out));(case side2=>repeat (first|(with_reducible first|exact HB.out|apply below_alloc|apply pw_below_drewN|apply below_drew1|refine below_set ?_ (IsS49.ge HI308.out))|exact HB.out));rintro e w5 ⟨v310,rfl,ho0,hi,hb,hk⟩;refine ⟨_,rfl,?_⟩;have n0_:=Aside0.mk (Kd.R_lower ho0 (below_size (by repeat (first|(with_reducible first|exact HB.out|apply below_alloc|apply pw_below_drewN|apply below_drew1|refine below_set ?_ (IsS49.ge HI308.out))|exact HB.out))));have n1_:=Aside0.mk (hb);have n2_:=Aside0.mk (hi);clear HB HI308;have HO311:=n0_;have HB:=n1_;have HI308:=n2_;clear n0_ n1_ n2_;(try clear hb);(try clear hb2);(try clear hk);(try clear hi);(try clear ho0))|((with_reducible refine gate_callee (f:=30) rfl ?_);refine goesL_ (some 11) rfl rfl Try.func30 (by kernel_rfl) rfl #[.pointer (some ⟨gb308,0,none⟩),.int .i64 7] rfl mz ?_;(with_reducible refine (spec_l1Cur_anyChain.calls k gb308 l0 t312 t313 7 t314 t317 t318 w _ ?side1 ?side2 A3.out).mono ?_);(case side1=>repeat (first|(with_reducible first|exact HI308.out|apply IsS49.alloc|apply IsS49.drewN|apply IsS49.drew|apply IsS49.set_1|apply IsS49.set_2)|exact HI308.out));(case side2=>repeat (first|(with_reducible first|exact HB.out|apply below_alloc|apply pw_below_drewN|apply below_drew1|refine below_set ?_ (IsS49.ge HI308.out))|exact HB.out));rintro e w6 ⟨v315,rfl,ho0,hi,hb,hk⟩;refine ⟨_,rfl,?_⟩;have n0_:=Aside0.mk (Kd.R_mono (Kd.R_told (Kd.R_oldK (IsS49.apart (show IsS49 w _ gb308 l0 t312 t313 from by repeat (first|(with_reducible first|exact HI308.out|apply IsS49.alloc|apply IsS49.drewN|apply IsS49.drew|apply IsS49.set_1|apply IsS49.set_2)|exact HI308.out)) (rz HO311.out) (by decide)) hk) (Kd.R_base ho0)) (fun _ h_=>h_.1));have n1_:=Aside0.mk (Kd.R_lower (Kd.R_new' ho0 (Kd.R_lt (rz HO311.out))) (below_size (by repeat (first|(with_reducible first|exact HB.out|apply below_alloc|apply pw_below_drewN|apply below_drew1|refine below_set ?_ (IsS49.ge HI308.out))|exact HB.out))));have n2_:=Aside0.mk (hb);have n3_:=Aside0.mk (hi);clear HO311 HB HI308;have HO311:=n0_;have HO316:=n1_;have HB:=n2_;have HI308:=n3_;clear n0_ n1_ n2_ n3_;(try clear hb);(try clear hb2);(try clear hk);(try clear hi);(try clear ho0)))
 go_ret2
 exact ⟨_,_,by first|rfl|(simp [errW_none,errW_some] <;> rfl)|(simp [*,errW_none,errW_some] <;> rfl),by (with_reducible repeat (first|apply Kd.R_alloc|apply Kd.R_drewN|apply Kd.R_drew));exact Kd.R_mono HO311.out (fun _ hk=>hk.2),by (with_reducible repeat (first|apply Kd.R_alloc|apply Kd.R_drewN|apply Kd.R_drew));exact Kd.R_mono HO316.out (fun _ hk=>hk.2),by repeat (first|(with_reducible first|exact HB.out|apply below_alloc|apply pw_below_drewN|apply below_drew1|refine below_set ?_ (IsS49.ge HI308.out))|exact HB.out)⟩
/-! ### impl_toldChain: function 51 -/
def impl_toldChain.f (k : Nat) (l0 : List Int) : Option (List Int × Bool):=(impl_IsChain.f k l0).bind fun t319=>(if t319 = true then (some (l0,true)) else (some (([] : List Int),false)))
theorem impl_toldChain.mono : ∀ a0 k,LeO (impl_toldChain.f k a0) (impl_toldChain.f (k + 1) a0):=by
 intro a0 k
 unfold impl_toldChain.f
 repeat' first
   | (with_reducible exact impl_IsChain.mono _ _)
   | (with_reducible exact LeO.refl _)
   | (with_reducible exact LeO.none _)
   | (with_reducible refine LeO.ite ?_ ?_)
   | (with_reducible refine LeO.bind ?_ (fun _=>?_))
   | exact impl_IsChain.mono _ _
   | exact LeO.none _
   | refine LeO.ite ?_ ?_
   | refine LeO.bind ?_ (fun _=>?_)
set_option maxHeartbeats 8000000 in
set_option maxRecDepth 100000 in
theorem impl_toldChain.calls (k : Nat) (P0_ : Nat → Prop) (u9000_ : Value) (l0 : List Int) (r1 : List Int) (r2 : Bool) (w0 w : World) (hB : Below w0.heap.size w0 w) (ho0 : Kd.R (Kd.int .i64) 3 w w0.heap.size P0_ u9000_ l0) (h : impl_toldChain.f k l0 = some (r1,r2)) :
  Calls Try.prog 51 #[u9000_] w fun e w'=>∃ v0_ : Value,e = .returned (.tuple #[v0_,.bool r2]) ∧ Kd.R (Kd.int .i64) 3 w' w0.heap.size (fun k_=>(P0_ k_ ∨ w.heap.size ≤ k_)) v0_ r1 ∧ Below w0.heap.size w0 w' ∧ Kept w w' (fun k_=>P0_ k_):=by
 have HO0:=Aside0.mk (show Kd.R (Kd.int .i64) 3 w w0.heap.size (fun k_=>(P0_ k_ ∨ w.heap.size ≤ k_)) u9000_ l0 from Kd.R_mono ho0 (fun k_ hk=>(.inl hk)))
 have HK:=Aside0.mk (Kept.refl w (fun k_=>P0_ k_))
 have HW0:=Aside0.mk hB.size
 have HB:=Aside0.mk hB
 clear hB
 have H : ((impl_IsChain.f k l0).bind fun t319=>(if t319 = true then (some (l0,true)) else (some (([] : List Int),false)))) = some (r1,r2):=h
 clear h
 obtain ⟨t319,A2,H⟩:=bd H
 by_cases c3 : t319 = true
 ·subst c3
  rw [if_pos rfl] at H
  simp only [Option.some.injEq,Prod.mk.injEq] at H
  obtain ⟨rfl,rfl⟩:=H
  obtain ⟨Ao4,co4,eo4⟩:=Kd.R_slice HO0.out
  subst eo4
  go_enter Try.func51,Try.ntmps51
  go_wp2_with (first|((with_reducible refine gate_callee (f:=15) rfl ?_);refine goesL_ (some 5) rfl rfl Try.func15 (by kernel_rfl) rfl #[.slice Ao4 l0.length co4] rfl mz ?_;(with_reducible refine (impl_IsChain.calls k _ _ l0 true _ ?side1 ?side2 A2.out).mono ?_);(case side1=>exact cz (Kd.R_reads' HO0.out).2.2);(case side2=>exact (Kd.R_reads' HO0.out).2.1);rintro e w5 ⟨rfl,hb⟩;refine ⟨_,rfl,?_⟩;have n0_:=Aside0.mk (Kd.R_below (rz HO0.out) hb);have n1_:=Aside0.mk (Kept.below (S:=(fun k_=>P0_ k_)) (by repeat (first|(with_reducible first|exact HK.out|apply Kept.alloc|apply Kept.drewN|apply Kept.drew)|exact HK.out)) hb);have n2_:=Aside0.mk (below_step bz hb);clear HO0 HK HB;have HO0:=n0_;have HK:=n1_;have HB:=n2_;clear n0_ n1_ n2_;(try clear hb)))
  go_ret2
  exact ⟨_,by first|rfl|(simp [errW_none,errW_some] <;> rfl)|(simp [*,errW_none,errW_some] <;> rfl),by (with_reducible repeat (first|apply Kd.R_alloc|apply Kd.R_drewN|apply Kd.R_drew));exact HO0.out,by repeat (first|(with_reducible first|exact HB.out|apply below_alloc|apply pw_below_drewN|apply below_drew1)|exact HB.out),by repeat (first|(with_reducible first|exact HK.out|apply Kept.alloc|apply Kept.drewN|apply Kept.drew)|exact HK.out)⟩
 ·replace c3:=Bool.eq_false_iff.mpr c3
  subst c3
  rw [if_neg (show ¬ (false = true) by decide)] at H
  simp only [Option.some.injEq,Prod.mk.injEq] at H
  obtain ⟨rfl,rfl⟩:=H
  obtain ⟨Ao6,co6,eo6⟩:=Kd.R_slice HO0.out
  subst eo6
  go_enter Try.func51,Try.ntmps51
  go_wp2_with (first|((with_reducible refine gate_callee (f:=15) rfl ?_);refine goesL_ (some 5) rfl rfl Try.func15 (by kernel_rfl) rfl #[.slice Ao6 l0.length co6] rfl mz ?_;(with_reducible refine (impl_IsChain.calls k _ _ l0 false _ ?side1 ?side2 A2.out).mono ?_);(case side1=>exact cz (Kd.R_reads' HO0.out).2.2);(case side2=>exact (Kd.R_reads' HO0.out).2.1);rintro e w7 ⟨rfl,hb⟩;refine ⟨_,rfl,?_⟩;have n0_:=Aside0.mk (Kd.R_below (rz HO0.out) hb);have n1_:=Aside0.mk (Kept.below (S:=(fun k_=>P0_ k_)) (by repeat (first|(with_reducible first|exact HK.out|apply Kept.alloc|apply Kept.drewN|apply Kept.drew)|exact HK.out)) hb);have n2_:=Aside0.mk (below_step bz hb);clear HO0 HK HB;have HO0:=n0_;have HK:=n1_;have HB:=n2_;clear n0_ n1_ n2_;(try clear hb)))
  go_ret2
  exact ⟨_,by first|rfl|(simp [errW_none,errW_some] <;> rfl)|(simp [*,errW_none,errW_some] <;> rfl),by first|exact Kd.R_nil _ _ _ _ _|exact Kd.N_nil _ _ _ _ _|exact Kd.V_nil _ _ _ _ _|exact Kd.Q_nil _ _ _ _ _|exact Kd.S_nil _ _ _ _ _,by repeat (first|(with_reducible first|exact HB.out|apply below_alloc|apply pw_below_drewN|apply below_drew1)|exact HB.out),by repeat (first|(with_reducible first|exact HK.out|apply Kept.alloc|apply Kept.drewN|apply Kept.drew)|exact HK.out)⟩
/-! ### slices_Clone_int_int: function 53 -/
def slices_Clone_int_int.f (l0 : List Int) : Option (List Int):=if l0.length < 17592186044416 then some l0 else none
set_option maxHeartbeats 8000000 in
set_option maxRecDepth 100000 in
theorem slices_Clone_int_int.calls (A0 : Option Addr) (c0 : Nat) (l0 : List Int) (r : List Int) (w : World) (hr0 : Kd.C (Kd.int .i64) w A0 l0.length l0) (hc0 : l0.length ≤ c0) (h : slices_Clone_int_int.f l0 = some r) :
  Calls Try.prog 53 #[.slice A0 l0.length c0] w fun e w'=>∃ v0_ : Value,e = .returned (v0_) ∧ Kd.R (Kd.int .i64) 3 w' w.heap.size (fun _=>True) v0_ r ∧ Below w.heap.size w w':=by
 have hlr : l0.length < 17592186044416 ∧ l0 = r:=by
  unfold slices_Clone_int_int.f at h
  split at h
  ·exact ⟨by assumption,Option.some.inj h⟩
  ·cases h
 obtain ⟨hlt,rfl⟩:=hlr
 clear h
 cases A0 with
 | none=>
  have hl : l0 = []:=by
   by_cases hp : 0 < l0.length
   ·obtain ⟨ad,e,_⟩:=hr0.2.2 hp
    cases e
   ·exact List.eq_nil_of_length_eq_zero (by omega)
  subst hl
  have heq:=fun (W : World)=>Lib.run_eql_slice_nil (P:=Try.prog) W 24 3 none 0 c0 0 0 Try.underlying24
  go_enter Try.func53,Try.ntmps53
  go_wp2
  go_ret
  exact ⟨_,rfl,Kd.R_nil _ _ _ _ _,Below.refl _ _⟩
 | some a0=>
  have heq:=fun (W : World)=>Lib.run_eql_slice_nil (P:=Try.prog) W 24 3 (some a0) l0.length c0 0 0 Try.underlying24
  have HR0:=Aside0.mk hr0
  have HC0:=Aside0.mk hc0
  have LM:=Aside0.mk hlt
  clear hr0 hc0 hlt
  have HB:=Aside0.mk (Below.refl w.heap.size w)
  go_enter Try.func53,Try.ntmps53
  go_wp2_with (first|((with_reducible refine gate_dst (N:=5) rfl ?_);refine Kd.R_lit (Kd.int .i64) _ 3 ?hg (N:=5) ?hd (xs:=([] : List Int)) (inner:=[]) (ok:=fun _=>True) (okp:=fun _=>True) ?hr ?hp (fun _ hk=>hk) trivial (Below.refl _ _) (Nat.le_refl _) (by simp) ?_;(case hd=>rfl);(case hg=>rfl);(case hr=>first|(go_simp;done)|(go_simp;rfl));(case hp=>exact (Reps.none _ _));intro v119 w3 ho4 hb hg_ hnew_;clear hg_ hnew_;have HO120:=Aside0.mk ho4;have HB1:=Aside0.mk hb;clear hb ho4)|((with_reducible refine gate_builtin (b:=.append) (xs:=#[.tmp 5,.tmp 6]) rfl ?_);at_builtin;refine Kd.R_append_rows (Kd.int .i64) (w0:=w) w.heap.size rfl (.tmp 5) (.tmp 6) 24 3 (.int .i64 0) 8 rfl Try.underlying24 info3 rfl (by decide) (by omega) v119 [] l0 _ _ _ (fun _=>True) (fun _=>False) rfl rfl ?aO ?aR (fun _ _ h=>h) (fun _ h=>h.elim) ?aF ?aB ?aS ?aL ?_;(case aR=>exact Kd.C_below HR0.out HB1.out);(case aB=>exact HB1.out);(case aF=>exact (fun _ _=>trivial));(case aO=>exact HO120.out);(case aS=>exact HB1.out.size);(case aL=>have:=LM.out;simp only [List.length_nil];omega);intro v122 w5 ho hb hg hat;rw [List.nil_append] at ho;have HO2:=Aside0.mk ho;have HB2:=Aside0.mk hb;clear ho hb hg hat))
  go_ret
  exact ⟨_,rfl,HO2.out,HB2.out⟩
end Go.Proofs.Ytlefjgpkabijdaa.MFnScaledChains
--sq
