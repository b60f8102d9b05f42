import Derived.Test.YtlefjgpkabijdaaGreatDoorMFnChainsArePlansx0
namespace Go.Proofs.YtlefjgpkabijdaaGreatDoor.MFnChainsArePlans
open Go.RowKit Go.Proofs.YtlefjgpkabijdaaGreatDoorW.PrintWords Go.Proofs.YtlefjgpkabijdaaGreatDoorW.PrintLast Go.Proofs.YtlefjgpkabijdaaGreatDoorW.PrintMore Go.Proofs.YtlefjgpkabijdaaGreatDoorV Go.Proofs.YtlefjgpkabijdaaGreatDoorZ
attribute [local go_sem] max2_int min2_int max_two min_two max_three min_three max_four min_four   -- for this text's walks alone
set_option linter.unusedVariables false
set_option linter.unusedSimpArgs false
/-! ### impl_Plan_exponents: function 27 -/
mutual
def impl_Plan_exponents.l0 : Nat → List (List Int) → Int → Int → Int → List (S41) → List Int → Option ((List (List Int)))
 | 0,_,_,_,_,_,_=>none
 | k + 1,x3,x15,x16,x1000,x1001,x1002=>if x16 < x15 then (if 0 ≤ x1000 then (if (x1000 : Int).toNat ≤ 35184372088832 then ((some (List.replicate (x1000 : Int).toNat 0 : List Int)).bind fun y240=>(if 0 ≤ x16 then (if x16 < (y240.length : Int) then (if x3.length < 5864062014805 then (impl_Plan_exponents.l0 k (x3 ++ [(y240.set (x16 : Int).toNat 1)]) x15 (wrap64 (x16 + 1)) x1000 x1001 x1002) else (none)) else (none)) else (none))) else (none)) else (none)) else (impl_Plan_exponents.l1 k x3 x1001 (x1001.length : Int) 0)
def impl_Plan_exponents.l1 : Nat → List (List Int) → List (S41) → Int → Int → Option ((List (List Int)))
 | 0,_,_,_,_=>none
 | k + 1,x3,x35,x36,x37=>if x37 < x36 then (if 0 ≤ x37 then (if x37 < (x35.length : Int) then (if 0 ≤ ((rd_T41 x35 x37).f0) then (if ((rd_T41 x35 x37).f0) < (x3.length : Int) then (impl_Plan_exponents.l2 k x3 (([] : List Int)) x35 x36 x37 (rd_L3 x3 ((rd_T41 x35 x37).f0)) ((rd_L3 x3 ((rd_T41 x35 x37).f0)).length : Int) 0 ((rd_T41 x35 x37).f0) ((rd_T41 x35 x37).f1)) else (none)) else (none)) else (none)) else (none)) else (some x3)
def impl_Plan_exponents.l2 : Nat → List (List Int) → List Int → List (S41) → Int → Int → List Int → Int → Int → Int → Int → Option ((List (List Int)))
 | 0,_,_,_,_,_,_,_,_,_,_=>none
 | k + 1,x3,x8,x35,x36,x37,x46,x47,x48,x249000,x249001=>if x48 < x47 then (if 0 ≤ x48 then (if x48 < (x46.length : Int) then (if 0 ≤ x249001 then (if x249001 < (x3.length : Int) then (if x48 < ((rd_L3 x3 x249001).length : Int) then (if x8.length < 17592186044416 then (impl_Plan_exponents.l2 k x3 (x8 ++ [mn (wrap64 ((rd x46 x48) + (rd (rd_L3 x3 x249001) x48))) 1000001]) x35 x36 x37 x46 x47 (wrap64 (x48 + 1)) x249000 x249001) else (none)) else (none)) else (none)) else (none)) else (none)) else (none)) else (if x3.length < 5864062014805 then (impl_Plan_exponents.l1 k (x3 ++ [x8]) x35 x36 (wrap64 (x37 + 1))) else (none))
end
def impl_Plan_exponents.f (k : Nat) (a0_0 : Int) (l0_1 : List (S41)) (l0_2 : List Int) : Option ((List (List Int))):=impl_Plan_exponents.l0 k (([] : List (List Int))) a0_0 0 a0_0 l0_1 l0_2
theorem impl_Plan_exponents.mono_l : ∀ k,(∀ y0 y1 y2 y3 y4 y5,LeO (impl_Plan_exponents.l0 k y0 y1 y2 y3 y4 y5) (impl_Plan_exponents.l0 (k + 1) y0 y1 y2 y3 y4 y5)) ∧ (∀ y0 y1 y2 y3,LeO (impl_Plan_exponents.l1 k y0 y1 y2 y3) (impl_Plan_exponents.l1 (k + 1) y0 y1 y2 y3)) ∧ (∀ y0 y1 y2 y3 y4 y5 y6 y7 y8 y9,LeO (impl_Plan_exponents.l2 k y0 y1 y2 y3 y4 y5 y6 y7 y8 y9) (impl_Plan_exponents.l2 (k + 1) y0 y1 y2 y3 y4 y5 y6 y7 y8 y9))
 | 0=>⟨fun _ _ _ _ _ _ r h=>by simp [impl_Plan_exponents.l0] at h,fun _ _ _ _ r h=>by simp [impl_Plan_exponents.l1] at h,fun _ _ _ _ _ _ _ _ _ _ r h=>by simp [impl_Plan_exponents.l2] at h⟩
 | k + 1=>by
  obtain ⟨ih0,ih1,ih2⟩:=impl_Plan_exponents.mono_l k
  refine ⟨?_,?_,?_⟩
  ·intro y0 y1 y2 y3 y4 y5
   unfold impl_Plan_exponents.l0
   repeat' first
   | (with_reducible exact ih0 _ _ _ _ _ _)
   | (with_reducible exact ih1 _ _ _ _)
   | (with_reducible exact ih2 _ _ _ _ _ _ _ _ _ _)
   | (with_reducible exact LeO.refl _)
   | (with_reducible exact LeO.none _)
   | (with_reducible refine LeO.ite ?_ ?_)
   | (with_reducible refine LeO.bind ?_ (fun _=>?_))
   | exact ih0 _ _ _ _ _ _
   | exact ih1 _ _ _ _
   | exact ih2 _ _ _ _ _ _ _ _ _ _
   | exact LeO.none _
   | refine LeO.ite ?_ ?_
   | refine LeO.bind ?_ (fun _=>?_)
  ·intro y0 y1 y2 y3
   unfold impl_Plan_exponents.l1
   repeat' first
   | (with_reducible exact ih0 _ _ _ _ _ _)
   | (with_reducible exact ih1 _ _ _ _)
   | (with_reducible exact ih2 _ _ _ _ _ _ _ _ _ _)
   | (with_reducible exact LeO.refl _)
   | (with_reducible exact LeO.none _)
   | (with_reducible refine LeO.ite ?_ ?_)
   | (with_reducible refine LeO.bind ?_ (fun _=>?_))
   | exact ih0 _ _ _ _ _ _
   | exact ih1 _ _ _ _
   | exact ih2 _ _ _ _ _ _ _ _ _ _
   | exact LeO.none _
   | refine LeO.ite ?_ ?_
   | refine LeO.bind ?_ (fun _=>?_)
  ·intro y0 y1 y2 y3 y4 y5 y6 y7 y8 y9
   unfold impl_Plan_exponents.l2
   repeat' first
   | (with_reducible exact ih0 _ _ _ _ _ _)
   | (with_reducible exact ih1 _ _ _ _)
   | (with_reducible exact ih2 _ _ _ _ _ _ _ _ _ _)
   | (with_reducible exact LeO.refl _)
   | (with_reducible exact LeO.none _)
   | (with_reducible refine LeO.ite ?_ ?_)
   | (with_reducible refine LeO.bind ?_ (fun _=>?_))
   | exact ih0 _ _ _ _ _ _
   | exact ih1 _ _ _ _
   | exact ih2 _ _ _ _ _ _ _ _ _ _
   | exact LeO.none _
   | refine LeO.ite ?_ ?_
   | refine LeO.bind ?_ (fun _=>?_)
theorem impl_Plan_exponents.mono : ∀ a0 a1 a2 k,LeO (impl_Plan_exponents.f k a0 a1 a2) (impl_Plan_exponents.f (k + 1) a0 a1 a2):=by
 intro a0 a1 a2 k
 obtain ⟨ih0,ih1,ih2⟩:=impl_Plan_exponents.mono_l k
 unfold impl_Plan_exponents.f
 repeat' first
   | (with_reducible exact ih0 _ _ _ _ _ _)
   | (with_reducible exact ih1 _ _ _ _)
   | (with_reducible exact ih2 _ _ _ _ _ _ _ _ _ _)
   | (with_reducible exact LeO.refl _)
   | (with_reducible exact LeO.none _)
   | (with_reducible refine LeO.ite ?_ ?_)
   | (with_reducible refine LeO.bind ?_ (fun _=>?_))
   | exact ih0 _ _ _ _ _ _
   | exact ih1 _ _ _ _
   | exact ih2 _ _ _ _ _ _ _ _ _ _
   | exact LeO.none _
   | refine LeO.ite ?_ ?_
   | refine LeO.bind ?_ (fun _=>?_)
set_option maxHeartbeats 8000000 in
set_option maxRecDepth 100000 in
theorem impl_Plan_exponents.calls (k : Nat) (g0_ : Nat) (a0_0 : Int) (A0_1 : Option Addr) (c0_1 : Nat) (l0_1 : List (S41)) (A0_2 : Option Addr) (c0_2 : Nat) (l0_2 : List Int) (r : List (List Int)) (w : World) (hx0_ : w.heap[g0_]? = some (.cells #[.int .i64 a0_0,.slice A0_1 l0_1.length c0_1,.slice A0_2 l0_2.length c0_2] 28 (0,0))) (hr0_1 : Kd.C k41 w A0_1 l0_1.length l0_1) (hc0_1 : l0_1.length ≤ c0_1) (hr0_2 : Kd.C (Kd.int .i64) w A0_2 l0_2.length l0_2) (hc0_2 : l0_2.length ≤ c0_2) (h : impl_Plan_exponents.f k a0_0 l0_1 l0_2 = some r) :
  Calls Tryz.prog 27 #[.pointer (some ⟨g0_,0,none⟩)] w fun e w'=>∃ v0_ : Value,e = .returned (v0_) ∧ Kd.S (Kd.slice 3 (Kd.int .i64)) 24 w' w.heap.size (fun _=>True) v0_ r ∧ Below w.heap.size w w':=by
 have hu41:=Tryz.underlying41
 have HR0_1:=Aside0.mk hr0_1
 have HC0_1:=Aside0.mk hc0_1
 clear hr0_1 hc0_1
 have HR0_2:=Aside0.mk hr0_2
 have HC0_2:=Aside0.mk hc0_2
 clear hr0_2 hc0_2
 have BK0:=Aside0.mk hx0_
 clear hx0_
 have HB:=Aside0.mk (Below.refl w.heap.size w)
 have H : (impl_Plan_exponents.l0 k (([] : List (List Int))) a0_0 0 a0_0 l0_1 l0_2) = some r:=h
 clear h
 obtain ⟨y237,hy237⟩ : ∃ y_ : List (List Int),y_ = (([] : List (List Int))):=⟨_,rfl⟩
 replace H : (impl_Plan_exponents.l0 k y237 a0_0 0 a0_0 l0_1 l0_2) = some r:=by first|(rw [hy237];with_reducible exact H)|(have H2_:=(Option.bind_some _ _).symm.trans H;rw [hy237];with_reducible exact H2_)|(have H2_:=(Option.bind_some _ _).symm.trans H;with_reducible exact H2_)|with_reducible exact H|(rw [hy237];exact H)|exact H
 have Ny237:=Aside0.mk hy237
 clear hy237
 have H':=Aside0.mk H
 clear H
 go_enter Tryz.func27,Tryz.ntmps27
 go_wp2_with (first|((with_reducible refine gate_dst (N:=11) rfl ?_);refine Kd.S_lit (Kd.slice 3 (Kd.int .i64)) _ 24 ?hg (N:=11) ?hd (xs:=([] : List (List Int))) (inner:=[]) (ok:=fun _=>True) (okp:=fun _=>True) ?hr ?hp (fun _ hk=>hk) trivial (Below.refl _ _) (Nat.le_refl _) (by simp) ?_;(case hd=>rfl);(case hg=>rfl);(case hr=>first|(go_simp;done)|(go_simp;rfl));(case hp=>exact (Reps.none _ _));intro v238 w2 ho3 hb hg_ hnew_;clear hg_ hnew_;(first|rw [← Ny237.out] at ho3|(simp only [Int.reduceToNat] at ho3;rw [← Ny237.out] at ho3));have n0_:=Aside0.mk (Kd.S_lower ho3 (below_size bs));have n1_:=Aside0.mk (kb BK0.out hb);have n2_:=Aside0.mk (below_step bs hb);clear BK0 HB;have HO239:=n0_;have BK0:=n1_;have HB:=n2_;clear n0_ n1_ n2_;clear hb ho3;have hcz4_0 : w2.cell? ⟨g0_,0,none⟩ = some (.int .i64 a0_0):=(blk_cell BK0.out 0).trans rfl;have hcz4_1 : w2.cell? ⟨g0_,1,none⟩ = some (.slice A0_1 l0_1.length c0_1):=(blk_cell BK0.out 1).trans rfl;have hcz4_2 : w2.cell? ⟨g0_,2,none⟩ = some (.slice A0_2 l0_2.length c0_2):=(blk_cell BK0.out 2).trans rfl;have hfz4_0:=blk_frozen BK0.out 0;have hfz4_1:=blk_frozen BK0.out 1;have hfz4_2:=blk_frozen BK0.out 2))
 go_loopg [3,16] k (fun kq v3 v16 w'=>∃ (x3_1 : List (List Int)) (x16_1 : Int),v16 = .int .i64 x16_1 ∧ Aside0 (impl_Plan_exponents.l0 kq x3_1 a0_0 x16_1 a0_0 l0_1 l0_2 = some r) ∧ Aside0 (kq ≤ k) ∧ Aside0 (Kd.S (Kd.slice 3 (Kd.int .i64)) 24 w' w.heap.size (fun _=>True) v3 x3_1) ∧ Aside0 (w'.heap[g0_]? = some (.cells #[.int .i64 a0_0,(.slice A0_1 l0_1.length c0_1),(.slice A0_2 l0_2.length c0_2)] 28 (0,0))) ∧ Aside0 (Below w.heap.size w w'))
 case atStart=>exact ⟨(y237),(0),fz,H',⟨Nat.le_refl _⟩,⟨by (with_reducible repeat (first|apply Kd.S_alloc|apply Kd.S_drewN|apply Kd.S_drew));exact HO239.out⟩,⟨by (with_reducible repeat (first|refine blk_drewN ?_ _|refine blk_drew ?_|refine blk_alloc ?_ _));exact BK0.out⟩,⟨by repeat (first|(with_reducible first|exact HB.out|apply below_alloc|apply pw_below_drewN|apply below_drew1|refine below_set ?_ GE0.out)|exact HB.out)⟩⟩
 case round=>
  clear H'
  try clear c2
  try clear p2
  try clear hcz4_0
  try clear hcz4_1
  try clear hcz4_2
  try clear hfz4_0
  try clear hfz4_1
  try clear hfz4_2
  obtain ⟨x3_1,x16_1,rfl,HA,HK1,HO_3,BK0,HB⟩:=hrel
  cases gk with
  | zero=>exact absurd HA.out (by simp [impl_Plan_exponents.l0])
  | succ k1=>
   have H:=HA.out
   clear HA
   simp only [impl_Plan_exponents.l0] at H
   by_cases c5 : x16_1 < a0_0
   ·rw [if_pos c5] at H
    have c5b0 : decide (x16_1 < a0_0) = true:=decide_eq_true c5
    clear c5
    by_cases c6 : 0 ≤ a0_0
    ·rw [if_pos c6] at H
     have c6b0:=eq_true c6
     have c6b1 : decide (0 ≤ a0_0) = true:=decide_eq_true c6
     clear c6
     by_cases c7 : (a0_0 : Int).toNat ≤ 35184372088832
     ·rw [if_pos c7] at H
      have c7b0:=eq_true c7
      have c7b1 : decide ((a0_0 : Int).toNat ≤ 35184372088832) = true:=decide_eq_true c7
      clear c7
      obtain ⟨y240,hy240⟩ : ∃ y_ : List Int,y_ = (List.replicate (a0_0 : Int).toNat 0):=⟨_,rfl⟩
      replace H : (if 0 ≤ x16_1 then (if x16_1 < (y240.length : Int) then (if x3_1.length < 5864062014805 then (impl_Plan_exponents.l0 k1 (x3_1 ++ [(y240.set (x16_1 : Int).toNat 1)]) a0_0 (wrap64 (x16_1 + 1)) a0_0 l0_1 l0_2) else (none)) else (none)) else (none)) = some r:=by first|(rw [hy240];with_reducible exact H)|(have H2_:=(Option.bind_some _ _).symm.trans H;rw [hy240];with_reducible exact H2_)|(have H2_:=(Option.bind_some _ _).symm.trans H;with_reducible exact H2_)|with_reducible exact H|(rw [hy240];exact H)|exact H
      have Ny240:=Aside0.mk hy240
      clear hy240
      by_cases c8 : 0 ≤ x16_1
      ·rw [if_pos c8] at H
       have c8b0 : decide (0 ≤ x16_1) = true:=decide_eq_true c8
       clear c8
       by_cases c9 : x16_1 < (y240.length : Int)
       ·rw [if_pos c9] at H
        have c9b0 : decide (x16_1 < (y240.length : Int)) = true:=decide_eq_true c9
        clear c9
        obtain ⟨y243,hy243⟩ : ∃ y_ : List Int,y_ = (y240.set (x16_1 : Int).toNat 1):=⟨_,rfl⟩
        replace H : (if x3_1.length < 5864062014805 then (impl_Plan_exponents.l0 k1 (x3_1 ++ [y243]) a0_0 (wrap64 (x16_1 + 1)) a0_0 l0_1 l0_2) else (none)) = some r:=by first|(rw [hy243];with_reducible exact H)|(have H2_:=(Option.bind_some _ _).symm.trans H;rw [hy243];with_reducible exact H2_)|(have H2_:=(Option.bind_some _ _).symm.trans H;with_reducible exact H2_)|with_reducible exact H|(rw [hy243];exact H)|exact H
        have Ny243:=Aside0.mk hy243
        clear hy243
        by_cases c11 : x3_1.length < 5864062014805
        ·rw [if_pos c11] at H
         have LMc11:=Aside0.mk c11
         clear c11
         obtain ⟨y244,hy244⟩ : ∃ y_ : List (List Int),y_ = (x3_1 ++ [y243]):=⟨_,rfl⟩
         replace H : (impl_Plan_exponents.l0 k1 y244 a0_0 (wrap64 (x16_1 + 1)) a0_0 l0_1 l0_2) = some r:=by first|(rw [hy244];with_reducible exact H)|(have H2_:=(Option.bind_some _ _).symm.trans H;rw [hy244];with_reducible exact H2_)|(have H2_:=(Option.bind_some _ _).symm.trans H;with_reducible exact H2_)|with_reducible exact H|(rw [hy244];exact H)|exact H
         have Ny244:=Aside0.mk hy244
         clear hy244
         have H':=Aside0.mk H
         clear H
         have hcz12_0 : wr.cell? ⟨g0_,0,none⟩ = some (.int .i64 a0_0):=(blk_cell BK0.out 0).trans rfl
         have hcz12_1 : wr.cell? ⟨g0_,1,none⟩ = some (.slice A0_1 l0_1.length c0_1):=(blk_cell BK0.out 1).trans rfl
         have hcz12_2 : wr.cell? ⟨g0_,2,none⟩ = some (.slice A0_2 l0_2.length c0_2):=(blk_cell BK0.out 2).trans rfl
         have hfz12_0:=blk_frozen BK0.out 0
         have hfz12_1:=blk_frozen BK0.out 1
         have hfz12_2:=blk_frozen BK0.out 2
         go_wp2_with (first|((with_reducible refine gate_dst (N:=23) rfl ?_);refine Kd.R_make (Kd.int .i64) _ 3 rfl (N:=23) rfl 24 _ _ rfl a0_0 rfl rfl Tryz.underlying24 (.int .i64 0) 8 info3 rfl (by decide) (by omega) 0 (ok:=fun _=>True) (okp:=fun _=>True) rfl (fun _ hk=>hk) trivial (of_decide_eq_true az) (Nat.le_trans (Nat.mul_le_mul_right _ (of_decide_eq_true az : a0_0.toNat ≤ 35184372088832)) (by omega)) (Below.refl _ _) (Nat.le_refl _) ?_;intro v241 w13 ho14 hb hg_ hnew_;clear hg_ hnew_;(first|rw [← Ny240.out] at ho14|(simp only [Int.reduceToNat] at ho14;rw [← Ny240.out] at ho14));have n0_:=Aside0.mk (Kd.S_elder' (by (with_reducible repeat (first|apply Kd.S_alloc|apply Kd.S_drewN|apply Kd.S_drew));exact HO_3.out) (Kd.R_base ho14) hb);have n1_:=Aside0.mk (Kd.R_lower ho14 (below_size bs));have n2_:=Aside0.mk (kb BK0.out hb);have n3_:=Aside0.mk (below_step bs hb);clear HO_3 BK0 HB;have HO_3:=n0_;have HO242:=n1_;have BK0:=n2_;have HB:=n3_;clear n0_ n1_ n2_ n3_;clear hb ho14;have p10 : 0 ≤ (x16_1 : Int):=of_decide_eq_true az;have q10 : (x16_1 : Int) < ((y240.length : Int) : Int):=of_decide_eq_true az;obtain ⟨go10,co10,eo10,gb10,gl10,cl10,HG10⟩:=Kd.R_form HO242.out (by omega);(first|cases eo10|(injection eo10 with ea_ en_ ec_;(first|subst ea_|(injection ea_ with ea_;subst ea_));subst ec_;clear en_));have GB10:=Aside0.mk gb10;have GG10:=Aside0.mk HG10;clear gb10 gl10 HG10;obtain ⟨hx10_0,hf10_0⟩:=Kd.R_celln 0 HO242.out (x16_1 : Int) p10 q10;replace p10:=eq_true p10;replace q10:=eq_true q10;obtain ⟨hy15_,hz15_⟩:=Kd.R_celln 0 HO242.out (x16_1 : Int) (of_decide_eq_true az) (of_decide_eq_true az);have HP15:=Kd.R_putg HO242.out (x16_1 : Int) 1)|((with_reducible refine gate_store (t:=3) (p:=26) rfl ?_);refine store_event (t:=3) (p:=26) (v:=?vo_w16) (w1:=(w13.setCell ⟨go10,(x16_1 : Int).toNat,none⟩ (.int .i64 1))) ?hg ?ho ?hn ?hr ?_;(case ho=>rfl);(case hg=>rfl);(case hn=>rfl);(case hr=>first|(go_simp;done)|(go_simp;rfl));intro w16 hw;have hg : w13.grownBy w16 (some go10):=(by rw [hw];exact HP15.2);have hp_ : Kd.R (Kd.int .i64) 3 w16 w.heap.size (fun _=>True) (.slice (some ⟨go10,0,none⟩) y240.length co10) y243:=(by rw [hw,Ny243.out];exact HP15.1);clear HP15;have n0_:=Aside0.mk (Kd.S_after (v:=(.slice (some ⟨go10,0,none⟩) y240.length co10)) (v1:=(.slice (some ⟨go10,0,none⟩) y240.length co10)) (ok:=(fun _=>True)) (by (with_reducible repeat (first|apply Kd.S_alloc|apply Kd.S_drewN|apply Kd.S_drew));exact HO_3.out) hg (.inl rfl));have n1_:=Aside0.mk (blk_grown (g:=g0_) (o:=.cells #[.int .i64 a0_0,.slice A0_1 l0_1.length c0_1,.slice A0_2 l0_2.length c0_2] 28 (0,0)) (kz BK0.out) hg (Kd.R_ne HO242.out BK0.out (by decide)));have n2_:=Aside0.mk (hp_);have n3_:=Aside0.mk ((by rw [hw];exact below_set (HB.out) GB10.out : Below w.heap.size w w16));clear HO_3 BK0 HO242 HB;have HO_3:=n0_;have BK0:=n1_;have HO242:=n2_;have HB:=n3_;clear n0_ n1_ n2_ n3_;clear hg hw hp_)|((with_reducible refine gate_builtin (b:=.append) (xs:=#[.tmp 27,.tmp 29]) rfl ?_);at_builtin;refine Kd.S_append (Kd.slice 3 (Kd.int .i64)) (w0:=w) w.heap.size rfl (.tmp 27) (.tmp 29) 57 24 (.slice none 0 0) 24 rfl Tryz.underlying57 info24 rfl (by decide) (by omega) u3 x3_1 y243 [.slice (some ⟨go10,0,none⟩) y240.length co10] (fun _=>True) (fun k_=>some k_ = (.slice (some ⟨go10,0,none⟩) y240.length co10 : Value).ownBlock) rfl rfl ?aP (fun k_ hk_=>((Kd.R_mono (ok':=fun k_=>((fun _=>True)) k_ ∧ some k_ ≠ (u3 : Value).ownBlock) (Kd.R_apart' (HO242.out) (Kd.S_typed HO_3.out) (by decide)) (fun k_ hk=>⟨trivial,hk.2⟩))).1 k_ hk_.symm) ?aF ?aO ?aB ?aS ?aL ?_;(case aP=>exact Kd.M_row (Kd.R_mono (Kd.R_tight rfl (Kd.R_mono (ok':=fun k_=>((fun _=>True)) k_ ∧ some k_ ≠ (u3 : Value).ownBlock) (Kd.R_apart' (HO242.out) (Kd.S_typed HO_3.out) (by decide)) (fun k_ hk=>⟨trivial,hk.2⟩))) (fun _ h_=>h_)));(case aB=>exact bs);(case aF=>exact (fun _ _=>trivial));(case aO=>exact (by (with_reducible repeat (first|apply Kd.S_alloc|apply Kd.S_drewN|apply Kd.S_drew));exact Kd.S_mono HO_3.out (fun k_ hk=>⟨trivial,fun e_=>hk.2 e_⟩)));(case aS=>exact (below_size bs));(case aL=>have:=LMc11.out;omega);intro v245 w17 ho hb hg hat;rw [← Ny244.out] at ho;have n0_:=Aside0.mk (blk_grown (g:=g0_) (o:=.cells #[.int .i64 a0_0,.slice A0_1 l0_1.length c0_1,.slice A0_2 l0_2.length c0_2] 28 (0,0)) (kz BK0.out) hg (Kd.S_ne HO_3.out BK0.out (by decide)));have n1_:=Aside0.mk (hb);have n2_:=Aside0.mk (ho);clear BK0 HB HO_3 HO242;have BK0:=n0_;have HB:=n1_;have HO246:=n2_;clear n0_ n1_ n2_;clear ho hb hg hat))
         go_roundg k1
         case measure=>have:=HK1.out;omega
         case rel=>exact ⟨(y244),(wrap64 (x16_1 + 1)),fz,H',⟨by have:=HK1.out;omega⟩,⟨by (with_reducible repeat (first|apply Kd.S_alloc|apply Kd.S_drewN|apply Kd.S_drew));exact HO246.out⟩,⟨by (with_reducible repeat (first|refine blk_drewN ?_ _|refine blk_drew ?_|refine blk_alloc ?_ _));exact BK0.out⟩,⟨by repeat (first|(with_reducible first|exact HB.out|apply below_alloc|apply pw_below_drewN|apply below_drew1|refine below_set ?_ GE0.out)|exact HB.out)⟩⟩
        ·rw [if_neg c11] at H
         exact absurd H (by simp)
       ·rw [if_neg c9] at H
        exact absurd H (by simp)
      ·rw [if_neg c8] at H
       exact absurd H (by simp)
     ·rw [if_neg c7] at H
      exact absurd H (by simp)
    ·rw [if_neg c6] at H
     exact absurd H (by simp)
   ·rw [if_neg c5] at H
    have c5b0 : decide (x16_1 < a0_0) = false:=decide_eq_false c5
    clear c5
    have H':=Aside0.mk H
    clear H
    have hcz18_0 : wr.cell? ⟨g0_,0,none⟩ = some (.int .i64 a0_0):=(blk_cell BK0.out 0).trans rfl
    have hcz18_1 : wr.cell? ⟨g0_,1,none⟩ = some (.slice A0_1 l0_1.length c0_1):=(blk_cell BK0.out 1).trans rfl
    have hcz18_2 : wr.cell? ⟨g0_,2,none⟩ = some (.slice A0_2 l0_2.length c0_2):=(blk_cell BK0.out 2).trans rfl
    have hfz18_0:=blk_frozen BK0.out 0
    have hfz18_1:=blk_frozen BK0.out 1
    have hfz18_2:=blk_frozen BK0.out 2
    go_wp2
    go_loopg [3,37] k1 (fun kq v3 v37 w'=>∃ (x3_2 : List (List Int)) (x37_2 : Int),v37 = .int .i64 x37_2 ∧ Aside0 (impl_Plan_exponents.l1 kq x3_2 l0_1 (l0_1.length : Int) x37_2 = some r) ∧ Aside0 (kq ≤ k1) ∧ Aside0 (Kd.S (Kd.slice 3 (Kd.int .i64)) 24 w' w.heap.size (fun _=>True) v3 x3_2) ∧ Aside0 (w'.heap[g0_]? = some (.cells #[.int .i64 a0_0,(.slice A0_1 l0_1.length c0_1),(.slice A0_2 l0_2.length c0_2)] 28 (0,0))) ∧ Aside0 (Below w.heap.size w w'))
    case atStart=>exact ⟨(x3_1),(0),fz,H',⟨Nat.le_refl _⟩,⟨by (with_reducible repeat (first|apply Kd.S_alloc|apply Kd.S_drewN|apply Kd.S_drew));exact HO_3.out⟩,⟨by (with_reducible repeat (first|refine blk_drewN ?_ _|refine blk_drew ?_|refine blk_alloc ?_ _));exact BK0.out⟩,⟨by repeat (first|(with_reducible first|exact HB.out|apply below_alloc|apply pw_below_drewN|apply below_drew1|refine below_set ?_ GE0.out)|exact HB.out)⟩⟩
    case round=>
     clear H'
     try clear c1
     try clear p1
     try clear q1
     try clear hx1
     try clear hf1
     try clear c2
     try clear p2
     try clear c5
     try clear c5b0
     try clear c6
     try clear c6b0
     try clear c6b1
     try clear p6
     try clear c7
     try clear c7b0
     try clear c7b1
     try clear c8
     try clear c8b0
     try clear c9
     try clear c9b0
     try clear p10
     try clear q10
     try clear hx10
     try clear hf10
     try clear c11
     try clear hcz12_0
     try clear hcz12_1
     try clear hcz12_2
     try clear hcz18_0
     try clear hcz18_1
     try clear hcz18_2
     try clear hcz4_0
     try clear hcz4_1
     try clear hcz4_2
     try clear hfz12_0
     try clear hfz12_1
     try clear hfz12_2
     try clear hfz18_0
     try clear hfz18_1
     try clear hfz18_2
     try clear hfz4_0
     try clear hfz4_1
     try clear hfz4_2
     try clear hx10_0
     try clear p10
     try clear p2
     try clear q10
     obtain ⟨x3_2,x37_2,rfl,HA,HK2,HO_3,BK0,HB⟩:=hrel
     cases gk with
     | zero=>exact absurd HA.out (by simp [impl_Plan_exponents.l1])
     | succ k2=>
      have H:=HA.out
      clear HA
      simp only [impl_Plan_exponents.l1] at H
      by_cases c19 : x37_2 < (l0_1.length : Int)
      ·rw [if_pos c19] at H
       have c19b0 : decide (x37_2 < (l0_1.length : Int)) = true:=decide_eq_true c19
       clear c19
       by_cases c20 : 0 ≤ x37_2
       ·rw [if_pos c20] at H
        have c20b0 : decide (0 ≤ x37_2) = true:=decide_eq_true c20
        clear c20
        by_cases c21 : x37_2 < (l0_1.length : Int)
        ·rw [if_pos c21] at H
         have c21b0 : decide (x37_2 < (l0_1.length : Int)) = true:=decide_eq_true c21
         clear c21
         obtain ⟨y249,hy249⟩ : ∃ y_ : List Int,y_ = (([] : List Int)):=⟨_,rfl⟩
         replace H : (if 0 ≤ ((rd_T41 l0_1 x37_2).f0) then (if ((rd_T41 l0_1 x37_2).f0) < (x3_2.length : Int) then (impl_Plan_exponents.l2 k2 x3_2 y249 l0_1 (l0_1.length : Int) x37_2 (rd_L3 x3_2 ((rd_T41 l0_1 x37_2).f0)) ((rd_L3 x3_2 ((rd_T41 l0_1 x37_2).f0)).length : Int) 0 ((rd_T41 l0_1 x37_2).f0) ((rd_T41 l0_1 x37_2).f1)) else (none)) else (none)) = some r:=by first|(rw [hy249];with_reducible exact H)|(have H2_:=(Option.bind_some _ _).symm.trans H;rw [hy249];with_reducible exact H2_)|(have H2_:=(Option.bind_some _ _).symm.trans H;with_reducible exact H2_)|with_reducible exact H|(rw [hy249];exact H)|exact H
         have Ny249:=Aside0.mk hy249
         clear hy249
         by_cases c22 : 0 ≤ ((rd_T41 l0_1 x37_2).f0)
         ·rw [if_pos c22] at H
          have c22b0 : decide (0 ≤ ((rd_T41 l0_1 x37_2).f0)) = true:=decide_eq_true c22
          clear c22
          by_cases c23 : ((rd_T41 l0_1 x37_2).f0) < (x3_2.length : Int)
          ·rw [if_pos c23] at H
           have c23b0 : decide (((rd_T41 l0_1 x37_2).f0) < (x3_2.length : Int)) = true:=decide_eq_true c23
           clear c23
           have H':=Aside0.mk H
           clear H
           have p247 : 0 ≤ (x37_2 : Int):=of_decide_eq_true az
           have q247 : x37_2 < (l0_1.length : Int):=of_decide_eq_true az
           obtain ⟨ad247,e247,hx247_0,hx247_1⟩:=at_T41 HR0_1.out x37_2 p247 q247
           cases e247
           replace hx247_0:=(HB.out.cell (World.block_lt_of_cell? w _ hx247_0)).trans hx247_0
           replace hx247_1:=(HB.out.cell (World.block_lt_of_cell? w _ hx247_1)).trans hx247_1
           replace p247:=eq_true p247
           replace q247:=eq_true q247
           go_wp2_with (first|((with_reducible refine gate_dst (N:=7) rfl ?_);refine box_event ?hg (N:=7) ?hd (cs:=#[.int .i64 0,.int .i64 0]) (t:=41) ?hr ?_;(case hd=>rfl);(case hg=>rfl);(case hr=>first|(go_simp;done)|(go_simp;rfl));intro gb248 hg w24 hbox hb;have n0_:=Aside0.mk (Kd.S_below (by (with_reducible repeat (first|apply Kd.S_alloc|apply Kd.S_drewN|apply Kd.S_drew));exact HO_3.out) hb);have n1_:=Aside0.mk (kb BK0.out hb);have n2_:=Aside0.mk (below_step bs hb);have n3_:=Aside0.mk (hbox);have n4_:=Aside0.mk ((by rw [hg];exact (below_size bs) : w.heap.size ≤ gb248));have n5_:=Aside0.mk ((by rw [hg];exact (below_size bs) : w.heap.size ≤ gb248));have n6_:=Aside0.mk (kn hg BK0.out);have n7_:=Aside0.mk (km hg BK0.out);clear HO_3 BK0 HB;have HO_3:=n0_;have BK0:=n1_;have HB:=n2_;have BK248:=n3_;have GW248:=n4_;have GE248:=n5_;have NB0_248:=n6_;have NB248_0:=n7_;clear n0_ n1_ n2_ n3_ n4_ n5_ n6_ n7_;clear hb hbox hg;have hnb25:=NB248_0.out;have hnc25:=NB0_248.out;have hcz26_0 : w24.cell? ⟨gb248,0,none⟩ = some (.int .i64 0):=(blk_cell BK248.out 0).trans rfl;have hcz26_1 : w24.cell? ⟨gb248,1,none⟩ = some (.int .i64 0):=(blk_cell BK248.out 1).trans rfl;have hfz26_0:=blk_frozen BK248.out 0;have hfz26_1:=blk_frozen BK248.out 1)|((with_reducible refine gate_dst (N:=41) rfl ?_);refine Kd.R_lit (Kd.int .i64) _ 3 ?hg (N:=41) ?hd (xs:=([] : List Int)) (inner:=[]) (ok:=fun _=>True) (okp:=fun _=>True) ?hr ?hp (fun _ hk=>hk) trivial (Below.refl _ _) (Nat.le_refl _) (by simp) ?_;(case hd=>rfl);(case hg=>rfl);(case hr=>first|(go_simp;done)|(go_simp;rfl));(case hp=>exact (Reps.none _ _));intro v250 w27 ho28 hb hg_ hnew_;clear hg_ hnew_;(first|rw [← Ny249.out] at ho28|(simp only [Int.reduceToNat] at ho28;rw [← Ny249.out] at ho28));have n0_:=Aside0.mk (Kd.S_elder' (by (with_reducible repeat (first|apply Kd.S_alloc|apply Kd.S_drewN|apply Kd.S_drew));exact (Kd.S_mono (Kd.S_far (p:=⟨gb248,1,none⟩) (Kd.S_far (p:=⟨gb248,0,none⟩) (Kd.S_types HO_3.out BK248.out (by decide)) (fun _ hk=>hk.2) (.int .i64 ((rd_T41 l0_1 x37_2).f0))) (fun _ hk=>hk.2) (.int .i64 ((rd_T41 l0_1 x37_2).f1))) (fun _ h_=>h_.1))) (Kd.R_base ho28) hb);have n1_:=Aside0.mk (Kd.R_lower ho28 (below_size bs));have n2_:=Aside0.mk (blk_below (g:=g0_) (o:=.cells #[.int .i64 a0_0,.slice (some ad247) l0_1.length c0_1,.slice A0_2 l0_2.length c0_2] 28 (0,0)) (by (with_reducible repeat (first|refine blk_drewN ?_ _|refine blk_drew ?_|refine blk_alloc ?_ _));refine blk_far ?_ NB0_248.out _;(with_reducible repeat (first|refine blk_drewN ?_ _|refine blk_drew ?_|refine blk_alloc ?_ _));refine blk_far ?_ NB0_248.out _;(with_reducible repeat (first|refine blk_drewN ?_ _|refine blk_drew ?_|refine blk_alloc ?_ _));exact BK0.out) hb);have n3_:=Aside0.mk (blk_below (g:=gb248) (o:=.cells #[.int .i64 ((rd_T41 l0_1 x37_2).f0),.int .i64 ((rd_T41 l0_1 x37_2).f1)] 41 (0,0)) (by (with_reducible repeat (first|refine blk_drewN ?_ _|refine blk_drew ?_|refine blk_alloc ?_ _));refine blk_put (cs:=#[.int .i64 ((rd_T41 l0_1 x37_2).f0),.int .i64 0]) ?_ 1 _ rfl;(with_reducible repeat (first|refine blk_drewN ?_ _|refine blk_drew ?_|refine blk_alloc ?_ _));refine blk_put (cs:=#[.int .i64 0,.int .i64 0]) ?_ 0 _ rfl;(with_reducible repeat (first|refine blk_drewN ?_ _|refine blk_drew ?_|refine blk_alloc ?_ _));exact BK248.out) hb);have n4_:=Aside0.mk (below_step bs hb);clear HO_3 BK0 BK248 HB;have HO_3:=n0_;have HO251:=n1_;have BK0:=n2_;have BK248:=n3_;have HB:=n4_;clear n0_ n1_ n2_ n3_ n4_;clear hb ho28;have hcz29_0 : w27.cell? ⟨gb248,0,none⟩ = some (.int .i64 ((rd_T41 l0_1 x37_2).f0)):=(blk_cell BK248.out 0).trans rfl;have hcz29_1 : w27.cell? ⟨gb248,1,none⟩ = some (.int .i64 ((rd_T41 l0_1 x37_2).f1)):=(blk_cell BK248.out 1).trans rfl;have hfz29_0:=blk_frozen BK248.out 0;have hfz29_1:=blk_frozen BK248.out 1;obtain ⟨Ao30,co30,eo30⟩:=Kd.S_slice HO_3.out;subst eo30;have p252 : 0 ≤ (((rd_T41 l0_1 x37_2).f0) : Int):=of_decide_eq_true az;have q252 : ((rd_T41 l0_1 x37_2).f0) < (x3_2.length : Int):=of_decide_eq_true az;obtain ⟨ad252,A252_0,c252_0,e252,hx252_0,hl252_0,hi252_0⟩:=at_L3 (Kd.S_reads' HO_3.out).2.2 ((rd_T41 l0_1 x37_2).f0) p252 q252;cases e252;obtain ⟨ce252,hce252,hMe252,hcc252⟩:=Kd.S_get HO_3.out [] ((rd_T41 l0_1 x37_2).f0) p252 (by first|exact q252|exact of_decide_eq_true az|(have e_:=(Kd.S_reads' HO_3.out).1;omega));obtain ⟨ve252_0,rfl,ge252_0⟩:=hMe252;have hv252_0:=hcc252 0 _ rfl;rw [Nat.add_zero,show ((Kd.slice 3 (Kd.int .i64))).sz = 1 from rfl,Nat.mul_one] at hv252_0;replace hv252_0:=Option.some.inj (hv252_0.symm.trans hx252_0);rw [hv252_0] at ge252_0;have HL252_0:=Aside0.mk (show Kd.R (Kd.int .i64) 3 _ _ _ _ (rd_L3 x3_2 ((rd_T41 l0_1 x37_2).f0)) from ge252_0);clear hv252_0 ge252_0;clear hcc252 hce252;have HR252_0:=Aside0.mk hi252_0;have HC252_0:=Aside0.mk hl252_0;clear hi252_0 hl252_0;replace p252:=eq_true p252;replace q252:=eq_true q252))
           go_loopg [8,48] k2 (fun kq v8 v48 w'=>∃ (x8_3 : List Int) (x48_3 : Int),v48 = .int .i64 x48_3 ∧ Aside0 (impl_Plan_exponents.l2 kq x3_2 x8_3 l0_1 (l0_1.length : Int) x37_2 (rd_L3 x3_2 ((rd_T41 l0_1 x37_2).f0)) ((rd_L3 x3_2 ((rd_T41 l0_1 x37_2).f0)).length : Int) x48_3 ((rd_T41 l0_1 x37_2).f0) ((rd_T41 l0_1 x37_2).f1) = some r) ∧ Aside0 (kq ≤ k2) ∧ Aside0 (Kd.S (Kd.slice 3 (Kd.int .i64)) 24 w' w.heap.size (fun k_=>some k_ ≠ (v8 : Value).ownBlock) (.slice (some ad252) x3_2.length co30) x3_2) ∧ Aside0 (Kd.R (Kd.int .i64) 3 w' w.heap.size (fun _=>True) v8 x8_3) ∧ Aside0 (Kd.R (Kd.int .i64) 3 w' w.heap.size (fun k_=>some k_ ≠ (v8 : Value).ownBlock) (.slice A252_0 (rd_L3 x3_2 ((rd_T41 l0_1 x37_2).f0)).length c252_0) (rd_L3 x3_2 ((rd_T41 l0_1 x37_2).f0))) ∧ Aside0 (w'.heap[g0_]? = some (.cells #[.int .i64 a0_0,(.slice (some ad247) l0_1.length c0_1),(.slice A0_2 l0_2.length c0_2)] 28 (0,0))) ∧ Aside0 (w'.heap[gb248]? = some (.cells #[.int .i64 ((rd_T41 l0_1 x37_2).f0),.int .i64 ((rd_T41 l0_1 x37_2).f1)] 41 (0,0))) ∧ Aside0 (Below w.heap.size w w'))
           case atStart=>exact ⟨(y249),(0),fz,H',⟨Nat.le_refl _⟩,⟨by (with_reducible repeat (first|apply Kd.S_alloc|apply Kd.S_drewN|apply Kd.S_drew));exact Kd.S_mono HO_3.out (fun _ hk=>hk.2)⟩,⟨by (with_reducible repeat (first|apply Kd.R_alloc|apply Kd.R_drewN|apply Kd.R_drew));exact HO251.out⟩,⟨by (with_reducible repeat (first|apply Kd.R_alloc|apply Kd.R_drewN|apply Kd.R_drew));exact Kd.R_mono HL252_0.out (fun _ hk=>hk.1.2)⟩,⟨by (with_reducible repeat (first|refine blk_drewN ?_ _|refine blk_drew ?_|refine blk_alloc ?_ _));exact BK0.out⟩,⟨by (with_reducible repeat (first|refine blk_drewN ?_ _|refine blk_drew ?_|refine blk_alloc ?_ _));exact BK248.out⟩,⟨by repeat (first|(with_reducible first|exact HB.out|apply below_alloc|apply pw_below_drewN|apply below_drew1|refine below_set ?_ GE0.out|refine below_set ?_ GE248.out)|exact HB.out)⟩⟩
           case round=>
            clear H'
            try clear c1
            try clear p1
            try clear q1
            try clear hx1
            try clear hf1
            try clear c2
            try clear p2
            try clear q2
            try clear hx2
            try clear c5
            try clear c5b0
            try clear c6
            try clear c6b0
            try clear c6b1
            try clear p6
            try clear c7
            try clear c7b0
            try clear c7b1
            try clear c8
            try clear c8b0
            try clear c9
            try clear c9b0
            try clear p10
            try clear q10
            try clear hx10
            try clear hf10
            try clear c11
            try clear c19
            try clear c19b0
            try clear c20
            try clear c20b0
            try clear c21
            try clear c21b0
            try clear c22
            try clear c22b0
            try clear c23
            try clear c23b0
            try clear p24
            try clear q24
            try clear hx24
            try clear c25
            try clear p25
            try clear q25
            try clear hx25
            try clear c27
            try clear hcz12_0
            try clear hcz12_1
            try clear hcz12_2
            try clear hcz18_0
            try clear hcz18_1
            try clear hcz18_2
            try clear hcz26_0
            try clear hcz26_1
            try clear hcz29_0
            try clear hcz29_1
            try clear hcz4_0
            try clear hcz4_1
            try clear hcz4_2
            try clear hfz12_0
            try clear hfz12_1
            try clear hfz12_2
            try clear hfz18_0
            try clear hfz18_1
            try clear hfz18_2
            try clear hfz26_0
            try clear hfz26_1
            try clear hfz29_0
            try clear hfz29_1
            try clear hfz4_0
            try clear hfz4_1
            try clear hfz4_2
            try clear hx10_0
            try clear hx247_0
            try clear hx247_1
            try clear hx252_0
            try clear p1
            try clear p10
            try clear p2
            try clear p247
            try clear p252
            try clear p6
            try clear q1
            try clear q10
            try clear q247
            try clear q252
            obtain ⟨x8_3,x48_3,rfl,HA,HK3,HO_3,HO_8,HO_46,BK0,BK248,HB⟩:=hrel
            cases gk with
            | zero=>exact absurd HA.out (by simp [impl_Plan_exponents.l2])
            | succ k3=>
             have H:=HA.out
             clear HA
             simp only [impl_Plan_exponents.l2] at H
             by_cases c31 : x48_3 < ((rd_L3 x3_2 ((rd_T41 l0_1 x37_2).f0)).length : Int)
             ·rw [if_pos c31] at H
              have c31b0 : decide (x48_3 < ((rd_L3 x3_2 ((rd_T41 l0_1 x37_2).f0)).length : Int)) = true:=decide_eq_true c31
              clear c31
              by_cases c32 : 0 ≤ x48_3
              ·rw [if_pos c32] at H
               have c32b0 : decide (0 ≤ x48_3) = true:=decide_eq_true c32
               clear c32
               by_cases c33 : x48_3 < ((rd_L3 x3_2 ((rd_T41 l0_1 x37_2).f0)).length : Int)
               ·rw [if_pos c33] at H
                have c33b0 : decide (x48_3 < ((rd_L3 x3_2 ((rd_T41 l0_1 x37_2).f0)).length : Int)) = true:=decide_eq_true c33
                clear c33
                by_cases c34 : 0 ≤ ((rd_T41 l0_1 x37_2).f1)
                ·rw [if_pos c34] at H
                 have c34b0 : decide (0 ≤ ((rd_T41 l0_1 x37_2).f1)) = true:=decide_eq_true c34
                 clear c34
                 by_cases c35 : ((rd_T41 l0_1 x37_2).f1) < (x3_2.length : Int)
                 ·rw [if_pos c35] at H
                  have c35b0 : decide (((rd_T41 l0_1 x37_2).f1) < (x3_2.length : Int)) = true:=decide_eq_true c35
                  clear c35
                  by_cases c36 : x48_3 < ((rd_L3 x3_2 ((rd_T41 l0_1 x37_2).f1)).length : Int)
                  ·rw [if_pos c36] at H
                   have c36b0 : decide (x48_3 < ((rd_L3 x3_2 ((rd_T41 l0_1 x37_2).f1)).length : Int)) = true:=decide_eq_true c36
                   clear c36
                   obtain ⟨ji37,hji37⟩ : ∃ j_ : Int,(mn (wrap64 ((rd (rd_L3 x3_2 ((rd_T41 l0_1 x37_2).f0)) x48_3) + (rd (rd_L3 x3_2 ((rd_T41 l0_1 x37_2).f1)) x48_3))) 1000001) = j_:=⟨_,rfl⟩
                   replace H : (if x8_3.length < 17592186044416 then (impl_Plan_exponents.l2 k3 x3_2 (x8_3 ++ [ji37]) l0_1 (l0_1.length : Int) x37_2 (rd_L3 x3_2 ((rd_T41 l0_1 x37_2).f0)) ((rd_L3 x3_2 ((rd_T41 l0_1 x37_2).f0)).length : Int) (wrap64 (x48_3 + 1)) ((rd_T41 l0_1 x37_2).f0) ((rd_T41 l0_1 x37_2).f1)) else (none)) = some r:=by first|(rw [hji37] at H;exact H)|(simp only [hji37] at H ⊢;exact H)
                   have hji37_ : (if 1000001 < (wrap64 ((rd (rd_L3 x3_2 ((rd_T41 l0_1 x37_2).f0)) x48_3) + (rd (rd_L3 x3_2 ((rd_T41 l0_1 x37_2).f1)) x48_3))) then 1000001 else (wrap64 ((rd (rd_L3 x3_2 ((rd_T41 l0_1 x37_2).f0)) x48_3) + (rd (rd_L3 x3_2 ((rd_T41 l0_1 x37_2).f1)) x48_3)))) = ji37:=hji37
                   by_cases c38 : x8_3.length < 17592186044416
                   ·rw [if_pos c38] at H
                    have LMc38:=Aside0.mk c38
                    clear c38
                    obtain ⟨y256,hy256⟩ : ∃ y_ : List Int,y_ = (x8_3 ++ [ji37]):=⟨_,rfl⟩
                    replace H : (impl_Plan_exponents.l2 k3 x3_2 y256 l0_1 (l0_1.length : Int) x37_2 (rd_L3 x3_2 ((rd_T41 l0_1 x37_2).f0)) ((rd_L3 x3_2 ((rd_T41 l0_1 x37_2).f0)).length : Int) (wrap64 (x48_3 + 1)) ((rd_T41 l0_1 x37_2).f0) ((rd_T41 l0_1 x37_2).f1)) = some r:=by first|(rw [hy256];with_reducible exact H)|(have H2_:=(Option.bind_some _ _).symm.trans H;rw [hy256];with_reducible exact H2_)|(have H2_:=(Option.bind_some _ _).symm.trans H;with_reducible exact H2_)|with_reducible exact H|(rw [hy256];exact H)|exact H
                    have Ny256:=Aside0.mk hy256
                    clear hy256
                    have H':=Aside0.mk H
                    clear H
                    have p253 : 0 ≤ (x48_3 : Int):=of_decide_eq_true az
                    have q253 : x48_3 < ((rd_L3 x3_2 ((rd_T41 l0_1 x37_2).f0)).length : Int):=of_decide_eq_true az
                    obtain ⟨ad253,e253,hx253_0⟩:=Kd.at_int (Kd.R_reads' HO_46.out).2.2 x48_3 p253 q253
                    cases e253
                    replace p253:=eq_true p253
                    replace q253:=eq_true q253
                    have hnb39:=NB248_0.out
                    have hnc39:=NB0_248.out
                    have hcz40_0 : wr.cell? ⟨gb248,0,none⟩ = some (.int .i64 ((rd_T41 l0_1 x37_2).f0)):=(blk_cell BK248.out 0).trans rfl
                    have hcz40_1 : wr.cell? ⟨gb248,1,none⟩ = some (.int .i64 ((rd_T41 l0_1 x37_2).f1)):=(blk_cell BK248.out 1).trans rfl
                    have hfz40_0:=blk_frozen BK248.out 0
                    have hfz40_1:=blk_frozen BK248.out 1
                    have p254 : 0 ≤ (((rd_T41 l0_1 x37_2).f1) : Int):=of_decide_eq_true az
                    have q254 : ((rd_T41 l0_1 x37_2).f1) < (x3_2.length : Int):=of_decide_eq_true az
                    obtain ⟨ad254,A254_0,c254_0,e254,hx254_0,hl254_0,hi254_0⟩:=at_L3 (Kd.S_reads' HO_3.out).2.2 ((rd_T41 l0_1 x37_2).f1) p254 q254
                    obtain rfl : ad252 = ad254:=(by injection e254)
                    obtain ⟨ce254,hce254,hMe254,hcc254⟩:=Kd.S_get HO_3.out [] ((rd_T41 l0_1 x37_2).f1) p254 (by first|exact q254|exact of_decide_eq_true az|(have e_:=(Kd.S_reads' HO_3.out).1;omega))
                    obtain ⟨ve254_0,rfl,ge254_0⟩:=hMe254
                    have hv254_0:=hcc254 0 _ rfl
                    rw [Nat.add_zero,show ((Kd.slice 3 (Kd.int .i64))).sz = 1 from rfl,Nat.mul_one] at hv254_0
                    replace hv254_0:=Option.some.inj (hv254_0.symm.trans hx254_0)
                    rw [hv254_0] at ge254_0
                    have HL254_0:=Aside0.mk (show Kd.R (Kd.int .i64) 3 _ _ _ _ (rd_L3 x3_2 ((rd_T41 l0_1 x37_2).f1)) from ge254_0)
                    clear hv254_0 ge254_0
                    clear hcc254 hce254
                    have HR254_0:=Aside0.mk hi254_0
                    have HC254_0:=Aside0.mk hl254_0
                    clear hi254_0 hl254_0
                    replace p254:=eq_true p254
                    replace q254:=eq_true q254
                    have p255 : 0 ≤ (x48_3 : Int):=of_decide_eq_true az
                    have q255 : x48_3 < ((rd_L3 x3_2 ((rd_T41 l0_1 x37_2).f1)).length : Int):=of_decide_eq_true az
                    obtain ⟨ad255,e255,hx255_0⟩:=Kd.at_int (by repeat (first|(with_reducible exact HR254_0.out)|(with_reducible refine Kd.C_alloc ?_ _)|(with_reducible refine Kd.C_drewN ?_ _)|(with_reducible refine Kd.C_drew ?_)|exact HR254_0.out)) x48_3 p255 q255
                    cases e255
                    replace p255:=eq_true p255
                    replace q255:=eq_true q255
                    go_wp2_with (first|((with_reducible refine gate_builtin (b:=.append) (xs:=#[.tmp 53,.tmp 65]) rfl ?_);at_builtin;refine Kd.R_append (Kd.int .i64) (w0:=w) w.heap.size rfl (.tmp 53) (.tmp 65) 24 3 (.int .i64 0) 8 rfl Tryz.underlying24 info3 rfl (by decide) (by omega) u8 x8_3 ji37 [.int .i64 ji37] (fun _=>True) (fun _=>False) rfl rfl ?aP (fun _ hk=>hk.elim) ?aF ?aO ?aB ?aS ?aL ?_;(case aP=>exact rfl);(case aB=>exact bs);(case aF=>exact (fun _ _=>trivial));(case aO=>exact (rz HO_8.out));(case aS=>exact (below_size bs));(case aL=>have:=LMc38.out;omega);intro v257 w41 ho hb hg hat;rw [← Ny256.out] at ho;have n0_:=Aside0.mk (Kd.S_after (ok:=(fun _=>True)) (by (with_reducible repeat (first|apply Kd.S_alloc|apply Kd.S_drewN|apply Kd.S_drew));exact Kd.S_mono HO_3.out (fun _ hk=>⟨trivial,hk⟩)) hg hat);have n1_:=Aside0.mk (Kd.R_after (ok:=(fun _=>True)) (by (with_reducible repeat (first|apply Kd.R_alloc|apply Kd.R_drewN|apply Kd.R_drew));exact Kd.R_mono HO_46.out (fun _ hk=>⟨trivial,hk⟩)) hg hat);have n2_:=Aside0.mk (blk_grown (g:=g0_) (o:=.cells #[.int .i64 a0_0,.slice (some ad247) l0_1.length c0_1,.slice A0_2 l0_2.length c0_2] 28 (0,0)) (kz BK0.out) hg (Kd.R_ne HO_8.out BK0.out (by decide)));have n3_:=Aside0.mk (blk_grown (g:=gb248) (o:=.cells #[.int .i64 ((rd_T41 l0_1 x37_2).f0),.int .i64 ((rd_T41 l0_1 x37_2).f1)] 41 (0,0)) (kz BK248.out) hg (Kd.R_ne HO_8.out BK248.out (by decide)));have n4_:=Aside0.mk (Kd.R_after (ok:=(fun k_=>some k_ ≠ (.slice (some ad252) x3_2.length co30 : Value).ownBlock)) (by (with_reducible repeat (first|apply Kd.R_alloc|apply Kd.R_drewN|apply Kd.R_drew));exact Kd.R_mono HL254_0.out (fun _ hk=>⟨hk.2,hk.1⟩)) hg hat);have n5_:=Aside0.mk (hb);have n6_:=Aside0.mk (ho);clear HO_3 HO_46 BK0 BK248 HL254_0 HB HO_8;have HO_3:=n0_;have HO_46:=n1_;have BK0:=n2_;have BK248:=n3_;have HL254_0:=n4_;have HB:=n5_;have HO258:=n6_;clear n0_ n1_ n2_ n3_ n4_ n5_ n6_;clear ho hb hg hat))
                    go_roundg k3
                    case measure=>have:=HK1.out;have:=HK2.out;have:=HK3.out;omega
                    case rel=>exact ⟨(y256),(wrap64 (x48_3 + 1)),fz,H',⟨by have:=HK1.out;have:=HK2.out;have:=HK3.out;omega⟩,⟨by (with_reducible repeat (first|apply Kd.S_alloc|apply Kd.S_drewN|apply Kd.S_drew));exact Kd.S_mono HO_3.out (fun _ hk=>hk.2)⟩,⟨by (with_reducible repeat (first|apply Kd.R_alloc|apply Kd.R_drewN|apply Kd.R_drew));exact HO258.out⟩,⟨by (with_reducible repeat (first|apply Kd.R_alloc|apply Kd.R_drewN|apply Kd.R_drew));exact Kd.R_mono HO_46.out (fun _ hk=>hk.2)⟩,⟨by (with_reducible repeat (first|refine blk_drewN ?_ _|refine blk_drew ?_|refine blk_alloc ?_ _));exact BK0.out⟩,⟨by (with_reducible repeat (first|refine blk_drewN ?_ _|refine blk_drew ?_|refine blk_alloc ?_ _));exact BK248.out⟩,⟨by repeat (first|(with_reducible first|exact HB.out|apply below_alloc|apply pw_below_drewN|apply below_drew1|refine below_set ?_ GE0.out|refine below_set ?_ GE248.out)|exact HB.out)⟩⟩
                   ·rw [if_neg c38] at H
                    exact absurd H (by simp)
                  ·rw [if_neg c36] at H
                   exact absurd H (by simp)
                 ·rw [if_neg c35] at H
                  exact absurd H (by simp)
                ·rw [if_neg c34] at H
                 exact absurd H (by simp)
               ·rw [if_neg c33] at H
                exact absurd H (by simp)
              ·rw [if_neg c32] at H
               exact absurd H (by simp)
             ·rw [if_neg c31] at H
              have c31b0 : decide (x48_3 < ((rd_L3 x3_2 ((rd_T41 l0_1 x37_2).f0)).length : Int)) = false:=decide_eq_false c31
              clear c31
              by_cases c42 : x3_2.length < 5864062014805
              ·rw [if_pos c42] at H
               have LMc42:=Aside0.mk c42
               clear c42
               obtain ⟨y259,hy259⟩ : ∃ y_ : List (List Int),y_ = (x3_2 ++ [x8_3]):=⟨_,rfl⟩
               replace H : (impl_Plan_exponents.l1 k3 y259 l0_1 (l0_1.length : Int) (wrap64 (x37_2 + 1))) = some r:=by first|(rw [hy259];with_reducible exact H)|(have H2_:=(Option.bind_some _ _).symm.trans H;rw [hy259];with_reducible exact H2_)|(have H2_:=(Option.bind_some _ _).symm.trans H;with_reducible exact H2_)|with_reducible exact H|(rw [hy259];exact H)|exact H
               have Ny259:=Aside0.mk hy259
               clear hy259
               have H':=Aside0.mk H
               clear H
               obtain ⟨Ao44,co44,eo44⟩:=Kd.R_slice HO_8.out
               subst eo44
               go_wp2_with (first|((with_reducible refine gate_builtin (b:=.append) (xs:=#[.tmp 68,.tmp 70]) rfl ?_);at_builtin;refine Kd.S_append (Kd.slice 3 (Kd.int .i64)) (w0:=w) w.heap.size rfl (.tmp 68) (.tmp 70) 57 24 (.slice none 0 0) 24 rfl Tryz.underlying57 info24 rfl (by decide) (by omega) (.slice (some ad252) x3_2.length co30) x3_2 x8_3 [.slice Ao44 x8_3.length co44] (fun _=>True) (fun k_=>some k_ = (.slice Ao44 x8_3.length co44 : Value).ownBlock) rfl rfl ?aP (fun k_ hk_=>((Kd.R_mono (ok':=fun k_=>((fun _=>True)) k_ ∧ some k_ ≠ (.slice (some ad252) x3_2.length co30 : Value).ownBlock) (Kd.R_apart' (HO_8.out) (Kd.S_typed HO_3.out) (by decide)) (fun k_ hk=>⟨trivial,hk.2⟩))).1 k_ hk_.symm) ?aF ?aO ?aB ?aS ?aL ?_;(case aP=>exact Kd.M_row (Kd.R_mono (Kd.R_tight rfl (Kd.R_mono (ok':=fun k_=>((fun _=>True)) k_ ∧ some k_ ≠ (.slice (some ad252) x3_2.length co30 : Value).ownBlock) (Kd.R_apart' (HO_8.out) (Kd.S_typed HO_3.out) (by decide)) (fun k_ hk=>⟨trivial,hk.2⟩))) (fun _ h_=>h_)));(case aB=>exact bs);(case aF=>exact (fun _ _=>trivial));(case aO=>exact (by (with_reducible repeat (first|apply Kd.S_alloc|apply Kd.S_drewN|apply Kd.S_drew));exact Kd.S_mono HO_3.out (fun k_ hk=>⟨trivial,fun e_=>hk e_⟩)));(case aS=>exact (below_size bs));(case aL=>have:=LMc42.out;omega);intro v260 w43 ho hb hg hat;rw [← Ny259.out] at ho;have n0_:=Aside0.mk (Kd.R_over' (rz HO_46.out) (Kd.S_typed (by (with_reducible repeat (first|apply Kd.S_alloc|apply Kd.S_drewN|apply Kd.S_drew));exact HO_3.out)) (by decide) hg);have n1_:=Aside0.mk (blk_grown (g:=g0_) (o:=.cells #[.int .i64 a0_0,.slice (some ad247) l0_1.length c0_1,.slice A0_2 l0_2.length c0_2] 28 (0,0)) (kz BK0.out) hg (Kd.S_ne HO_3.out BK0.out (by decide)));have n2_:=Aside0.mk (blk_grown (g:=gb248) (o:=.cells #[.int .i64 ((rd_T41 l0_1 x37_2).f0),.int .i64 ((rd_T41 l0_1 x37_2).f1)] 41 (0,0)) (kz BK248.out) hg (Kd.S_ne HO_3.out BK248.out (by decide)));have n3_:=Aside0.mk (hb);have n4_:=Aside0.mk (ho);clear HO_46 BK0 BK248 HB HO_3 HO_8;have HO_46:=n0_;have BK0:=n1_;have BK248:=n2_;have HB:=n3_;have HO261:=n4_;clear n0_ n1_ n2_ n3_ n4_;clear ho hb hg hat))
               go_roundg k3
               case measure=>have:=HK1.out;have:=HK2.out;have:=HK3.out;omega
               case rel=>exact ⟨(y259),(wrap64 (x37_2 + 1)),fz,H',⟨by have:=HK1.out;have:=HK2.out;have:=HK3.out;omega⟩,⟨by (with_reducible repeat (first|apply Kd.S_alloc|apply Kd.S_drewN|apply Kd.S_drew));exact HO261.out⟩,⟨by (with_reducible repeat (first|refine blk_drewN ?_ _|refine blk_drew ?_|refine blk_alloc ?_ _));exact BK0.out⟩,⟨by repeat (first|(with_reducible first|exact HB.out|apply below_alloc|apply pw_below_drewN|apply below_drew1|refine below_set ?_ GE0.out|refine below_set ?_ GE248.out)|exact HB.out)⟩⟩
              ·rw [if_neg c42] at H
               exact absurd H (by simp)
          ·rw [if_neg c23] at H
           exact absurd H (by simp)
         ·rw [if_neg c22] at H
          exact absurd H (by simp)
        ·rw [if_neg c21] at H
         exact absurd H (by simp)
       ·rw [if_neg c20] at H
        exact absurd H (by simp)
      ·rw [if_neg c19] at H
       have c19b0 : decide (x37_2 < (l0_1.length : Int)) = false:=decide_eq_false c19
       clear c19
       obtain rfl:=Option.some.inj H
       go_wp2
       go_ret
       exact ⟨_,by first|rfl|(simp [errW_none,errW_some] <;> rfl)|(simp [*,errW_none,errW_some] <;> rfl),by (with_reducible repeat (first|apply Kd.S_alloc|apply Kd.S_drewN|apply Kd.S_drew));exact HO_3.out,by repeat (first|(with_reducible first|exact HB.out|apply below_alloc|apply pw_below_drewN|apply below_drew1|refine below_set ?_ GE0.out)|exact HB.out)⟩
/-! ### slices_Max_int_int: function 42 -/
def slices_Max_int_int.l0 : Nat → List Int → Int → Int → Option (Int)
 | 0,_,_,_=>none
 | k + 1,x0,x3,x4=>if x4 < (x0.length : Int) then (if 0 ≤ x4 then (slices_Max_int_int.l0 k x0 (mx x3 (rd x0 x4)) (wrap64 (x4 + 1))) else (none)) else (some x3)
def slices_Max_int_int.f (k : Nat) (l0 : List Int) : Option (Int):=if (l0.length : Int) < 1 then (none) else (if 0 < (l0.length : Int) then (slices_Max_int_int.l0 k l0 (rd l0 0) 1) else (none))
theorem slices_Max_int_int.mono_l : ∀ k,(∀ y0 y1 y2,LeO (slices_Max_int_int.l0 k y0 y1 y2) (slices_Max_int_int.l0 (k + 1) y0 y1 y2))
 | 0=>fun _ _ _ r h=>by simp [slices_Max_int_int.l0] at h
 | k + 1=>by
  have ih0:=slices_Max_int_int.mono_l k
  ·intro y0 y1 y2
   unfold slices_Max_int_int.l0
   repeat' first
   | (with_reducible exact ih0 _ _ _)
   | (with_reducible exact LeO.refl _)
   | (with_reducible exact LeO.none _)
   | (with_reducible refine LeO.ite ?_ ?_)
   | (with_reducible refine LeO.bind ?_ (fun _=>?_))
   | exact ih0 _ _ _
   | exact LeO.none _
   | refine LeO.ite ?_ ?_
   | refine LeO.bind ?_ (fun _=>?_)
theorem slices_Max_int_int.mono : ∀ a0 k,LeO (slices_Max_int_int.f k a0) (slices_Max_int_int.f (k + 1) a0):=by
 intro a0 k
 have ih0:=slices_Max_int_int.mono_l k
 unfold slices_Max_int_int.f
 repeat' first
   | (with_reducible exact ih0 _ _ _)
   | (with_reducible exact LeO.refl _)
   | (with_reducible exact LeO.none _)
   | (with_reducible refine LeO.ite ?_ ?_)
   | (with_reducible refine LeO.bind ?_ (fun _=>?_))
   | exact ih0 _ _ _
   | exact LeO.none _
   | refine LeO.ite ?_ ?_
   | refine LeO.bind ?_ (fun _=>?_)
set_option maxHeartbeats 8000000 in
set_option maxRecDepth 100000 in
theorem slices_Max_int_int.calls (k : Nat) (A0 : Option Addr) (c0 : Nat) (l0 : List Int) (r : Int) (w : World) (hr0 : Kd.C (Kd.int .i64) w A0 l0.length l0) (hc0 : l0.length ≤ c0) (h : slices_Max_int_int.f k l0 = some r) :
  Calls Tryz.prog 42 #[.slice A0 l0.length c0] w fun e w'=>e = .returned (.int .i64 r) ∧ Below w.heap.size w w':=by
 have HR0:=Aside0.mk hr0
 have HC0:=Aside0.mk hc0
 clear hr0 hc0
 have HB:=Aside0.mk (Below.refl w.heap.size w)
 have H : (if (l0.length : Int) < 1 then (none) else (if 0 < (l0.length : Int) then (slices_Max_int_int.l0 k l0 (rd l0 0) 1) else (none))) = some r:=h
 clear h
 by_cases c2 : (l0.length : Int) < 1
 ·rw [if_pos c2] at H
  exact absurd H (by simp)
 ·rw [if_neg c2] at H
  have c2b0 : decide ((l0.length : Int) < 1) = false:=decide_eq_false c2
  have c2b1 : decide (l0.length < 1) = false:=decide_eq_false (by omega)
  clear c2
  by_cases c3 : 0 < (l0.length : Int)
  ·rw [if_pos c3] at H
   have c3b0 : decide (0 < (l0.length : Int)) = true:=decide_eq_true c3
   have c3b1 : decide (0 < l0.length) = true:=decide_eq_true (by omega)
   clear c3
   have H':=Aside0.mk H
   clear H
   have p262 : 0 ≤ (0 : Int):=(by omega)
   have q262 : 0 < (l0.length : Int):=of_decide_eq_true az
   obtain ⟨ad262,e262,hx262_0⟩:=Kd.at_int HR0.out 0 p262 q262
   cases e262
   have qi262 : (0 < l0.length) = True:=eq_true (by omega)
   (try rw [show ((0 : Int)).toNat = 0 from rfl] at hx262_0)
   (try rw [Addr.add_zero'] at hx262_0)
   replace p262:=eq_true p262
   replace q262:=eq_true q262
   go_enter Tryz.func42,Tryz.ntmps42
   go_wp2
   go_loopg [3,4] k (fun kq v3 v4 w'=>∃ (x3_1 : Int) (x4_1 : Int),v3 = .int .i64 x3_1 ∧ v4 = .int .i64 x4_1 ∧ Aside0 (slices_Max_int_int.l0 kq l0 x3_1 x4_1 = some r) ∧ Aside0 (kq ≤ k) ∧ Aside0 (Below w.heap.size w w'))
   case atStart=>exact ⟨(rd l0 0),(1),fz,fz,H',⟨Nat.le_refl _⟩,⟨by repeat (first|(with_reducible first|exact HB.out|apply below_alloc|apply pw_below_drewN|apply below_drew1)|exact HB.out)⟩⟩
   case round=>
    clear H'
    try clear c2
    try clear c2b0
    try clear c2b1
    try clear p2
    try clear q2
    try clear hx2
    try clear qi2
    try clear c3
    try clear c3b0
    try clear c3b1
    try clear hx262_0
    try clear p262
    try clear q262
    obtain ⟨x3_1,x4_1,rfl,rfl,HA,HK1,HB⟩:=hrel
    cases gk with
    | zero=>exact absurd HA.out (by simp [slices_Max_int_int.l0])
    | succ k1=>
     have H:=HA.out
     clear HA
     simp only [slices_Max_int_int.l0] at H
     by_cases c4 : x4_1 < (l0.length : Int)
     ·rw [if_pos c4] at H
      have c4b0 : decide (x4_1 < (l0.length : Int)) = true:=decide_eq_true c4
      clear c4
      by_cases c5 : 0 ≤ x4_1
      ·rw [if_pos c5] at H
       have c5b0 : decide (0 ≤ x4_1) = true:=decide_eq_true c5
       clear c5
       obtain ⟨ji6,hji6⟩ : ∃ j_ : Int,(mx x3_1 (rd l0 x4_1)) = j_:=⟨_,rfl⟩
       replace H : (slices_Max_int_int.l0 k1 l0 ji6 (wrap64 (x4_1 + 1))) = some r:=by first|(rw [hji6] at H;exact H)|(simp only [hji6] at H ⊢;exact H)
       have hji6_ : (if x3_1 < (rd l0 x4_1) then (rd l0 x4_1) else x3_1) = ji6:=hji6
       have H':=Aside0.mk H
       clear H
       have p263 : 0 ≤ (x4_1 : Int):=of_decide_eq_true az
       have q263 : x4_1 < (l0.length : Int):=of_decide_eq_true az
       obtain ⟨ad263,e263,hx263_0⟩:=Kd.at_int HR0.out x4_1 p263 q263
       obtain rfl : ad262 = ad263:=(by injection e263)
       replace hx263_0:=(HB.out.cell (World.block_lt_of_cell? w _ hx263_0)).trans hx263_0
       replace p263:=eq_true p263
       replace q263:=eq_true q263
       go_wp2
       go_roundg k1
       case measure=>have:=HK1.out;omega
       case rel=>exact ⟨(ji6),(wrap64 (x4_1 + 1)),(by first|rfl|(simp;done)|(simp only [← hji6] <;> (first|rfl|simp))|(simp [*];done)),fz,H',⟨by have:=HK1.out;omega⟩,⟨by repeat (first|(with_reducible first|exact HB.out|apply below_alloc|apply pw_below_drewN|apply below_drew1)|exact HB.out)⟩⟩
      ·rw [if_neg c5] at H
       exact absurd H (by simp)
     ·rw [if_neg c4] at H
      have c4b0 : decide (x4_1 < (l0.length : Int)) = false:=decide_eq_false c4
      clear c4
      obtain rfl:=Option.some.inj H
      go_wp2
      go_ret
      exact ⟨by first|rfl|(simp [errW_none,errW_some] <;> rfl)|(simp [*,errW_none,errW_some] <;> rfl),by repeat (first|(with_reducible first|exact HB.out|apply below_alloc|apply pw_below_drewN|apply below_drew1)|exact HB.out)⟩
  ·rw [if_neg c3] at H
   exact absurd H (by simp)
/-! ### impl_Plan_many: function 56 -/
def impl_Plan_many.f (a0_0 : Int) (l0_1 : List (S41)) (l0_2 : List Int) : Option (Int):=some (wrap64 (a0_0 + (l0_1.length : Int)))
set_option maxHeartbeats 8000000 in
set_option maxRecDepth 100000 in
theorem impl_Plan_many.calls (g0_ : Nat) (a0_0 : Int) (A0_1 : Option Addr) (c0_1 : Nat) (l0_1 : List (S41)) (A0_2 : Option Addr) (c0_2 : Nat) (l0_2 : List Int) (r : Int) (w : World) (hx0_ : w.heap[g0_]? = some (.cells #[.int .i64 a0_0,.slice A0_1 l0_1.length c0_1,.slice A0_2 l0_2.length c0_2] 28 (0,0))) (hr0_1 : Kd.C k41 w A0_1 l0_1.length l0_1) (hc0_1 : l0_1.length ≤ c0_1) (hr0_2 : Kd.C (Kd.int .i64) w A0_2 l0_2.length l0_2) (hc0_2 : l0_2.length ≤ c0_2) (h : impl_Plan_many.f a0_0 l0_1 l0_2 = some r) :
  Calls Tryz.prog 56 #[.pointer (some ⟨g0_,0,none⟩)] w fun e w'=>e = .returned (.int .i64 r) ∧ Below w.heap.size w w':=by
 have HR0_1:=Aside0.mk hr0_1
 have HC0_1:=Aside0.mk hc0_1
 clear hr0_1 hc0_1
 have HR0_2:=Aside0.mk hr0_2
 have HC0_2:=Aside0.mk hc0_2
 clear hr0_2 hc0_2
 have BK0:=Aside0.mk hx0_
 clear hx0_
 have HB:=Aside0.mk (Below.refl w.heap.size w)
 have H : (some (wrap64 (a0_0 + (l0_1.length : Int)))) = some r:=h
 clear h
 obtain rfl:=Option.some.inj H
 have hcz2_0 : w.cell? ⟨g0_,0,none⟩ = some (.int .i64 a0_0):=(blk_cell BK0.out 0).trans rfl
 have hcz2_1 : w.cell? ⟨g0_,1,none⟩ = some (.slice A0_1 l0_1.length c0_1):=(blk_cell BK0.out 1).trans rfl
 have hcz2_2 : w.cell? ⟨g0_,2,none⟩ = some (.slice A0_2 l0_2.length c0_2):=(blk_cell BK0.out 2).trans rfl
 have hfz2_0:=blk_frozen BK0.out 0
 have hfz2_1:=blk_frozen BK0.out 1
 have hfz2_2:=blk_frozen BK0.out 2
 go_enter Tryz.func56,Tryz.ntmps56
 go_wp2
 repeat (go_quiet (fail);try go_wp2)
 go_ret
 exact ⟨by first|rfl|(simp [errW_none,errW_some] <;> rfl)|(simp [*,errW_none,errW_some] <;> rfl),by repeat (first|(with_reducible first|exact HB.out|apply below_alloc|apply pw_below_drewN|apply below_drew1|refine below_set ?_ GE0.out)|exact HB.out)⟩
end Go.Proofs.YtlefjgpkabijdaaGreatDoor.MFnChainsArePlans
--sq
