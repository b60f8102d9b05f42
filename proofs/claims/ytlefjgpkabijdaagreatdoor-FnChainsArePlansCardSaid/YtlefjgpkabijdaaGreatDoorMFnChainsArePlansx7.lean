import Derived.Test.YtlefjgpkabijdaaGreatDoorMFnChainsArePlansx0
import Derived.Test.YtlefjgpkabijdaaGreatDoorMFnChainsArePlansx6
namespace Go.Proofs.YtlefjgpkabijdaaGreatDoor.MFnChainsArePlans
open Go.RowKit Go.Proofs.YtlefjgpkabijdaaGreatDoorW.PrintWords Go.Proofs.YtlefjgpkabijdaaGreatDoorW.PrintLast Go.Proofs.YtlefjgpkabijdaaGreatDoorW.PrintMore Go.Proofs.YtlefjgpkabijdaaGreatDoorV Go.Proofs.YtlefjgpkabijdaaGreatDoorZ
attribute [local go_sem] max2_int min2_int max_two min_two max_three min_three max_four min_four   -- for this text's walks alone
set_option linter.unusedVariables false
set_option linter.unusedSimpArgs false
/-! ### spec_chPairs: function 37 -/
mutual
def spec_chPairs.l0 : Nat → List Int → Int → List (S41) → Int → Option ((List (S41)))
 | 0,_,_,_,_=>none
 | k + 1,x0,x1,x5,x6=>if x6 < x1 then (spec_chPairs.l1 k x0 x1 x5 x6 0) else (some x5)
def spec_chPairs.l1 : Nat → List Int → Int → List (S41) → Int → Int → Option ((List (S41)))
 | 0,_,_,_,_,_=>none
 | k + 1,x0,x1,x5,x6,x7=>if x7 ≤ x6 then (if 0 ≤ x7 then (if x7 < (x0.length : Int) then (if 0 ≤ x6 then (if x6 < (x0.length : Int) then (if 0 ≤ x1 then (if x1 < (x0.length : Int) then (if (wrap64 ((rd x0 x7) + (rd x0 x6))) = (rd x0 x1) then (if x5.length < 8796093022208 then (spec_chPairs.l1 k x0 x1 (x5 ++ [(⟨x7,x6⟩ : S41)]) x6 (wrap64 (x7 + 1))) else (none)) else (spec_chPairs.l1 k x0 x1 x5 x6 (wrap64 (x7 + 1)))) else (none)) else (none)) else (none)) else (none)) else (none)) else (none)) else (spec_chPairs.l0 k x0 x1 x5 (wrap64 (x6 + 1)))
end
def spec_chPairs.f (k : Nat) (l0 : List Int) (a1 : Int) : Option ((List (S41))):=spec_chPairs.l0 k l0 a1 ([] : List (S41)) 0
theorem spec_chPairs.mono_l : ∀ k,(∀ y0 y1 y2 y3,LeO (spec_chPairs.l0 k y0 y1 y2 y3) (spec_chPairs.l0 (k + 1) y0 y1 y2 y3)) ∧ (∀ y0 y1 y2 y3 y4,LeO (spec_chPairs.l1 k y0 y1 y2 y3 y4) (spec_chPairs.l1 (k + 1) y0 y1 y2 y3 y4))
 | 0=>⟨fun _ _ _ _ r h=>by simp [spec_chPairs.l0] at h,fun _ _ _ _ _ r h=>by simp [spec_chPairs.l1] at h⟩
 | k + 1=>by
  obtain ⟨ih0,ih1⟩:=spec_chPairs.mono_l k
  refine ⟨?_,?_⟩
  ·intro y0 y1 y2 y3
   unfold spec_chPairs.l0
   repeat' first
   | (with_reducible exact ih0 _ _ _ _)
   | (with_reducible exact ih1 _ _ _ _ _)
   | (with_reducible exact LeO.refl _)
   | (with_reducible exact LeO.none _)
   | (with_reducible refine LeO.ite ?_ ?_)
   | (with_reducible refine LeO.bind ?_ (fun _=>?_))
   | exact ih0 _ _ _ _
   | exact ih1 _ _ _ _ _
   | exact LeO.none _
   | refine LeO.ite ?_ ?_
   | refine LeO.bind ?_ (fun _=>?_)
  ·intro y0 y1 y2 y3 y4
   unfold spec_chPairs.l1
   repeat' first
   | (with_reducible exact ih0 _ _ _ _)
   | (with_reducible exact ih1 _ _ _ _ _)
   | (with_reducible exact LeO.refl _)
   | (with_reducible exact LeO.none _)
   | (with_reducible refine LeO.ite ?_ ?_)
   | (with_reducible refine LeO.bind ?_ (fun _=>?_))
   | exact ih0 _ _ _ _
   | exact ih1 _ _ _ _ _
   | exact LeO.none _
   | refine LeO.ite ?_ ?_
   | refine LeO.bind ?_ (fun _=>?_)
theorem spec_chPairs.mono : ∀ a0 a1 k,LeO (spec_chPairs.f k a0 a1) (spec_chPairs.f (k + 1) a0 a1):=by
 intro a0 a1 k
 obtain ⟨ih0,ih1⟩:=spec_chPairs.mono_l k
 unfold spec_chPairs.f
 repeat' first
   | (with_reducible exact ih0 _ _ _ _)
   | (with_reducible exact ih1 _ _ _ _ _)
   | (with_reducible exact LeO.refl _)
   | (with_reducible exact LeO.none _)
   | (with_reducible refine LeO.ite ?_ ?_)
   | (with_reducible refine LeO.bind ?_ (fun _=>?_))
   | exact ih0 _ _ _ _
   | exact ih1 _ _ _ _ _
   | exact LeO.none _
   | refine LeO.ite ?_ ?_
   | refine LeO.bind ?_ (fun _=>?_)
set_option maxHeartbeats 8000000 in
set_option maxRecDepth 100000 in
theorem spec_chPairs.calls (k : Nat) (A0 : Option Addr) (c0 : Nat) (l0 : List Int) (a1 : Int) (r : List (S41)) (w : World) (hr0 : Kd.C (Kd.int .i64) w A0 l0.length l0) (hc0 : l0.length ≤ c0) (h : spec_chPairs.f k l0 a1 = some r) :
  Calls Tryz.prog 37 #[.slice A0 l0.length c0,.int .i64 a1] w fun e w'=>∃ v0_ : Value,e = .returned (v0_) ∧ Kd.R k41 41 w' w.heap.size (fun _=>True) v0_ r ∧ Below w.heap.size w w':=by
 have hu41:=Tryz.underlying41
 have HR0:=Aside0.mk hr0
 have HC0:=Aside0.mk hc0
 clear hr0 hc0
 have HB:=Aside0.mk (Below.refl w.heap.size w)
 have H : (spec_chPairs.l0 k l0 a1 ([] : List (S41)) 0) = some r:=h
 clear h
 have H':=Aside0.mk H
 clear H
 go_enter Tryz.func37,Tryz.ntmps37
 go_wp2
 repeat (go_quiet (fail);try go_wp2)
 go_loopg [5,6] k (fun kq v5 v6 w'=>∃ (x5_1 : List (S41)) (x6_1 : Int),v6 = .int .i64 x6_1 ∧ Aside0 (spec_chPairs.l0 kq l0 a1 x5_1 x6_1 = some r) ∧ Aside0 (kq ≤ k) ∧ Aside0 (Kd.R k41 41 w' w.heap.size (fun _=>True) v5 x5_1) ∧ Aside0 (Below w.heap.size w w'))
 case atStart=>exact ⟨(([] : List (S41))),(0),fz,H',⟨Nat.le_refl _⟩,⟨by first|exact Kd.R_nil _ _ _ _ _|exact Kd.N_nil _ _ _ _ _|exact Kd.V_nil _ _ _ _ _|exact Kd.Q_nil _ _ _ _ _|exact Kd.S_nil _ _ _ _ _⟩,⟨by repeat (first|(with_reducible first|exact HB.out|apply below_alloc|apply pw_below_drewN|apply below_drew1)|exact HB.out)⟩⟩
 case round=>
  clear H'
  try clear p2
  obtain ⟨x5_1,x6_1,rfl,HA,HK1,HO_5,HB⟩:=hrel
  cases gk with
  | zero=>exact absurd HA.out (by simp [spec_chPairs.l0])
  | succ k1=>
   have H:=HA.out
   clear HA
   simp only [spec_chPairs.l0] at H
   by_cases c3 : x6_1 < a1
   ·rw [if_pos c3] at H
    have c3b0 : decide (x6_1 < a1) = true:=decide_eq_true c3
    clear c3
    have H':=Aside0.mk H
    clear H
    go_wp2
    repeat (go_quiet (fail);try go_wp2)
    go_loopg [5,7] k1 (fun kq v5 v7 w'=>∃ (x5_2 : List (S41)) (x7_2 : Int),v7 = .int .i64 x7_2 ∧ Aside0 (spec_chPairs.l1 kq l0 a1 x5_2 x6_1 x7_2 = some r) ∧ Aside0 (kq ≤ k1) ∧ Aside0 (Kd.R k41 41 w' w.heap.size (fun _=>True) v5 x5_2) ∧ Aside0 (Below w.heap.size w w'))
    case atStart=>exact ⟨(x5_1),(0),fz,H',⟨Nat.le_refl _⟩,⟨by (with_reducible repeat (first|apply Kd.R_alloc|apply Kd.R_drewN|apply Kd.R_drew));exact HO_5.out⟩,⟨by repeat (first|(with_reducible first|exact HB.out|apply below_alloc|apply pw_below_drewN|apply below_drew1)|exact HB.out)⟩⟩
    case round=>
     clear H'
     try clear p2
     try clear c3
     try clear c3b0
     try clear p2
     obtain ⟨x5_2,x7_2,rfl,HA,HK2,HO_5,HB⟩:=hrel
     cases gk with
     | zero=>exact absurd HA.out (by simp [spec_chPairs.l1])
     | succ k2=>
      have H:=HA.out
      clear HA
      simp only [spec_chPairs.l1] at H
      by_cases c4 : x7_2 ≤ x6_1
      ·rw [if_pos c4] at H
       have c4b0 : decide (x7_2 ≤ x6_1) = true:=decide_eq_true c4
       clear c4
       by_cases c5 : 0 ≤ x7_2
       ·rw [if_pos c5] at H
        have c5b0 : decide (0 ≤ x7_2) = true:=decide_eq_true c5
        clear c5
        by_cases c6 : x7_2 < (l0.length : Int)
        ·rw [if_pos c6] at H
         have c6b0 : decide (x7_2 < (l0.length : Int)) = true:=decide_eq_true c6
         clear c6
         by_cases c7 : 0 ≤ x6_1
         ·rw [if_pos c7] at H
          have c7b0 : decide (0 ≤ x6_1) = true:=decide_eq_true c7
          clear c7
          by_cases c8 : x6_1 < (l0.length : Int)
          ·rw [if_pos c8] at H
           have c8b0 : decide (x6_1 < (l0.length : Int)) = true:=decide_eq_true c8
           clear c8
           by_cases c9 : 0 ≤ a1
           ·rw [if_pos c9] at H
            have c9b0 : decide (0 ≤ a1) = true:=decide_eq_true c9
            clear c9
            by_cases c10 : a1 < (l0.length : Int)
            ·rw [if_pos c10] at H
             have c10b0 : decide (a1 < (l0.length : Int)) = true:=decide_eq_true c10
             clear c10
             by_cases c11 : (wrap64 ((rd l0 x7_2) + (rd l0 x6_1))) = (rd l0 a1)
             ·rw [if_pos c11] at H
              have c11b0 : ((wrap64 ((rd l0 x7_2) + (rd l0 x6_1))) == (rd l0 a1)) = true:=beq_iff_eq.mpr c11
              have c11b1 : ((wrap64 ((rd l0 x7_2) + (rd l0 x6_1))) != (rd l0 a1)) = false:=bne_eq_false_iff_eq.mpr c11
              clear c11
              by_cases c12 : x5_2.length < 8796093022208
              ·rw [if_pos c12] at H
               have LMc12:=Aside0.mk c12
               clear c12
               obtain ⟨y307,hy307⟩ : ∃ y_ : List (S41),y_ = (x5_2 ++ [(⟨x7_2,x6_1⟩ : S41)]):=⟨_,rfl⟩
               replace H : (spec_chPairs.l1 k2 l0 a1 y307 x6_1 (wrap64 (x7_2 + 1))) = some r:=by first|(rw [hy307];with_reducible exact H)|(have H2_:=(Option.bind_some _ _).symm.trans H;rw [hy307];with_reducible exact H2_)|(have H2_:=(Option.bind_some _ _).symm.trans H;with_reducible exact H2_)|with_reducible exact H|(rw [hy307];exact H)|exact H
               have Ny307:=Aside0.mk hy307
               clear hy307
               have H':=Aside0.mk H
               clear H
               have p304 : 0 ≤ (x7_2 : Int):=of_decide_eq_true az
               have q304 : x7_2 < (l0.length : Int):=of_decide_eq_true az
               obtain ⟨ad304,e304,hx304_0⟩:=Kd.at_int HR0.out x7_2 p304 q304
               cases e304
               replace hx304_0:=(HB.out.cell (World.block_lt_of_cell? w _ hx304_0)).trans hx304_0
               replace p304:=eq_true p304
               replace q304:=eq_true q304
               have p305 : 0 ≤ (x6_1 : Int):=of_decide_eq_true az
               have q305 : x6_1 < (l0.length : Int):=of_decide_eq_true az
               obtain ⟨ad305,e305,hx305_0⟩:=Kd.at_int HR0.out x6_1 p305 q305
               obtain rfl : ad304 = ad305:=(by injection e305)
               replace hx305_0:=(HB.out.cell (World.block_lt_of_cell? w _ hx305_0)).trans hx305_0
               replace p305:=eq_true p305
               replace q305:=eq_true q305
               have p306 : 0 ≤ (a1 : Int):=of_decide_eq_true az
               have q306 : a1 < (l0.length : Int):=of_decide_eq_true az
               obtain ⟨ad306,e306,hx306_0⟩:=Kd.at_int HR0.out a1 p306 q306
               obtain rfl : ad304 = ad306:=(by injection e306)
               replace hx306_0:=(HB.out.cell (World.block_lt_of_cell? w _ hx306_0)).trans hx306_0
               replace p306:=eq_true p306
               replace q306:=eq_true q306
               go_wp2_with (first|((with_reducible refine gate_builtin (b:=.append) (xs:=#[.tmp 32,.tmp 36]) rfl ?_);at_builtin;refine Kd.R_append k41 (w0:=w) w.heap.size rfl (.tmp 32) (.tmp 36) 26 41 (.agg #[(.int .i64 0),(.int .i64 0)]) 16 rfl Tryz.underlying26 info41 rfl (by decide) (by omega) u5 x5_2 (⟨x7_2,x6_1⟩ : S41) [.int .i64 x7_2,.int .i64 x6_1] (fun _=>True) (fun _=>False) rfl rfl ?aP (fun _ hk=>hk.elim) ?aF ?aO ?aB ?aS ?aL ?_;(case aP=>exact k41_mkM _ _ _ (⟨x7_2,x6_1⟩ : S41));(case aB=>exact bz);(case aF=>exact (fun _ _=>trivial));(case aO=>exact (rz HO_5.out));(case aS=>exact (below_size bz));(case aL=>have:=LMc12.out;omega);intro v308 w13 ho hb hg hat;rw [← Ny307.out] at ho;have n0_:=Aside0.mk (hb);have n1_:=Aside0.mk (ho);clear HB HO_5;have HB:=n0_;have HO309:=n1_;clear n0_ n1_;clear ho hb hg hat))
               repeat (go_quiet (first|((with_reducible refine gate_builtin (b:=.append) (xs:=#[.tmp 32,.tmp 36]) rfl ?_);at_builtin;refine Kd.R_append k41 (w0:=w) w.heap.size rfl (.tmp 32) (.tmp 36) 26 41 (.agg #[(.int .i64 0),(.int .i64 0)]) 16 rfl Tryz.underlying26 info41 rfl (by decide) (by omega) u5 x5_2 (⟨x7_2,x6_1⟩ : S41) [.int .i64 x7_2,.int .i64 x6_1] (fun _=>True) (fun _=>False) rfl rfl ?aP (fun _ hk=>hk.elim) ?aF ?aO ?aB ?aS ?aL ?_;(case aP=>exact k41_mkM _ _ _ (⟨x7_2,x6_1⟩ : S41));(case aB=>exact bz);(case aF=>exact (fun _ _=>trivial));(case aO=>exact (rz HO_5.out));(case aS=>exact (below_size bz));(case aL=>have:=LMc12.out;omega);intro v308 w13 ho hb hg hat;rw [← Ny307.out] at ho;have n0_:=Aside0.mk (hb);have n1_:=Aside0.mk (ho);clear HB HO_5;have HB:=n0_;have HO309:=n1_;clear n0_ n1_;clear ho hb hg hat));try go_wp2_with (first|((with_reducible refine gate_builtin (b:=.append) (xs:=#[.tmp 32,.tmp 36]) rfl ?_);at_builtin;refine Kd.R_append k41 (w0:=w) w.heap.size rfl (.tmp 32) (.tmp 36) 26 41 (.agg #[(.int .i64 0),(.int .i64 0)]) 16 rfl Tryz.underlying26 info41 rfl (by decide) (by omega) u5 x5_2 (⟨x7_2,x6_1⟩ : S41) [.int .i64 x7_2,.int .i64 x6_1] (fun _=>True) (fun _=>False) rfl rfl ?aP (fun _ hk=>hk.elim) ?aF ?aO ?aB ?aS ?aL ?_;(case aP=>exact k41_mkM _ _ _ (⟨x7_2,x6_1⟩ : S41));(case aB=>exact bz);(case aF=>exact (fun _ _=>trivial));(case aO=>exact (rz HO_5.out));(case aS=>exact (below_size bz));(case aL=>have:=LMc12.out;omega);intro v308 w13 ho hb hg hat;rw [← Ny307.out] at ho;have n0_:=Aside0.mk (hb);have n1_:=Aside0.mk (ho);clear HB HO_5;have HB:=n0_;have HO309:=n1_;clear n0_ n1_;clear ho hb hg hat)))
               go_roundg k2
               case measure=>have:=HK1.out;have:=HK2.out;omega
               case rel=>exact ⟨(y307),(wrap64 (x7_2 + 1)),fz,H',⟨by have:=HK1.out;have:=HK2.out;omega⟩,⟨by (with_reducible repeat (first|apply Kd.R_alloc|apply Kd.R_drewN|apply Kd.R_drew));exact HO309.out⟩,⟨by repeat (first|(with_reducible first|exact HB.out|apply below_alloc|apply pw_below_drewN|apply below_drew1)|exact HB.out)⟩⟩
              ·rw [if_neg c12] at H
               exact absurd H (by simp)
             ·rw [if_neg c11] at H
              have c11b0 : ((wrap64 ((rd l0 x7_2) + (rd l0 x6_1))) == (rd l0 a1)) = false:=beq_eq_false_iff_ne.mpr c11
              have c11b1 : ((wrap64 ((rd l0 x7_2) + (rd l0 x6_1))) != (rd l0 a1)) = true:=bne_iff_ne.mpr c11
              have H':=Aside0.mk H
              clear H
              have p304 : 0 ≤ (x7_2 : Int):=of_decide_eq_true az
              have q304 : x7_2 < (l0.length : Int):=of_decide_eq_true az
              obtain ⟨ad304,e304,hx304_0⟩:=Kd.at_int HR0.out x7_2 p304 q304
              cases e304
              replace hx304_0:=(HB.out.cell (World.block_lt_of_cell? w _ hx304_0)).trans hx304_0
              replace p304:=eq_true p304
              replace q304:=eq_true q304
              have p305 : 0 ≤ (x6_1 : Int):=of_decide_eq_true az
              have q305 : x6_1 < (l0.length : Int):=of_decide_eq_true az
              obtain ⟨ad305,e305,hx305_0⟩:=Kd.at_int HR0.out x6_1 p305 q305
              obtain rfl : ad304 = ad305:=(by injection e305)
              replace hx305_0:=(HB.out.cell (World.block_lt_of_cell? w _ hx305_0)).trans hx305_0
              replace p305:=eq_true p305
              replace q305:=eq_true q305
              have p306 : 0 ≤ (a1 : Int):=of_decide_eq_true az
              have q306 : a1 < (l0.length : Int):=of_decide_eq_true az
              obtain ⟨ad306,e306,hx306_0⟩:=Kd.at_int HR0.out a1 p306 q306
              obtain rfl : ad304 = ad306:=(by injection e306)
              replace hx306_0:=(HB.out.cell (World.block_lt_of_cell? w _ hx306_0)).trans hx306_0
              replace p306:=eq_true p306
              replace q306:=eq_true q306
              go_wp2
              repeat (go_quiet (fail);try go_wp2)
              go_roundg k2
              case measure=>have:=HK1.out;have:=HK2.out;omega
              case rel=>exact ⟨(x5_2),(wrap64 (x7_2 + 1)),fz,H',⟨by have:=HK1.out;have:=HK2.out;omega⟩,⟨by (with_reducible repeat (first|apply Kd.R_alloc|apply Kd.R_drewN|apply Kd.R_drew));exact HO_5.out⟩,⟨by repeat (first|(with_reducible first|exact HB.out|apply below_alloc|apply pw_below_drewN|apply below_drew1)|exact HB.out)⟩⟩
            ·rw [if_neg c10] at H
             exact absurd H (by simp)
           ·rw [if_neg c9] at H
            exact absurd H (by simp)
          ·rw [if_neg c8] at H
           exact absurd H (by simp)
         ·rw [if_neg c7] at H
          exact absurd H (by simp)
        ·rw [if_neg c6] at H
         exact absurd H (by simp)
       ·rw [if_neg c5] at H
        exact absurd H (by simp)
      ·rw [if_neg c4] at H
       have c4b0 : decide (x7_2 ≤ x6_1) = false:=decide_eq_false c4
       clear c4
       have H':=Aside0.mk H
       clear H
       go_wp2
       repeat (go_quiet (fail);try go_wp2)
       go_roundg k2
       case measure=>have:=HK1.out;have:=HK2.out;omega
       case rel=>exact ⟨(x5_2),(wrap64 (x6_1 + 1)),fz,H',⟨by have:=HK1.out;have:=HK2.out;omega⟩,⟨by (with_reducible repeat (first|apply Kd.R_alloc|apply Kd.R_drewN|apply Kd.R_drew));exact HO_5.out⟩,⟨by repeat (first|(with_reducible first|exact HB.out|apply below_alloc|apply pw_below_drewN|apply below_drew1)|exact HB.out)⟩⟩
   ·rw [if_neg c3] at H
    have c3b0 : decide (x6_1 < a1) = false:=decide_eq_false c3
    clear c3
    obtain rfl:=Option.some.inj H
    go_wp2
    repeat (go_quiet (fail);try go_wp2)
    go_ret
    exact ⟨_,by first|rfl|(simp [errW_none,errW_some] <;> rfl)|(simp [*,errW_none,errW_some] <;> rfl),by (with_reducible repeat (first|apply Kd.R_alloc|apply Kd.R_drewN|apply Kd.R_drew));exact HO_5.out,by repeat (first|(with_reducible first|exact HB.out|apply below_alloc|apply pw_below_drewN|apply below_drew1)|exact HB.out)⟩
/-! ### spec_chGood: function 20 -/
mutual
def spec_chGood.j0 : Nat → List Int → Bool → Option (Bool)
 | 0,_,_=>none
 | k + 1,x0,x18=>if x18 = true then (some false) else (spec_chGood.l0 k x0 1)
def spec_chGood.l0 : Nat → List Int → Int → Option (Bool)
 | 0,_,_=>none
 | k + 1,x0,x3=>if x3 < (x0.length : Int) then ((spec_chPairs.f k x0 x3).bind fun t313=>(if (t313.length : Int) = 0 then (some false) else (spec_chGood.l0 k x0 (wrap64 (x3 + 1))))) else (some true)
end
def spec_chGood.f (k : Nat) (l0 : List Int) : Option (Bool):=(spec_l1In.f (l0.length : Int) 1 41).bind fun t310=>(if t310 = true then (if 0 < (l0.length : Int) then (if (rd l0 0) = 1 then ((spec_l1Rising.f k l0 1 1000000).bind fun t312=>(spec_chGood.j0 k l0 (!t312))) else (spec_chGood.j0 k l0 true)) else (none)) else (spec_chGood.j0 k l0 true))
theorem spec_chGood.mono_l : ∀ k,(∀ y0 y1,LeO (spec_chGood.j0 k y0 y1) (spec_chGood.j0 (k + 1) y0 y1)) ∧ (∀ y0 y1,LeO (spec_chGood.l0 k y0 y1) (spec_chGood.l0 (k + 1) y0 y1))
 | 0=>⟨fun _ _ r h=>by simp [spec_chGood.j0] at h,fun _ _ r h=>by simp [spec_chGood.l0] at h⟩
 | k + 1=>by
  obtain ⟨ih0,ih1⟩:=spec_chGood.mono_l k
  refine ⟨?_,?_⟩
  ·intro y0 y1
   unfold spec_chGood.j0
   repeat' first
   | (with_reducible exact ih0 _ _)
   | (with_reducible exact ih1 _ _)
   | (with_reducible exact spec_chPairs.mono _ _ _)
   | (with_reducible exact spec_l1Rising.mono _ _ _ _)
   | (with_reducible exact LeO.refl _)
   | (with_reducible exact LeO.none _)
   | (with_reducible refine LeO.ite ?_ ?_)
   | (with_reducible refine LeO.bind ?_ (fun _=>?_))
   | exact ih0 _ _
   | exact ih1 _ _
   | exact spec_chPairs.mono _ _ _
   | exact spec_l1Rising.mono _ _ _ _
   | exact LeO.none _
   | refine LeO.ite ?_ ?_
   | refine LeO.bind ?_ (fun _=>?_)
  ·intro y0 y1
   unfold spec_chGood.l0
   repeat' first
   | (with_reducible exact ih0 _ _)
   | (with_reducible exact ih1 _ _)
   | (with_reducible exact spec_chPairs.mono _ _ _)
   | (with_reducible exact spec_l1Rising.mono _ _ _ _)
   | (with_reducible exact LeO.refl _)
   | (with_reducible exact LeO.none _)
   | (with_reducible refine LeO.ite ?_ ?_)
   | (with_reducible refine LeO.bind ?_ (fun _=>?_))
   | exact ih0 _ _
   | exact ih1 _ _
   | exact spec_chPairs.mono _ _ _
   | exact spec_l1Rising.mono _ _ _ _
   | exact LeO.none _
   | refine LeO.ite ?_ ?_
   | refine LeO.bind ?_ (fun _=>?_)
theorem spec_chGood.mono : ∀ a0 k,LeO (spec_chGood.f k a0) (spec_chGood.f (k + 1) a0):=by
 intro a0 k
 obtain ⟨ih0,ih1⟩:=spec_chGood.mono_l k
 unfold spec_chGood.f
 repeat' first
   | (with_reducible exact ih0 _ _)
   | (with_reducible exact ih1 _ _)
   | (with_reducible exact spec_chPairs.mono _ _ _)
   | (with_reducible exact spec_l1Rising.mono _ _ _ _)
   | (with_reducible exact LeO.refl _)
   | (with_reducible exact LeO.none _)
   | (with_reducible refine LeO.ite ?_ ?_)
   | (with_reducible refine LeO.bind ?_ (fun _=>?_))
   | exact ih0 _ _
   | exact ih1 _ _
   | exact spec_chPairs.mono _ _ _
   | exact spec_l1Rising.mono _ _ _ _
   | exact LeO.none _
   | refine LeO.ite ?_ ?_
   | refine LeO.bind ?_ (fun _=>?_)
set_option maxHeartbeats 8000000 in
set_option maxRecDepth 100000 in
theorem spec_chGood.calls (k : Nat) (A0 : Option Addr) (c0 : Nat) (l0 : List Int) (r : Bool) (w : World) (hr0 : Kd.C (Kd.int .i64) w A0 l0.length l0) (hc0 : l0.length ≤ c0) (h : spec_chGood.f k l0 = some r) :
  Calls Tryz.prog 20 #[.slice A0 l0.length c0] w fun e w'=>e = .returned (.bool r) ∧ Below w.heap.size w w':=by
 have HR0:=Aside0.mk hr0
 have HC0:=Aside0.mk hc0
 clear hr0 hc0
 have HB:=Aside0.mk (Below.refl w.heap.size w)
 have H : ((spec_l1In.f (l0.length : Int) 1 41).bind fun t310=>(if t310 = true then (if 0 < (l0.length : Int) then (if (rd l0 0) = 1 then ((spec_l1Rising.f k l0 1 1000000).bind fun t312=>(spec_chGood.j0 k l0 (!t312))) else (spec_chGood.j0 k l0 true)) else (none)) else (spec_chGood.j0 k l0 true))) = some r:=h
 clear h
 have HC2:=Aside0.mk H
 clear H
 go_enter Tryz.func20,Tryz.ntmps20
 go_upto_region 1 with (fail)
 go_cut [18] (fun v18 wc=>∃ (kq : Nat) (x18_1 : Bool),v18 = .bool x18_1 ∧ Aside0 (spec_chGood.j0 kq l0 x18_1 = some r) ∧ Aside0 (kq ≤ k) ∧ Aside0 (Below w.heap.size w wc))
 case first=>
  have H:=HC2.out
  clear HC2
  obtain ⟨t310,A3,H⟩:=bd H
  by_cases c4 : t310 = true
  ·subst c4
   rw [if_pos rfl] at H
   by_cases c5 : 0 < (l0.length : Int)
   ·rw [if_pos c5] at H
    have c5b0 : decide (0 < (l0.length : Int)) = true:=decide_eq_true c5
    have c5b1 : decide (0 < l0.length) = true:=decide_eq_true (by omega)
    clear c5
    (first|rw [c5b0]|(simp only [i64_w,i32_w];rw [c5b0])|skip)
    by_cases c6 : (rd l0 0) = 1
    ·rw [if_pos c6] at H
     have c6b0 : ((rd l0 0) == 1) = true:=beq_iff_eq.mpr c6
     have c6b1 : ((rd l0 0) != 1) = false:=bne_eq_false_iff_eq.mpr c6
     clear c6
     obtain ⟨t312,A7,H⟩:=bd H
     have H':=Aside0.mk H
     clear H
     go_wp2_with (first|((with_reducible refine gate_callee (f:=35) rfl ?_);refine goesL_ (some 6) rfl rfl Tryz.func35 (by kernel_rfl) rfl #[.int .i64 (l0.length : Int),.int .i64 1,.int .i64 41] rfl mz ?_;(with_reducible refine (spec_l1In.calls (l0.length : Int) 1 41 true _ A3.out).mono ?_);rintro e w' ⟨rfl,⟨nd,rfl⟩⟩;refine ⟨_,rfl,?_⟩;have p311 : 0 ≤ (0 : Int):=(by omega);have q311 : 0 < (l0.length : Int):=of_decide_eq_true az;obtain ⟨ad311,e311,hx311_0⟩:=Kd.at_int HR0.out 0 p311 q311;cases e311;have qi311 : (0 < l0.length) = True:=eq_true (by omega);(try rw [show ((0 : Int)).toNat = 0 from rfl] at hx311_0);(try rw [Addr.add_zero'] at hx311_0);replace hx311_0:=(HB.out.cell (World.block_lt_of_cell? w _ hx311_0)).trans hx311_0;replace p311:=eq_true p311;replace q311:=eq_true q311)|(go_at_call 36;(with_reducible refine (spec_l1Rising.calls k _ _ l0 1 1000000 t312 _ ?side1 ?side2 A7.out).mono ?_);(case side1=>exact cz (Kd.C_below HR0.out bz));(case side2=>exact HC0.out);rintro e w' ⟨rfl,⟨nd,rfl⟩⟩))
     go_meet
     case rel=>exact ⟨_,(!t312),fz,H',⟨by first|omega|exact Nat.le_refl _⟩,⟨by repeat (first|(with_reducible first|exact HB.out|apply below_alloc|apply pw_below_drewN|apply below_drew1)|exact HB.out)⟩⟩
    ·rw [if_neg c6] at H
     have c6b0 : ((rd l0 0) == 1) = false:=beq_eq_false_iff_ne.mpr c6
     have c6b1 : ((rd l0 0) != 1) = true:=bne_iff_ne.mpr c6
     have H':=Aside0.mk H
     clear H
     go_wp2_with (first|((with_reducible refine gate_callee (f:=35) rfl ?_);refine goesL_ (some 6) rfl rfl Tryz.func35 (by kernel_rfl) rfl #[.int .i64 (l0.length : Int),.int .i64 1,.int .i64 41] rfl mz ?_;(with_reducible refine (spec_l1In.calls (l0.length : Int) 1 41 true _ A3.out).mono ?_);rintro e w' ⟨rfl,⟨nd,rfl⟩⟩;refine ⟨_,rfl,?_⟩;have p311 : 0 ≤ (0 : Int):=(by omega);have q311 : 0 < (l0.length : Int):=of_decide_eq_true az;obtain ⟨ad311,e311,hx311_0⟩:=Kd.at_int HR0.out 0 p311 q311;cases e311;have qi311 : (0 < l0.length) = True:=eq_true (by omega);(try rw [show ((0 : Int)).toNat = 0 from rfl] at hx311_0);(try rw [Addr.add_zero'] at hx311_0);replace hx311_0:=(HB.out.cell (World.block_lt_of_cell? w _ hx311_0)).trans hx311_0;replace p311:=eq_true p311;replace q311:=eq_true q311))
     go_meet
     case rel=>exact ⟨_,(true),fz,H',⟨by first|omega|exact Nat.le_refl _⟩,⟨by repeat (first|(with_reducible first|exact HB.out|apply below_alloc|apply pw_below_drewN|apply below_drew1)|exact HB.out)⟩⟩
   ·rw [if_neg c5] at H
    exact absurd H (by simp)
  ·replace c4:=Bool.eq_false_iff.mpr c4
   subst c4
   rw [if_neg (show ¬ (false = true) by decide)] at H
   have H':=Aside0.mk H
   clear H
   go_wp2_with (first|((with_reducible refine gate_callee (f:=35) rfl ?_);refine goesL_ (some 6) rfl rfl Tryz.func35 (by kernel_rfl) rfl #[.int .i64 (l0.length : Int),.int .i64 1,.int .i64 41] rfl mz ?_;(with_reducible refine (spec_l1In.calls (l0.length : Int) 1 41 false _ A3.out).mono ?_);rintro e w' ⟨rfl,⟨nd,rfl⟩⟩;refine ⟨_,rfl,?_⟩))
   go_meet
   case rel=>exact ⟨_,(true),fz,H',⟨by first|omega|exact Nat.le_refl _⟩,⟨by repeat (first|(with_reducible first|exact HB.out|apply below_alloc|apply pw_below_drewN|apply below_drew1)|exact HB.out)⟩⟩
 case rest=>
  clear HC2
  try clear c2
  try clear p2
  try clear c3
  try clear p3
  try clear q3
  try clear hx3
  try clear qi3
  try clear c4
  try clear c5
  try clear c5b0
  try clear c5b1
  try clear c6
  try clear c6b0
  try clear c6b1
  try clear hx311_0
  try clear p311
  try clear q311
  obtain ⟨kq,x18_1,rfl,HA,HJ1,HB⟩:=hcut
  cases kq with
  | zero=>exact absurd HA.out (by simp [spec_chGood.j0])
  | succ kj1=>
   have H:=HA.out
   clear HA
   simp only [spec_chGood.j0] at H
   by_cases c8 : x18_1 = true
   ·subst c8
    rw [if_pos rfl] at H
    obtain rfl:=Option.some.inj H
    go_wp2
    go_ret
    exact ⟨by first|rfl|(simp [errW_none,errW_some] <;> rfl)|(simp [*,errW_none,errW_some] <;> rfl),by repeat (first|(with_reducible first|exact HB.out|apply below_alloc|apply pw_below_drewN|apply below_drew1)|exact HB.out)⟩
   ·replace c8:=Bool.eq_false_iff.mpr c8
    subst c8
    rw [if_neg (show ¬ (false = true) by decide)] at H
    have H':=Aside0.mk H
    clear H
    go_wp2
    go_loopg [3] kj1 (fun kq v3 w'=>∃ (x3_2 : Int),v3 = .int .i64 x3_2 ∧ Aside0 (spec_chGood.l0 kq l0 x3_2 = some r) ∧ Aside0 (kq ≤ kj1) ∧ Aside0 (Below w.heap.size w w'))
    case atStart=>exact ⟨(1),fz,H',⟨Nat.le_refl _⟩,⟨by repeat (first|(with_reducible first|exact HB.out|apply below_alloc|apply pw_below_drewN|apply below_drew1)|exact HB.out)⟩⟩
    case round=>
     clear H'
     try clear c2
     try clear p2
     try clear c3
     try clear p3
     try clear q3
     try clear hx3
     try clear qi3
     try clear c4
     try clear c5
     try clear c5b0
     try clear c5b1
     try clear c6
     try clear c6b0
     try clear c6b1
     try clear c8
     try clear hx311_0
     try clear p2
     try clear p3
     try clear p311
     try clear q3
     try clear q311
     obtain ⟨x3_2,rfl,HA,HK2,HB⟩:=hrel
     cases gk with
     | zero=>exact absurd HA.out (by simp [spec_chGood.l0])
     | succ k2=>
      have H:=HA.out
      clear HA
      simp only [spec_chGood.l0] at H
      by_cases c9 : x3_2 < (l0.length : Int)
      ·rw [if_pos c9] at H
       have c9b0 : decide (x3_2 < (l0.length : Int)) = true:=decide_eq_true c9
       clear c9
       obtain ⟨t313,A10,H⟩:=bd H
       by_cases c11 : (t313.length : Int) = 0
       ·rw [if_pos c11] at H
        have c11b0 : ((t313.length : Int) == 0) = true:=beq_iff_eq.mpr c11
        have c11b1 : ((t313.length : Int) != 0) = false:=bne_eq_false_iff_eq.mpr c11
        clear c11
        obtain rfl:=Option.some.inj H
        go_wp2_with (first|((with_reducible refine gate_callee (f:=37) rfl ?_);refine goesL_ (some 27) rfl rfl Tryz.func37 (by kernel_rfl) rfl #[.slice A0 l0.length c0,.int .i64 x3_2] rfl mz ?_;(with_reducible refine (spec_chPairs.calls k2 _ _ l0 x3_2 t313 _ ?side1 ?side2 A10.out).mono ?_);(case side1=>exact cz (Kd.C_below HR0.out HB.out));(case side2=>exact HC0.out);rintro e w12 ⟨v314,rfl,ho0,hb⟩;refine ⟨_,rfl,?_⟩;have n0_:=Aside0.mk (Kd.R_lower ho0 (below_size bz));have n1_:=Aside0.mk (below_step bz hb);clear HB;have HO315:=n0_;have HB:=n1_;clear n0_ n1_;(try clear hb);(try clear ho0);obtain ⟨Ao13,co13,eo13⟩:=Kd.R_slice HO315.out;subst eo13))
        go_ret
        exact ⟨by first|rfl|(simp [errW_none,errW_some] <;> rfl)|(simp [*,errW_none,errW_some] <;> rfl),by repeat (first|(with_reducible first|exact HB.out|apply below_alloc|apply pw_below_drewN|apply below_drew1)|exact HB.out)⟩
       ·rw [if_neg c11] at H
        have c11b0 : ((t313.length : Int) == 0) = false:=beq_eq_false_iff_ne.mpr c11
        have c11b1 : ((t313.length : Int) != 0) = true:=bne_iff_ne.mpr c11
        have c11b2 : ¬ (t313 = []):=fun h_=>c11 (by rw [h_];rfl)
        have H':=Aside0.mk H
        clear H
        go_wp2_with (first|((with_reducible refine gate_callee (f:=37) rfl ?_);refine goesL_ (some 27) rfl rfl Tryz.func37 (by kernel_rfl) rfl #[.slice A0 l0.length c0,.int .i64 x3_2] rfl mz ?_;(with_reducible refine (spec_chPairs.calls k2 _ _ l0 x3_2 t313 _ ?side1 ?side2 A10.out).mono ?_);(case side1=>exact cz (Kd.C_below HR0.out HB.out));(case side2=>exact HC0.out);rintro e w14 ⟨v314,rfl,ho0,hb⟩;refine ⟨_,rfl,?_⟩;have n0_:=Aside0.mk (Kd.R_lower ho0 (below_size bz));have n1_:=Aside0.mk (below_step bz hb);clear HB;have HO315:=n0_;have HB:=n1_;clear n0_ n1_;(try clear hb);(try clear ho0);obtain ⟨Ao15,co15,eo15⟩:=Kd.R_slice HO315.out;subst eo15))
        go_roundg k2
        case measure=>have:=HJ1.out;have:=HK2.out;omega
        case rel=>exact ⟨(wrap64 (x3_2 + 1)),fz,H',⟨by have:=HJ1.out;have:=HK2.out;omega⟩,⟨by repeat (first|(with_reducible first|exact HB.out|apply below_alloc|apply pw_below_drewN|apply below_drew1)|exact HB.out)⟩⟩
      ·rw [if_neg c9] at H
       have c9b0 : decide (x3_2 < (l0.length : Int)) = false:=decide_eq_false c9
       clear c9
       obtain rfl:=Option.some.inj H
       go_wp2
       go_ret
       exact ⟨by first|rfl|(simp [errW_none,errW_some] <;> rfl)|(simp [*,errW_none,errW_some] <;> rfl),by repeat (first|(with_reducible first|exact HB.out|apply below_alloc|apply pw_below_drewN|apply below_drew1)|exact HB.out)⟩
/-! ### spec_chSteps: function 38 -/
def spec_chSteps.l0 : Nat → List Int → List (S41) → Int → Option ((List (S41)))
 | 0,_,_,_=>none
 | k + 1,x0,x3,x4=>if x4 < (x0.length : Int) then ((spec_chPairs.f k x0 x4).bind fun t316=>(if 0 ≤ (wrap64 ((t316.length : Int) - 1)) then (if (wrap64 ((t316.length : Int) - 1)) < (t316.length : Int) then (if x3.length < 8796093022208 then (spec_chSteps.l0 k x0 (x3 ++ [(⟨(rd_T41 t316 (wrap64 ((t316.length : Int) - 1))).f0,(rd_T41 t316 (wrap64 ((t316.length : Int) - 1))).f1⟩ : S41)]) (wrap64 (x4 + 1))) else (none)) else (none)) else (none))) else (some x3)
def spec_chSteps.f (k : Nat) (l0 : List Int) : Option ((List (S41))):=spec_chSteps.l0 k l0 ([] : List (S41)) 1
theorem spec_chSteps.mono_l : ∀ k,(∀ y0 y1 y2,LeO (spec_chSteps.l0 k y0 y1 y2) (spec_chSteps.l0 (k + 1) y0 y1 y2))
 | 0=>fun _ _ _ r h=>by simp [spec_chSteps.l0] at h
 | k + 1=>by
  have ih0:=spec_chSteps.mono_l k
  ·intro y0 y1 y2
   unfold spec_chSteps.l0
   repeat' first
   | (with_reducible exact ih0 _ _ _)
   | (with_reducible exact spec_chPairs.mono _ _ _)
   | (with_reducible exact LeO.refl _)
   | (with_reducible exact LeO.none _)
   | (with_reducible refine LeO.ite ?_ ?_)
   | (with_reducible refine LeO.bind ?_ (fun _=>?_))
   | exact ih0 _ _ _
   | exact spec_chPairs.mono _ _ _
   | exact LeO.none _
   | refine LeO.ite ?_ ?_
   | refine LeO.bind ?_ (fun _=>?_)
theorem spec_chSteps.mono : ∀ a0 k,LeO (spec_chSteps.f k a0) (spec_chSteps.f (k + 1) a0):=by
 intro a0 k
 have ih0:=spec_chSteps.mono_l k
 unfold spec_chSteps.f
 repeat' first
   | (with_reducible exact ih0 _ _ _)
   | (with_reducible exact spec_chPairs.mono _ _ _)
   | (with_reducible exact LeO.refl _)
   | (with_reducible exact LeO.none _)
   | (with_reducible refine LeO.ite ?_ ?_)
   | (with_reducible refine LeO.bind ?_ (fun _=>?_))
   | exact ih0 _ _ _
   | exact spec_chPairs.mono _ _ _
   | exact LeO.none _
   | refine LeO.ite ?_ ?_
   | refine LeO.bind ?_ (fun _=>?_)
set_option maxHeartbeats 8000000 in
set_option maxRecDepth 100000 in
theorem spec_chSteps.calls (k : Nat) (A0 : Option Addr) (c0 : Nat) (l0 : List Int) (r : List (S41)) (w : World) (hr0 : Kd.C (Kd.int .i64) w A0 l0.length l0) (hc0 : l0.length ≤ c0) (h : spec_chSteps.f k l0 = some r) :
  Calls Tryz.prog 38 #[.slice A0 l0.length c0] w fun e w'=>∃ v0_ : Value,e = .returned (v0_) ∧ Kd.R k41 41 w' w.heap.size (fun _=>True) v0_ r ∧ Below w.heap.size w w':=by
 have hu41:=Tryz.underlying41
 have HR0:=Aside0.mk hr0
 have HC0:=Aside0.mk hc0
 clear hr0 hc0
 have HB:=Aside0.mk (Below.refl w.heap.size w)
 have H : (spec_chSteps.l0 k l0 ([] : List (S41)) 1) = some r:=h
 clear h
 have H':=Aside0.mk H
 clear H
 go_enter Tryz.func38,Tryz.ntmps38
 go_wp2
 go_loopg [3,4] k (fun kq v3 v4 w'=>∃ (x3_1 : List (S41)) (x4_1 : Int),v4 = .int .i64 x4_1 ∧ Aside0 (spec_chSteps.l0 kq l0 x3_1 x4_1 = some r) ∧ Aside0 (kq ≤ k) ∧ Aside0 (Kd.R k41 41 w' w.heap.size (fun _=>True) v3 x3_1) ∧ Aside0 (Below w.heap.size w w'))
 case atStart=>exact ⟨(([] : List (S41))),(1),fz,H',⟨Nat.le_refl _⟩,⟨by first|exact Kd.R_nil _ _ _ _ _|exact Kd.N_nil _ _ _ _ _|exact Kd.V_nil _ _ _ _ _|exact Kd.Q_nil _ _ _ _ _|exact Kd.S_nil _ _ _ _ _⟩,⟨by repeat (first|(with_reducible first|exact HB.out|apply below_alloc|apply pw_below_drewN|apply below_drew1)|exact HB.out)⟩⟩
 case round=>
  clear H'
  obtain ⟨x3_1,x4_1,rfl,HA,HK1,HO_3,HB⟩:=hrel
  cases gk with
  | zero=>exact absurd HA.out (by simp [spec_chSteps.l0])
  | succ k1=>
   have H:=HA.out
   clear HA
   simp only [spec_chSteps.l0] at H
   by_cases c2 : x4_1 < (l0.length : Int)
   ·rw [if_pos c2] at H
    have c2b0 : decide (x4_1 < (l0.length : Int)) = true:=decide_eq_true c2
    clear c2
    obtain ⟨t316,A3,H⟩:=bd H
    obtain ⟨ji4,hji4⟩ : ∃ j_ : Int,(wrap64 ((t316.length : Int) - 1)) = j_:=⟨_,rfl⟩
    replace H : (if 0 ≤ (ji4) then (if (ji4) < (t316.length : Int) then (if x3_1.length < 8796093022208 then (spec_chSteps.l0 k1 l0 (x3_1 ++ [(⟨(rd_T41 t316 (ji4)).f0,(rd_T41 t316 (ji4)).f1⟩ : S41)]) (wrap64 (x4_1 + 1))) else (none)) else (none)) else (none)) = some r:=by first|(rw [hji4] at H;exact H)|(simp only [hji4] at H ⊢;exact H)
    (try rw [hji4] at A3)
    have hji4w : (IntKind.i64.wrap ((t316.length : Int) - 1)) = ji4:=(i64_w _).trans hji4
    by_cases c5 : 0 ≤ (ji4)
    ·rw [if_pos c5] at H
     have c5b0 : decide (0 ≤ (ji4)) = true:=decide_eq_true c5
     clear c5
     by_cases c6 : (ji4) < (t316.length : Int)
     ·rw [if_pos c6] at H
      have c6b0 : decide ((ji4) < (t316.length : Int)) = true:=decide_eq_true c6
      clear c6
      by_cases c7 : x3_1.length < 8796093022208
      ·rw [if_pos c7] at H
       have LMc7:=Aside0.mk c7
       clear c7
       obtain ⟨y320,hy320⟩ : ∃ y_ : List (S41),y_ = (x3_1 ++ [(⟨(rd_T41 t316 (ji4)).f0,(rd_T41 t316 (ji4)).f1⟩ : S41)]):=⟨_,rfl⟩
       replace H : (spec_chSteps.l0 k1 l0 y320 (wrap64 (x4_1 + 1))) = some r:=by first|(rw [hy320];with_reducible exact H)|(have H2_:=(Option.bind_some _ _).symm.trans H;rw [hy320];with_reducible exact H2_)|(have H2_:=(Option.bind_some _ _).symm.trans H;with_reducible exact H2_)|with_reducible exact H|(rw [hy320];exact H)|exact H
       have Ny320:=Aside0.mk hy320
       clear hy320
       have H':=Aside0.mk H
       clear H
       go_wp2_with (first|((with_reducible refine gate_callee (f:=37) rfl ?_);refine goesL_ (some 14) rfl rfl Tryz.func37 (by kernel_rfl) rfl #[.slice A0 l0.length c0,.int .i64 x4_1] rfl mz ?_;(with_reducible refine (spec_chPairs.calls k1 _ _ l0 x4_1 t316 _ ?side1 ?side2 A3.out).mono ?_);(case side1=>exact cz (Kd.C_below HR0.out HB.out));(case side2=>exact HC0.out);rintro e w8 ⟨v317,rfl,ho0,hb⟩;refine ⟨_,rfl,?_⟩;have n0_:=Aside0.mk (Kd.R_elder' (rz HO_3.out) (Kd.R_base ho0) hb);have n1_:=Aside0.mk (Kd.R_lower (Kd.R_new' ho0 (Kd.R_lt (rz HO_3.out))) (below_size bz));have n2_:=Aside0.mk (below_step bz hb);clear HO_3 HB;have HO_3:=n0_;have HO318:=n1_;have HB:=n2_;clear n0_ n1_ n2_;(try clear hb);(try clear ho0);obtain ⟨Ao9,co9,eo9⟩:=Kd.R_slice HO318.out;subst eo9;have p319 : 0 ≤ ((ji4) : Int):=of_decide_eq_true az;have q319 : (ji4) < (t316.length : Int):=of_decide_eq_true az;obtain ⟨ad319,e319,hx319_0,hx319_1⟩:=at_T41 (Kd.R_reads' HO318.out).2.2 (ji4) p319 q319;cases e319;replace p319:=eq_true p319;replace q319:=eq_true q319)|((with_reducible refine gate_builtin (b:=.append) (xs:=#[.tmp 15,.tmp 22]) rfl ?_);at_builtin;refine Kd.R_append k41 (w0:=w) w.heap.size rfl (.tmp 15) (.tmp 22) 26 41 (.agg #[(.int .i64 0),(.int .i64 0)]) 16 rfl Tryz.underlying26 info41 rfl (by decide) (by omega) u3 x3_1 (⟨(rd_T41 t316 (ji4)).f0,(rd_T41 t316 (ji4)).f1⟩ : S41) [.int .i64 ((rd_T41 t316 (ji4)).f0),.int .i64 ((rd_T41 t316 (ji4)).f1)] (fun k_=>some k_ ≠ (.slice (some ad319) t316.length co9 : Value).ownBlock) (fun _=>False) rfl rfl ?aP (fun _ hk=>hk.elim) ?aF ?aO ?aB ?aS ?aL ?_;(case aP=>exact k41_mkM _ _ _ (⟨(rd_T41 t316 (ji4)).f0,(rd_T41 t316 (ji4)).f1⟩ : S41));(case aB=>exact bz);(case aF=>exact (fun k_ hk=>Kd.fresh' (Kd.R_lt (rz HO318.out)) k_ hk));(case aO=>exact (by (with_reducible repeat (first|apply Kd.R_alloc|apply Kd.R_drewN|apply Kd.R_drew));exact Kd.R_mono HO_3.out (fun _ hk=>hk.2)));(case aS=>exact (below_size bz));(case aL=>have:=LMc7.out;omega);intro v321 w10 ho hb hg hat;rw [← Ny320.out] at ho;have n0_:=Aside0.mk (Kd.R_after (ok:=(fun _=>True)) (rz HO318.out) hg hat);have n1_:=Aside0.mk (hb);have n2_:=Aside0.mk (ho);clear HO318 HB HO_3;have HO318:=n0_;have HB:=n1_;have HO322:=n2_;clear n0_ n1_ n2_;clear ho hb hg hat))
       go_roundg k1
       case measure=>have:=HK1.out;omega
       case rel=>exact ⟨(y320),(wrap64 (x4_1 + 1)),fz,H',⟨by have:=HK1.out;omega⟩,⟨by (with_reducible repeat (first|apply Kd.R_alloc|apply Kd.R_drewN|apply Kd.R_drew));exact Kd.R_mono HO322.out (fun _ hk=>trivial)⟩,⟨by repeat (first|(with_reducible first|exact HB.out|apply below_alloc|apply pw_below_drewN|apply below_drew1)|exact HB.out)⟩⟩
      ·rw [if_neg c7] at H
       exact absurd H (by simp)
     ·rw [if_neg c6] at H
      exact absurd H (by simp)
    ·rw [if_neg c5] at H
     exact absurd H (by simp)
   ·rw [if_neg c2] at H
    have c2b0 : decide (x4_1 < (l0.length : Int)) = false:=decide_eq_false c2
    clear c2
    obtain rfl:=Option.some.inj H
    go_wp2
    go_ret
    exact ⟨_,by first|rfl|(simp [errW_none,errW_some] <;> rfl)|(simp [*,errW_none,errW_some] <;> rfl),by (with_reducible repeat (first|apply Kd.R_alloc|apply Kd.R_drewN|apply Kd.R_drew));exact HO_3.out,by repeat (first|(with_reducible first|exact HB.out|apply below_alloc|apply pw_below_drewN|apply below_drew1)|exact HB.out)⟩
/-! ### spec_chPlan: function 21 -/
def spec_chPlan.f (k : Nat) (l0 : List Int) : Option (Int × (List (S41)) × List Int):=(spec_chSteps.f k l0).bind fun t324=>(some (1,t324,(([wrap64 ((l0.length : Int) - 1)] : List Int))))
theorem spec_chPlan.mono : ∀ a0 k,LeO (spec_chPlan.f k a0) (spec_chPlan.f (k + 1) a0):=by
 intro a0 k
 unfold spec_chPlan.f
 repeat' first
   | (with_reducible exact spec_chSteps.mono _ _)
   | (with_reducible exact LeO.refl _)
   | (with_reducible exact LeO.none _)
   | (with_reducible refine LeO.ite ?_ ?_)
   | (with_reducible refine LeO.bind ?_ (fun _=>?_))
   | exact spec_chSteps.mono _ _
   | exact LeO.none _
   | refine LeO.ite ?_ ?_
   | refine LeO.bind ?_ (fun _=>?_)
set_option maxHeartbeats 8000000 in
set_option maxRecDepth 100000 in
theorem spec_chPlan.calls (k : Nat) (A0 : Option Addr) (c0 : Nat) (l0 : List Int) (r1 : Int) (r2 : List (S41)) (r3 : List Int) (w : World) (hr0 : Kd.C (Kd.int .i64) w A0 l0.length l0) (hc0 : l0.length ≤ c0) (h : spec_chPlan.f k l0 = some (r1,r2,r3)) :
  Calls Tryz.prog 21 #[.slice A0 l0.length c0] w fun e w'=>∃ v1_ v2_ : Value,e = .returned (.agg #[.int .i64 r1,v1_,v2_]) ∧ Kd.R k41 41 w' w.heap.size (fun _=>True) v1_ r2 ∧ Kd.R (Kd.int .i64) 3 w' w.heap.size (fun _=>True) v2_ r3 ∧ Below w.heap.size w w':=by
 have hu28:=Tryz.underlying28
 have HR0:=Aside0.mk hr0
 have HC0:=Aside0.mk hc0
 clear hr0 hc0
 have HB:=Aside0.mk (Below.refl w.heap.size w)
 have H : ((spec_chSteps.f k l0).bind fun t324=>(some (1,t324,(([wrap64 ((l0.length : Int) - 1)] : List Int))))) = some (r1,r2,r3):=h
 clear h
 obtain ⟨t324,A2,H⟩:=bd H
 obtain ⟨y327,hy327⟩ : ∃ y_ : List Int,y_ = (([wrap64 ((l0.length : Int) - 1)] : List Int)):=⟨_,rfl⟩
 replace H : (some (1,t324,y327)) = some (r1,r2,r3):=by first|(rw [hy327];with_reducible exact H)|(have H2_:=(Option.bind_some _ _).symm.trans H;rw [hy327];with_reducible exact H2_)|(have H2_:=(Option.bind_some _ _).symm.trans H;with_reducible exact H2_)|with_reducible exact H|(rw [hy327];exact H)|exact H
 have Ny327:=Aside0.mk hy327
 clear hy327
 simp only [Option.some.injEq,Prod.mk.injEq] at H
 obtain ⟨rfl,rfl,rfl⟩:=H
 go_enter Tryz.func21,Tryz.ntmps21
 go_wp2_with (first|((with_reducible refine gate_dst (N:=2) rfl ?_);refine box_event ?hg (N:=2) ?hd (cs:=#[.int .i64 0,.slice none 0 0,.slice none 0 0]) (t:=28) ?hr ?_;(case hd=>rfl);(case hg=>rfl);(case hr=>first|(go_simp;done)|(go_simp;rfl));intro gb323 hg w3 hbox hb;have n0_:=Aside0.mk (below_step bz hb);have n1_:=Aside0.mk (hbox);have n2_:=Aside0.mk ((by rw [hg];exact (below_size bz) : w.heap.size ≤ gb323));have n3_:=Aside0.mk ((by rw [hg];exact (below_size bz) : w.heap.size ≤ gb323));clear HB;have HB:=n0_;have BK323:=n1_;have GW323:=n2_;have GE323:=n3_;clear n0_ n1_ n2_ n3_;clear hb hbox hg)|((with_reducible refine gate_callee (f:=38) rfl ?_);refine goesL_ (some 4) rfl rfl Tryz.func38 (by kernel_rfl) rfl #[.slice A0 l0.length c0] rfl mz ?_;(with_reducible refine (spec_chSteps.calls k _ _ l0 t324 _ ?side1 ?side2 A2.out).mono ?_);(case side1=>exact cz (Kd.C_below HR0.out HB.out));(case side2=>exact HC0.out);rintro e w4 ⟨v325,rfl,ho0,hb⟩;refine ⟨_,rfl,?_⟩;have n0_:=Aside0.mk (Kd.R_lower ho0 (below_size bs));have n1_:=Aside0.mk (kb BK323.out hb);have n2_:=Aside0.mk (below_step bs hb);clear BK323 HB;have HO326:=n0_;have BK323:=n1_;have HB:=n2_;clear n0_ n1_ n2_;(try clear hb);(try clear ho0))|((with_reducible refine gate_dst (N:=8) rfl ?_);refine Kd.R_lit (Kd.int .i64) _ 3 ?hg (N:=8) ?hd (xs:=([wrap64 ((l0.length : Int) - 1)] : List Int)) (inner:=[.int .i64 (wrap64 ((l0.length : Int) - 1))]) (ok:=fun _=>True) (okp:=fun _=>True) ?hr ?hp (fun _ hk=>hk) trivial (Below.refl _ _) (Nat.le_refl _) (by simp) ?_;(case hd=>rfl);(case hg=>rfl);(case hr=>first|(go_simp;done)|(go_simp;rfl));(case hp=>exact (Reps.one (show Kd.M (Kd.int .i64) _ _ _ (wrap64 ((l0.length : Int) - 1)) [.int .i64 (wrap64 ((l0.length : Int) - 1))] from rfl) (Reps.none _ _)));intro v328 w5 ho6 hb hg_ hnew_;clear hg_ hnew_;(first|rw [← Ny327.out] at ho6|(simp only [Int.reduceToNat] at ho6;rw [← Ny327.out] at ho6));have n0_:=Aside0.mk (Kd.R_below (rz HO326.out) hb);have n1_:=Aside0.mk (Kd.R_lower ho6 (below_size bs));have n2_:=Aside0.mk (kb BK323.out hb);have n3_:=Aside0.mk (below_step bs hb);clear HO326 BK323 HB;have HO326:=n0_;have HO329:=n1_;have BK323:=n2_;have HB:=n3_;clear n0_ n1_ n2_ n3_;clear hb ho6;obtain ⟨Ao7,co7,eo7⟩:=Kd.R_slice HO329.out;subst eo7;obtain ⟨Ao8,co8,eo8⟩:=Kd.R_slice HO326.out;subst eo8;have hcz9_0 : w5.cell? ⟨gb323,0,none⟩ = some (.int .i64 0):=(blk_cell BK323.out 0).trans rfl;have hcz9_1 : w5.cell? ⟨gb323,1,none⟩ = some (.slice none 0 0):=(blk_cell BK323.out 1).trans rfl;have hcz9_2 : w5.cell? ⟨gb323,2,none⟩ = some (.slice none 0 0):=(blk_cell BK323.out 2).trans rfl;have hfz9_0:=blk_frozen BK323.out 0;have hfz9_1:=blk_frozen BK323.out 1;have hfz9_2:=blk_frozen BK323.out 2))
 refine bodyPost_ret (results_cell_row rfl _ _ gb323 28 #[.int .i64 1,.slice Ao8 t324.length co8,.slice Ao7 y327.length co7] (0,0) _ rfl (by (with_reducible repeat (first|refine blk_drewN ?_ _|refine blk_drew ?_|refine blk_alloc ?_ _));refine blk_put (cs:=#[.int .i64 1,.slice Ao8 t324.length co8,.slice none 0 0]) ?_ 2 _ rfl;(with_reducible repeat (first|refine blk_drewN ?_ _|refine blk_drew ?_|refine blk_alloc ?_ _));refine blk_put (cs:=#[.int .i64 1,.slice none 0 0,.slice none 0 0]) ?_ 1 _ rfl;(with_reducible repeat (first|refine blk_drewN ?_ _|refine blk_drew ?_|refine blk_alloc ?_ _));refine blk_put (cs:=#[.int .i64 0,.slice none 0 0,.slice none 0 0]) ?_ 0 _ rfl;(with_reducible repeat (first|refine blk_drewN ?_ _|refine blk_drew ?_|refine blk_alloc ?_ _));exact BK323.out) Tryz.underlying28 rfl (by kernel_rfl)) rfl ?_
 exact ⟨_,_,by first|rfl|(simp [errW_none,errW_some] <;> rfl)|(simp [*,errW_none,errW_some] <;> rfl),by (with_reducible repeat (first|apply Kd.R_alloc|apply Kd.R_drewN|apply Kd.R_drew));exact Kd.R_mono (Kd.R_far (p:=⟨gb323,2,none⟩) (Kd.R_far (p:=⟨gb323,1,none⟩) (Kd.R_far (p:=⟨gb323,0,none⟩) (Kd.R_types HO326.out BK323.out (by decide)) (fun _ hk=>hk.2) (.int .i64 1)) (fun _ hk=>hk.2) (.slice Ao8 t324.length co8)) (fun _ hk=>hk.2) (.slice Ao7 y327.length co7)) (fun _ hk=>trivial),by (with_reducible repeat (first|apply Kd.R_alloc|apply Kd.R_drewN|apply Kd.R_drew));exact Kd.R_mono (Kd.R_far (p:=⟨gb323,2,none⟩) (Kd.R_far (p:=⟨gb323,1,none⟩) (Kd.R_far (p:=⟨gb323,0,none⟩) (Kd.R_types HO329.out BK323.out (by decide)) (fun _ hk=>hk.2) (.int .i64 1)) (fun _ hk=>hk.2) (.slice Ao8 t324.length co8)) (fun _ hk=>hk.2) (.slice Ao7 y327.length co7)) (fun _ hk=>trivial),by repeat (first|(with_reducible first|exact HB.out|apply below_alloc|apply pw_below_drewN|apply below_drew1|refine below_set ?_ GE323.out)|exact HB.out)⟩
/-! ### spec_ChainPlan: function 7 -/
def spec_ChainPlan.f (k : Nat) (l0 : List Int) : Option (Int × (List (S41)) × List Int × Bool):=(spec_chGood.f k l0).bind fun t331=>(if t331 = true then ((spec_chPlan.f k l0).bind fun bt332=>(some (bt332.1,bt332.2.1,bt332.2.2,true))) else (some (0,([] : List (S41)),([] : List Int),false)))
theorem spec_ChainPlan.mono : ∀ a0 k,LeO (spec_ChainPlan.f k a0) (spec_ChainPlan.f (k + 1) a0):=by
 intro a0 k
 unfold spec_ChainPlan.f
 repeat' first
   | (with_reducible exact spec_chGood.mono _ _)
   | (with_reducible exact spec_chPlan.mono _ _)
   | (with_reducible exact LeO.refl _)
   | (with_reducible exact LeO.none _)
   | (with_reducible refine LeO.ite ?_ ?_)
   | (with_reducible refine LeO.bind ?_ (fun _=>?_))
   | exact spec_chGood.mono _ _
   | exact spec_chPlan.mono _ _
   | exact LeO.none _
   | refine LeO.ite ?_ ?_
   | refine LeO.bind ?_ (fun _=>?_)
set_option maxHeartbeats 8000000 in
set_option maxRecDepth 100000 in
theorem spec_ChainPlan.calls (k : Nat) (A0 : Option Addr) (c0 : Nat) (l0 : List Int) (r1 : Int) (r2 : List (S41)) (r3 : List Int) (r4 : Bool) (w : World) (hr0 : Kd.C (Kd.int .i64) w A0 l0.length l0) (hc0 : l0.length ≤ c0) (h : spec_ChainPlan.f k l0 = some (r1,r2,r3,r4)) :
  Calls Tryz.prog 7 #[.slice A0 l0.length c0] w fun e w'=>∃ v1_ v2_ : Value,e = .returned (.tuple #[.agg #[.int .i64 r1,v1_,v2_],.bool r4]) ∧ Kd.R k41 41 w' w.heap.size (fun _=>True) v1_ r2 ∧ Kd.R (Kd.int .i64) 3 w' w.heap.size (fun _=>True) v2_ r3 ∧ Below w.heap.size w w':=by
 have hu28:=Tryz.underlying28
 have HR0:=Aside0.mk hr0
 have HC0:=Aside0.mk hc0
 clear hr0 hc0
 have HB:=Aside0.mk (Below.refl w.heap.size w)
 have H : ((spec_chGood.f k l0).bind fun t331=>(if t331 = true then ((spec_chPlan.f k l0).bind fun bt332=>(some (bt332.1,bt332.2.1,bt332.2.2,true))) else (some (0,([] : List (S41)),([] : List Int),false)))) = some (r1,r2,r3,r4):=h
 clear h
 obtain ⟨t331,A2,H⟩:=bd H
 by_cases c3 : t331 = true
 ·subst c3
  rw [if_pos rfl] at H
  obtain ⟨⟨t332,t333,t336⟩,A4,H⟩:=bd H
  try dsimp only at H
  simp only [Option.some.injEq,Prod.mk.injEq] at H
  obtain ⟨rfl,rfl,rfl,rfl⟩:=H
  go_enter Tryz.func7,Tryz.ntmps7
  go_wp2_with (first|((with_reducible refine gate_dst (N:=2) rfl ?_);refine box_event ?hg (N:=2) ?hd (cs:=#[.int .i64 0,.slice none 0 0,.slice none 0 0]) (t:=28) ?hr ?_;(case hd=>rfl);(case hg=>rfl);(case hr=>first|(go_simp;done)|(go_simp;rfl));intro gb330 hg w5 hbox hb;have n0_:=Aside0.mk (below_step bz hb);have n1_:=Aside0.mk (hbox);have n2_:=Aside0.mk ((by rw [hg];exact (below_size bz) : w.heap.size ≤ gb330));have n3_:=Aside0.mk ((by rw [hg];exact (below_size bz) : w.heap.size ≤ gb330));clear HB;have HB:=n0_;have BK330:=n1_;have GW330:=n2_;have GE330:=n3_;clear n0_ n1_ n2_ n3_;clear hb hbox hg)|((with_reducible refine gate_callee (f:=20) rfl ?_);refine goesL_ (some 5) rfl rfl Tryz.func20 (by kernel_rfl) rfl #[.slice A0 l0.length c0] rfl mz ?_;(with_reducible refine (spec_chGood.calls k _ _ l0 true _ ?side1 ?side2 A2.out).mono ?_);(case side1=>exact cz (Kd.C_below HR0.out HB.out));(case side2=>exact HC0.out);rintro e w6 ⟨rfl,hb⟩;refine ⟨_,rfl,?_⟩;have n0_:=Aside0.mk (kb BK330.out hb);have n1_:=Aside0.mk (below_step bs hb);clear BK330 HB;have BK330:=n0_;have HB:=n1_;clear n0_ n1_;(try clear hb))|((with_reducible refine gate_callee (f:=21) rfl ?_);refine goesL_ (some 9) rfl rfl Tryz.func21 (by kernel_rfl) rfl #[.slice A0 l0.length c0] rfl mz ?_;(with_reducible refine (spec_chPlan.calls k _ _ l0 t332 t333 t336 _ ?side1 ?side2 A4.out).mono ?_);(case side1=>exact cz (Kd.C_below HR0.out HB.out));(case side2=>exact HC0.out);rintro e w7 ⟨v334,v337,rfl,ho0,ho1,hb⟩;refine ⟨_,rfl,?_⟩;have n0_:=Aside0.mk (Kd.R_lower ho0 (below_size bs));have n1_:=Aside0.mk (Kd.R_lower ho1 (below_size bs));have n2_:=Aside0.mk (kb BK330.out hb);have n3_:=Aside0.mk (below_step bs hb);clear BK330 HB;have HO335:=n0_;have HO338:=n1_;have BK330:=n2_;have HB:=n3_;clear n0_ n1_ n2_ n3_;(try clear hb);(try clear ho0);(try clear ho1);have hcz8_0 : w7.cell? ⟨gb330,0,none⟩ = some (.int .i64 0):=(blk_cell BK330.out 0).trans rfl;have hcz8_1 : w7.cell? ⟨gb330,1,none⟩ = some (.slice none 0 0):=(blk_cell BK330.out 1).trans rfl;have hcz8_2 : w7.cell? ⟨gb330,2,none⟩ = some (.slice none 0 0):=(blk_cell BK330.out 2).trans rfl;have hfz8_0:=blk_frozen BK330.out 0;have hfz8_1:=blk_frozen BK330.out 1;have hfz8_2:=blk_frozen BK330.out 2;obtain ⟨Ao9,co9,eo9⟩:=Kd.R_slice HO335.out;subst eo9;obtain ⟨Ao10,co10,eo10⟩:=Kd.R_slice HO338.out;subst eo10))
  refine bodyPost_ret (results_ct rfl _ _ gb330 28 #[.int .i64 t332,.slice Ao9 t333.length co9,.slice Ao10 t336.length co10] (0,0) _ rfl (by (with_reducible repeat (first|refine blk_drewN ?_ _|refine blk_drew ?_|refine blk_alloc ?_ _));refine blk_put (cs:=#[.int .i64 t332,.slice Ao9 t333.length co9,.slice none 0 0]) ?_ 2 _ rfl;(with_reducible repeat (first|refine blk_drewN ?_ _|refine blk_drew ?_|refine blk_alloc ?_ _));refine blk_put (cs:=#[.int .i64 t332,.slice none 0 0,.slice none 0 0]) ?_ 1 _ rfl;(with_reducible repeat (first|refine blk_drewN ?_ _|refine blk_drew ?_|refine blk_alloc ?_ _));refine blk_put (cs:=#[.int .i64 0,.slice none 0 0,.slice none 0 0]) ?_ 0 _ rfl;(with_reducible repeat (first|refine blk_drewN ?_ _|refine blk_drew ?_|refine blk_alloc ?_ _));exact BK330.out) Tryz.underlying28 rfl (by kernel_rfl)) rfl ?_
  exact ⟨_,_,by first|rfl|(simp [errW_none,errW_some] <;> rfl)|(simp [*,errW_none,errW_some] <;> rfl),by (with_reducible repeat (first|apply Kd.R_alloc|apply Kd.R_drewN|apply Kd.R_drew));exact Kd.R_mono (Kd.R_far (p:=⟨gb330,2,none⟩) (Kd.R_far (p:=⟨gb330,1,none⟩) (Kd.R_far (p:=⟨gb330,0,none⟩) (Kd.R_types HO335.out BK330.out (by decide)) (fun _ hk=>hk.2) (.int .i64 t332)) (fun _ hk=>hk.2) (.slice Ao9 t333.length co9)) (fun _ hk=>hk.2) (.slice Ao10 t336.length co10)) (fun _ hk=>trivial),by (with_reducible repeat (first|apply Kd.R_alloc|apply Kd.R_drewN|apply Kd.R_drew));exact Kd.R_mono (Kd.R_far (p:=⟨gb330,2,none⟩) (Kd.R_far (p:=⟨gb330,1,none⟩) (Kd.R_far (p:=⟨gb330,0,none⟩) (Kd.R_types HO338.out BK330.out (by decide)) (fun _ hk=>hk.2) (.int .i64 t332)) (fun _ hk=>hk.2) (.slice Ao9 t333.length co9)) (fun _ hk=>hk.2) (.slice Ao10 t336.length co10)) (fun _ hk=>trivial),by repeat (first|(with_reducible first|exact HB.out|apply below_alloc|apply pw_below_drewN|apply below_drew1|refine below_set ?_ GE330.out)|exact HB.out)⟩
 ·replace c3:=Bool.eq_false_iff.mpr c3
  subst c3
  rw [if_neg (show ¬ (false = true) by decide)] at H
  simp only [Option.some.injEq,Prod.mk.injEq] at H
  obtain ⟨rfl,rfl,rfl,rfl⟩:=H
  go_enter Tryz.func7,Tryz.ntmps7
  go_wp2_with (first|((with_reducible refine gate_dst (N:=2) rfl ?_);refine box_event ?hg (N:=2) ?hd (cs:=#[.int .i64 0,.slice none 0 0,.slice none 0 0]) (t:=28) ?hr ?_;(case hd=>rfl);(case hg=>rfl);(case hr=>first|(go_simp;done)|(go_simp;rfl));intro gb330 hg w11 hbox hb;have n0_:=Aside0.mk (below_step bz hb);have n1_:=Aside0.mk (hbox);have n2_:=Aside0.mk ((by rw [hg];exact (below_size bz) : w.heap.size ≤ gb330));have n3_:=Aside0.mk ((by rw [hg];exact (below_size bz) : w.heap.size ≤ gb330));clear HB;have HB:=n0_;have BK330:=n1_;have GW330:=n2_;have GE330:=n3_;clear n0_ n1_ n2_ n3_;clear hb hbox hg)|((with_reducible refine gate_callee (f:=20) rfl ?_);refine goesL_ (some 5) rfl rfl Tryz.func20 (by kernel_rfl) rfl #[.slice A0 l0.length c0] rfl mz ?_;(with_reducible refine (spec_chGood.calls k _ _ l0 false _ ?side1 ?side2 A2.out).mono ?_);(case side1=>exact cz (Kd.C_below HR0.out HB.out));(case side2=>exact HC0.out);rintro e w12 ⟨rfl,hb⟩;refine ⟨_,rfl,?_⟩;have n0_:=Aside0.mk (kb BK330.out hb);have n1_:=Aside0.mk (below_step bs hb);clear BK330 HB;have BK330:=n0_;have HB:=n1_;clear n0_ n1_;(try clear hb);have hcz13_0 : w12.cell? ⟨gb330,0,none⟩ = some (.int .i64 0):=(blk_cell BK330.out 0).trans rfl;have hcz13_1 : w12.cell? ⟨gb330,1,none⟩ = some (.slice none 0 0):=(blk_cell BK330.out 1).trans rfl;have hcz13_2 : w12.cell? ⟨gb330,2,none⟩ = some (.slice none 0 0):=(blk_cell BK330.out 2).trans rfl;have hfz13_0:=blk_frozen BK330.out 0;have hfz13_1:=blk_frozen BK330.out 1;have hfz13_2:=blk_frozen BK330.out 2))
  refine bodyPost_ret (results_ct rfl _ _ gb330 28 #[.int .i64 0,.slice none 0 0,.slice none 0 0] (0,0) _ rfl (by (with_reducible repeat (first|refine blk_drewN ?_ _|refine blk_drew ?_|refine blk_alloc ?_ _));refine blk_put (cs:=#[.int .i64 0,.slice none 0 0,.slice none 0 0]) ?_ 2 _ rfl;(with_reducible repeat (first|refine blk_drewN ?_ _|refine blk_drew ?_|refine blk_alloc ?_ _));refine blk_put (cs:=#[.int .i64 0,.slice none 0 0,.slice none 0 0]) ?_ 1 _ rfl;(with_reducible repeat (first|refine blk_drewN ?_ _|refine blk_drew ?_|refine blk_alloc ?_ _));refine blk_put (cs:=#[.int .i64 0,.slice none 0 0,.slice none 0 0]) ?_ 0 _ rfl;(with_reducible repeat (first|refine blk_drewN ?_ _|refine blk_drew ?_|refine blk_alloc ?_ _));exact BK330.out) Tryz.underlying28 rfl (by kernel_rfl)) rfl ?_
  exact ⟨_,_,by first|rfl|(simp [errW_none,errW_some] <;> rfl)|(simp [*,errW_none,errW_some] <;> rfl),by first|exact Kd.R_nil _ _ _ _ _|exact Kd.N_nil _ _ _ _ _|exact Kd.V_nil _ _ _ _ _|exact Kd.Q_nil _ _ _ _ _|exact Kd.S_nil _ _ _ _ _,by first|exact Kd.R_nil _ _ _ _ _|exact Kd.N_nil _ _ _ _ _|exact Kd.V_nil _ _ _ _ _|exact Kd.Q_nil _ _ _ _ _|exact Kd.S_nil _ _ _ _ _,by repeat (first|(with_reducible first|exact HB.out|apply below_alloc|apply pw_below_drewN|apply below_drew1|refine below_set ?_ GE330.out)|exact HB.out)⟩
/-! ### laws_pSameInts: function 12 -/
def laws_pSameInts.l0 : Nat → List Int → List Int → Int → Int → Option (Bool)
 | 0,_,_,_,_=>none
 | k + 1,x0,x1,x12,x13=>if x13 < x12 then (if 0 ≤ x13 then (if x13 < (x0.length : Int) then (if x13 < (x1.length : Int) then (if (rd x0 x13) = (rd x1 x13) then (laws_pSameInts.l0 k x0 x1 x12 (wrap64 (x13 + 1))) else (some false)) else (none)) else (none)) else (none)) else (some true)
def laws_pSameInts.f (k : Nat) (l0 : List Int) (l1 : List Int) : Option (Bool):=if (l0.length : Int) = (l1.length : Int) then (laws_pSameInts.l0 k l0 l1 (l0.length : Int) 0) else (some false)
theorem laws_pSameInts.mono_l : ∀ k,(∀ y0 y1 y2 y3,LeO (laws_pSameInts.l0 k y0 y1 y2 y3) (laws_pSameInts.l0 (k + 1) y0 y1 y2 y3))
 | 0=>fun _ _ _ _ r h=>by simp [laws_pSameInts.l0] at h
 | k + 1=>by
  have ih0:=laws_pSameInts.mono_l k
  ·intro y0 y1 y2 y3
   unfold laws_pSameInts.l0
   repeat' first
   | (with_reducible exact ih0 _ _ _ _)
   | (with_reducible exact LeO.refl _)
   | (with_reducible exact LeO.none _)
   | (with_reducible refine LeO.ite ?_ ?_)
   | (with_reducible refine LeO.bind ?_ (fun _=>?_))
   | exact ih0 _ _ _ _
   | exact LeO.none _
   | refine LeO.ite ?_ ?_
   | refine LeO.bind ?_ (fun _=>?_)
theorem laws_pSameInts.mono : ∀ a0 a1 k,LeO (laws_pSameInts.f k a0 a1) (laws_pSameInts.f (k + 1) a0 a1):=by
 intro a0 a1 k
 have ih0:=laws_pSameInts.mono_l k
 unfold laws_pSameInts.f
 repeat' first
   | (with_reducible exact ih0 _ _ _ _)
   | (with_reducible exact LeO.refl _)
   | (with_reducible exact LeO.none _)
   | (with_reducible refine LeO.ite ?_ ?_)
   | (with_reducible refine LeO.bind ?_ (fun _=>?_))
   | exact ih0 _ _ _ _
   | exact LeO.none _
   | refine LeO.ite ?_ ?_
   | refine LeO.bind ?_ (fun _=>?_)
set_option maxHeartbeats 8000000 in
set_option maxRecDepth 100000 in
theorem laws_pSameInts.calls (k : Nat) (A0 : Option Addr) (c0 : Nat) (l0 : List Int) (A1 : Option Addr) (c1 : Nat) (l1 : List Int) (r : Bool) (w : World) (hr0 : Kd.C (Kd.int .i64) w A0 l0.length l0) (hc0 : l0.length ≤ c0) (hr1 : Kd.C (Kd.int .i64) w A1 l1.length l1) (hc1 : l1.length ≤ c1) (h : laws_pSameInts.f k l0 l1 = some r) :
  Calls Tryz.prog 12 #[.slice A0 l0.length c0,.slice A1 l1.length c1] w fun e w'=>e = .returned (.bool r) ∧ Drawn0 w w':=by
 have HR0:=Aside0.mk hr0
 have HC0:=Aside0.mk hc0
 clear hr0 hc0
 have HR1:=Aside0.mk hr1
 have HC1:=Aside0.mk hc1
 clear hr1 hc1
 have H : (if (l0.length : Int) = (l1.length : Int) then (laws_pSameInts.l0 k l0 l1 (l0.length : Int) 0) else (some false)) = some r:=h
 clear h
 by_cases c3 : (l0.length : Int) = (l1.length : Int)
 ·rw [if_pos c3] at H
  have c3b0 : ((l0.length : Int) == (l1.length : Int)) = true:=beq_iff_eq.mpr c3
  have c3b1 : ((l0.length : Int) != (l1.length : Int)) = false:=bne_eq_false_iff_eq.mpr c3
  have c3b2 : (l0.length == l1.length) = true:=by first|simpa using c3|(simp at c3 ⊢;omega)
  clear c3
  have H':=Aside0.mk H
  clear H
  go_enter Tryz.func12,Tryz.ntmps12
  go_wp2
  repeat (go_quiet (fail);try go_wp2)
  go_loopg [13] k (fun kq v13 w'=>∃ (x13_1 : Int),v13 = .int .i64 x13_1 ∧ Aside0 (laws_pSameInts.l0 kq l0 l1 (l0.length : Int) x13_1 = some r) ∧ Aside0 (kq ≤ k) ∧ Drawn0 w w')
  case atStart=>exact ⟨(0),fz,H',⟨Nat.le_refl _⟩,by repeat (first|exact Drawn0.refl _|apply Drawn0.step)⟩
  case round=>
   clear H'
   try clear c1
   try clear p2
   try clear c3
   try clear c3b0
   try clear c3b1
   try clear c3b2
   obtain ⟨x13_1,rfl,HA,HK1,⟨m1,rfl⟩⟩:=hrel
   cases gk with
   | zero=>exact absurd HA.out (by simp [laws_pSameInts.l0])
   | succ k1=>
    have H:=HA.out
    clear HA
    simp only [laws_pSameInts.l0] at H
    by_cases c4 : x13_1 < (l0.length : Int)
    ·rw [if_pos c4] at H
     have c4b0 : decide (x13_1 < (l0.length : Int)) = true:=decide_eq_true c4
     clear c4
     by_cases c5 : 0 ≤ x13_1
     ·rw [if_pos c5] at H
      have c5b0 : decide (0 ≤ x13_1) = true:=decide_eq_true c5
      clear c5
      by_cases c6 : x13_1 < (l0.length : Int)
      ·rw [if_pos c6] at H
       have c6b0 : decide (x13_1 < (l0.length : Int)) = true:=decide_eq_true c6
       clear c6
       by_cases c7 : x13_1 < (l1.length : Int)
       ·rw [if_pos c7] at H
        have c7b0 : decide (x13_1 < (l1.length : Int)) = true:=decide_eq_true c7
        clear c7
        by_cases c8 : (rd l0 x13_1) = (rd l1 x13_1)
        ·rw [if_pos c8] at H
         have c8b0 : ((rd l0 x13_1) == (rd l1 x13_1)) = true:=beq_iff_eq.mpr c8
         have c8b1 : ((rd l0 x13_1) != (rd l1 x13_1)) = false:=bne_eq_false_iff_eq.mpr c8
         clear c8
         have H':=Aside0.mk H
         clear H
         have p339 : 0 ≤ (x13_1 : Int):=of_decide_eq_true az
         have q339 : x13_1 < (l0.length : Int):=of_decide_eq_true az
         obtain ⟨ad339,e339,hx339_0⟩:=Kd.at_int HR0.out x13_1 p339 q339
         cases e339
         replace p339:=eq_true p339
         replace q339:=eq_true q339
         have p340 : 0 ≤ (x13_1 : Int):=of_decide_eq_true az
         have q340 : x13_1 < (l1.length : Int):=of_decide_eq_true az
         obtain ⟨ad340,e340,hx340_0⟩:=Kd.at_int HR1.out x13_1 p340 q340
         cases e340
         replace p340:=eq_true p340
         replace q340:=eq_true q340
         go_wp2
         repeat (go_quiet (fail);try go_wp2)
         go_roundg k1
         case measure=>have:=HK1.out;omega
         case rel=>exact ⟨(wrap64 (x13_1 + 1)),fz,H',⟨by have:=HK1.out;omega⟩,by repeat (first|exact Drawn0.refl _|apply Drawn0.step)⟩
        ·rw [if_neg c8] at H
         have c8b0 : ((rd l0 x13_1) == (rd l1 x13_1)) = false:=beq_eq_false_iff_ne.mpr c8
         have c8b1 : ((rd l0 x13_1) != (rd l1 x13_1)) = true:=bne_iff_ne.mpr c8
         obtain rfl:=Option.some.inj H
         have p339 : 0 ≤ (x13_1 : Int):=of_decide_eq_true az
         have q339 : x13_1 < (l0.length : Int):=of_decide_eq_true az
         obtain ⟨ad339,e339,hx339_0⟩:=Kd.at_int HR0.out x13_1 p339 q339
         cases e339
         replace p339:=eq_true p339
         replace q339:=eq_true q339
         have p340 : 0 ≤ (x13_1 : Int):=of_decide_eq_true az
         have q340 : x13_1 < (l1.length : Int):=of_decide_eq_true az
         obtain ⟨ad340,e340,hx340_0⟩:=Kd.at_int HR1.out x13_1 p340 q340
         cases e340
         replace p340:=eq_true p340
         replace q340:=eq_true q340
         go_wp2
         repeat (go_quiet (fail);try go_wp2)
         go_ret
         exact ⟨by first|rfl|(simp;done)|(simp [*];done),by repeat (first|exact Drawn0.refl _|apply Drawn0.step)⟩
       ·rw [if_neg c7] at H
        exact absurd H (by simp)
      ·rw [if_neg c6] at H
       exact absurd H (by simp)
     ·rw [if_neg c5] at H
      exact absurd H (by simp)
    ·rw [if_neg c4] at H
     have c4b0 : decide (x13_1 < (l0.length : Int)) = false:=decide_eq_false c4
     clear c4
     obtain rfl:=Option.some.inj H
     go_wp2
     repeat (go_quiet (fail);try go_wp2)
     go_ret
     exact ⟨by first|rfl|(simp;done)|(simp [*];done),by repeat (first|exact Drawn0.refl _|apply Drawn0.step)⟩
 ·rw [if_neg c3] at H
  have c3b0 : ((l0.length : Int) == (l1.length : Int)) = false:=beq_eq_false_iff_ne.mpr c3
  have c3b1 : ((l0.length : Int) != (l1.length : Int)) = true:=bne_iff_ne.mpr c3
  have c3b2 : (l0.length == l1.length) = false:=by first|simpa using c3|(simp at c3 ⊢;omega)
  obtain rfl:=Option.some.inj H
  go_enter Tryz.func12,Tryz.ntmps12
  go_wp2
  repeat (go_quiet (fail);try go_wp2)
  go_ret
  exact ⟨by first|rfl|(simp;done)|(simp [*];done),by repeat (first|exact Drawn0.refl _|apply Drawn0.step)⟩
end Go.Proofs.YtlefjgpkabijdaaGreatDoor.MFnChainsArePlans
--sq
