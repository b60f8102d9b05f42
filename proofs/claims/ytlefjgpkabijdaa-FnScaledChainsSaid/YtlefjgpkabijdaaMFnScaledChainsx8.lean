import Derived.Test.YtlefjgpkabijdaaMFnScaledChainsx0
import Derived.Test.YtlefjgpkabijdaaMFnScaledChainsx6
import Derived.Test.YtlefjgpkabijdaaMFnScaledChainsx7
import Derived.Test.YtlefjgpkabijdaaMFnScaledChainsx1
import Derived.Test.YtlefjgpkabijdaaMFnScaledChainsx2
import Derived.Test.YtlefjgpkabijdaaMFnScaledChainsx3
import Derived.Test.YtlefjgpkabijdaaMFnScaledChainsx4
import Derived.Test.YtlefjgpkabijdaaMFnScaledChainsx5
namespace Go.Proofs.Ytlefjgpkabijdaa.MFnScaledChains
open Go.RowKit Go.Proofs.YtlefjgpkabijdaaW.PrintWords Go.Proofs.YtlefjgpkabijdaaW.PrintLast Go.Proofs.YtlefjgpkabijdaaW.PrintMore Go.Proofs.YtlefjgpkabijdaaV Go.Proofs.YtlefjgpkabijdaaZ
attribute [local go_sem] max2_int min2_int max_two min_two max_three min_three max_four min_four   -- for this text's walks alone
set_option linter.unusedVariables false
set_option linter.unusedSimpArgs false
/-! ### spec_chGood: function 33 -/
mutual
def spec_chGood.j0 : Nat → List Int → Bool → Option (Bool)
 | 0,_,_=>none
 | k + 1,x0,x18=>if x18 = true then (some false) else (spec_chGood.l0 k x0 1)
def spec_chGood.l0 : Nat → List Int → Int → Option (Bool)
 | 0,_,_=>none
 | k + 1,x0,x3=>if x3 < (x0.length : Int) then ((spec_chPairs.f k x0 x3).bind fun t350=>(if (t350.length : Int) = 0 then (some false) else (spec_chGood.l0 k x0 (wrap64 (x3 + 1))))) else (some true)
end
def spec_chGood.f (k : Nat) (l0 : List Int) : Option (Bool):=(spec_l1In.f (l0.length : Int) 1 41).bind fun t347=>(if t347 = true then (if 0 < (l0.length : Int) then (if (rd l0 0) = 1 then ((spec_l1Rising.f k l0 1 1000000).bind fun t349=>(spec_chGood.j0 k l0 (!t349))) else (spec_chGood.j0 k l0 true)) else (none)) else (spec_chGood.j0 k l0 true))
theorem spec_chGood.mono_l : ∀ k,(∀ y0 y1,LeO (spec_chGood.j0 k y0 y1) (spec_chGood.j0 (k + 1) y0 y1)) ∧ (∀ y0 y1,LeO (spec_chGood.l0 k y0 y1) (spec_chGood.l0 (k + 1) y0 y1))
 | 0=>⟨fun _ _ r h=>by simp [spec_chGood.j0] at h,fun _ _ r h=>by simp [spec_chGood.l0] at h⟩
 | k + 1=>by
  obtain ⟨ih0,ih1⟩:=spec_chGood.mono_l k
  refine ⟨?_,?_⟩
  ·intro y0 y1
   unfold spec_chGood.j0
   repeat' first
   | (with_reducible exact ih0 _ _)
   | (with_reducible exact ih1 _ _)
   | (with_reducible exact spec_chPairs.mono _ _ _)
   | (with_reducible exact spec_l1Rising.mono _ _ _ _)
   | (with_reducible exact LeO.refl _)
   | (with_reducible exact LeO.none _)
   | (with_reducible refine LeO.ite ?_ ?_)
   | (with_reducible refine LeO.bind ?_ (fun _=>?_))
   | exact ih0 _ _
   | exact ih1 _ _
   | exact spec_chPairs.mono _ _ _
   | exact spec_l1Rising.mono _ _ _ _
   | exact LeO.none _
   | refine LeO.ite ?_ ?_
   | refine LeO.bind ?_ (fun _=>?_)
  ·intro y0 y1
   unfold spec_chGood.l0
   repeat' first
   | (with_reducible exact ih0 _ _)
   | (with_reducible exact ih1 _ _)
   | (with_reducible exact spec_chPairs.mono _ _ _)
   | (with_reducible exact spec_l1Rising.mono _ _ _ _)
   | (with_reducible exact LeO.refl _)
   | (with_reducible exact LeO.none _)
   | (with_reducible refine LeO.ite ?_ ?_)
   | (with_reducible refine LeO.bind ?_ (fun _=>?_))
   | exact ih0 _ _
   | exact ih1 _ _
   | exact spec_chPairs.mono _ _ _
   | exact spec_l1Rising.mono _ _ _ _
   | exact LeO.none _
   | refine LeO.ite ?_ ?_
   | refine LeO.bind ?_ (fun _=>?_)
theorem spec_chGood.mono : ∀ a0 k,LeO (spec_chGood.f k a0) (spec_chGood.f (k + 1) a0):=by
 intro a0 k
 obtain ⟨ih0,ih1⟩:=spec_chGood.mono_l k
 unfold spec_chGood.f
 repeat' first
   | (with_reducible exact ih0 _ _)
   | (with_reducible exact ih1 _ _)
   | (with_reducible exact spec_chPairs.mono _ _ _)
   | (with_reducible exact spec_l1Rising.mono _ _ _ _)
   | (with_reducible exact LeO.refl _)
   | (with_reducible exact LeO.none _)
   | (with_reducible refine LeO.ite ?_ ?_)
   | (with_reducible refine LeO.bind ?_ (fun _=>?_))
   | exact ih0 _ _
   | exact ih1 _ _
   | exact spec_chPairs.mono _ _ _
   | exact spec_l1Rising.mono _ _ _ _
   | exact LeO.none _
   | refine LeO.ite ?_ ?_
   | refine LeO.bind ?_ (fun _=>?_)
set_option maxHeartbeats 8000000 in
set_option maxRecDepth 100000 in
theorem spec_chGood.calls (k : Nat) (A0 : Option Addr) (c0 : Nat) (l0 : List Int) (r : Bool) (w : World) (hr0 : Kd.C (Kd.int .i64) w A0 l0.length l0) (hc0 : l0.length ≤ c0) (h : spec_chGood.f k l0 = some r) :
  Calls Try.prog 33 #[.slice A0 l0.length c0] w fun e w'=>e = .returned (.bool r) ∧ Below w.heap.size w w':=by
 have HR0:=Aside0.mk hr0
 have HC0:=Aside0.mk hc0
 clear hr0 hc0
 have HB:=Aside0.mk (Below.refl w.heap.size w)
 have H : ((spec_l1In.f (l0.length : Int) 1 41).bind fun t347=>(if t347 = true then (if 0 < (l0.length : Int) then (if (rd l0 0) = 1 then ((spec_l1Rising.f k l0 1 1000000).bind fun t349=>(spec_chGood.j0 k l0 (!t349))) else (spec_chGood.j0 k l0 true)) else (none)) else (spec_chGood.j0 k l0 true))) = some r:=h
 clear h
 have HC2:=Aside0.mk H
 clear H
 go_enter Try.func33,Try.ntmps33
 go_upto_region 1 with (fail)
 go_cut [18] (fun v18 wc=>∃ (kq : Nat) (x18_1 : Bool),v18 = .bool x18_1 ∧ Aside0 (spec_chGood.j0 kq l0 x18_1 = some r) ∧ Aside0 (kq ≤ k) ∧ Aside0 (Below w.heap.size w wc))
 case first=>
  have H:=HC2.out
  clear HC2
  obtain ⟨t347,A3,H⟩:=bd H
  by_cases c4 : t347 = true
  ·subst c4
   rw [if_pos rfl] at H
   by_cases c5 : 0 < (l0.length : Int)
   ·rw [if_pos c5] at H
    have c5b0 : decide (0 < (l0.length : Int)) = true:=decide_eq_true c5
    have c5b1 : decide (0 < l0.length) = true:=decide_eq_true (by omega)
    clear c5
    (first|rw [c5b0]|(simp only [i64_w,i32_w];rw [c5b0])|skip)
    by_cases c6 : (rd l0 0) = 1
    ·rw [if_pos c6] at H
     have c6b0 : ((rd l0 0) == 1) = true:=beq_iff_eq.mpr c6
     have c6b1 : ((rd l0 0) != 1) = false:=bne_eq_false_iff_eq.mpr c6
     clear c6
     obtain ⟨t349,A7,H⟩:=bd H
     have H':=Aside0.mk H
     clear H
     go_wp2_with (first|((with_reducible refine gate_callee (f:=66) rfl ?_);refine goesL_ (some 6) rfl rfl Try.func66 (by kernel_rfl) rfl #[.int .i64 (l0.length : Int),.int .i64 1,.int .i64 41] rfl mz ?_;(with_reducible refine (spec_l1In.calls (l0.length : Int) 1 41 true _ A3.out).mono ?_);rintro e w' ⟨rfl,⟨nd,rfl⟩⟩;refine ⟨_,rfl,?_⟩;have p348 : 0 ≤ (0 : Int):=(by omega);have q348 : 0 < (l0.length : Int):=of_decide_eq_true az;obtain ⟨ad348,e348,hx348_0⟩:=Kd.at_int HR0.out 0 p348 q348;cases e348;have qi348 : (0 < l0.length) = True:=eq_true (by omega);(try rw [show ((0 : Int)).toNat = 0 from rfl] at hx348_0);(try rw [Addr.add_zero'] at hx348_0);replace hx348_0:=(HB.out.cell (World.block_lt_of_cell? w _ hx348_0)).trans hx348_0;replace p348:=eq_true p348;replace q348:=eq_true q348)|(go_at_call 67;(with_reducible refine (spec_l1Rising.calls k _ _ l0 1 1000000 t349 _ ?side1 ?side2 A7.out).mono ?_);(case side1=>exact cz (Kd.C_below HR0.out bz));(case side2=>exact HC0.out);rintro e w' ⟨rfl,⟨nd,rfl⟩⟩))
     go_meet
     case rel=>exact ⟨_,(!t349),fz,H',⟨by first|omega|exact Nat.le_refl _⟩,⟨by repeat (first|(with_reducible first|exact HB.out|apply below_alloc|apply pw_below_drewN|apply below_drew1)|exact HB.out)⟩⟩
    ·rw [if_neg c6] at H
     have c6b0 : ((rd l0 0) == 1) = false:=beq_eq_false_iff_ne.mpr c6
     have c6b1 : ((rd l0 0) != 1) = true:=bne_iff_ne.mpr c6
     have H':=Aside0.mk H
     clear H
     go_wp2_with (first|((with_reducible refine gate_callee (f:=66) rfl ?_);refine goesL_ (some 6) rfl rfl Try.func66 (by kernel_rfl) rfl #[.int .i64 (l0.length : Int),.int .i64 1,.int .i64 41] rfl mz ?_;(with_reducible refine (spec_l1In.calls (l0.length : Int) 1 41 true _ A3.out).mono ?_);rintro e w' ⟨rfl,⟨nd,rfl⟩⟩;refine ⟨_,rfl,?_⟩;have p348 : 0 ≤ (0 : Int):=(by omega);have q348 : 0 < (l0.length : Int):=of_decide_eq_true az;obtain ⟨ad348,e348,hx348_0⟩:=Kd.at_int HR0.out 0 p348 q348;cases e348;have qi348 : (0 < l0.length) = True:=eq_true (by omega);(try rw [show ((0 : Int)).toNat = 0 from rfl] at hx348_0);(try rw [Addr.add_zero'] at hx348_0);replace hx348_0:=(HB.out.cell (World.block_lt_of_cell? w _ hx348_0)).trans hx348_0;replace p348:=eq_true p348;replace q348:=eq_true q348))
     go_meet
     case rel=>exact ⟨_,(true),fz,H',⟨by first|omega|exact Nat.le_refl _⟩,⟨by repeat (first|(with_reducible first|exact HB.out|apply below_alloc|apply pw_below_drewN|apply below_drew1)|exact HB.out)⟩⟩
   ·rw [if_neg c5] at H
    exact absurd H (by simp)
  ·replace c4:=Bool.eq_false_iff.mpr c4
   subst c4
   rw [if_neg (show ¬ (false = true) by decide)] at H
   have H':=Aside0.mk H
   clear H
   go_wp2_with (first|((with_reducible refine gate_callee (f:=66) rfl ?_);refine goesL_ (some 6) rfl rfl Try.func66 (by kernel_rfl) rfl #[.int .i64 (l0.length : Int),.int .i64 1,.int .i64 41] rfl mz ?_;(with_reducible refine (spec_l1In.calls (l0.length : Int) 1 41 false _ A3.out).mono ?_);rintro e w' ⟨rfl,⟨nd,rfl⟩⟩;refine ⟨_,rfl,?_⟩))
   go_meet
   case rel=>exact ⟨_,(true),fz,H',⟨by first|omega|exact Nat.le_refl _⟩,⟨by repeat (first|(with_reducible first|exact HB.out|apply below_alloc|apply pw_below_drewN|apply below_drew1)|exact HB.out)⟩⟩
 case rest=>
  clear HC2
  try clear p2
  try clear c3
  try clear p3
  try clear q3
  try clear hx3
  try clear qi3
  try clear c4
  try clear c5
  try clear c5b0
  try clear c5b1
  try clear c6
  try clear c6b0
  try clear c6b1
  try clear hx348_0
  try clear p348
  try clear q348
  obtain ⟨kq,x18_1,rfl,HA,HJ1,HB⟩:=hcut
  cases kq with
  | zero=>exact absurd HA.out (by simp [spec_chGood.j0])
  | succ kj1=>
   have H:=HA.out
   clear HA
   simp only [spec_chGood.j0] at H
   by_cases c8 : x18_1 = true
   ·subst c8
    rw [if_pos rfl] at H
    obtain rfl:=Option.some.inj H
    go_wp2
    go_ret
    exact ⟨by first|rfl|(simp [errW_none,errW_some] <;> rfl)|(simp [*,errW_none,errW_some] <;> rfl),by repeat (first|(with_reducible first|exact HB.out|apply below_alloc|apply pw_below_drewN|apply below_drew1)|exact HB.out)⟩
   ·replace c8:=Bool.eq_false_iff.mpr c8
    subst c8
    rw [if_neg (show ¬ (false = true) by decide)] at H
    have H':=Aside0.mk H
    clear H
    go_wp2
    go_loopg [3] kj1 (fun kq v3 w'=>∃ (x3_2 : Int),v3 = .int .i64 x3_2 ∧ Aside0 (spec_chGood.l0 kq l0 x3_2 = some r) ∧ Aside0 (kq ≤ kj1) ∧ Aside0 (Below w.heap.size w w'))
    case atStart=>exact ⟨(1),fz,H',⟨Nat.le_refl _⟩,⟨by repeat (first|(with_reducible first|exact HB.out|apply below_alloc|apply pw_below_drewN|apply below_drew1)|exact HB.out)⟩⟩
    case round=>
     clear H'
     try clear p2
     try clear c3
     try clear p3
     try clear q3
     try clear hx3
     try clear qi3
     try clear c4
     try clear c5
     try clear c5b0
     try clear c5b1
     try clear c6
     try clear c6b0
     try clear c6b1
     try clear c8
     try clear hx348_0
     try clear p2
     try clear p3
     try clear p348
     try clear q3
     try clear q348
     obtain ⟨x3_2,rfl,HA,HK2,HB⟩:=hrel
     cases gk with
     | zero=>exact absurd HA.out (by simp [spec_chGood.l0])
     | succ k2=>
      have H:=HA.out
      clear HA
      simp only [spec_chGood.l0] at H
      by_cases c9 : x3_2 < (l0.length : Int)
      ·rw [if_pos c9] at H
       have c9b0 : decide (x3_2 < (l0.length : Int)) = true:=decide_eq_true c9
       clear c9
       obtain ⟨t350,A10,H⟩:=bd H
       by_cases c11 : (t350.length : Int) = 0
       ·rw [if_pos c11] at H
        have c11b0 : ((t350.length : Int) == 0) = true:=beq_iff_eq.mpr c11
        have c11b1 : ((t350.length : Int) != 0) = false:=bne_eq_false_iff_eq.mpr c11
        clear c11
        obtain rfl:=Option.some.inj H
        go_wp2_with (first|((with_reducible refine gate_callee (f:=68) rfl ?_);refine goesL_ (some 27) rfl rfl Try.func68 (by kernel_rfl) rfl #[.slice A0 l0.length c0,.int .i64 x3_2] rfl mz ?_;(with_reducible refine (spec_chPairs.calls k2 _ _ l0 x3_2 t350 _ ?side1 ?side2 A10.out).mono ?_);(case side1=>exact cz (Kd.C_below HR0.out HB.out));(case side2=>exact HC0.out);rintro e w12 ⟨v351,rfl,ho0,hb⟩;refine ⟨_,rfl,?_⟩;have n0_:=Aside0.mk (Kd.R_lower ho0 (below_size bz));have n1_:=Aside0.mk (below_step bz hb);clear HB;have HO352:=n0_;have HB:=n1_;clear n0_ n1_;(try clear hb);(try clear ho0);obtain ⟨Ao13,co13,eo13⟩:=Kd.R_slice HO352.out;subst eo13))
        go_ret
        exact ⟨by first|rfl|(simp [errW_none,errW_some] <;> rfl)|(simp [*,errW_none,errW_some] <;> rfl),by repeat (first|(with_reducible first|exact HB.out|apply below_alloc|apply pw_below_drewN|apply below_drew1)|exact HB.out)⟩
       ·rw [if_neg c11] at H
        have c11b0 : ((t350.length : Int) == 0) = false:=beq_eq_false_iff_ne.mpr c11
        have c11b1 : ((t350.length : Int) != 0) = true:=bne_iff_ne.mpr c11
        have c11b2 : ¬ (t350 = []):=fun h_=>c11 (by rw [h_];rfl)
        have H':=Aside0.mk H
        clear H
        go_wp2_with (first|((with_reducible refine gate_callee (f:=68) rfl ?_);refine goesL_ (some 27) rfl rfl Try.func68 (by kernel_rfl) rfl #[.slice A0 l0.length c0,.int .i64 x3_2] rfl mz ?_;(with_reducible refine (spec_chPairs.calls k2 _ _ l0 x3_2 t350 _ ?side1 ?side2 A10.out).mono ?_);(case side1=>exact cz (Kd.C_below HR0.out HB.out));(case side2=>exact HC0.out);rintro e w14 ⟨v351,rfl,ho0,hb⟩;refine ⟨_,rfl,?_⟩;have n0_:=Aside0.mk (Kd.R_lower ho0 (below_size bz));have n1_:=Aside0.mk (below_step bz hb);clear HB;have HO352:=n0_;have HB:=n1_;clear n0_ n1_;(try clear hb);(try clear ho0);obtain ⟨Ao15,co15,eo15⟩:=Kd.R_slice HO352.out;subst eo15))
        go_roundg k2
        case measure=>have:=HJ1.out;have:=HK2.out;omega
        case rel=>exact ⟨(wrap64 (x3_2 + 1)),fz,H',⟨by have:=HJ1.out;have:=HK2.out;omega⟩,⟨by repeat (first|(with_reducible first|exact HB.out|apply below_alloc|apply pw_below_drewN|apply below_drew1)|exact HB.out)⟩⟩
      ·rw [if_neg c9] at H
       have c9b0 : decide (x3_2 < (l0.length : Int)) = false:=decide_eq_false c9
       clear c9
       obtain rfl:=Option.some.inj H
       go_wp2
       go_ret
       exact ⟨by first|rfl|(simp [errW_none,errW_some] <;> rfl)|(simp [*,errW_none,errW_some] <;> rfl),by repeat (first|(with_reducible first|exact HB.out|apply below_alloc|apply pw_below_drewN|apply below_drew1)|exact HB.out)⟩
/-! ### spec_chIf: function 55 -/
def spec_chIf.f (k : Nat) (l0 : List Int) : Option (List Int × Bool):=(spec_chGood.f k l0).bind fun t353=>(if t353 = true then (some (l0,true)) else (some (([] : List Int),false)))
theorem spec_chIf.mono : ∀ a0 k,LeO (spec_chIf.f k a0) (spec_chIf.f (k + 1) a0):=by
 intro a0 k
 unfold spec_chIf.f
 repeat' first
   | (with_reducible exact spec_chGood.mono _ _)
   | (with_reducible exact LeO.refl _)
   | (with_reducible exact LeO.none _)
   | (with_reducible refine LeO.ite ?_ ?_)
   | (with_reducible refine LeO.bind ?_ (fun _=>?_))
   | exact spec_chGood.mono _ _
   | exact LeO.none _
   | refine LeO.ite ?_ ?_
   | refine LeO.bind ?_ (fun _=>?_)
set_option maxHeartbeats 8000000 in
set_option maxRecDepth 100000 in
theorem spec_chIf.calls (k : Nat) (P0_ : Nat → Prop) (u9000_ : Value) (l0 : List Int) (r1 : List Int) (r2 : Bool) (w0 w : World) (hB : Below w0.heap.size w0 w) (ho0 : Kd.R (Kd.int .i64) 3 w w0.heap.size P0_ u9000_ l0) (h : spec_chIf.f k l0 = some (r1,r2)) :
  Calls Try.prog 55 #[u9000_] w fun e w'=>∃ v0_ : Value,e = .returned (.tuple #[v0_,.bool r2]) ∧ Kd.R (Kd.int .i64) 3 w' w0.heap.size (fun k_=>(P0_ k_ ∨ w.heap.size ≤ k_)) v0_ r1 ∧ Below w0.heap.size w0 w' ∧ Kept w w' (fun k_=>P0_ k_):=by
 have HO0:=Aside0.mk (show Kd.R (Kd.int .i64) 3 w w0.heap.size (fun k_=>(P0_ k_ ∨ w.heap.size ≤ k_)) u9000_ l0 from Kd.R_mono ho0 (fun k_ hk=>(.inl hk)))
 have HK:=Aside0.mk (Kept.refl w (fun k_=>P0_ k_))
 have HW0:=Aside0.mk hB.size
 have HB:=Aside0.mk hB
 clear hB
 have H : ((spec_chGood.f k l0).bind fun t353=>(if t353 = true then (some (l0,true)) else (some (([] : List Int),false)))) = some (r1,r2):=h
 clear h
 obtain ⟨t353,A2,H⟩:=bd H
 by_cases c3 : t353 = true
 ·subst c3
  rw [if_pos rfl] at H
  simp only [Option.some.injEq,Prod.mk.injEq] at H
  obtain ⟨rfl,rfl⟩:=H
  obtain ⟨Ao4,co4,eo4⟩:=Kd.R_slice HO0.out
  subst eo4
  go_enter Try.func55,Try.ntmps55
  go_wp2_with (first|((with_reducible refine gate_callee (f:=33) rfl ?_);refine goesL_ (some 5) rfl rfl Try.func33 (by kernel_rfl) rfl #[.slice Ao4 l0.length co4] rfl mz ?_;(with_reducible refine (spec_chGood.calls k _ _ l0 true _ ?side1 ?side2 A2.out).mono ?_);(case side1=>exact cz (Kd.R_reads' HO0.out).2.2);(case side2=>exact (Kd.R_reads' HO0.out).2.1);rintro e w5 ⟨rfl,hb⟩;refine ⟨_,rfl,?_⟩;have n0_:=Aside0.mk (Kd.R_below (rz HO0.out) hb);have n1_:=Aside0.mk (Kept.below (S:=(fun k_=>P0_ k_)) (by repeat (first|(with_reducible first|exact HK.out|apply Kept.alloc|apply Kept.drewN|apply Kept.drew)|exact HK.out)) hb);have n2_:=Aside0.mk (below_step bz hb);clear HO0 HK HB;have HO0:=n0_;have HK:=n1_;have HB:=n2_;clear n0_ n1_ n2_;(try clear hb)))
  go_ret2
  exact ⟨_,by first|rfl|(simp [errW_none,errW_some] <;> rfl)|(simp [*,errW_none,errW_some] <;> rfl),by (with_reducible repeat (first|apply Kd.R_alloc|apply Kd.R_drewN|apply Kd.R_drew));exact HO0.out,by repeat (first|(with_reducible first|exact HB.out|apply below_alloc|apply pw_below_drewN|apply below_drew1)|exact HB.out),by repeat (first|(with_reducible first|exact HK.out|apply Kept.alloc|apply Kept.drewN|apply Kept.drew)|exact HK.out)⟩
 ·replace c3:=Bool.eq_false_iff.mpr c3
  subst c3
  rw [if_neg (show ¬ (false = true) by decide)] at H
  simp only [Option.some.injEq,Prod.mk.injEq] at H
  obtain ⟨rfl,rfl⟩:=H
  obtain ⟨Ao6,co6,eo6⟩:=Kd.R_slice HO0.out
  subst eo6
  go_enter Try.func55,Try.ntmps55
  go_wp2_with (first|((with_reducible refine gate_callee (f:=33) rfl ?_);refine goesL_ (some 5) rfl rfl Try.func33 (by kernel_rfl) rfl #[.slice Ao6 l0.length co6] rfl mz ?_;(with_reducible refine (spec_chGood.calls k _ _ l0 false _ ?side1 ?side2 A2.out).mono ?_);(case side1=>exact cz (Kd.R_reads' HO0.out).2.2);(case side2=>exact (Kd.R_reads' HO0.out).2.1);rintro e w7 ⟨rfl,hb⟩;refine ⟨_,rfl,?_⟩;have n0_:=Aside0.mk (Kd.R_below (rz HO0.out) hb);have n1_:=Aside0.mk (Kept.below (S:=(fun k_=>P0_ k_)) (by repeat (first|(with_reducible first|exact HK.out|apply Kept.alloc|apply Kept.drewN|apply Kept.drew)|exact HK.out)) hb);have n2_:=Aside0.mk (below_step bz hb);clear HO0 HK HB;have HO0:=n0_;have HK:=n1_;have HB:=n2_;clear n0_ n1_ n2_;(try clear hb)))
  go_ret2
  exact ⟨_,by first|rfl|(simp [errW_none,errW_some] <;> rfl)|(simp [*,errW_none,errW_some] <;> rfl),by first|exact Kd.R_nil _ _ _ _ _|exact Kd.N_nil _ _ _ _ _|exact Kd.V_nil _ _ _ _ _|exact Kd.Q_nil _ _ _ _ _|exact Kd.S_nil _ _ _ _ _,by repeat (first|(with_reducible first|exact HB.out|apply below_alloc|apply pw_below_drewN|apply below_drew1)|exact HB.out),by repeat (first|(with_reducible first|exact HK.out|apply Kept.alloc|apply Kept.drewN|apply Kept.drew)|exact HK.out)⟩
/-! ### spec_l1Own: function 56 -/
def spec_l1Own.f (l0 : List Int) : Option (List Int):=(some (([] : List Int) : List Int)).bind fun y354=>(if y354.length + l0.length < 17592186044416 then (some (y354 ++ l0)) else (none))
set_option maxHeartbeats 8000000 in
set_option maxRecDepth 100000 in
theorem spec_l1Own.calls (A0 : Option Addr) (c0 : Nat) (l0 : List Int) (r : List Int) (w : World) (hr0 : Kd.C (Kd.int .i64) w A0 l0.length l0) (hc0 : l0.length ≤ c0) (h : spec_l1Own.f l0 = some r) :
  Calls Try.prog 56 #[.slice A0 l0.length c0] w fun e w'=>∃ v0_ : Value,e = .returned (v0_) ∧ Kd.R (Kd.int .i64) 3 w' w.heap.size (fun _=>True) v0_ r ∧ Below w.heap.size w w':=by
 have HR0:=Aside0.mk hr0
 have HC0:=Aside0.mk hc0
 clear hr0 hc0
 have HB:=Aside0.mk (Below.refl w.heap.size w)
 have H : ((some (([] : List Int) : List Int)).bind fun y354=>(if y354.length + l0.length < 17592186044416 then (some (y354 ++ l0)) else (none))) = some r:=h
 clear h
 obtain ⟨y354,hy354⟩ : ∃ y_ : List Int,y_ = (([] : List Int)):=⟨_,rfl⟩
 replace H : (if y354.length + l0.length < 17592186044416 then (some (y354 ++ l0)) else (none)) = some r:=by first|(rw [hy354];with_reducible exact H)|(have H2_:=(Option.bind_some _ _).symm.trans H;rw [hy354];with_reducible exact H2_)|(have H2_:=(Option.bind_some _ _).symm.trans H;with_reducible exact H2_)|with_reducible exact H|(rw [hy354];exact H)|exact H
 have Ny354:=Aside0.mk hy354
 clear hy354
 by_cases c2 : y354.length + l0.length < 17592186044416
 ·rw [if_pos c2] at H
  have LMc2:=Aside0.mk c2
  clear c2
  obtain ⟨y357,hy357⟩ : ∃ y_ : List Int,y_ = (y354 ++ l0):=⟨_,rfl⟩
  replace H : (some y357) = some r:=by first|(rw [hy357];with_reducible exact H)|(have H2_:=(Option.bind_some _ _).symm.trans H;rw [hy357];with_reducible exact H2_)|(have H2_:=(Option.bind_some _ _).symm.trans H;with_reducible exact H2_)|with_reducible exact H|(rw [hy357];exact H)|exact H
  have Ny357:=Aside0.mk hy357
  clear hy357
  obtain rfl:=Option.some.inj H
  go_enter Try.func56,Try.ntmps56
  go_wp2_with (first|((with_reducible refine gate_dst (N:=3) rfl ?_);refine Kd.R_lit (Kd.int .i64) _ 3 ?hg (N:=3) ?hd (xs:=([] : List Int)) (inner:=[]) (ok:=fun _=>True) (okp:=fun _=>True) ?hr ?hp (fun _ hk=>hk) trivial (Below.refl _ _) (Nat.le_refl _) (by simp) ?_;(case hd=>rfl);(case hg=>rfl);(case hr=>first|(go_simp;done)|(go_simp;rfl));(case hp=>exact (Reps.none _ _));intro v355 w3 ho4 hb hg_ hnew_;clear hg_ hnew_;(first|rw [← Ny354.out] at ho4|(simp only [Int.reduceToNat] at ho4;rw [← Ny354.out] at ho4));have n0_:=Aside0.mk (Kd.R_lower ho4 (below_size bz));have n1_:=Aside0.mk (below_step bz hb);clear HB;have HO356:=n0_;have HB:=n1_;clear n0_ n1_;clear hb ho4)|((with_reducible refine gate_builtin (b:=.append) (xs:=#[.tmp 3,.tmp 4]) rfl ?_);at_builtin;refine Kd.R_append_rows (Kd.int .i64) (w0:=w) w.heap.size rfl (.tmp 3) (.tmp 4) 24 3 (.int .i64 0) 8 rfl Try.underlying24 info3 rfl (by decide) (by omega) v355 y354 l0 _ _ _ (fun _=>True) (fun _=>False) rfl rfl ?aO ?aR (fun _ _ h=>h) (fun _ h=>h.elim) ?aF ?aB ?aS ?aL ?_;(case aR=>repeat (first|exact (Kd.C_below HR0.out HB.out)|(with_reducible refine Kd.C_alloc ?_ _)|(with_reducible refine Kd.C_drewN ?_ _)|(with_reducible refine Kd.C_drew ?_)));(case aB=>exact bz);(case aF=>exact (fun _ _=>trivial));(case aO=>exact (rz HO356.out));(case aS=>exact (below_size bz));(case aL=>have:=LMc2.out;omega);intro v358 w5 ho hb hg hat;rw [← Ny357.out] at ho;have n0_:=Aside0.mk (hb);have n1_:=Aside0.mk (ho);clear HB HO356;have HB:=n0_;have HO359:=n1_;clear n0_ n1_;clear ho hb hg hat))
  go_ret
  exact ⟨_,by first|rfl|(simp [errW_none,errW_some] <;> rfl)|(simp [*,errW_none,errW_some] <;> rfl),by (with_reducible repeat (first|apply Kd.R_alloc|apply Kd.R_drewN|apply Kd.R_drew));exact HO359.out,by repeat (first|(with_reducible first|exact HB.out|apply below_alloc|apply pw_below_drewN|apply below_drew1)|exact HB.out)⟩
 ·rw [if_neg c2] at H
  exact absurd H (by simp)
/-! ### spec_ScaleChain: function 27 -/
mutual
def spec_ScaleChain.j0 : Nat → List Int → List Int → Bool → Option (List Int × Bool)
 | 0,_,_,_=>none
 | k + 1,x0,x1,x16=>if x16 = true then (some (([] : List Int),false)) else ((spec_l1Own.f x0).bind fun t362=>(if 1 ≤ (x1.length : Int) then ((some (x1.tail : List Int)).bind fun y365=>(spec_ScaleChain.l0 k x0 t362 y365 (y365.length : Int) 0)) else (none)))
def spec_ScaleChain.l0 : Nat → List Int → List Int → List Int → Int → Int → Option (List Int × Bool)
 | 0,_,_,_,_,_=>none
 | k + 1,x0,x6,x20,x21,x22=>if x22 < x21 then (if 0 ≤ x22 then (if x22 < (x20.length : Int) then (if 0 ≤ (wrap64 ((x0.length : Int) - 1)) then (if (wrap64 ((x0.length : Int) - 1)) < (x0.length : Int) then (if x6.length < 17592186044416 then (spec_ScaleChain.l0 k x0 (x6 ++ [wrap64 ((rd x0 (wrap64 ((x0.length : Int) - 1))) * (rd x20 x22))]) x20 x21 (wrap64 (x22 + 1))) else (none)) else (none)) else (none)) else (none)) else (none)) else ((spec_chIf.f k x6).bind fun bt374=>(some (bt374.1,bt374.2)))
end
def spec_ScaleChain.f (k : Nat) (l0 : List Int) (l1 : List Int) : Option (List Int × Bool):=(spec_chGood.f k l0).bind fun t360=>(if t360 = true then ((spec_chGood.f k l1).bind fun t361=>(spec_ScaleChain.j0 k l0 l1 (!t361))) else (spec_ScaleChain.j0 k l0 l1 true))
theorem spec_ScaleChain.mono_l : ∀ k,(∀ y0 y1 y2,LeO (spec_ScaleChain.j0 k y0 y1 y2) (spec_ScaleChain.j0 (k + 1) y0 y1 y2)) ∧ (∀ y0 y1 y2 y3 y4,LeO (spec_ScaleChain.l0 k y0 y1 y2 y3 y4) (spec_ScaleChain.l0 (k + 1) y0 y1 y2 y3 y4))
 | 0=>⟨fun _ _ _ r h=>by simp [spec_ScaleChain.j0] at h,fun _ _ _ _ _ r h=>by simp [spec_ScaleChain.l0] at h⟩
 | k + 1=>by
  obtain ⟨ih0,ih1⟩:=spec_ScaleChain.mono_l k
  refine ⟨?_,?_⟩
  ·intro y0 y1 y2
   unfold spec_ScaleChain.j0
   repeat' first
   | (with_reducible exact ih0 _ _ _)
   | (with_reducible exact ih1 _ _ _ _ _)
   | (with_reducible exact spec_chGood.mono _ _)
   | (with_reducible exact spec_chIf.mono _ _)
   | (with_reducible exact LeO.refl _)
   | (with_reducible exact LeO.none _)
   | (with_reducible refine LeO.ite ?_ ?_)
   | (with_reducible refine LeO.bind ?_ (fun _=>?_))
   | exact ih0 _ _ _
   | exact ih1 _ _ _ _ _
   | exact spec_chGood.mono _ _
   | exact spec_chIf.mono _ _
   | exact LeO.none _
   | refine LeO.ite ?_ ?_
   | refine LeO.bind ?_ (fun _=>?_)
  ·intro y0 y1 y2 y3 y4
   unfold spec_ScaleChain.l0
   repeat' first
   | (with_reducible exact ih0 _ _ _)
   | (with_reducible exact ih1 _ _ _ _ _)
   | (with_reducible exact spec_chGood.mono _ _)
   | (with_reducible exact spec_chIf.mono _ _)
   | (with_reducible exact LeO.refl _)
   | (with_reducible exact LeO.none _)
   | (with_reducible refine LeO.ite ?_ ?_)
   | (with_reducible refine LeO.bind ?_ (fun _=>?_))
   | exact ih0 _ _ _
   | exact ih1 _ _ _ _ _
   | exact spec_chGood.mono _ _
   | exact spec_chIf.mono _ _
   | exact LeO.none _
   | refine LeO.ite ?_ ?_
   | refine LeO.bind ?_ (fun _=>?_)
theorem spec_ScaleChain.mono : ∀ a0 a1 k,LeO (spec_ScaleChain.f k a0 a1) (spec_ScaleChain.f (k + 1) a0 a1):=by
 intro a0 a1 k
 obtain ⟨ih0,ih1⟩:=spec_ScaleChain.mono_l k
 unfold spec_ScaleChain.f
 repeat' first
   | (with_reducible exact ih0 _ _ _)
   | (with_reducible exact ih1 _ _ _ _ _)
   | (with_reducible exact spec_chGood.mono _ _)
   | (with_reducible exact spec_chIf.mono _ _)
   | (with_reducible exact LeO.refl _)
   | (with_reducible exact LeO.none _)
   | (with_reducible refine LeO.ite ?_ ?_)
   | (with_reducible refine LeO.bind ?_ (fun _=>?_))
   | exact ih0 _ _ _
   | exact ih1 _ _ _ _ _
   | exact spec_chGood.mono _ _
   | exact spec_chIf.mono _ _
   | exact LeO.none _
   | refine LeO.ite ?_ ?_
   | refine LeO.bind ?_ (fun _=>?_)
set_option maxHeartbeats 8000000 in
set_option maxRecDepth 100000 in
theorem spec_ScaleChain.calls (k : Nat) (A0 : Option Addr) (c0 : Nat) (l0 : List Int) (A1 : Option Addr) (c1 : Nat) (l1 : List Int) (r1 : List Int) (r2 : Bool) (w : World) (hr0 : Kd.C (Kd.int .i64) w A0 l0.length l0) (hc0 : l0.length ≤ c0) (hr1 : Kd.C (Kd.int .i64) w A1 l1.length l1) (hc1 : l1.length ≤ c1) (h : spec_ScaleChain.f k l0 l1 = some (r1,r2)) :
  Calls Try.prog 27 #[.slice A0 l0.length c0,.slice A1 l1.length c1] w fun e w'=>∃ v0_ : Value,e = .returned (.tuple #[v0_,.bool r2]) ∧ Kd.R (Kd.int .i64) 3 w' w.heap.size (fun _=>True) v0_ r1 ∧ Below w.heap.size w w':=by
 have HR0:=Aside0.mk hr0
 have HC0:=Aside0.mk hc0
 clear hr0 hc0
 have HR1:=Aside0.mk hr1
 have HC1:=Aside0.mk hc1
 clear hr1 hc1
 have HB:=Aside0.mk (Below.refl w.heap.size w)
 have H : ((spec_chGood.f k l0).bind fun t360=>(if t360 = true then ((spec_chGood.f k l1).bind fun t361=>(spec_ScaleChain.j0 k l0 l1 (!t361))) else (spec_ScaleChain.j0 k l0 l1 true))) = some (r1,r2):=h
 clear h
 have HC3:=Aside0.mk H
 clear H
 go_enter Try.func27,Try.ntmps27
 go_upto_region 1 with (fail)
 go_cut [16] (fun v16 wc=>∃ (kq : Nat) (x16_2 : Bool),v16 = .bool x16_2 ∧ Aside0 (spec_ScaleChain.j0 kq l0 l1 x16_2 = some (r1,r2)) ∧ Aside0 (kq ≤ k) ∧ Aside0 (Below w.heap.size w wc))
 case first=>
  have H:=HC3.out
  clear HC3
  obtain ⟨t360,A4,H⟩:=bd H
  by_cases c5 : t360 = true
  ·subst c5
   rw [if_pos rfl] at H
   obtain ⟨t361,A6,H⟩:=bd H
   have H':=Aside0.mk H
   clear H
   go_wp2_with (first|((with_reducible refine gate_callee (f:=33) rfl ?_);refine goesL_ (some 10) rfl rfl Try.func33 (by kernel_rfl) rfl #[.slice A0 l0.length c0] rfl mz ?_;(with_reducible refine (spec_chGood.calls k _ _ l0 true _ ?side1 ?side2 A4.out).mono ?_);(case side1=>exact cz (Kd.C_below HR0.out HB.out));(case side2=>exact HC0.out);rintro e w7 ⟨rfl,hb⟩;refine ⟨_,rfl,?_⟩;have n0_:=Aside0.mk (below_step bz hb);clear HB;have HB:=n0_;clear n0_;(try clear hb))|(go_at_call 33;(with_reducible refine (spec_chGood.calls k _ _ l1 t361 _ ?side1 ?side2 A6.out).mono ?_);(case side1=>exact cz (Kd.C_below HR1.out HB.out));(case side2=>exact HC1.out);rintro e w8 ⟨rfl,hb⟩;have n0_:=Aside0.mk (below_step bz hb);clear HB;have HB:=n0_;clear n0_;(try clear hb)))
   go_meet
   case rel=>exact ⟨_,(!t361),fz,H',⟨by first|omega|exact Nat.le_refl _⟩,⟨by repeat (first|(with_reducible first|exact HB.out|apply below_alloc|apply pw_below_drewN|apply below_drew1)|exact HB.out)⟩⟩
  ·replace c5:=Bool.eq_false_iff.mpr c5
   subst c5
   rw [if_neg (show ¬ (false = true) by decide)] at H
   have H':=Aside0.mk H
   clear H
   go_wp2_with (first|((with_reducible refine gate_callee (f:=33) rfl ?_);refine goesL_ (some 10) rfl rfl Try.func33 (by kernel_rfl) rfl #[.slice A0 l0.length c0] rfl mz ?_;(with_reducible refine (spec_chGood.calls k _ _ l0 false _ ?side1 ?side2 A4.out).mono ?_);(case side1=>exact cz (Kd.C_below HR0.out HB.out));(case side2=>exact HC0.out);rintro e w9 ⟨rfl,hb⟩;refine ⟨_,rfl,?_⟩;have n0_:=Aside0.mk (below_step bz hb);clear HB;have HB:=n0_;clear n0_;(try clear hb)))
   go_meet
   case rel=>exact ⟨_,(true),fz,H',⟨by first|omega|exact Nat.le_refl _⟩,⟨by repeat (first|(with_reducible first|exact HB.out|apply below_alloc|apply pw_below_drewN|apply below_drew1)|exact HB.out)⟩⟩
 case rest=>
  clear HC3
  try clear c1
  try clear c2
  try clear p2
  try clear c3
  try clear c5
  obtain ⟨kq,x16_2,rfl,HA,HJ2,HB⟩:=hcut
  cases kq with
  | zero=>exact absurd HA.out (by simp [spec_ScaleChain.j0])
  | succ kj2=>
   have H:=HA.out
   clear HA
   simp only [spec_ScaleChain.j0] at H
   by_cases c10 : x16_2 = true
   ·subst c10
    rw [if_pos rfl] at H
    simp only [Option.some.injEq,Prod.mk.injEq] at H
    obtain ⟨rfl,rfl⟩:=H
    go_wp2
    go_ret2
    exact ⟨_,by first|rfl|(simp [errW_none,errW_some] <;> rfl)|(simp [*,errW_none,errW_some] <;> rfl),by first|exact Kd.R_nil _ _ _ _ _|exact Kd.N_nil _ _ _ _ _|exact Kd.V_nil _ _ _ _ _|exact Kd.Q_nil _ _ _ _ _|exact Kd.S_nil _ _ _ _ _,by repeat (first|(with_reducible first|exact HB.out|apply below_alloc|apply pw_below_drewN|apply below_drew1)|exact HB.out)⟩
   ·replace c10:=Bool.eq_false_iff.mpr c10
    subst c10
    rw [if_neg (show ¬ (false = true) by decide)] at H
    obtain ⟨t362,A11,H⟩:=bd H
    by_cases c12 : 1 ≤ (l1.length : Int)
    ·rw [if_pos c12] at H
     have c12b0:=eq_true c12
     have c12b1 : decide (1 ≤ (l1.length : Int)) = true:=decide_eq_true c12
     clear c12
     obtain ⟨y365,hy365⟩ : ∃ y_ : List Int,y_ = (l1.tail):=⟨_,rfl⟩
     replace H : (spec_ScaleChain.l0 kj2 l0 t362 y365 (y365.length : Int) 0) = some (r1,r2):=by first|(rw [hy365];with_reducible exact H)|(have H2_:=(Option.bind_some _ _).symm.trans H;rw [hy365];with_reducible exact H2_)|(have H2_:=(Option.bind_some _ _).symm.trans H;with_reducible exact H2_)|with_reducible exact H|(rw [hy365];exact H)|exact H
     have Ny365:=Aside0.mk hy365
     clear hy365
     have H':=Aside0.mk H
     clear H
     go_wp2_with (first|((with_reducible refine gate_callee (f:=56) rfl ?_);refine goesL_ (some 18) rfl rfl Try.func56 (by kernel_rfl) rfl #[.slice A0 l0.length c0] rfl mz ?_;(with_reducible refine (spec_l1Own.calls _ _ l0 t362 _ ?side1 ?side2 A11.out).mono ?_);(case side1=>exact cz (Kd.C_below HR0.out HB.out));(case side2=>exact HC0.out);rintro e w13 ⟨v363,rfl,ho0,hb⟩;refine ⟨_,rfl,?_⟩;have n0_:=Aside0.mk (Kd.R_lower ho0 (below_size bz));have n1_:=Aside0.mk (below_step bz hb);clear HB;have HO364:=n0_;have HB:=n1_;clear n0_ n1_;(try clear hb);(try clear ho0);obtain ⟨i014,hi014,_,hsz14,_⟩:=info_parts info3;obtain ⟨A14,hcut14,hA14,hC14⟩:=print_tail_of (P:=Try.prog) (Value.int .i64) 0 24 3 .i64 Try.underlying24 hi014 hsz14 A1 c1 l1   (of_decide_eq_true az) HC1.out;rw [← Ny365.out] at hcut14 hA14 hC14;have HR368:=Aside0.mk (Kd.C_of_reads (h1:=fun _=>rfl) (hA14 _ (Kd.reads_of_C HR1.out)));have HC368:=Aside0.mk hC14;clear hA14 hC14 hi014 hsz14))
     go_loopg [6,22] kj2 (fun kq v6 v22 w'=>∃ (x6_2 : List Int) (x22_2 : Int),v22 = .int .i64 x22_2 ∧ Aside0 (spec_ScaleChain.l0 kq l0 x6_2 y365 (y365.length : Int) x22_2 = some (r1,r2)) ∧ Aside0 (kq ≤ kj2) ∧ Aside0 (Kd.R (Kd.int .i64) 3 w' w.heap.size (fun _=>True) v6 x6_2) ∧ Aside0 (Below w.heap.size w w'))
     case atStart=>exact ⟨(t362),(0),fz,H',⟨Nat.le_refl _⟩,⟨by (with_reducible repeat (first|apply Kd.R_alloc|apply Kd.R_drewN|apply Kd.R_drew));exact HO364.out⟩,⟨by repeat (first|(with_reducible first|exact HB.out|apply below_alloc|apply pw_below_drewN|apply below_drew1)|exact HB.out)⟩⟩
     case round=>
      clear H'
      try clear c1
      try clear c2
      try clear p2
      try clear c3
      try clear c5
      try clear c10
      try clear c12
      try clear c12b0
      try clear c12b1
      try clear p2
      obtain ⟨x6_2,x22_2,rfl,HA,HK2,HO_6,HB⟩:=hrel
      cases gk with
      | zero=>exact absurd HA.out (by simp [spec_ScaleChain.l0])
      | succ k2=>
       have H:=HA.out
       clear HA
       simp only [spec_ScaleChain.l0] at H
       by_cases c15 : x22_2 < (y365.length : Int)
       ·rw [if_pos c15] at H
        have c15b0 : decide (x22_2 < (y365.length : Int)) = true:=decide_eq_true c15
        clear c15
        by_cases c16 : 0 ≤ x22_2
        ·rw [if_pos c16] at H
         have c16b0 : decide (0 ≤ x22_2) = true:=decide_eq_true c16
         clear c16
         by_cases c17 : x22_2 < (y365.length : Int)
         ·rw [if_pos c17] at H
          have c17b0 : decide (x22_2 < (y365.length : Int)) = true:=decide_eq_true c17
          clear c17
          obtain ⟨ji18,hji18⟩ : ∃ j_ : Int,(wrap64 ((l0.length : Int) - 1)) = j_:=⟨_,rfl⟩
          replace H : (if 0 ≤ (ji18) then (if (ji18) < (l0.length : Int) then (if x6_2.length < 17592186044416 then (spec_ScaleChain.l0 k2 l0 (x6_2 ++ [wrap64 ((rd l0 (ji18)) * (rd y365 x22_2))]) y365 (y365.length : Int) (wrap64 (x22_2 + 1))) else (none)) else (none)) else (none)) = some (r1,r2):=by first|(rw [hji18] at H;exact H)|(simp only [hji18] at H ⊢;exact H)
          have hji18w : (IntKind.i64.wrap ((l0.length : Int) - 1)) = ji18:=(i64_w _).trans hji18
          by_cases c19 : 0 ≤ (ji18)
          ·rw [if_pos c19] at H
           have c19b0 : decide (0 ≤ (ji18)) = true:=decide_eq_true c19
           clear c19
           by_cases c20 : (ji18) < (l0.length : Int)
           ·rw [if_pos c20] at H
            have c20b0 : decide ((ji18) < (l0.length : Int)) = true:=decide_eq_true c20
            clear c20
            by_cases c21 : x6_2.length < 17592186044416
            ·rw [if_pos c21] at H
             have LMc21:=Aside0.mk c21
             clear c21
             obtain ⟨y371,hy371⟩ : ∃ y_ : List Int,y_ = (x6_2 ++ [wrap64 ((rd l0 (ji18)) * (rd y365 x22_2))]):=⟨_,rfl⟩
             replace H : (spec_ScaleChain.l0 k2 l0 y371 y365 (y365.length : Int) (wrap64 (x22_2 + 1))) = some (r1,r2):=by first|(rw [hy371];with_reducible exact H)|(have H2_:=(Option.bind_some _ _).symm.trans H;rw [hy371];with_reducible exact H2_)|(have H2_:=(Option.bind_some _ _).symm.trans H;with_reducible exact H2_)|with_reducible exact H|(rw [hy371];exact H)|exact H
             have Ny371:=Aside0.mk hy371
             clear hy371
             have H':=Aside0.mk H
             clear H
             have p369 : 0 ≤ (x22_2 : Int):=of_decide_eq_true az
             have q369 : x22_2 < (y365.length : Int):=of_decide_eq_true az
             obtain ⟨ad369,e369,hx369_0⟩:=Kd.at_int HR368.out x22_2 p369 q369
             cases e369
             replace hx369_0:=(HB.out.cell (World.block_lt_of_cell? w _ hx369_0)).trans hx369_0
             replace p369:=eq_true p369
             replace q369:=eq_true q369
             have p370 : 0 ≤ ((ji18) : Int):=of_decide_eq_true az
             have q370 : (ji18) < (l0.length : Int):=of_decide_eq_true az
             obtain ⟨ad370,e370,hx370_0⟩:=Kd.at_int HR0.out (ji18) p370 q370
             cases e370
             replace hx370_0:=(HB.out.cell (World.block_lt_of_cell? w _ hx370_0)).trans hx370_0
             replace p370:=eq_true p370
             replace q370:=eq_true q370
             go_wp2_with (first|((with_reducible refine gate_builtin (b:=.append) (xs:=#[.tmp 26,.tmp 35]) rfl ?_);at_builtin;refine Kd.R_append (Kd.int .i64) (w0:=w) w.heap.size rfl (.tmp 26) (.tmp 35) 24 3 (.int .i64 0) 8 rfl Try.underlying24 info3 rfl (by decide) (by omega) u6 x6_2 (wrap64 ((rd l0 (ji18)) * (rd y365 x22_2))) [.int .i64 (wrap64 ((rd l0 (ji18)) * (rd y365 x22_2)))] (fun _=>True) (fun _=>False) rfl rfl ?aP (fun _ hk=>hk.elim) ?aF ?aO ?aB ?aS ?aL ?_;(case aP=>exact rfl);(case aB=>exact bz);(case aF=>exact (fun _ _=>trivial));(case aO=>exact (rz HO_6.out));(case aS=>exact (below_size bz));(case aL=>have:=LMc21.out;omega);intro v372 w22 ho hb hg hat;rw [← Ny371.out] at ho;have n0_:=Aside0.mk (hb);have n1_:=Aside0.mk (ho);clear HB HO_6;have HB:=n0_;have HO373:=n1_;clear n0_ n1_;clear ho hb hg hat))
             go_roundg k2
             case measure=>have:=HJ2.out;have:=HK2.out;omega
             case rel=>exact ⟨(y371),(wrap64 (x22_2 + 1)),fz,H',⟨by have:=HJ2.out;have:=HK2.out;omega⟩,⟨by (with_reducible repeat (first|apply Kd.R_alloc|apply Kd.R_drewN|apply Kd.R_drew));exact HO373.out⟩,⟨by repeat (first|(with_reducible first|exact HB.out|apply below_alloc|apply pw_below_drewN|apply below_drew1)|exact HB.out)⟩⟩
            ·rw [if_neg c21] at H
             exact absurd H (by simp)
           ·rw [if_neg c20] at H
            exact absurd H (by simp)
          ·rw [if_neg c19] at H
           exact absurd H (by simp)
         ·rw [if_neg c17] at H
          exact absurd H (by simp)
        ·rw [if_neg c16] at H
         exact absurd H (by simp)
       ·rw [if_neg c15] at H
        have c15b0 : decide (x22_2 < (y365.length : Int)) = false:=decide_eq_false c15
        clear c15
        replace H:=Option.bind_eq_some_iff.mp H
        obtain ⟨⟨t374,t377⟩,A230,H⟩:=H
        replace H : (some (t374,t377)) = some (r1,r2):=H
        have A23:=Aside0.mk A230
        clear A230
        simp only [Option.some.injEq,Prod.mk.injEq] at H
        obtain ⟨rfl,rfl⟩:=H
        obtain ⟨Ao24,co24,eo24⟩:=Kd.R_slice HO_6.out
        subst eo24
        go_wp2_with (first|((with_reducible refine gate_callee (f:=55) rfl ?_);refine goesL_ (some 39) rfl rfl Try.func55 (by kernel_rfl) rfl #[.slice Ao24 x6_2.length co24] rfl mz ?_;(with_reducible refine (spec_chIf.calls k2 (fun k_=>some k_ = (.slice Ao24 x6_2.length co24 : Value).ownBlock) (.slice Ao24 x6_2.length co24) x6_2 t374 t377 w _ ?side1 ?side2 A23.out).mono ?_);(case side1=>repeat (first|(with_reducible first|exact HB.out|apply below_alloc|apply pw_below_drewN|apply below_drew1)|exact HB.out));(case side2=>exact Kd.R_tight rfl HO_6.out);rintro e w25 ⟨v375,rfl,ho0,hb,hkp⟩;refine ⟨_,rfl,?_⟩;have n0_:=Aside0.mk (Kd.R_mono (ok':=fun k_=>True) ho0 (fun k_ hk_=>trivial));have n1_:=Aside0.mk (hb);clear HB HO_6;have HO376:=n0_;have HB:=n1_;clear n0_ n1_;(try clear hb);(try clear hkp);(try clear ho0)))
        go_ret2
        exact ⟨_,by first|rfl|(simp [errW_none,errW_some] <;> rfl)|(simp [*,errW_none,errW_some] <;> rfl),by (with_reducible repeat (first|apply Kd.R_alloc|apply Kd.R_drewN|apply Kd.R_drew));exact HO376.out,by repeat (first|(with_reducible first|exact HB.out|apply below_alloc|apply pw_below_drewN|apply below_drew1)|exact HB.out)⟩
    ·rw [if_neg c12] at H
     exact absurd H (by simp)
/-! ### impl_Step: function 88 -/
def impl_Step.f (l0 : List (S56)) : Option (List (S56)):=if l0.length < 8796093022208 then some l0 else none
set_option maxHeartbeats 8000000 in
set_option maxRecDepth 100000 in
theorem impl_Step.calls (A0 : Option Addr) (c0 : Nat) (l0 : List (S56)) (r : List (S56)) (w : World) (hr0 : Kd.C k56 w A0 l0.length l0) (hc0 : l0.length ≤ c0) (h : impl_Step.f l0 = some r) :
  Calls Try.prog 88 #[.slice A0 l0.length c0] w fun e w'=>∃ v0_ : Value,e = .returned (v0_) ∧ Kd.R k56 56 w' w.heap.size (fun _=>True) v0_ r ∧ Below w.heap.size w w':=by
 have hlr : l0.length < 8796093022208 ∧ l0 = r:=by
  unfold impl_Step.f at h
  split at h
  ·exact ⟨by assumption,Option.some.inj h⟩
  ·cases h
 obtain ⟨hlt,rfl⟩:=hlr
 clear h
 cases A0 with
 | none=>
  have hl : l0 = []:=by
   by_cases hp : 0 < l0.length
   ·obtain ⟨ad,e,_⟩:=hr0.2.2 hp
    cases e
   ·exact List.eq_nil_of_length_eq_zero (by omega)
  subst hl
  have heq:=fun (W : World)=>Lib.run_eql_slice_nil (P:=Try.prog) W 30 56 none 0 c0 0 0 Try.underlying30
  go_enter Try.func88,Try.ntmps88
  go_wp2
  go_ret
  exact ⟨_,rfl,Kd.R_nil _ _ _ _ _,Below.refl _ _⟩
 | some a0=>
  have heq:=fun (W : World)=>Lib.run_eql_slice_nil (P:=Try.prog) W 30 56 (some a0) l0.length c0 0 0 Try.underlying30
  have HR0:=Aside0.mk hr0
  have HC0:=Aside0.mk hc0
  have LM:=Aside0.mk hlt
  clear hr0 hc0 hlt
  have HB:=Aside0.mk (Below.refl w.heap.size w)
  go_enter Try.func88,Try.ntmps88
  go_wp2_with (first|((with_reducible refine gate_dst (N:=5) rfl ?_);refine Kd.R_lit k56 _ 56 ?hg (N:=5) ?hd (xs:=([] : List (S56))) (inner:=[]) (ok:=fun _=>True) (okp:=fun _=>True) ?hr ?hp (fun _ hk=>hk) trivial (Below.refl _ _) (Nat.le_refl _) (by simp) ?_;(case hd=>rfl);(case hg=>rfl);(case hr=>first|(go_simp;done)|(go_simp;rfl));(case hp=>exact (Reps.none _ _));intro v119 w3 ho4 hb hg_ hnew_;clear hg_ hnew_;have HO120:=Aside0.mk ho4;have HB1:=Aside0.mk hb;clear hb ho4)|((with_reducible refine gate_builtin (b:=.append) (xs:=#[.tmp 5,.tmp 6]) rfl ?_);at_builtin;refine Kd.R_append_rows k56 (w0:=w) w.heap.size rfl (.tmp 5) (.tmp 6) 30 56 (.agg #[.int .i64 0,.int .i64 0]) 16 rfl Try.underlying30 info56 rfl (by decide) (by omega) v119 [] l0 _ _ _ (fun _=>True) (fun _=>False) rfl rfl ?aO ?aR (fun _ _ h=>h) (fun _ h=>h.elim) ?aF ?aB ?aS ?aL ?_;(case aR=>exact Kd.C_below HR0.out HB1.out);(case aB=>exact HB1.out);(case aF=>exact (fun _ _=>trivial));(case aO=>exact HO120.out);(case aS=>exact HB1.out.size);(case aL=>have:=LM.out;simp only [List.length_nil];omega);intro v122 w5 ho hb hg hat;rw [List.nil_append] at ho;have HO2:=Aside0.mk ho;have HB2:=Aside0.mk hb;clear ho hb hg hat))
  go_ret
  exact ⟨_,rfl,HO2.out,HB2.out⟩
/-! ### impl_clonePlan: function 60 -/
def impl_clonePlan.f (a0_0 : Int) (l0_1 : List (S56)) (l0_2 : List Int) : Option (Int × (List (S56)) × List Int):=(impl_Step.f l0_1).bind fun t380=>((slices_Clone_int_int.f l0_2).bind fun t383=>(some (a0_0,t380,t383)))
def impl_clonePlan.T1 : Bool × List (List Nat × List Nat):=(true,[([],[]),([0],[0]),([],[]),([2],[2]),([3],[3]),([],[]),([5],[5]),([6,4],[6]),([1,4,7],[1,4,7]),([8,7,0,1,2,3,4,5,6,7,8],[8])])
def impl_clonePlan.B1 : List Nat:=[0,1,0,4,12,0,32,124,255,511]
theorem impl_clonePlan.tab1 : rtab .any (opsOf Try.f60 1) = impl_clonePlan.T1:=by kernel_rfl
theorem impl_clonePlan.bits1 : waitsOk impl_clonePlan.T1.2 impl_clonePlan.B1 = true:=by kernel_rfl
set_option maxHeartbeats 8000000 in
set_option maxRecDepth 100000 in
theorem impl_clonePlan.calls (a0_0 : Int) (A0_1 : Option Addr) (c0_1 : Nat) (l0_1 : List (S56)) (A0_2 : Option Addr) (c0_2 : Nat) (l0_2 : List Int) (r1 : Int) (r2 : List (S56)) (r3 : List Int) (w : World) (hr0_1 : Kd.C k56 w A0_1 l0_1.length l0_1) (hc0_1 : l0_1.length ≤ c0_1) (hr0_2 : Kd.C (Kd.int .i64) w A0_2 l0_2.length l0_2) (hc0_2 : l0_2.length ≤ c0_2) (h : impl_clonePlan.f a0_0 l0_1 l0_2 = some (r1,r2,r3)) :
  Calls Try.prog 60 #[.agg #[.int .i64 a0_0,.slice A0_1 l0_1.length c0_1,.slice A0_2 l0_2.length c0_2]] w fun e w'=>∃ v1_ v2_ : Value,e = .returned (.agg #[.int .i64 r1,v1_,v2_]) ∧ Kd.R k56 56 w' w.heap.size (fun _=>True) v1_ r2 ∧ Kd.R (Kd.int .i64) 3 w' w.heap.size (fun _=>True) v2_ r3 ∧ Below w.heap.size w w':=by
 have hu32:=Try.underlying32
 have HR0_1:=Aside0.mk hr0_1
 have HC0_1:=Aside0.mk hc0_1
 clear hr0_1 hc0_1
 have HR0_2:=Aside0.mk hr0_2
 have HC0_2:=Aside0.mk hc0_2
 clear hr0_2 hc0_2
 have HB:=Aside0.mk (Below.refl w.heap.size w)
 have H : ((impl_Step.f l0_1).bind fun t380=>((slices_Clone_int_int.f l0_2).bind fun t383=>(some (a0_0,t380,t383)))) = some (r1,r2,r3):=h
 clear h
 obtain ⟨t380,A2,H⟩:=bd H
 obtain ⟨t383,A3,H⟩:=bd H
 simp only [Option.some.injEq,Prod.mk.injEq] at H
 obtain ⟨rfl,rfl,rfl⟩:=H
 go_enter Try.func60,Try.ntmps60
 try go_wp2_with (first|((with_reducible refine gate_dst (N:=1) rfl ?_);refine box_event ?hg (N:=1) ?hd (cs:=#[.int .i64 a0_0,.slice A0_1 l0_1.length c0_1,.slice A0_2 l0_2.length c0_2]) (t:=32) ?hr ?_;(case hd=>rfl);(case hg=>rfl);(case hr=>first|(go_simp;done)|(go_simp;rfl));intro gb378 hg w4 hbox hb;have n0_:=Aside0.mk (below_step bz hb);have n1_:=Aside0.mk (hbox);have n2_:=Aside0.mk ((by rw [hg];exact (below_size bz) : w.heap.size ≤ gb378));have n3_:=Aside0.mk ((by rw [hg];exact (below_size bz) : w.heap.size ≤ gb378));clear HB;have HB:=n0_;have BK378:=n1_;have GW378:=n2_;have GE378:=n3_;clear n0_ n1_ n2_ n3_;clear hb hbox hg)|((with_reducible refine gate_dst (N:=2) rfl ?_);refine box_event ?hg (N:=2) ?hd (cs:=#[.int .i64 0,.slice none 0 0,.slice none 0 0]) (t:=32) ?hr ?_;(case hd=>rfl);(case hg=>rfl);(case hr=>first|(go_simp;done)|(go_simp;rfl));intro gb379 hg w5 hbox hb;have n0_:=Aside0.mk (blk_below (g:=gb378) (o:=.cells #[.int .i64 a0_0,.slice A0_1 l0_1.length c0_1,.slice A0_2 l0_2.length c0_2] 32 (0,0)) (kz BK378.out) hb);have n1_:=Aside0.mk (below_step bs hb);have n2_:=Aside0.mk (hbox);have n3_:=Aside0.mk ((by rw [hg];exact (below_size bs) : w.heap.size ≤ gb379));have n4_:=Aside0.mk ((by rw [hg];exact (below_size bs) : w.heap.size ≤ gb379));have n5_:=Aside0.mk ((by rw [hg];exact Nat.ne_of_lt (blk_lt (g:=gb378) (o:=.cells #[.int .i64 a0_0,.slice A0_1 l0_1.length c0_1,.slice A0_2 l0_2.length c0_2] 32 (0,0)) (kz BK378.out)) : gb378 ≠ gb379));have n6_:=Aside0.mk ((by rw [hg];exact Nat.ne_of_gt (blk_lt (g:=gb378) (o:=.cells #[.int .i64 a0_0,.slice A0_1 l0_1.length c0_1,.slice A0_2 l0_2.length c0_2] 32 (0,0)) (kz BK378.out)) : gb379 ≠ gb378));clear BK378 HB;have BK378:=n0_;have HB:=n1_;have BK379:=n2_;have GW379:=n3_;have GE379:=n4_;have NB378_379:=n5_;have NB379_378:=n6_;clear n0_ n1_ n2_ n3_ n4_ n5_ n6_;clear hb hbox hg))
 have n0_:=Aside0.mk (blk_drew BK378.out)
 have n1_:=Aside0.mk (blk_drew BK379.out)
 have n2_:=Aside0.mk (below_drew1 HB.out)
 clear BK378
 clear BK379
 clear HB
 have BK378:=n0_
 have BK379:=n1_
 have HB:=n2_
 clear n0_ n1_ n2_
 refine start_ (n:=10) (S:=fun w'=>w'.cell? ⟨gb378,0,none⟩ = some (.int .i64 a0_0) ∧ w'.cell? ⟨gb378,1,none⟩ = some (.slice A0_1 l0_1.length c0_1) ∧ w'.cell? ⟨gb378,2,none⟩ = some (.slice A0_2 l0_2.length c0_2)) (ds:=[]) #[false,false,false,false,false,false,false,false,false,false] (by kernel_rfl) rfl rfl ⟨(blk_cell BK378.out 0).trans rfl,(blk_cell BK378.out 1).trans rfl,(blk_cell BK378.out 2).trans rfl⟩ (fun hHeld=>?_);refine with_tabW impl_clonePlan.tab1 impl_clonePlan.bits1 (fun HT_ HW_=>?_)
 generalize w5.drew = w6 at BK378 BK379 HB hHeld ⊢
 refine pure_ (i:=0) (N:=some 3) (v:=?_) (a':=?_) #[true,false,false,false,false,false,false,false,false,false] rfl rfl (any_of HT_.out (by kernel_rfl)) (fun _ _ _ h=>h) (Or.inl ⟨by rfl,?_⟩) ?_ ?_
 rotate_left
 ·intro w'
  go_simp
  with_reducible rfl
 rotate_left
 ·simp only [Act.put,xa,xb,xc,i64_w,i32_w]
  rfl
 refine pure_ (i:=2) (N:=some 5) (v:=?_) (a':=?_) #[true,false,true,false,false,false,false,false,false,false] rfl rfl (any_of HT_.out (by kernel_rfl)) (fun _ _ _ h=>h) (Or.inl ⟨by rfl,?_⟩) ?_ ?_
 rotate_left
 ·intro w'
  go_simp
  with_reducible rfl
 rotate_left
 ·simp only [Act.put,xa,xb,xc,i64_w,i32_w]
  rfl
 refine pure_ (i:=5) (N:=some 8) (v:=?_) (a':=?_) #[true,false,true,false,false,true,false,false,false,false] rfl rfl (any_of HT_.out (by kernel_rfl)) (fun _ _ _ h=>h) (Or.inl ⟨by rfl,?_⟩) ?_ ?_
 rotate_left
 ·intro w'
  go_simp
  with_reducible rfl
 rotate_left
 ·simp only [Act.put,xa,xb,xc,i64_w,i32_w]
  rfl
 refine take_ (i:=1) (N:=some 4) (v:=?_) (a':=?_) #[true,true,true,false,false,true,false,false,false,false] rfl rfl (take_ofW HT_.out HW_.out (by kernel_rfl)) (fun _ _ _ h=>h) (Or.inl ⟨by rfl,?_⟩) hHeld ?_ ?_
 rotate_left
 ·rintro w' ⟨s0,s1,s2⟩
  go_simp
  with_reducible rfl
 rotate_left
 ·simp only [Act.put,xa,xb,xc,i64_w,i32_w]
  rfl
 refine take_ (i:=3) (N:=some 6) (v:=?_) (a':=?_) #[true,true,true,true,false,true,false,false,false,false] rfl rfl (take_ofW HT_.out HW_.out (by kernel_rfl)) (fun _ _ _ h=>h) (Or.inl ⟨by rfl,?_⟩) hHeld ?_ ?_
 rotate_left
 ·rintro w' ⟨s0,s1,s2⟩
  go_simp
  with_reducible rfl
 rotate_left
 ·simp only [Act.put,xa,xb,xc,i64_w,i32_w]
  rfl
 refine take_ (i:=6) (N:=some 9) (v:=?_) (a':=?_) #[true,true,true,true,false,true,true,false,false,false] rfl rfl (take_ofW HT_.out HW_.out (by kernel_rfl)) (fun _ _ _ h=>h) (Or.inl ⟨by rfl,?_⟩) hHeld ?_ ?_
 rotate_left
 ·rintro w' ⟨s0,s1,s2⟩
  go_simp
  with_reducible rfl
 rotate_left
 ·simp only [Act.put,xa,xb,xc,i64_w,i32_w]
  rfl
 refine one_ (i:=4) (N:=some 7) #[true,true,true,true,true,true,true,false,false,false] rfl rfl (one_of HT_.out (by kernel_rfl)) (by decide) (fun K hK=>?_)
 refine goes_ Try.func88 (by kernel_rfl) rfl #[.slice A0_1 l0_1.length c0_1] (by rfl) rfl rfl mz ?_
 with_reducible refine (impl_Step.calls _ _ l0_1 t380 _ ?side1 ?side2 A2.out).mono ?_
 (case side1=>exact cz (Kd.C_below HR0_1.out HB.out))
 (case side2=>exact HC0_1.out)
 rintro e w7 ⟨v381,rfl,ho0,hb⟩
 refine ⟨_,rfl,?_⟩
 have n0_:=Aside0.mk (Kd.R_lower ho0 (below_size bs))
 have n1_:=Aside0.mk (blk_below (g:=gb378) (o:=.cells #[.int .i64 a0_0,.slice A0_1 l0_1.length c0_1,.slice A0_2 l0_2.length c0_2] 32 (0,0)) (kz BK378.out) hb)
 have n2_:=Aside0.mk (blk_below (g:=gb379) (o:=.cells #[.int .i64 0,.slice none 0 0,.slice none 0 0] 32 (0,0)) (kz BK379.out) hb)
 have n3_:=Aside0.mk (below_step bs hb)
 clear BK378
 clear BK379
 clear HB
 have HO382:=n0_
 have BK378:=n1_
 have BK379:=n2_
 have HB:=n3_
 clear n0_ n1_ n2_ n3_
 (try clear hb)
 (try clear ho0)
 refine hK.out _ _ ⟨(blk_cell BK378.out 0).trans rfl,(blk_cell BK378.out 1).trans rfl,(blk_cell BK378.out 2).trans rfl⟩ (fun hHeld=>?_)
 clear hK K
 refine norm_ (a':=?_) ?_ ?_
 rotate_left
 ·show Act.put _ (some 7) _ = _
  simp only [Act.put,xa,xb,xc,i64_w,i32_w]
  rfl
 refine one_ (i:=7) (N:=some 10) #[true,true,true,true,true,true,true,true,false,false] rfl rfl (one_of HT_.out (by kernel_rfl)) (by decide) (fun K hK=>?_)
 refine goes_ Try.func53 (by kernel_rfl) rfl #[.slice A0_2 l0_2.length c0_2] (by rfl) rfl rfl mz ?_
 with_reducible refine (slices_Clone_int_int.calls _ _ l0_2 t383 _ ?side1 ?side2 A3.out).mono ?_
 (case side1=>exact cz (Kd.C_below HR0_2.out HB.out))
 (case side2=>exact HC0_2.out)
 rintro e w8 ⟨v384,rfl,ho0,hb⟩
 refine ⟨_,rfl,?_⟩
 have n0_:=Aside0.mk (Kd.R_below (rz HO382.out) hb)
 have n1_:=Aside0.mk (Kd.R_lower ho0 (below_size bs))
 have n2_:=Aside0.mk (blk_below (g:=gb378) (o:=.cells #[.int .i64 a0_0,.slice A0_1 l0_1.length c0_1,.slice A0_2 l0_2.length c0_2] 32 (0,0)) (kz BK378.out) hb)
 have n3_:=Aside0.mk (blk_below (g:=gb379) (o:=.cells #[.int .i64 0,.slice none 0 0,.slice none 0 0] 32 (0,0)) (kz BK379.out) hb)
 have n4_:=Aside0.mk (below_step bs hb)
 clear HO382
 clear BK378
 clear BK379
 clear HB
 have HO382:=n0_
 have HO385:=n1_
 have BK378:=n2_
 have BK379:=n3_
 have HB:=n4_
 clear n0_ n1_ n2_ n3_ n4_
 (try clear hb)
 (try clear ho0)
 obtain ⟨Ao9,co9,eo9⟩:=Kd.R_slice HO385.out
 (first|subst eo9|(injection eo9 with f1_ f2_ f3_;have f4_:=f1_.symm;have f5_:=f3_.symm;clear f1_ f2_ f3_;subst f4_;subst f5_))
 obtain ⟨Ao10,co10,eo10⟩:=Kd.R_slice HO382.out
 (first|subst eo10|(injection eo10 with f1_ f2_ f3_;have f4_:=f1_.symm;have f5_:=f3_.symm;clear f1_ f2_ f3_;subst f4_;subst f5_))
 refine hK.out _ _ ⟨(blk_cell BK378.out 0).trans rfl,(blk_cell BK378.out 1).trans rfl,(blk_cell BK378.out 2).trans rfl⟩ (fun hHeld=>?_)
 clear hK K
 refine norm_ (a':=?_) ?_ ?_
 rotate_left
 ·show Act.put _ (some 10) _ = _
  simp only [Act.put,xa,xb,xc,i64_w,i32_w]
  rfl
 refine pure_ (i:=8) (N:=some 11) (v:=?_) (a':=?_) #[true,true,true,true,true,true,true,true,true,false] rfl rfl (any_of HT_.out (by kernel_rfl)) (fun _ _ _ h=>h) (Or.inl ⟨by rfl,?_⟩) ?_ ?_
 rotate_left
 ·intro w'
  go_simp
  with_reducible rfl
 rotate_left
 ·simp only [Act.put,xa,xb,xc,i64_w,i32_w]
  rfl
 refine one_ (i:=9) (N:=none) #[true,true,true,true,true,true,true,true,true,true] rfl rfl (one_of HT_.out (by kernel_rfl)) (by decide) (fun K hK=>?_)
 have hs11 : w8.cell? ⟨gb379,0,none⟩ = some (.int .i64 0):=(blk_cell BK379.out 0).trans rfl
 have hfs11:=blk_frozen BK379.out 0
 have hns11_0:=NB378_379.out
 have hms11_0:=NB379_378.out
 have hs12 : w8.cell? ⟨gb379,1,none⟩ = some (.slice none 0 0):=(blk_cell BK379.out 1).trans rfl
 have hfs12:=blk_frozen BK379.out 1
 have hns12_0:=NB378_379.out
 have hms12_0:=NB379_378.out
 have hs13 : w8.cell? ⟨gb379,2,none⟩ = some (.slice none 0 0):=(blk_cell BK379.out 2).trans rfl
 have hfs13:=blk_frozen BK379.out 2
 have hns13_0:=NB378_379.out
 have hms13_0:=NB379_378.out
 refine skip_ (w1:=?_) (by rfl) rfl ?_ ?_
 rotate_left
 ·go_simp
  rfl
 refine hK.out _ _ ⟨((cell_far (p:=⟨gb379,_,none⟩) NB378_379.out _).trans (((cell_far (p:=⟨gb379,_,none⟩) NB378_379.out _).trans (((cell_far (p:=⟨gb379,_,none⟩) NB378_379.out _).trans (hHeld.1)))))),((cell_far (p:=⟨gb379,_,none⟩) NB378_379.out _).trans (((cell_far (p:=⟨gb379,_,none⟩) NB378_379.out _).trans (((cell_far (p:=⟨gb379,_,none⟩) NB378_379.out _).trans (hHeld.2.1)))))),((cell_far (p:=⟨gb379,_,none⟩) NB378_379.out _).trans (((cell_far (p:=⟨gb379,_,none⟩) NB378_379.out _).trans (((cell_far (p:=⟨gb379,_,none⟩) NB378_379.out _).trans (hHeld.2.2))))))⟩ (fun hHeld=>?_)
 clear hK K
 refine done_ (done_of HT_.out (by kernel_rfl)) ?_
 try go_wp2
 refine bodyPost_ret (results_cell_row rfl _ _ gb379 32 #[.int .i64 a0_0,.slice Ao10 t380.length co10,.slice Ao9 t383.length co9] (0,0) _ rfl (by (with_reducible repeat (first|refine blk_drewN ?_ _|refine blk_drew ?_|refine blk_alloc ?_ _));refine blk_put (cs:=#[.int .i64 a0_0,.slice Ao10 t380.length co10,.slice none 0 0]) ?_ 2 _ rfl;(with_reducible repeat (first|refine blk_drewN ?_ _|refine blk_drew ?_|refine blk_alloc ?_ _));refine blk_put (cs:=#[.int .i64 a0_0,.slice none 0 0,.slice none 0 0]) ?_ 1 _ rfl;(with_reducible repeat (first|refine blk_drewN ?_ _|refine blk_drew ?_|refine blk_alloc ?_ _));refine blk_put (cs:=#[.int .i64 0,.slice none 0 0,.slice none 0 0]) ?_ 0 _ rfl;(with_reducible repeat (first|refine blk_drewN ?_ _|refine blk_drew ?_|refine blk_alloc ?_ _));exact BK379.out) Try.underlying32 rfl (by kernel_rfl)) rfl ?_
 exact ⟨_,_,by first|rfl|(simp [errW_none,errW_some] <;> rfl)|(simp [*,errW_none,errW_some] <;> rfl),by (with_reducible repeat (first|apply Kd.R_alloc|apply Kd.R_drewN|apply Kd.R_drew));exact Kd.R_mono (Kd.R_far (p:=⟨gb379,2,none⟩) (Kd.R_far (p:=⟨gb379,1,none⟩) (Kd.R_far (p:=⟨gb379,0,none⟩) (Kd.R_types HO382.out BK379.out (by decide)) (fun _ hk=>hk.2) (.int .i64 a0_0)) (fun _ hk=>hk.2) (.slice Ao10 t380.length co10)) (fun _ hk=>hk.2) (.slice Ao9 t383.length co9)) (fun _ hk=>trivial),by (with_reducible repeat (first|apply Kd.R_alloc|apply Kd.R_drewN|apply Kd.R_drew));exact Kd.R_mono (Kd.R_far (p:=⟨gb379,2,none⟩) (Kd.R_far (p:=⟨gb379,1,none⟩) (Kd.R_far (p:=⟨gb379,0,none⟩) (Kd.R_types HO385.out BK379.out (by decide)) (fun _ hk=>hk.2) (.int .i64 a0_0)) (fun _ hk=>hk.2) (.slice Ao10 t380.length co10)) (fun _ hk=>hk.2) (.slice Ao9 t383.length co9)) (fun _ hk=>trivial),by repeat (first|(with_reducible first|exact HB.out|apply below_alloc|apply pw_below_drewN|apply below_drew1|refine below_set ?_ GE378.out|refine below_set ?_ GE379.out)|exact HB.out)⟩
end Go.Proofs.Ytlefjgpkabijdaa.MFnScaledChains
--sq
