import Derived.Test.YtlefjgpkabijdaaMFnNeededPartsx0
import Derived.Test.YtlefjgpkabijdaaMFnNeededPartsx1
import Derived.Test.YtlefjgpkabijdaaMFnNeededPartsx2
import Derived.Test.YtlefjgpkabijdaaMFnNeededPartsx3
import Derived.Test.YtlefjgpkabijdaaMFnNeededPartsx4
import Derived.Test.YtlefjgpkabijdaaMFnNeededPartsx5
import Derived.Test.YtlefjgpkabijdaaMFnNeededPartsx11
import Derived.Test.YtlefjgpkabijdaaMFnNeededPartsx6
import Derived.Test.YtlefjgpkabijdaaMFnNeededPartsx7
import Derived.Test.YtlefjgpkabijdaaMFnNeededPartsx8
import Derived.Test.YtlefjgpkabijdaaMFnNeededPartsx9
import Derived.Test.YtlefjgpkabijdaaMFnNeededPartsx10
namespace Go.Proofs.Ytlefjgpkabijdaa.MFnNeededParts
open Go.RowKit Go.Proofs.YtlefjgpkabijdaaW.PrintWords Go.Proofs.YtlefjgpkabijdaaW.PrintLast Go.Proofs.YtlefjgpkabijdaaW.PrintMore Go.Proofs.YtlefjgpkabijdaaV Go.Proofs.YtlefjgpkabijdaaZ
attribute [local go_sem] max2_int min2_int max_two min_two max_three min_three max_four min_four   -- for this text's walks alone
set_option linter.unusedVariables false
set_option linter.unusedSimpArgs false
/-! ### cmp_Less_int: function 82 -/
def cmp_Less_int.f (a0 : Int) (a1 : Int) : Option (Bool):=(cmp_isNaN_int.f a0).bind fun t448=>(if t448 = true then ((cmp_isNaN_int.f a1).bind fun t449=>(if t449 = true then (some (decide (a0 < a1))) else (some true))) else (some (decide (a0 < a1))))
set_option maxHeartbeats 8000000 in
set_option maxRecDepth 100000 in
theorem cmp_Less_int.calls (a0 : Int) (a1 : Int) (r : Bool) (w : World) (h : cmp_Less_int.f a0 a1 = some r) :
  Calls Try.prog 82 #[.int .i64 a0,.int .i64 a1] w fun e w'=>e = .returned (.bool r) ∧ Drawn0 w w':=by
 have H : ((cmp_isNaN_int.f a0).bind fun t448=>(if t448 = true then ((cmp_isNaN_int.f a1).bind fun t449=>(if t449 = true then (some (decide (a0 < a1))) else (some true))) else (some (decide (a0 < a1))))) = some r:=h
 clear h
 obtain ⟨t448,A3,H⟩:=bd H
 by_cases c4 : t448 = true
 ·subst c4
  rw [if_pos rfl] at H
  obtain ⟨t449,A5,H⟩:=bd H
  by_cases c6 : t449 = true
  ·subst c6
   rw [if_pos rfl] at H
   obtain rfl:=Option.some.inj H
   go_enter Try.func82,Try.ntmps82
   go_wp2_with (first|((with_reducible refine gate_callee (f:=95) rfl ?_);refine goesL_ (some 6) rfl rfl Try.func95 (by kernel_rfl) rfl #[.int .i64 a0] rfl mz ?_;(with_reducible refine (cmp_isNaN_int.calls a0 true _ A3.out).mono ?_);rintro e w' ⟨rfl,⟨nd,rfl⟩⟩;refine ⟨_,rfl,?_⟩)|(go_at_call 95;(with_reducible refine (cmp_isNaN_int.calls a1 true _ A5.out).mono ?_);rintro e w' ⟨rfl,⟨nd,rfl⟩⟩))
   go_ret
   exact ⟨by first|rfl|(simp;done)|(simp [*];done),by repeat (first|exact Drawn0.refl _|apply Drawn0.step)⟩
  ·replace c6:=Bool.eq_false_iff.mpr c6
   subst c6
   rw [if_neg (show ¬ (false = true) by decide)] at H
   obtain rfl:=Option.some.inj H
   go_enter Try.func82,Try.ntmps82
   go_wp2_with (first|((with_reducible refine gate_callee (f:=95) rfl ?_);refine goesL_ (some 6) rfl rfl Try.func95 (by kernel_rfl) rfl #[.int .i64 a0] rfl mz ?_;(with_reducible refine (cmp_isNaN_int.calls a0 true _ A3.out).mono ?_);rintro e w' ⟨rfl,⟨nd,rfl⟩⟩;refine ⟨_,rfl,?_⟩)|(go_at_call 95;(with_reducible refine (cmp_isNaN_int.calls a1 false _ A5.out).mono ?_);rintro e w' ⟨rfl,⟨nd,rfl⟩⟩))
   go_ret
   exact ⟨by first|rfl|(simp;done)|(simp [*];done),by repeat (first|exact Drawn0.refl _|apply Drawn0.step)⟩
 ·replace c4:=Bool.eq_false_iff.mpr c4
  subst c4
  rw [if_neg (show ¬ (false = true) by decide)] at H
  obtain rfl:=Option.some.inj H
  go_enter Try.func82,Try.ntmps82
  go_wp2_with (first|((with_reducible refine gate_callee (f:=95) rfl ?_);refine goesL_ (some 6) rfl rfl Try.func95 (by kernel_rfl) rfl #[.int .i64 a0] rfl mz ?_;(with_reducible refine (cmp_isNaN_int.calls a0 false _ A3.out).mono ?_);rintro e w' ⟨rfl,⟨nd,rfl⟩⟩;refine ⟨_,rfl,?_⟩))
  go_ret
  exact ⟨by first|rfl|(simp;done)|(simp [*];done),by repeat (first|exact Drawn0.refl _|apply Drawn0.step)⟩
/-! ### slices_isNaN_int: function 83 -/
def slices_isNaN_int.f (a0 : Int) : Option (Bool):=some (a0 != a0)
set_option maxHeartbeats 8000000 in
set_option maxRecDepth 100000 in
theorem slices_isNaN_int.calls (a0 : Int) (r : Bool) (w : World) (h : slices_isNaN_int.f a0 = some r) :
  Calls Try.prog 83 #[.int .i64 a0] w fun e w'=>e = .returned (.bool r) ∧ Drawn0 w w':=by
 have H : (some (a0 != a0)) = some r:=h
 clear h
 obtain rfl:=Option.some.inj H
 go_enter Try.func83,Try.ntmps83
 go_wp2
 go_ret
 exact ⟨by first|rfl|(simp;done)|(simp [*];done),by repeat (first|exact Drawn0.refl _|apply Drawn0.step)⟩
/-! ### slices_BinarySearch_int_int: function 49 -/
def slices_BinarySearch_int_int.l0 : Nat → List Int → Int → Int → Int → Int → Option (Int × Bool)
 | 0,_,_,_,_,_=>none
 | k + 1,x0,x1,x6,x7,x8=>if x7 < x8 then (if 0 ≤ (wrap64 ((IntKind.u64.wrap (wrap64 (x7 + x8))) / 2)) then (if (wrap64 ((IntKind.u64.wrap (wrap64 (x7 + x8))) / 2)) < (x0.length : Int) then ((cmp_Less_int.f (rd x0 (wrap64 ((IntKind.u64.wrap (wrap64 (x7 + x8))) / 2))) x1).bind fun t451=>(if t451 = true then (slices_BinarySearch_int_int.l0 k x0 x1 x6 (wrap64 ((wrap64 ((IntKind.u64.wrap (wrap64 (x7 + x8))) / 2)) + 1)) x8) else (slices_BinarySearch_int_int.l0 k x0 x1 x6 x7 (wrap64 ((IntKind.u64.wrap (wrap64 (x7 + x8))) / 2))))) else (none)) else (none)) else (if x7 < x6 then (if 0 ≤ x7 then (if x7 < (x0.length : Int) then (if (rd x0 x7) = x1 then (some (x7,true)) else ((slices_isNaN_int.f (rd x0 x7)).bind fun t454=>(if t454 = true then ((slices_isNaN_int.f x1).bind fun t455=>(some (x7,t455))) else (some (x7,false))))) else (none)) else (none)) else (some (x7,false)))
def slices_BinarySearch_int_int.f (k : Nat) (l0 : List Int) (a1 : Int) : Option (Int × Bool):=slices_BinarySearch_int_int.l0 k l0 a1 (l0.length : Int) 0 (l0.length : Int)
theorem slices_BinarySearch_int_int.mono_l : ∀ k,(∀ y0 y1 y2 y3 y4,LeO (slices_BinarySearch_int_int.l0 k y0 y1 y2 y3 y4) (slices_BinarySearch_int_int.l0 (k + 1) y0 y1 y2 y3 y4))
 | 0=>fun _ _ _ _ _ r h=>by simp [slices_BinarySearch_int_int.l0] at h
 | k + 1=>by
  have ih0:=slices_BinarySearch_int_int.mono_l k
  ·intro y0 y1 y2 y3 y4
   unfold slices_BinarySearch_int_int.l0
   repeat' first
   | (with_reducible exact ih0 _ _ _ _ _)
   | (with_reducible exact LeO.refl _)
   | (with_reducible exact LeO.none _)
   | (with_reducible refine LeO.ite ?_ ?_)
   | (with_reducible refine LeO.bind ?_ (fun _=>?_))
   | exact ih0 _ _ _ _ _
   | exact LeO.none _
   | refine LeO.ite ?_ ?_
   | refine LeO.bind ?_ (fun _=>?_)
theorem slices_BinarySearch_int_int.mono : ∀ a0 a1 k,LeO (slices_BinarySearch_int_int.f k a0 a1) (slices_BinarySearch_int_int.f (k + 1) a0 a1):=by
 intro a0 a1 k
 have ih0:=slices_BinarySearch_int_int.mono_l k
 unfold slices_BinarySearch_int_int.f
 repeat' first
   | (with_reducible exact ih0 _ _ _ _ _)
   | (with_reducible exact LeO.refl _)
   | (with_reducible exact LeO.none _)
   | (with_reducible refine LeO.ite ?_ ?_)
   | (with_reducible refine LeO.bind ?_ (fun _=>?_))
   | exact ih0 _ _ _ _ _
   | exact LeO.none _
   | refine LeO.ite ?_ ?_
   | refine LeO.bind ?_ (fun _=>?_)
set_option maxHeartbeats 8000000 in
set_option maxRecDepth 100000 in
theorem slices_BinarySearch_int_int.calls (k : Nat) (A0 : Option Addr) (c0 : Nat) (l0 : List Int) (a1 : Int) (r1 : Int) (r2 : Bool) (w : World) (hr0 : Kd.C (Kd.int .i64) w A0 l0.length l0) (hc0 : l0.length ≤ c0) (h : slices_BinarySearch_int_int.f k l0 a1 = some (r1,r2)) :
  Calls Try.prog 49 #[.slice A0 l0.length c0,.int .i64 a1] w fun e w'=>e = .returned (.tuple #[.int .i64 r1,.bool r2]) ∧ Drawn0 w w':=by
 have HR0:=Aside0.mk hr0
 have HC0:=Aside0.mk hc0
 clear hr0 hc0
 have H : (slices_BinarySearch_int_int.l0 k l0 a1 (l0.length : Int) 0 (l0.length : Int)) = some (r1,r2):=h
 clear h
 have H':=Aside0.mk H
 clear H
 go_enter Try.func49,Try.ntmps49
 go_wp2
 go_loopg [7,8] k (fun kq v7 v8 w'=>∃ (x7_1 : Int) (x8_1 : Int),v7 = .int .i64 x7_1 ∧ v8 = .int .i64 x8_1 ∧ Aside0 (slices_BinarySearch_int_int.l0 kq l0 a1 (l0.length : Int) x7_1 x8_1 = some (r1,r2)) ∧ Aside0 (kq ≤ k) ∧ Drawn0 w w')
 case atStart=>exact ⟨(0),((l0.length : Int)),fz,fz,H',⟨Nat.le_refl _⟩,by repeat (first|exact Drawn0.refl _|apply Drawn0.step)⟩
 case round=>
  clear H'
  try clear p2
  obtain ⟨x7_1,x8_1,rfl,rfl,HA,HK1,⟨m1,rfl⟩⟩:=hrel
  cases gk with
  | zero=>exact absurd HA.out (by simp [slices_BinarySearch_int_int.l0])
  | succ k1=>
   have H:=HA.out
   clear HA
   simp only [slices_BinarySearch_int_int.l0] at H
   by_cases c3 : x7_1 < x8_1
   ·rw [if_pos c3] at H
    have c3b0 : decide (x7_1 < x8_1) = true:=decide_eq_true c3
    clear c3
    obtain ⟨ji4,hji4⟩ : ∃ j_ : Int,(wrap64 ((IntKind.u64.wrap (wrap64 (x7_1 + x8_1))) / 2)) = j_:=⟨_,rfl⟩
    replace H : (if 0 ≤ (ji4) then (if (ji4) < (l0.length : Int) then ((cmp_Less_int.f (rd l0 (ji4)) a1).bind fun t451=>(if t451 = true then (slices_BinarySearch_int_int.l0 k1 l0 a1 (l0.length : Int) (wrap64 ((ji4) + 1)) x8_1) else (slices_BinarySearch_int_int.l0 k1 l0 a1 (l0.length : Int) x7_1 ji4))) else (none)) else (none)) = some (r1,r2):=by first|(rw [hji4] at H;exact H)|(simp only [hji4] at H ⊢;exact H)
    have hji4w : (IntKind.i64.wrap ((IntKind.u64.wrap (wrap64 (x7_1 + x8_1))) / 2)) = ji4:=(i64_w _).trans hji4
    by_cases c5 : 0 ≤ (ji4)
    ·rw [if_pos c5] at H
     have c5b0 : decide (0 ≤ (ji4)) = true:=decide_eq_true c5
     clear c5
     by_cases c6 : (ji4) < (l0.length : Int)
     ·rw [if_pos c6] at H
      have c6b0 : decide ((ji4) < (l0.length : Int)) = true:=decide_eq_true c6
      clear c6
      obtain ⟨t451,A7,H⟩:=bd H
      by_cases c8 : t451 = true
      ·subst c8
       rw [if_pos rfl] at H
       have H':=Aside0.mk H
       clear H
       have p450 : 0 ≤ ((ji4) : Int):=of_decide_eq_true az
       have q450 : (ji4) < (l0.length : Int):=of_decide_eq_true az
       obtain ⟨ad450,e450,hx450_0⟩:=Kd.at_int HR0.out (ji4) p450 q450
       cases e450
       replace p450:=eq_true p450
       replace q450:=eq_true q450
       go_wp2_with (first|((with_reducible refine gate_callee (f:=82) rfl ?_);refine goesL_ (some 27) rfl rfl Try.func82 (by kernel_rfl) rfl #[.int .i64 (rd l0 (ji4)),.int .i64 a1] rfl (by (try simp only [List.map_toArray,List.map_cons,List.map_nil]);first|done|(simp only [hji4];rfl)|rfl|(simp only [List.length_drop,List.length_take];rfl)) ?_;(with_reducible refine (cmp_Less_int.calls (rd l0 (ji4)) a1 true _ A7.out).mono ?_);rintro e w' ⟨rfl,⟨nd,rfl⟩⟩;refine ⟨_,rfl,?_⟩))
       go_roundg k1
       case measure=>have:=HK1.out;omega
       case rel=>exact ⟨(wrap64 ((ji4) + 1)),(x8_1),(by first|rfl|(simp;done)|(simp only [← hji4] <;> (first|rfl|simp))|(simp [*];done)),fz,H',⟨by have:=HK1.out;omega⟩,by repeat (first|exact Drawn0.refl _|apply Drawn0.step)⟩
      ·replace c8:=Bool.eq_false_iff.mpr c8
       subst c8
       rw [if_neg (show ¬ (false = true) by decide)] at H
       have H':=Aside0.mk H
       clear H
       have p450 : 0 ≤ ((ji4) : Int):=of_decide_eq_true az
       have q450 : (ji4) < (l0.length : Int):=of_decide_eq_true az
       obtain ⟨ad450,e450,hx450_0⟩:=Kd.at_int HR0.out (ji4) p450 q450
       cases e450
       replace p450:=eq_true p450
       replace q450:=eq_true q450
       go_wp2_with (first|((with_reducible refine gate_callee (f:=82) rfl ?_);refine goesL_ (some 27) rfl rfl Try.func82 (by kernel_rfl) rfl #[.int .i64 (rd l0 (ji4)),.int .i64 a1] rfl (by (try simp only [List.map_toArray,List.map_cons,List.map_nil]);first|done|(simp only [hji4];rfl)|rfl|(simp only [List.length_drop,List.length_take];rfl)) ?_;(with_reducible refine (cmp_Less_int.calls (rd l0 (ji4)) a1 false _ A7.out).mono ?_);rintro e w' ⟨rfl,⟨nd,rfl⟩⟩;refine ⟨_,rfl,?_⟩))
       go_roundg k1
       case measure=>have:=HK1.out;omega
       case rel=>exact ⟨(x7_1),(ji4),fz,(by first|rfl|(simp;done)|(simp only [← hji4] <;> (first|rfl|simp))|(simp [*];done)),H',⟨by have:=HK1.out;omega⟩,by repeat (first|exact Drawn0.refl _|apply Drawn0.step)⟩
     ·rw [if_neg c6] at H
      exact absurd H (by simp)
    ·rw [if_neg c5] at H
     exact absurd H (by simp)
   ·rw [if_neg c3] at H
    have c3b0 : decide (x7_1 < x8_1) = false:=decide_eq_false c3
    clear c3
    by_cases c9 : x7_1 < (l0.length : Int)
    ·rw [if_pos c9] at H
     have c9b0 : decide (x7_1 < (l0.length : Int)) = true:=decide_eq_true c9
     clear c9
     by_cases c10 : 0 ≤ x7_1
     ·rw [if_pos c10] at H
      have c10b0 : decide (0 ≤ x7_1) = true:=decide_eq_true c10
      clear c10
      by_cases c11 : x7_1 < (l0.length : Int)
      ·rw [if_pos c11] at H
       have c11b0 : decide (x7_1 < (l0.length : Int)) = true:=decide_eq_true c11
       clear c11
       by_cases c12 : (rd l0 x7_1) = a1
       ·rw [if_pos c12] at H
        have c12b0 : ((rd l0 x7_1) == a1) = true:=beq_iff_eq.mpr c12
        have c12b1 : ((rd l0 x7_1) != a1) = false:=bne_eq_false_iff_eq.mpr c12
        clear c12
        simp only [Option.some.injEq,Prod.mk.injEq] at H
        obtain ⟨rfl,rfl⟩:=H
        have p452 : 0 ≤ (x7_1 : Int):=of_decide_eq_true az
        have q452 : x7_1 < (l0.length : Int):=of_decide_eq_true az
        obtain ⟨ad452,e452,hx452_0⟩:=Kd.at_int HR0.out x7_1 p452 q452
        cases e452
        replace p452:=eq_true p452
        replace q452:=eq_true q452
        go_wp2
        go_ret2
        exact ⟨by first|rfl|(simp;done)|(simp [*];done),by repeat (first|exact Drawn0.refl _|apply Drawn0.step)⟩
       ·rw [if_neg c12] at H
        have c12b0 : ((rd l0 x7_1) == a1) = false:=beq_eq_false_iff_ne.mpr c12
        have c12b1 : ((rd l0 x7_1) != a1) = true:=bne_iff_ne.mpr c12
        obtain ⟨t454,A13,H⟩:=bd H
        by_cases c14 : t454 = true
        ·subst c14
         rw [if_pos rfl] at H
         obtain ⟨t455,A15,H⟩:=bd H
         simp only [Option.some.injEq,Prod.mk.injEq] at H
         obtain ⟨rfl,rfl⟩:=H
         have p452 : 0 ≤ (x7_1 : Int):=of_decide_eq_true az
         have q452 : x7_1 < (l0.length : Int):=of_decide_eq_true az
         obtain ⟨ad452,e452,hx452_0⟩:=Kd.at_int HR0.out x7_1 p452 q452
         cases e452
         replace p452:=eq_true p452
         replace q452:=eq_true q452
         have p453 : 0 ≤ (x7_1 : Int):=of_decide_eq_true az
         have q453 : x7_1 < (l0.length : Int):=of_decide_eq_true az
         obtain ⟨ad453,e453,hx453_0⟩:=Kd.at_int HR0.out x7_1 p453 q453
         obtain rfl : ad452 = ad453:=(by injection e453)
         replace p453:=eq_true p453
         replace q453:=eq_true q453
         go_wp2_with (first|(go_at_call 83;(with_reducible refine (slices_isNaN_int.calls (rd l0 x7_1) true _ A13.out).mono ?_);rintro e w' ⟨rfl,⟨nd,rfl⟩⟩)|(go_at_call 83;(with_reducible refine (slices_isNaN_int.calls a1 t455 _ A15.out).mono ?_);rintro e w' ⟨rfl,⟨nd,rfl⟩⟩))
         go_ret2
         exact ⟨by first|rfl|(simp;done)|(simp [*];done),by repeat (first|exact Drawn0.refl _|apply Drawn0.step)⟩
        ·replace c14:=Bool.eq_false_iff.mpr c14
         subst c14
         rw [if_neg (show ¬ (false = true) by decide)] at H
         simp only [Option.some.injEq,Prod.mk.injEq] at H
         obtain ⟨rfl,rfl⟩:=H
         have p452 : 0 ≤ (x7_1 : Int):=of_decide_eq_true az
         have q452 : x7_1 < (l0.length : Int):=of_decide_eq_true az
         obtain ⟨ad452,e452,hx452_0⟩:=Kd.at_int HR0.out x7_1 p452 q452
         cases e452
         replace p452:=eq_true p452
         replace q452:=eq_true q452
         have p453 : 0 ≤ (x7_1 : Int):=of_decide_eq_true az
         have q453 : x7_1 < (l0.length : Int):=of_decide_eq_true az
         obtain ⟨ad453,e453,hx453_0⟩:=Kd.at_int HR0.out x7_1 p453 q453
         obtain rfl : ad452 = ad453:=(by injection e453)
         replace p453:=eq_true p453
         replace q453:=eq_true q453
         go_wp2_with (first|(go_at_call 83;(with_reducible refine (slices_isNaN_int.calls (rd l0 x7_1) false _ A13.out).mono ?_);rintro e w' ⟨rfl,⟨nd,rfl⟩⟩))
         go_ret2
         exact ⟨by first|rfl|(simp;done)|(simp [*];done),by repeat (first|exact Drawn0.refl _|apply Drawn0.step)⟩
      ·rw [if_neg c11] at H
       exact absurd H (by simp)
     ·rw [if_neg c10] at H
      exact absurd H (by simp)
    ·rw [if_neg c9] at H
     have c9b0 : decide (x7_1 < (l0.length : Int)) = false:=decide_eq_false c9
     clear c9
     simp only [Option.some.injEq,Prod.mk.injEq] at H
     obtain ⟨rfl,rfl⟩:=H
     go_wp2
     go_ret2
     exact ⟨by first|rfl|(simp;done)|(simp [*];done),by repeat (first|exact Drawn0.refl _|apply Drawn0.step)⟩
/-! ### impl_isNumber: function 50 -/
def impl_isNumber.f (a0 : Int) : Option (Bool):=(impl_in.f a0 1 1000000).bind fun t456=>(some t456)
set_option maxHeartbeats 8000000 in
set_option maxRecDepth 100000 in
theorem impl_isNumber.calls (a0 : Int) (r : Bool) (w : World) (h : impl_isNumber.f a0 = some r) :
  Calls Try.prog 50 #[.int .i64 a0] w fun e w'=>e = .returned (.bool r) ∧ Drawn0 w w':=by
 have H : ((impl_in.f a0 1 1000000).bind fun t456=>(some t456)) = some r:=h
 clear h
 obtain ⟨t456,A2,H⟩:=bd H
 obtain rfl:=Option.some.inj H
 go_enter Try.func50,Try.ntmps50
 go_wp2_with (first|((with_reducible refine gate_callee (f:=44) rfl ?_);refine goesL_ (some 4) rfl rfl Try.func44 (by kernel_rfl) rfl #[.int .i64 a0,.int .i64 1,.int .i64 1000000] rfl mz ?_;(with_reducible refine (impl_in.calls a0 1 1000000 t456 _ A2.out).mono ?_);rintro e w' ⟨rfl,⟨nd,rfl⟩⟩;refine ⟨_,rfl,?_⟩))
 go_ret
 exact ⟨by first|rfl|(simp;done)|(simp [*];done),by repeat (first|exact Drawn0.refl _|apply Drawn0.step)⟩
/-! ### impl_toldChain: function 51 -/
def impl_toldChain.f (k : Nat) (l0 : List Int) : Option (List Int × Bool):=(impl_IsChain.f k l0).bind fun t457=>(if t457 = true then (some (l0,true)) else (some (([] : List Int),false)))
theorem impl_toldChain.mono : ∀ a0 k,LeO (impl_toldChain.f k a0) (impl_toldChain.f (k + 1) a0):=by
 intro a0 k
 unfold impl_toldChain.f
 repeat' first
   | (with_reducible exact impl_IsChain.mono _ _)
   | (with_reducible exact LeO.refl _)
   | (with_reducible exact LeO.none _)
   | (with_reducible refine LeO.ite ?_ ?_)
   | (with_reducible refine LeO.bind ?_ (fun _=>?_))
   | exact impl_IsChain.mono _ _
   | exact LeO.none _
   | refine LeO.ite ?_ ?_
   | refine LeO.bind ?_ (fun _=>?_)
set_option maxHeartbeats 8000000 in
set_option maxRecDepth 100000 in
theorem impl_toldChain.calls (k : Nat) (P0_ : Nat → Prop) (u9000_ : Value) (l0 : List Int) (r1 : List Int) (r2 : Bool) (w0 w : World) (hB : Below w0.heap.size w0 w) (ho0 : Kd.R (Kd.int .i64) 3 w w0.heap.size P0_ u9000_ l0) (h : impl_toldChain.f k l0 = some (r1,r2)) :
  Calls Try.prog 51 #[u9000_] w fun e w'=>∃ v0_ : Value,e = .returned (.tuple #[v0_,.bool r2]) ∧ Kd.R (Kd.int .i64) 3 w' w0.heap.size (fun k_=>(P0_ k_ ∨ w.heap.size ≤ k_)) v0_ r1 ∧ Below w0.heap.size w0 w' ∧ Kept w w' (fun k_=>P0_ k_):=by
 have HO0:=Aside0.mk (show Kd.R (Kd.int .i64) 3 w w0.heap.size (fun k_=>(P0_ k_ ∨ w.heap.size ≤ k_)) u9000_ l0 from Kd.R_mono ho0 (fun k_ hk=>(.inl hk)))
 have HK:=Aside0.mk (Kept.refl w (fun k_=>P0_ k_))
 have HW0:=Aside0.mk hB.size
 have HB:=Aside0.mk hB
 clear hB
 have H : ((impl_IsChain.f k l0).bind fun t457=>(if t457 = true then (some (l0,true)) else (some (([] : List Int),false)))) = some (r1,r2):=h
 clear h
 obtain ⟨t457,A2,H⟩:=bd H
 by_cases c3 : t457 = true
 ·subst c3
  rw [if_pos rfl] at H
  simp only [Option.some.injEq,Prod.mk.injEq] at H
  obtain ⟨rfl,rfl⟩:=H
  obtain ⟨Ao4,co4,eo4⟩:=Kd.R_slice HO0.out
  subst eo4
  go_enter Try.func51,Try.ntmps51
  go_wp2_with (first|((with_reducible refine gate_callee (f:=15) rfl ?_);refine goesL_ (some 5) rfl rfl Try.func15 (by kernel_rfl) rfl #[.slice Ao4 l0.length co4] rfl mz ?_;(with_reducible refine (impl_IsChain.calls k _ _ l0 true _ ?side1 ?side2 A2.out).mono ?_);(case side1=>exact cz (Kd.R_reads' HO0.out).2.2);(case side2=>exact (Kd.R_reads' HO0.out).2.1);rintro e w5 ⟨rfl,hb⟩;refine ⟨_,rfl,?_⟩;have n0_:=Aside0.mk (Kd.R_below (rz HO0.out) hb);have n1_:=Aside0.mk (Kept.below (S:=(fun k_=>P0_ k_)) (by repeat (first|(with_reducible first|exact HK.out|apply Kept.alloc|apply Kept.drewN|apply Kept.drew)|exact HK.out)) hb);have n2_:=Aside0.mk (below_step bz hb);clear HO0 HK HB;have HO0:=n0_;have HK:=n1_;have HB:=n2_;clear n0_ n1_ n2_;(try clear hb)))
  go_ret2
  exact ⟨_,by first|rfl|(simp [errW_none,errW_some] <;> rfl)|(simp [*,errW_none,errW_some] <;> rfl),by (with_reducible repeat (first|apply Kd.R_alloc|apply Kd.R_drewN|apply Kd.R_drew));exact HO0.out,by repeat (first|(with_reducible first|exact HB.out|apply below_alloc|apply pw_below_drewN|apply below_drew1)|exact HB.out),by repeat (first|(with_reducible first|exact HK.out|apply Kept.alloc|apply Kept.drewN|apply Kept.drew)|exact HK.out)⟩
 ·replace c3:=Bool.eq_false_iff.mpr c3
  subst c3
  rw [if_neg (show ¬ (false = true) by decide)] at H
  simp only [Option.some.injEq,Prod.mk.injEq] at H
  obtain ⟨rfl,rfl⟩:=H
  obtain ⟨Ao6,co6,eo6⟩:=Kd.R_slice HO0.out
  subst eo6
  go_enter Try.func51,Try.ntmps51
  go_wp2_with (first|((with_reducible refine gate_callee (f:=15) rfl ?_);refine goesL_ (some 5) rfl rfl Try.func15 (by kernel_rfl) rfl #[.slice Ao6 l0.length co6] rfl mz ?_;(with_reducible refine (impl_IsChain.calls k _ _ l0 false _ ?side1 ?side2 A2.out).mono ?_);(case side1=>exact cz (Kd.R_reads' HO0.out).2.2);(case side2=>exact (Kd.R_reads' HO0.out).2.1);rintro e w7 ⟨rfl,hb⟩;refine ⟨_,rfl,?_⟩;have n0_:=Aside0.mk (Kd.R_below (rz HO0.out) hb);have n1_:=Aside0.mk (Kept.below (S:=(fun k_=>P0_ k_)) (by repeat (first|(with_reducible first|exact HK.out|apply Kept.alloc|apply Kept.drewN|apply Kept.drew)|exact HK.out)) hb);have n2_:=Aside0.mk (below_step bz hb);clear HO0 HK HB;have HO0:=n0_;have HK:=n1_;have HB:=n2_;clear n0_ n1_ n2_;(try clear hb)))
  go_ret2
  exact ⟨_,by first|rfl|(simp [errW_none,errW_some] <;> rfl)|(simp [*,errW_none,errW_some] <;> rfl),by first|exact Kd.R_nil _ _ _ _ _|exact Kd.N_nil _ _ _ _ _|exact Kd.V_nil _ _ _ _ _|exact Kd.Q_nil _ _ _ _ _|exact Kd.S_nil _ _ _ _ _,by repeat (first|(with_reducible first|exact HB.out|apply below_alloc|apply pw_below_drewN|apply below_drew1)|exact HB.out),by repeat (first|(with_reducible first|exact HK.out|apply Kept.alloc|apply Kept.drewN|apply Kept.drew)|exact HK.out)⟩
/-! ### slices_Clone_int_int: function 53 -/
def slices_Clone_int_int.f (l0 : List Int) : Option (List Int):=if l0.length < 17592186044416 then some l0 else none
set_option maxHeartbeats 8000000 in
set_option maxRecDepth 100000 in
theorem slices_Clone_int_int.calls (A0 : Option Addr) (c0 : Nat) (l0 : List Int) (r : List Int) (w : World) (hr0 : Kd.C (Kd.int .i64) w A0 l0.length l0) (hc0 : l0.length ≤ c0) (h : slices_Clone_int_int.f l0 = some r) :
  Calls Try.prog 53 #[.slice A0 l0.length c0] w fun e w'=>∃ v0_ : Value,e = .returned (v0_) ∧ Kd.R (Kd.int .i64) 3 w' w.heap.size (fun _=>True) v0_ r ∧ Below w.heap.size w w':=by
 have hlr : l0.length < 17592186044416 ∧ l0 = r:=by
  unfold slices_Clone_int_int.f at h
  split at h
  ·exact ⟨by assumption,Option.some.inj h⟩
  ·cases h
 obtain ⟨hlt,rfl⟩:=hlr
 clear h
 cases A0 with
 | none=>
  have hl : l0 = []:=by
   by_cases hp : 0 < l0.length
   ·obtain ⟨ad,e,_⟩:=hr0.2.2 hp
    cases e
   ·exact List.eq_nil_of_length_eq_zero (by omega)
  subst hl
  have heq:=fun (W : World)=>Lib.run_eql_slice_nil (P:=Try.prog) W 24 3 none 0 c0 0 0 Try.underlying24
  go_enter Try.func53,Try.ntmps53
  go_wp2
  go_ret
  exact ⟨_,rfl,Kd.R_nil _ _ _ _ _,Below.refl _ _⟩
 | some a0=>
  have heq:=fun (W : World)=>Lib.run_eql_slice_nil (P:=Try.prog) W 24 3 (some a0) l0.length c0 0 0 Try.underlying24
  have HR0:=Aside0.mk hr0
  have HC0:=Aside0.mk hc0
  have LM:=Aside0.mk hlt
  clear hr0 hc0 hlt
  have HB:=Aside0.mk (Below.refl w.heap.size w)
  go_enter Try.func53,Try.ntmps53
  go_wp2_with (first|((with_reducible refine gate_dst (N:=5) rfl ?_);refine Kd.R_lit (Kd.int .i64) _ 3 ?hg (N:=5) ?hd (xs:=([] : List Int)) (inner:=[]) (ok:=fun _=>True) (okp:=fun _=>True) ?hr ?hp (fun _ hk=>hk) trivial (Below.refl _ _) (Nat.le_refl _) (by simp) ?_;(case hd=>rfl);(case hg=>rfl);(case hr=>first|(go_simp;done)|(go_simp;rfl));(case hp=>exact (Reps.none _ _));intro v119 w3 ho4 hb hg_ hnew_;clear hg_ hnew_;have HO120:=Aside0.mk ho4;have HB1:=Aside0.mk hb;clear hb ho4)|((with_reducible refine gate_builtin (b:=.append) (xs:=#[.tmp 5,.tmp 6]) rfl ?_);at_builtin;refine Kd.R_append_rows (Kd.int .i64) (w0:=w) w.heap.size rfl (.tmp 5) (.tmp 6) 24 3 (.int .i64 0) 8 rfl Try.underlying24 info3 rfl (by decide) (by omega) v119 [] l0 _ _ _ (fun _=>True) (fun _=>False) rfl rfl ?aO ?aR (fun _ _ h=>h) (fun _ h=>h.elim) ?aF ?aB ?aS ?aL ?_;(case aR=>exact Kd.C_below HR0.out HB1.out);(case aB=>exact HB1.out);(case aF=>exact (fun _ _=>trivial));(case aO=>exact HO120.out);(case aS=>exact HB1.out.size);(case aL=>have:=LM.out;simp only [List.length_nil];omega);intro v122 w5 ho hb hg hat;rw [List.nil_append] at ho;have HO2:=Aside0.mk ho;have HB2:=Aside0.mk hb;clear ho hb hg hat))
  go_ret
  exact ⟨_,rfl,HO2.out,HB2.out⟩
/-! ### impl_InsertNumber: function 17 -/
section
def impl_InsertNumber.j (k : Nat) (l0 : List Int) (a1 i : Int) : Option (List Int × Bool):=
 if 0 < l0.length then (if l0.length ≤ 1000000 then (if 0 ≤ i then (if i ≤ (l0.length : Int) then impl_toldChain.f k (l0.take i.toNat ++ a1 :: l0.drop i.toNat) else none) else none) else none) else none
def impl_InsertNumber.f (k : Nat) (l0 : List Int) (a1 : Int) : Option (List Int × Bool):=
 (slices_BinarySearch_int_int.f k l0 a1).bind fun t=>(impl_IsChain.f k l0).bind fun c=>if c = true then ((impl_isNumber.f a1).bind fun m=>if m = true then (if t.2 = true then some ([],false) else impl_InsertNumber.j k l0 a1 t.1) else some ([],false)) else some ([],false)
theorem impl_InsertNumber.mono : ∀ a0 a1 k,LeO (impl_InsertNumber.f k a0 a1) (impl_InsertNumber.f (k + 1) a0 a1):=by
 intro a0 a1 k
 unfold impl_InsertNumber.f impl_InsertNumber.j
 repeat' first
   | (with_reducible exact slices_BinarySearch_int_int.mono _ _ _)
   | (with_reducible exact impl_IsChain.mono _ _)
   | (with_reducible exact impl_toldChain.mono _ _)
   | (with_reducible exact LeO.refl _)
   | (with_reducible exact LeO.none _)
   | (with_reducible refine LeO.ite ?_ ?_)
   | (with_reducible refine LeO.bind ?_ (fun _=>?_))
set_option maxHeartbeats 2000000 in
set_option maxRecDepth 100000 in
theorem impl_InsertNumber.calls (k : Nat) (A0 : Option Addr) (c0 : Nat) (l0 : List Int) (a1 : Int) (r1 : List Int) (r2 : Bool) (w : World) (hr0 : Kd.C (Kd.int .i64) w A0 l0.length l0) (hc0 : l0.length ≤ c0) (h : impl_InsertNumber.f k l0 a1 = some (r1,r2)) :
  Calls Try.prog 17 #[.slice A0 l0.length c0,.int .i64 a1] w fun e w'=>∃ v0_ : Value,e = .returned (.tuple #[v0_,.bool r2]) ∧ Kd.R (Kd.int .i64) 3 w' w.heap.size (fun _=>True) v0_ r1 ∧ Below w.heap.size w w':=by
 unfold impl_InsertNumber.f at h
 obtain ⟨⟨i,is⟩,hbs,h⟩:=Option.bind_eq_some_iff.1 h
 obtain ⟨c,hch,h⟩:=Option.bind_eq_some_iff.1 h
 have HR:=Aside0.mk hr0
 have HC0:=Aside0.mk hc0
 have HBS:=Aside0.mk hbs
 have HCH:=Aside0.mk hch
 clear hr0 hc0 hbs hch
 cases c with
 | false=>
  obtain ⟨rfl,rfl⟩ : r1 = [] ∧ r2 = false:=by simp at h;exact h
  clear h
  go_enter Try.func17,Try.ntmps17
  go_wp2_with (first|(go_at_call 49;refine (slices_BinarySearch_int_int.calls k A0 c0 l0 a1 i is _ HR.out HC0.out HBS.out).mono ?_;rintro e w1 ⟨rfl,hd⟩;have HB1:=Aside0.mk hd.below;clear hd)|(go_at_call 15;refine (impl_IsChain.calls k A0 c0 l0 false _ (Kd.C_below HR.out HB1.out) HC0.out HCH.out).mono ?_;rintro e w2 ⟨rfl,hb⟩;have HB2:=Aside0.mk (HB1.out.trans (hb.mono HB1.out.size));clear hb))
  go_ret2
  exact ⟨_,rfl,Kd.R_nil _ _ _ _ _,HB2.out⟩
 | true=>
  rw [if_pos rfl] at h
  obtain ⟨m,hm,h⟩:=Option.bind_eq_some_iff.1 h
  have HM:=Aside0.mk hm
  clear hm
  cases m with
  | false=>
   obtain ⟨rfl,rfl⟩ : r1 = [] ∧ r2 = false:=by simp at h;exact h
   clear h
   go_enter Try.func17,Try.ntmps17
   go_wp2_with (first|(go_at_call 49;refine (slices_BinarySearch_int_int.calls k A0 c0 l0 a1 i is _ HR.out HC0.out HBS.out).mono ?_;rintro e w1 ⟨rfl,hd⟩;have HB1:=Aside0.mk hd.below;clear hd)|(go_at_call 15;refine (impl_IsChain.calls k A0 c0 l0 true _ (Kd.C_below HR.out HB1.out) HC0.out HCH.out).mono ?_;rintro e w2 ⟨rfl,hb⟩;have HB2:=Aside0.mk (HB1.out.trans (hb.mono HB1.out.size));clear hb)|(go_at_call 50;refine (impl_isNumber.calls a1 false _ HM.out).mono ?_;rintro e w3 ⟨rfl,hd⟩;have HB3:=Aside0.mk (HB2.out.trans (hd.below.mono HB2.out.size));clear hd))
   go_ret2
   exact ⟨_,rfl,Kd.R_nil _ _ _ _ _,HB3.out⟩
  | true=>
   rw [if_pos rfl] at h
   cases is with
   | true=>
    obtain ⟨rfl,rfl⟩ : r1 = [] ∧ r2 = false:=by simp at h;exact h
    clear h
    go_enter Try.func17,Try.ntmps17
    go_wp2_with (first|(go_at_call 49;refine (slices_BinarySearch_int_int.calls k A0 c0 l0 a1 i true _ HR.out HC0.out HBS.out).mono ?_;rintro e w1 ⟨rfl,hd⟩;have HB1:=Aside0.mk hd.below;clear hd)|(go_at_call 15;refine (impl_IsChain.calls k A0 c0 l0 true _ (Kd.C_below HR.out HB1.out) HC0.out HCH.out).mono ?_;rintro e w2 ⟨rfl,hb⟩;have HB2:=Aside0.mk (HB1.out.trans (hb.mono HB1.out.size));clear hb)|(go_at_call 50;refine (impl_isNumber.calls a1 true _ HM.out).mono ?_;rintro e w3 ⟨rfl,hd⟩;have HB3:=Aside0.mk (HB2.out.trans (hd.below.mono HB2.out.size));clear hd))
    go_ret2
    exact ⟨_,rfl,Kd.R_nil _ _ _ _ _,HB3.out⟩
   | false=>
    rw [if_neg (show ¬ (false = true) by decide)] at h
    unfold impl_InsertNumber.j at h
    by_cases q0 : 0 < l0.length
    ·rw [if_pos q0] at h
     by_cases q1 : l0.length ≤ 1000000
     ·rw [if_pos q1] at h
      by_cases q2 : 0 ≤ i
      ·rw [if_pos q2] at h
       by_cases q3 : i ≤ (l0.length : Int)
       ·rw [if_pos q3] at h
        obtain ⟨n,rfl⟩:=Int.eq_ofNat_of_zero_le q2
        rw [Int.toNat_natCast] at h
        have H:=Aside0.mk h
        have Q0:=Aside0.mk q0
        have Q1:=Aside0.mk q1
        have Q3:=Aside0.mk (show n ≤ l0.length by omega)
        clear h q0 q1 q2 q3
        go_enter Try.func17,Try.ntmps17
        go_wp2_with (first|(go_at_call 49;refine (slices_BinarySearch_int_int.calls k A0 c0 l0 a1 _ false _ HR.out HC0.out HBS.out).mono ?_;rintro e w1 ⟨rfl,hd⟩;have HB1:=Aside0.mk hd.below;clear hd)|(go_at_call 15;refine (impl_IsChain.calls k A0 c0 l0 true _ (Kd.C_below HR.out HB1.out) HC0.out HCH.out).mono ?_;rintro e w2 ⟨rfl,hb⟩;have HB2:=Aside0.mk (HB1.out.trans (hb.mono HB1.out.size));clear hb)|(go_at_call 50;refine (impl_isNumber.calls a1 true _ HM.out).mono ?_;rintro e w3 ⟨rfl,hd⟩;have HB3:=Aside0.mk (HB2.out.trans (hd.below.mono HB2.out.size));clear hd)|(go_at_call 53;refine (slices_Clone_int_int.calls A0 c0 l0 l0 _ (Kd.C_below HR.out HB3.out) HC0.out (if_pos (by have:=Q1.out;omega))).mono ?_;rintro e w4 ⟨v4,rfl,ho,hb⟩;have HO4:=Aside0.mk ho;have HB4:=Aside0.mk hb;clear ho hb)|(go_at_call 52;refine (Go.Proofs.YtlefjgpkabijdaaS.ins_f52 n a1 w4.heap.size 1 (w0:=w3) (base:=w3.heap.size) (below_alloc HB4.out _) (Kd.R_alloc HO4.out _) Q0.out Q3.out Q1.out (Go.Proofs.YtlefjgpkabijdaaS.new_blk w4 _) (fun e=>Nat.lt_irrefl _ (Kd.R_lt HO4.out _ e.symm))).mono ?_;rintro e w5 ⟨v5,rfl,ho,hb⟩;have HO5:=Aside0.mk ho;have HB5:=Aside0.mk hb;clear ho hb)|(go_at_call 51;refine (impl_toldChain.calls k _ v5 _ r1 r2 w3 w5 HB5.out HO5.out H.out).mono ?_;rintro e w6 ⟨v6,rfl,ho,hb,_⟩;have HO6:=Aside0.mk ho;have HB6:=Aside0.mk hb;clear ho hb))
        go_ret2
        exact ⟨_,rfl,Kd.R_lower (Kd.R_mono HO6.out (fun _ _=>trivial)) HB3.out.size,HB3.out.trans (HB6.out.mono HB3.out.size)⟩
       ·rw [if_neg q3] at h;cases h
      ·rw [if_neg q2] at h;cases h
     ·rw [if_neg q1] at h;cases h
    ·rw [if_neg q0] at h;cases h
end
/-! ### spec_chNumber: function 54 -/
def spec_chNumber.f (a0 : Int) : Option (Bool):=(spec_l1In.f a0 1 1000000).bind fun t458=>(some t458)
set_option maxHeartbeats 8000000 in
set_option maxRecDepth 100000 in
theorem spec_chNumber.calls (a0 : Int) (r : Bool) (w : World) (h : spec_chNumber.f a0 = some r) :
  Calls Try.prog 54 #[.int .i64 a0] w fun e w'=>e = .returned (.bool r) ∧ Drawn0 w w':=by
 have H : ((spec_l1In.f a0 1 1000000).bind fun t458=>(some t458)) = some r:=h
 clear h
 obtain ⟨t458,A2,H⟩:=bd H
 obtain rfl:=Option.some.inj H
 go_enter Try.func54,Try.ntmps54
 go_wp2_with (first|((with_reducible refine gate_callee (f:=66) rfl ?_);refine goesL_ (some 4) rfl rfl Try.func66 (by kernel_rfl) rfl #[.int .i64 a0,.int .i64 1,.int .i64 1000000] rfl mz ?_;(with_reducible refine (spec_l1In.calls a0 1 1000000 t458 _ A2.out).mono ?_);rintro e w' ⟨rfl,⟨nd,rfl⟩⟩;refine ⟨_,rfl,?_⟩))
 go_ret
 exact ⟨by first|rfl|(simp;done)|(simp [*];done),by repeat (first|exact Drawn0.refl _|apply Drawn0.step)⟩
/-! ### spec_chIf: function 55 -/
def spec_chIf.f (k : Nat) (l0 : List Int) : Option (List Int × Bool):=(spec_chGood.f k l0).bind fun t459=>(if t459 = true then (some (l0,true)) else (some (([] : List Int),false)))
theorem spec_chIf.mono : ∀ a0 k,LeO (spec_chIf.f k a0) (spec_chIf.f (k + 1) a0):=by
 intro a0 k
 unfold spec_chIf.f
 repeat' first
   | (with_reducible exact spec_chGood.mono _ _)
   | (with_reducible exact LeO.refl _)
   | (with_reducible exact LeO.none _)
   | (with_reducible refine LeO.ite ?_ ?_)
   | (with_reducible refine LeO.bind ?_ (fun _=>?_))
   | exact spec_chGood.mono _ _
   | exact LeO.none _
   | refine LeO.ite ?_ ?_
   | refine LeO.bind ?_ (fun _=>?_)
set_option maxHeartbeats 8000000 in
set_option maxRecDepth 100000 in
theorem spec_chIf.calls (k : Nat) (P0_ : Nat → Prop) (u9000_ : Value) (l0 : List Int) (r1 : List Int) (r2 : Bool) (w0 w : World) (hB : Below w0.heap.size w0 w) (ho0 : Kd.R (Kd.int .i64) 3 w w0.heap.size P0_ u9000_ l0) (h : spec_chIf.f k l0 = some (r1,r2)) :
  Calls Try.prog 55 #[u9000_] w fun e w'=>∃ v0_ : Value,e = .returned (.tuple #[v0_,.bool r2]) ∧ Kd.R (Kd.int .i64) 3 w' w0.heap.size (fun k_=>(P0_ k_ ∨ w.heap.size ≤ k_)) v0_ r1 ∧ Below w0.heap.size w0 w' ∧ Kept w w' (fun k_=>P0_ k_):=by
 have HO0:=Aside0.mk (show Kd.R (Kd.int .i64) 3 w w0.heap.size (fun k_=>(P0_ k_ ∨ w.heap.size ≤ k_)) u9000_ l0 from Kd.R_mono ho0 (fun k_ hk=>(.inl hk)))
 have HK:=Aside0.mk (Kept.refl w (fun k_=>P0_ k_))
 have HW0:=Aside0.mk hB.size
 have HB:=Aside0.mk hB
 clear hB
 have H : ((spec_chGood.f k l0).bind fun t459=>(if t459 = true then (some (l0,true)) else (some (([] : List Int),false)))) = some (r1,r2):=h
 clear h
 obtain ⟨t459,A2,H⟩:=bd H
 by_cases c3 : t459 = true
 ·subst c3
  rw [if_pos rfl] at H
  simp only [Option.some.injEq,Prod.mk.injEq] at H
  obtain ⟨rfl,rfl⟩:=H
  obtain ⟨Ao4,co4,eo4⟩:=Kd.R_slice HO0.out
  subst eo4
  go_enter Try.func55,Try.ntmps55
  go_wp2_with (first|((with_reducible refine gate_callee (f:=33) rfl ?_);refine goesL_ (some 5) rfl rfl Try.func33 (by kernel_rfl) rfl #[.slice Ao4 l0.length co4] rfl mz ?_;(with_reducible refine (spec_chGood.calls k _ _ l0 true _ ?side1 ?side2 A2.out).mono ?_);(case side1=>exact cz (Kd.R_reads' HO0.out).2.2);(case side2=>exact (Kd.R_reads' HO0.out).2.1);rintro e w5 ⟨rfl,hb⟩;refine ⟨_,rfl,?_⟩;have n0_:=Aside0.mk (Kd.R_below (rz HO0.out) hb);have n1_:=Aside0.mk (Kept.below (S:=(fun k_=>P0_ k_)) (by repeat (first|(with_reducible first|exact HK.out|apply Kept.alloc|apply Kept.drewN|apply Kept.drew)|exact HK.out)) hb);have n2_:=Aside0.mk (below_step bz hb);clear HO0 HK HB;have HO0:=n0_;have HK:=n1_;have HB:=n2_;clear n0_ n1_ n2_;(try clear hb)))
  go_ret2
  exact ⟨_,by first|rfl|(simp [errW_none,errW_some] <;> rfl)|(simp [*,errW_none,errW_some] <;> rfl),by (with_reducible repeat (first|apply Kd.R_alloc|apply Kd.R_drewN|apply Kd.R_drew));exact HO0.out,by repeat (first|(with_reducible first|exact HB.out|apply below_alloc|apply pw_below_drewN|apply below_drew1)|exact HB.out),by repeat (first|(with_reducible first|exact HK.out|apply Kept.alloc|apply Kept.drewN|apply Kept.drew)|exact HK.out)⟩
 ·replace c3:=Bool.eq_false_iff.mpr c3
  subst c3
  rw [if_neg (show ¬ (false = true) by decide)] at H
  simp only [Option.some.injEq,Prod.mk.injEq] at H
  obtain ⟨rfl,rfl⟩:=H
  obtain ⟨Ao6,co6,eo6⟩:=Kd.R_slice HO0.out
  subst eo6
  go_enter Try.func55,Try.ntmps55
  go_wp2_with (first|((with_reducible refine gate_callee (f:=33) rfl ?_);refine goesL_ (some 5) rfl rfl Try.func33 (by kernel_rfl) rfl #[.slice Ao6 l0.length co6] rfl mz ?_;(with_reducible refine (spec_chGood.calls k _ _ l0 false _ ?side1 ?side2 A2.out).mono ?_);(case side1=>exact cz (Kd.R_reads' HO0.out).2.2);(case side2=>exact (Kd.R_reads' HO0.out).2.1);rintro e w7 ⟨rfl,hb⟩;refine ⟨_,rfl,?_⟩;have n0_:=Aside0.mk (Kd.R_below (rz HO0.out) hb);have n1_:=Aside0.mk (Kept.below (S:=(fun k_=>P0_ k_)) (by repeat (first|(with_reducible first|exact HK.out|apply Kept.alloc|apply Kept.drewN|apply Kept.drew)|exact HK.out)) hb);have n2_:=Aside0.mk (below_step bz hb);clear HO0 HK HB;have HO0:=n0_;have HK:=n1_;have HB:=n2_;clear n0_ n1_ n2_;(try clear hb)))
  go_ret2
  exact ⟨_,by first|rfl|(simp [errW_none,errW_some] <;> rfl)|(simp [*,errW_none,errW_some] <;> rfl),by first|exact Kd.R_nil _ _ _ _ _|exact Kd.N_nil _ _ _ _ _|exact Kd.V_nil _ _ _ _ _|exact Kd.Q_nil _ _ _ _ _|exact Kd.S_nil _ _ _ _ _,by repeat (first|(with_reducible first|exact HB.out|apply below_alloc|apply pw_below_drewN|apply below_drew1)|exact HB.out),by repeat (first|(with_reducible first|exact HK.out|apply Kept.alloc|apply Kept.drewN|apply Kept.drew)|exact HK.out)⟩
/-! ### spec_InsertNumber: function 18 -/
def spec_InsertNumber.j0 : Nat → List Int → Int → Bool → Option (List Int × Bool)
 | 0,_,_,_=>none
 | k + 1,x0,x1,x18=>if x18 = true then (some (([] : List Int),false)) else ((spec_l1Put.f k x0 x1).bind fun t463=>((spec_chIf.f k t463).bind fun bt466=>(some (bt466.1,bt466.2))))
def spec_InsertNumber.f (k : Nat) (l0 : List Int) (a1 : Int) : Option (List Int × Bool):=(spec_chGood.f k l0).bind fun t460=>(if t460 = true then ((spec_chNumber.f a1).bind fun t461=>(if t461 = true then ((spec_l1Has.f k l0 a1).bind fun t462=>(spec_InsertNumber.j0 k l0 a1 t462)) else (spec_InsertNumber.j0 k l0 a1 true))) else (spec_InsertNumber.j0 k l0 a1 true))
theorem spec_InsertNumber.mono_l : ∀ k,(∀ y0 y1 y2,LeO (spec_InsertNumber.j0 k y0 y1 y2) (spec_InsertNumber.j0 (k + 1) y0 y1 y2))
 | 0=>fun _ _ _ r h=>by simp [spec_InsertNumber.j0] at h
 | k + 1=>by
  have ih0:=spec_InsertNumber.mono_l k
  ·intro y0 y1 y2
   unfold spec_InsertNumber.j0
   repeat' first
   | (with_reducible exact ih0 _ _ _)
   | (with_reducible exact spec_chGood.mono _ _)
   | (with_reducible exact spec_chIf.mono _ _)
   | (with_reducible exact spec_l1Has.mono _ _ _)
   | (with_reducible exact spec_l1Put.mono _ _ _)
   | (with_reducible exact LeO.refl _)
   | (with_reducible exact LeO.none _)
   | (with_reducible refine LeO.ite ?_ ?_)
   | (with_reducible refine LeO.bind ?_ (fun _=>?_))
   | exact ih0 _ _ _
   | exact spec_chGood.mono _ _
   | exact spec_chIf.mono _ _
   | exact spec_l1Has.mono _ _ _
   | exact spec_l1Put.mono _ _ _
   | exact LeO.none _
   | refine LeO.ite ?_ ?_
   | refine LeO.bind ?_ (fun _=>?_)
theorem spec_InsertNumber.mono : ∀ a0 a1 k,LeO (spec_InsertNumber.f k a0 a1) (spec_InsertNumber.f (k + 1) a0 a1):=by
 intro a0 a1 k
 have ih0:=spec_InsertNumber.mono_l k
 unfold spec_InsertNumber.f
 repeat' first
   | (with_reducible exact ih0 _ _ _)
   | (with_reducible exact spec_chGood.mono _ _)
   | (with_reducible exact spec_chIf.mono _ _)
   | (with_reducible exact spec_l1Has.mono _ _ _)
   | (with_reducible exact spec_l1Put.mono _ _ _)
   | (with_reducible exact LeO.refl _)
   | (with_reducible exact LeO.none _)
   | (with_reducible refine LeO.ite ?_ ?_)
   | (with_reducible refine LeO.bind ?_ (fun _=>?_))
   | exact ih0 _ _ _
   | exact spec_chGood.mono _ _
   | exact spec_chIf.mono _ _
   | exact spec_l1Has.mono _ _ _
   | exact spec_l1Put.mono _ _ _
   | exact LeO.none _
   | refine LeO.ite ?_ ?_
   | refine LeO.bind ?_ (fun _=>?_)
set_option maxHeartbeats 8000000 in
set_option maxRecDepth 100000 in
theorem spec_InsertNumber.calls (k : Nat) (P0_ : Nat → Prop) (u9000_ : Value) (l0 : List Int) (a1 : Int) (r1 : List Int) (r2 : Bool) (w0 w : World) (hB : Below w0.heap.size w0 w) (ho0 : Kd.R (Kd.int .i64) 3 w w0.heap.size P0_ u9000_ l0) (h : spec_InsertNumber.f k l0 a1 = some (r1,r2)) :
  Calls Try.prog 18 #[u9000_,.int .i64 a1] w fun e w'=>∃ v0_ : Value,e = .returned (.tuple #[v0_,.bool r2]) ∧ Kd.R (Kd.int .i64) 3 w' w0.heap.size (fun k_=>(P0_ k_ ∨ w.heap.size ≤ k_)) v0_ r1 ∧ Below w0.heap.size w0 w' ∧ Kept w w' (fun k_=>P0_ k_):=by
 have HO0:=Aside0.mk (show Kd.R (Kd.int .i64) 3 w w0.heap.size (fun k_=>(P0_ k_ ∨ w.heap.size ≤ k_)) u9000_ l0 from Kd.R_mono ho0 (fun k_ hk=>(.inl hk)))
 have HK:=Aside0.mk (Kept.refl w (fun k_=>P0_ k_))
 have HW0:=Aside0.mk hB.size
 have HB:=Aside0.mk hB
 clear hB
 have H : ((spec_chGood.f k l0).bind fun t460=>(if t460 = true then ((spec_chNumber.f a1).bind fun t461=>(if t461 = true then ((spec_l1Has.f k l0 a1).bind fun t462=>(spec_InsertNumber.j0 k l0 a1 t462)) else (spec_InsertNumber.j0 k l0 a1 true))) else (spec_InsertNumber.j0 k l0 a1 true))) = some (r1,r2):=h
 clear h
 have HC3:=Aside0.mk H
 clear H
 go_enter Try.func18,Try.ntmps18
 go_upto_region 1 with (fail)
 go_cut [18] (fun v18 wc=>∃ (kq : Nat) (x18_2 : Bool),v18 = .bool x18_2 ∧ Aside0 (spec_InsertNumber.j0 kq l0 a1 x18_2 = some (r1,r2)) ∧ Aside0 (kq ≤ k) ∧ Aside0 (Kd.R (Kd.int .i64) 3 wc w0.heap.size (fun k_=>(P0_ k_ ∨ w.heap.size ≤ k_)) u9000_ l0) ∧ Aside0 (Kept w wc (fun k_=>P0_ k_)) ∧ Aside0 (Below w0.heap.size w0 wc))
 case first=>
  have H:=HC3.out
  clear HC3
  obtain ⟨t460,A4,H⟩:=bd H
  by_cases c5 : t460 = true
  ·subst c5
   rw [if_pos rfl] at H
   obtain ⟨t461,A6,H⟩:=bd H
   by_cases c7 : t461 = true
   ·subst c7
    rw [if_pos rfl] at H
    obtain ⟨t462,A8,H⟩:=bd H
    have H':=Aside0.mk H
    clear H
    obtain ⟨Ao9,co9,eo9⟩:=Kd.R_slice HO0.out
    subst eo9
    go_wp2_with (first|((with_reducible refine gate_callee (f:=33) rfl ?_);refine goesL_ (some 7) rfl rfl Try.func33 (by kernel_rfl) rfl #[.slice Ao9 l0.length co9] rfl mz ?_;(with_reducible refine (spec_chGood.calls k _ _ l0 true _ ?side1 ?side2 A4.out).mono ?_);(case side1=>exact cz (Kd.R_reads' HO0.out).2.2);(case side2=>exact (Kd.R_reads' HO0.out).2.1);rintro e w10 ⟨rfl,hb⟩;refine ⟨_,rfl,?_⟩;have n0_:=Aside0.mk (Kd.R_below (rz HO0.out) hb);have n1_:=Aside0.mk (Kept.below (S:=(fun k_=>P0_ k_)) (by repeat (first|(with_reducible first|exact HK.out|apply Kept.alloc|apply Kept.drewN|apply Kept.drew)|exact HK.out)) hb);have n2_:=Aside0.mk (below_step bz hb);clear HO0 HK HB;have HO0:=n0_;have HK:=n1_;have HB:=n2_;clear n0_ n1_ n2_;(try clear hb))|(go_at_call 54;(with_reducible refine (spec_chNumber.calls a1 true _ A6.out).mono ?_);rintro e w' ⟨rfl,⟨nd,rfl⟩⟩)|(go_at_call 35;(with_reducible refine (spec_l1Has.calls k _ _ l0 a1 t462 _ ?side1 ?side2 A8.out).mono ?_);(case side1=>exact cz (Kd.R_reads' HO0.out).2.2);(case side2=>exact (Kd.R_reads' HO0.out).2.1);rintro e w' ⟨rfl,⟨nd,rfl⟩⟩))
    go_meet
    case rel=>exact ⟨_,(t462),fz,H',⟨by first|omega|exact Nat.le_refl _⟩,⟨by (with_reducible repeat (first|apply Kd.R_alloc|apply Kd.R_drewN|apply Kd.R_drew));exact HO0.out⟩,⟨by repeat (first|(with_reducible first|exact HK.out|apply Kept.alloc|apply Kept.drewN|apply Kept.drew)|exact HK.out)⟩,⟨by repeat (first|(with_reducible first|exact HB.out|apply below_alloc|apply pw_below_drewN|apply below_drew1)|exact HB.out)⟩⟩
   ·replace c7:=Bool.eq_false_iff.mpr c7
    subst c7
    rw [if_neg (show ¬ (false = true) by decide)] at H
    have H':=Aside0.mk H
    clear H
    obtain ⟨Ao11,co11,eo11⟩:=Kd.R_slice HO0.out
    subst eo11
    go_wp2_with (first|((with_reducible refine gate_callee (f:=33) rfl ?_);refine goesL_ (some 7) rfl rfl Try.func33 (by kernel_rfl) rfl #[.slice Ao11 l0.length co11] rfl mz ?_;(with_reducible refine (spec_chGood.calls k _ _ l0 true _ ?side1 ?side2 A4.out).mono ?_);(case side1=>exact cz (Kd.R_reads' HO0.out).2.2);(case side2=>exact (Kd.R_reads' HO0.out).2.1);rintro e w12 ⟨rfl,hb⟩;refine ⟨_,rfl,?_⟩;have n0_:=Aside0.mk (Kd.R_below (rz HO0.out) hb);have n1_:=Aside0.mk (Kept.below (S:=(fun k_=>P0_ k_)) (by repeat (first|(with_reducible first|exact HK.out|apply Kept.alloc|apply Kept.drewN|apply Kept.drew)|exact HK.out)) hb);have n2_:=Aside0.mk (below_step bz hb);clear HO0 HK HB;have HO0:=n0_;have HK:=n1_;have HB:=n2_;clear n0_ n1_ n2_;(try clear hb))|(go_at_call 54;(with_reducible refine (spec_chNumber.calls a1 false _ A6.out).mono ?_);rintro e w' ⟨rfl,⟨nd,rfl⟩⟩))
    go_meet
    case rel=>exact ⟨_,(true),fz,H',⟨by first|omega|exact Nat.le_refl _⟩,⟨by (with_reducible repeat (first|apply Kd.R_alloc|apply Kd.R_drewN|apply Kd.R_drew));exact HO0.out⟩,⟨by repeat (first|(with_reducible first|exact HK.out|apply Kept.alloc|apply Kept.drewN|apply Kept.drew)|exact HK.out)⟩,⟨by repeat (first|(with_reducible first|exact HB.out|apply below_alloc|apply pw_below_drewN|apply below_drew1)|exact HB.out)⟩⟩
  ·replace c5:=Bool.eq_false_iff.mpr c5
   subst c5
   rw [if_neg (show ¬ (false = true) by decide)] at H
   have H':=Aside0.mk H
   clear H
   obtain ⟨Ao13,co13,eo13⟩:=Kd.R_slice HO0.out
   subst eo13
   go_wp2_with (first|((with_reducible refine gate_callee (f:=33) rfl ?_);refine goesL_ (some 7) rfl rfl Try.func33 (by kernel_rfl) rfl #[.slice Ao13 l0.length co13] rfl mz ?_;(with_reducible refine (spec_chGood.calls k _ _ l0 false _ ?side1 ?side2 A4.out).mono ?_);(case side1=>exact cz (Kd.R_reads' HO0.out).2.2);(case side2=>exact (Kd.R_reads' HO0.out).2.1);rintro e w14 ⟨rfl,hb⟩;refine ⟨_,rfl,?_⟩;have n0_:=Aside0.mk (Kd.R_below (rz HO0.out) hb);have n1_:=Aside0.mk (Kept.below (S:=(fun k_=>P0_ k_)) (by repeat (first|(with_reducible first|exact HK.out|apply Kept.alloc|apply Kept.drewN|apply Kept.drew)|exact HK.out)) hb);have n2_:=Aside0.mk (below_step bz hb);clear HO0 HK HB;have HO0:=n0_;have HK:=n1_;have HB:=n2_;clear n0_ n1_ n2_;(try clear hb)))
   go_meet
   case rel=>exact ⟨_,(true),fz,H',⟨by first|omega|exact Nat.le_refl _⟩,⟨by (with_reducible repeat (first|apply Kd.R_alloc|apply Kd.R_drewN|apply Kd.R_drew));exact HO0.out⟩,⟨by repeat (first|(with_reducible first|exact HK.out|apply Kept.alloc|apply Kept.drewN|apply Kept.drew)|exact HK.out)⟩,⟨by repeat (first|(with_reducible first|exact HB.out|apply below_alloc|apply pw_below_drewN|apply below_drew1)|exact HB.out)⟩⟩
 case rest=>
  clear HC3
  try clear c1
  try clear p2
  try clear c3
  try clear c5
  try clear c7
  obtain ⟨kq,x18_2,rfl,HA,HJ2,HO_0,HK,HB⟩:=hcut
  cases kq with
  | zero=>exact absurd HA.out (by simp [spec_InsertNumber.j0])
  | succ kj2=>
   have H:=HA.out
   clear HA
   simp only [spec_InsertNumber.j0] at H
   by_cases c15 : x18_2 = true
   ·subst c15
    rw [if_pos rfl] at H
    simp only [Option.some.injEq,Prod.mk.injEq] at H
    obtain ⟨rfl,rfl⟩:=H
    go_wp2
    go_ret2
    exact ⟨_,by first|rfl|(simp [errW_none,errW_some] <;> rfl)|(simp [*,errW_none,errW_some] <;> rfl),by first|exact Kd.R_nil _ _ _ _ _|exact Kd.N_nil _ _ _ _ _|exact Kd.V_nil _ _ _ _ _|exact Kd.Q_nil _ _ _ _ _|exact Kd.S_nil _ _ _ _ _,by repeat (first|(with_reducible first|exact HB.out|apply below_alloc|apply pw_below_drewN|apply below_drew1)|exact HB.out),by repeat (first|(with_reducible first|exact HK.out|apply Kept.alloc|apply Kept.drewN|apply Kept.drew)|exact HK.out)⟩
   ·replace c15:=Bool.eq_false_iff.mpr c15
    subst c15
    rw [if_neg (show ¬ (false = true) by decide)] at H
    obtain ⟨t463,A16,H⟩:=bd H
    replace H:=Option.bind_eq_some_iff.mp H
    obtain ⟨⟨t466,t469⟩,A170,H⟩:=H
    replace H : (some (t466,t469)) = some (r1,r2):=H
    have A17:=Aside0.mk A170
    clear A170
    simp only [Option.some.injEq,Prod.mk.injEq] at H
    obtain ⟨rfl,rfl⟩:=H
    obtain ⟨Ao18,co18,eo18⟩:=Kd.R_slice HO_0.out
    subst eo18
    go_wp2_with (first|((with_reducible refine gate_callee (f:=36) rfl ?_);refine goesL_ (some 21) rfl rfl Try.func36 (by kernel_rfl) rfl #[.slice Ao18 l0.length co18,.int .i64 a1] rfl mz ?_;(with_reducible refine (spec_l1Put.calls kj2 (fun k_=>some k_ = (.slice Ao18 l0.length co18 : Value).ownBlock) (.slice Ao18 l0.length co18) l0 a1 t463 w0 _ ?side1 ?side2 A16.out).mono ?_);(case side1=>repeat (first|(with_reducible first|exact HB.out|apply below_alloc|apply pw_below_drewN|apply below_drew1)|exact HB.out));(case side2=>exact Kd.R_tight rfl HO_0.out);rintro e w19 ⟨v464,rfl,ho0,hb,hkp⟩;refine ⟨_,rfl,?_⟩;have n0_:=Aside0.mk (Kd.R_mono (ok':=fun k_=>(P0_ k_ ∨ w.heap.size ≤ k_)) ho0 (fun k_ hk_=>Or.elim hk_ (fun hs_=>(HO_0.out.1 k_ (hs_).symm)) (fun hn_=>(.inr (Nat.le_trans (by first|exact HK.out.1|exact (show Kept w _ (fun k_=>P0_ k_) from by repeat (first|(with_reducible first|exact HK.out|apply Kept.alloc|apply Kept.drewN|apply Kept.drew)|exact HK.out)).1) hn_)))));have n1_:=Aside0.mk (Kept.then_ (S:=(fun k_=>P0_ k_)) (by repeat (first|(with_reducible first|exact HK.out|apply Kept.alloc|apply Kept.drewN|apply Kept.drew)|exact HK.out)) hkp (fun k_ hs_=>(fun e_=>(HO_0.out.1 k_ e_.symm)) hs_));have n2_:=Aside0.mk (hb);clear HK HB HO_0;have HO465:=n0_;have HK:=n1_;have HB:=n2_;clear n0_ n1_ n2_;(try clear hb);(try clear hkp);(try clear ho0);obtain ⟨Ao20,co20,eo20⟩:=Kd.R_slice HO465.out;subst eo20)|((with_reducible refine gate_callee (f:=55) rfl ?_);refine goesL_ (some 22) rfl rfl Try.func55 (by kernel_rfl) rfl #[.slice Ao20 t463.length co20] rfl mz ?_;(with_reducible refine (spec_chIf.calls kj2 (fun k_=>some k_ = (.slice Ao20 t463.length co20 : Value).ownBlock) (.slice Ao20 t463.length co20) t463 t466 t469 w0 _ ?side1 ?side2 A17.out).mono ?_);(case side1=>repeat (first|(with_reducible first|exact HB.out|apply below_alloc|apply pw_below_drewN|apply below_drew1)|exact HB.out));(case side2=>exact Kd.R_tight rfl HO465.out);rintro e w21 ⟨v467,rfl,ho0,hb,hkp⟩;refine ⟨_,rfl,?_⟩;have n0_:=Aside0.mk (Kd.R_mono (ok':=fun k_=>(P0_ k_ ∨ w.heap.size ≤ k_)) ho0 (fun k_ hk_=>Or.elim hk_ (fun hs_=>(HO465.out.1 k_ (hs_).symm)) (fun hn_=>(.inr (Nat.le_trans (by first|exact HK.out.1|exact (show Kept w _ (fun k_=>P0_ k_) from by repeat (first|(with_reducible first|exact HK.out|apply Kept.alloc|apply Kept.drewN|apply Kept.drew)|exact HK.out)).1) hn_)))));have n1_:=Aside0.mk (Kept.then_ (S:=(fun k_=>P0_ k_)) (by repeat (first|(with_reducible first|exact HK.out|apply Kept.alloc|apply Kept.drewN|apply Kept.drew)|exact HK.out)) hkp (fun k_ hs_=>(fun e_=>(HO465.out.1 k_ e_.symm)) hs_));have n2_:=Aside0.mk (hb);clear HK HB HO465;have HO468:=n0_;have HK:=n1_;have HB:=n2_;clear n0_ n1_ n2_;(try clear hb);(try clear hkp);(try clear ho0)))
    go_ret2
    exact ⟨_,by first|rfl|(simp [errW_none,errW_some] <;> rfl)|(simp [*,errW_none,errW_some] <;> rfl),by (with_reducible repeat (first|apply Kd.R_alloc|apply Kd.R_drewN|apply Kd.R_drew));exact HO468.out,by repeat (first|(with_reducible first|exact HB.out|apply below_alloc|apply pw_below_drewN|apply below_drew1)|exact HB.out),by repeat (first|(with_reducible first|exact HK.out|apply Kept.alloc|apply Kept.drewN|apply Kept.drew)|exact HK.out)⟩
end Go.Proofs.Ytlefjgpkabijdaa.MFnNeededParts
--sq
