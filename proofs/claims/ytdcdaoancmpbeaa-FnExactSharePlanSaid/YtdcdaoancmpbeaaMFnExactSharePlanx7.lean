import Derived.Test.YtdcdaoancmpbeaaMFnExactSharePlanx0
import Derived.Test.YtdcdaoancmpbeaaMFnExactSharePlanx6
namespace Go.Proofs.Ytdcdaoancmpbeaa.MFnExactSharePlan
open Go.RowKit Go.Proofs.YtdcdaoancmpbeaaW.PrintWords Go.Proofs.YtdcdaoancmpbeaaW.PrintLast Go.Proofs.YtdcdaoancmpbeaaW.PrintMore Go.Proofs.YtdcdaoancmpbeaaV Go.Proofs.YtdcdaoancmpbeaaZ
attribute [local go_sem] max2_int min2_int max_two min_two max_three min_three max_four min_four   -- for this text's walks alone
set_option linter.unusedVariables false
set_option linter.unusedSimpArgs false
/-! ### spec_l1Has: function 98 -/
def spec_l1Has.l0 : Nat → Int → List Int → Int → Int → Option (Bool)
 | 0,_,_,_,_=>none
 | k + 1,x1,x7,x8,x9=>if x9 < x8 then (if 0 ≤ x9 then (if x9 < (x7.length : Int) then (if (rd x7 x9) = x1 then (some true) else (spec_l1Has.l0 k x1 x7 x8 (wrap64 (x9 + 1)))) else (none)) else (none)) else (some false)
def spec_l1Has.f (k : Nat) (l0 : List Int) (a1 : Int) : Option (Bool):=spec_l1Has.l0 k a1 l0 (l0.length : Int) 0
theorem spec_l1Has.mono_l : ∀ k,(∀ y0 y1 y2 y3,LeO (spec_l1Has.l0 k y0 y1 y2 y3) (spec_l1Has.l0 (k + 1) y0 y1 y2 y3))
 | 0=>fun _ _ _ _ r h=>by simp [spec_l1Has.l0] at h
 | k + 1=>by
  have ih0:=spec_l1Has.mono_l k
  ·intro y0 y1 y2 y3
   unfold spec_l1Has.l0
   repeat' first
   | (with_reducible exact ih0 _ _ _ _)
   | (with_reducible exact LeO.refl _)
   | (with_reducible exact LeO.none _)
   | (with_reducible refine LeO.ite ?_ ?_)
   | (with_reducible refine LeO.bind ?_ (fun _=>?_))
   | exact ih0 _ _ _ _
   | exact LeO.none _
   | refine LeO.ite ?_ ?_
   | refine LeO.bind ?_ (fun _=>?_)
theorem spec_l1Has.mono : ∀ a0 a1 k,LeO (spec_l1Has.f k a0 a1) (spec_l1Has.f (k + 1) a0 a1):=by
 intro a0 a1 k
 have ih0:=spec_l1Has.mono_l k
 unfold spec_l1Has.f
 repeat' first
   | (with_reducible exact ih0 _ _ _ _)
   | (with_reducible exact LeO.refl _)
   | (with_reducible exact LeO.none _)
   | (with_reducible refine LeO.ite ?_ ?_)
   | (with_reducible refine LeO.bind ?_ (fun _=>?_))
   | exact ih0 _ _ _ _
   | exact LeO.none _
   | refine LeO.ite ?_ ?_
   | refine LeO.bind ?_ (fun _=>?_)
set_option maxHeartbeats 8000000 in
set_option maxRecDepth 100000 in
theorem spec_l1Has.calls (k : Nat) (A0 : Option Addr) (c0 : Nat) (l0 : List Int) (a1 : Int) (r : Bool) (w : World) (hr0 : Kd.C (Kd.int .i64) w A0 l0.length l0) (hc0 : l0.length ≤ c0) (h : spec_l1Has.f k l0 a1 = some r) :
  Calls Try.prog 98 #[.slice A0 l0.length c0,.int .i64 a1] w fun e w'=>e = .returned (.bool r) ∧ Drawn0 w w':=by
 have HR0:=Aside0.mk hr0
 have HC0:=Aside0.mk hc0
 clear hr0 hc0
 have H : (spec_l1Has.l0 k a1 l0 (l0.length : Int) 0) = some r:=h
 clear h
 have H':=Aside0.mk H
 clear H
 go_enter Try.func98,Try.ntmps98
 go_wp2
 go_loopg [9] k (fun kq v9 w'=>∃ (x9_1 : Int),v9 = .int .i64 x9_1 ∧ Aside0 (spec_l1Has.l0 kq a1 l0 (l0.length : Int) x9_1 = some r) ∧ Aside0 (kq ≤ k) ∧ Drawn0 w w')
 case atStart=>exact ⟨(0),fz,H',⟨Nat.le_refl _⟩,by repeat (first|exact Drawn0.refl _|apply Drawn0.step)⟩
 case round=>
  clear H'
  try clear p2
  obtain ⟨x9_1,rfl,HA,HK1,⟨m1,rfl⟩⟩:=hrel
  cases gk with
  | zero=>exact absurd HA.out (by simp [spec_l1Has.l0])
  | succ k1=>
   have H:=HA.out
   clear HA
   simp only [spec_l1Has.l0] at H
   by_cases c3 : x9_1 < (l0.length : Int)
   ·rw [if_pos c3] at H
    have c3b0 : decide (x9_1 < (l0.length : Int)) = true:=decide_eq_true c3
    clear c3
    by_cases c4 : 0 ≤ x9_1
    ·rw [if_pos c4] at H
     have c4b0 : decide (0 ≤ x9_1) = true:=decide_eq_true c4
     clear c4
     by_cases c5 : x9_1 < (l0.length : Int)
     ·rw [if_pos c5] at H
      have c5b0 : decide (x9_1 < (l0.length : Int)) = true:=decide_eq_true c5
      clear c5
      by_cases c6 : (rd l0 x9_1) = a1
      ·rw [if_pos c6] at H
       have c6b0 : ((rd l0 x9_1) == a1) = true:=beq_iff_eq.mpr c6
       have c6b1 : ((rd l0 x9_1) != a1) = false:=bne_eq_false_iff_eq.mpr c6
       clear c6
       obtain rfl:=Option.some.inj H
       have p220 : 0 ≤ (x9_1 : Int):=of_decide_eq_true az
       have q220 : x9_1 < (l0.length : Int):=of_decide_eq_true az
       obtain ⟨ad220,e220,hx220_0⟩:=Kd.at_int HR0.out x9_1 p220 q220
       cases e220
       replace p220:=eq_true p220
       replace q220:=eq_true q220
       go_wp2
       go_ret
       exact ⟨by first|rfl|(simp;done)|(simp [*];done),by repeat (first|exact Drawn0.refl _|apply Drawn0.step)⟩
      ·rw [if_neg c6] at H
       have c6b0 : ((rd l0 x9_1) == a1) = false:=beq_eq_false_iff_ne.mpr c6
       have c6b1 : ((rd l0 x9_1) != a1) = true:=bne_iff_ne.mpr c6
       have H':=Aside0.mk H
       clear H
       have p220 : 0 ≤ (x9_1 : Int):=of_decide_eq_true az
       have q220 : x9_1 < (l0.length : Int):=of_decide_eq_true az
       obtain ⟨ad220,e220,hx220_0⟩:=Kd.at_int HR0.out x9_1 p220 q220
       cases e220
       replace p220:=eq_true p220
       replace q220:=eq_true q220
       go_wp2
       go_roundg k1
       case measure=>have:=HK1.out;omega
       case rel=>exact ⟨(wrap64 (x9_1 + 1)),fz,H',⟨by have:=HK1.out;omega⟩,by repeat (first|exact Drawn0.refl _|apply Drawn0.step)⟩
     ·rw [if_neg c5] at H
      exact absurd H (by simp)
    ·rw [if_neg c4] at H
     exact absurd H (by simp)
   ·rw [if_neg c3] at H
    have c3b0 : decide (x9_1 < (l0.length : Int)) = false:=decide_eq_false c3
    clear c3
    obtain rfl:=Option.some.inj H
    go_wp2
    go_ret
    exact ⟨by first|rfl|(simp;done)|(simp [*];done),by repeat (first|exact Drawn0.refl _|apply Drawn0.step)⟩
/-! ### spec_l1Put: function 99 -/
def spec_l1Put.l0 : Nat → List Int → Int → Int → Option (List Int)
 | 0,_,_,_=>none
 | k + 1,x0,x1,x5=>if x5 < (x0.length : Int) then (if 0 ≤ x5 then (if (rd x0 x5) < x1 then (spec_l1Put.l0 k x0 x1 (wrap64 (x5 + 1))) else (if (rd x0 x5) = x1 then (some x0) else ((some (([] : List Int) : List Int)).bind fun y223=>(if x5 ≤ (x0.length : Int) then ((some (x0.take (x5 : Int).toNat : List Int)).bind fun y226=>(if y223.length + y226.length < 17592186044416 then ((some (y223 ++ y226 : List Int)).bind fun y230=>(if y230.length < 17592186044416 then ((some (y230 ++ [x1] : List Int)).bind fun y233=>((some (x0.drop (x5 : Int).toNat : List Int)).bind fun y236=>(if y233.length + y236.length < 17592186044416 then (some (y233 ++ y236)) else (none)))) else (none))) else (none))) else (none))))) else (none)) else ((some (([] : List Int) : List Int)).bind fun y243=>(if 0 ≤ x5 then (if x5 ≤ (x0.length : Int) then ((some (x0.take (x5 : Int).toNat : List Int)).bind fun y246=>(if y243.length + y246.length < 17592186044416 then ((some (y243 ++ y246 : List Int)).bind fun y250=>(if y250.length < 17592186044416 then ((some (y250 ++ [x1] : List Int)).bind fun y253=>((some (x0.drop (x5 : Int).toNat : List Int)).bind fun y256=>(if y253.length + y256.length < 17592186044416 then (some (y253 ++ y256)) else (none)))) else (none))) else (none))) else (none)) else (none)))
def spec_l1Put.f (k : Nat) (l0 : List Int) (a1 : Int) : Option (List Int):=spec_l1Put.l0 k l0 a1 0
theorem spec_l1Put.mono_l : ∀ k,(∀ y0 y1 y2,LeO (spec_l1Put.l0 k y0 y1 y2) (spec_l1Put.l0 (k + 1) y0 y1 y2))
 | 0=>fun _ _ _ r h=>by simp [spec_l1Put.l0] at h
 | k + 1=>by
  have ih0:=spec_l1Put.mono_l k
  ·intro y0 y1 y2
   unfold spec_l1Put.l0
   repeat' first
   | (with_reducible exact ih0 _ _ _)
   | (with_reducible exact LeO.refl _)
   | (with_reducible exact LeO.none _)
   | (with_reducible refine LeO.ite ?_ ?_)
   | (with_reducible refine LeO.bind ?_ (fun _=>?_))
   | exact ih0 _ _ _
   | exact LeO.none _
   | refine LeO.ite ?_ ?_
   | refine LeO.bind ?_ (fun _=>?_)
theorem spec_l1Put.mono : ∀ a0 a1 k,LeO (spec_l1Put.f k a0 a1) (spec_l1Put.f (k + 1) a0 a1):=by
 intro a0 a1 k
 have ih0:=spec_l1Put.mono_l k
 unfold spec_l1Put.f
 repeat' first
   | (with_reducible exact ih0 _ _ _)
   | (with_reducible exact LeO.refl _)
   | (with_reducible exact LeO.none _)
   | (with_reducible refine LeO.ite ?_ ?_)
   | (with_reducible refine LeO.bind ?_ (fun _=>?_))
   | exact ih0 _ _ _
   | exact LeO.none _
   | refine LeO.ite ?_ ?_
   | refine LeO.bind ?_ (fun _=>?_)
set_option maxHeartbeats 8000000 in
set_option maxRecDepth 100000 in
theorem spec_l1Put.calls (k : Nat) (P0_ : Nat → Prop) (u9000_ : Value) (l0 : List Int) (a1 : Int) (r : List Int) (w0 w : World) (hB : Below w0.heap.size w0 w) (ho0 : Kd.R (Kd.int .i64) 3 w w0.heap.size P0_ u9000_ l0) (h : spec_l1Put.f k l0 a1 = some r) :
  Calls Try.prog 99 #[u9000_,.int .i64 a1] w fun e w'=>∃ v0_ : Value,e = .returned (v0_) ∧ Kd.R (Kd.int .i64) 3 w' w0.heap.size (fun k_=>(P0_ k_ ∨ w.heap.size ≤ k_)) v0_ r ∧ Below w0.heap.size w0 w' ∧ Kept w w' (fun k_=>P0_ k_):=by
 have HO0:=Aside0.mk (show Kd.R (Kd.int .i64) 3 w w0.heap.size (fun k_=>(P0_ k_ ∨ w.heap.size ≤ k_)) u9000_ l0 from Kd.R_mono ho0 (fun k_ hk=>(.inl hk)))
 have HK:=Aside0.mk (Kept.refl w (fun k_=>P0_ k_))
 have HW0:=Aside0.mk hB.size
 have HB:=Aside0.mk hB
 clear hB
 have H : (spec_l1Put.l0 k l0 a1 0) = some r:=h
 clear h
 have H':=Aside0.mk H
 clear H
 go_enter Try.func99,Try.ntmps99
 go_wp2
 go_loopg [5] k (fun kq v5 w'=>∃ (x5_1 : Int),v5 = .int .i64 x5_1 ∧ Aside0 (spec_l1Put.l0 kq l0 a1 x5_1 = some r) ∧ Aside0 (kq ≤ k) ∧ Aside0 (Kd.R (Kd.int .i64) 3 w' w0.heap.size (fun k_=>(P0_ k_ ∨ w.heap.size ≤ k_)) u9000_ l0) ∧ Aside0 (Kept w w' (fun k_=>P0_ k_)) ∧ Aside0 (Below w0.heap.size w0 w'))
 case atStart=>exact ⟨(0),fz,H',⟨Nat.le_refl _⟩,⟨by (with_reducible repeat (first|apply Kd.R_alloc|apply Kd.R_drewN|apply Kd.R_drew));exact HO0.out⟩,⟨by repeat (first|(with_reducible first|exact HK.out|apply Kept.alloc|apply Kept.drewN|apply Kept.drew)|exact HK.out)⟩,⟨by repeat (first|(with_reducible first|exact HB.out|apply below_alloc|apply pw_below_drewN|apply below_drew1)|exact HB.out)⟩⟩
 case round=>
  clear H'
  try clear p2
  obtain ⟨x5_1,rfl,HA,HK1,HO_0,HK,HB⟩:=hrel
  cases gk with
  | zero=>exact absurd HA.out (by simp [spec_l1Put.l0])
  | succ k1=>
   have H:=HA.out
   clear HA
   simp only [spec_l1Put.l0] at H
   by_cases c3 : x5_1 < (l0.length : Int)
   ·rw [if_pos c3] at H
    have c3b0 : decide (x5_1 < (l0.length : Int)) = true:=decide_eq_true c3
    clear c3
    by_cases c4 : 0 ≤ x5_1
    ·rw [if_pos c4] at H
     have c4b0 : decide (0 ≤ x5_1) = true:=decide_eq_true c4
     clear c4
     by_cases c5 : (rd l0 x5_1) < a1
     ·rw [if_pos c5] at H
      have c5b0 : decide ((rd l0 x5_1) < a1) = true:=decide_eq_true c5
      clear c5
      have H':=Aside0.mk H
      clear H
      obtain ⟨Ao6,co6,eo6⟩:=Kd.R_slice HO_0.out
      subst eo6
      have p221 : 0 ≤ (x5_1 : Int):=of_decide_eq_true az
      have q221 : x5_1 < (l0.length : Int):=of_decide_eq_true az
      obtain ⟨ad221,e221,hx221_0⟩:=Kd.at_int (Kd.R_reads' HO_0.out).2.2 x5_1 p221 q221
      cases e221
      replace p221:=eq_true p221
      replace q221:=eq_true q221
      go_wp2
      go_roundg k1
      case measure=>have:=HK1.out;omega
      case rel=>exact ⟨(wrap64 (x5_1 + 1)),fz,H',⟨by have:=HK1.out;omega⟩,⟨by (with_reducible repeat (first|apply Kd.R_alloc|apply Kd.R_drewN|apply Kd.R_drew));exact HO_0.out⟩,⟨by repeat (first|(with_reducible first|exact HK.out|apply Kept.alloc|apply Kept.drewN|apply Kept.drew)|exact HK.out)⟩,⟨by repeat (first|(with_reducible first|exact HB.out|apply below_alloc|apply pw_below_drewN|apply below_drew1)|exact HB.out)⟩⟩
     ·rw [if_neg c5] at H
      have c5b0 : decide ((rd l0 x5_1) < a1) = false:=decide_eq_false c5
      clear c5
      by_cases c7 : (rd l0 x5_1) = a1
      ·rw [if_pos c7] at H
       have c7b0 : ((rd l0 x5_1) == a1) = true:=beq_iff_eq.mpr c7
       have c7b1 : ((rd l0 x5_1) != a1) = false:=bne_eq_false_iff_eq.mpr c7
       clear c7
       obtain rfl:=Option.some.inj H
       obtain ⟨Ao8,co8,eo8⟩:=Kd.R_slice HO_0.out
       subst eo8
       have p221 : 0 ≤ (x5_1 : Int):=of_decide_eq_true az
       have q221 : x5_1 < (l0.length : Int):=of_decide_eq_true az
       obtain ⟨ad221,e221,hx221_0⟩:=Kd.at_int (Kd.R_reads' HO_0.out).2.2 x5_1 p221 q221
       cases e221
       replace p221:=eq_true p221
       replace q221:=eq_true q221
       have p222 : 0 ≤ (x5_1 : Int):=of_decide_eq_true az
       have q222 : x5_1 < (l0.length : Int):=of_decide_eq_true az
       obtain ⟨ad222,e222,hx222_0⟩:=Kd.at_int (Kd.R_reads' HO_0.out).2.2 x5_1 p222 q222
       obtain rfl : ad221 = ad222:=(by injection e222)
       replace p222:=eq_true p222
       replace q222:=eq_true q222
       go_wp2
       go_ret
       exact ⟨_,by first|rfl|(simp [errW_none,errW_some] <;> rfl)|(simp [*,errW_none,errW_some] <;> rfl),by (with_reducible repeat (first|apply Kd.R_alloc|apply Kd.R_drewN|apply Kd.R_drew));exact HO_0.out,by repeat (first|(with_reducible first|exact HB.out|apply below_alloc|apply pw_below_drewN|apply below_drew1)|exact HB.out),by repeat (first|(with_reducible first|exact HK.out|apply Kept.alloc|apply Kept.drewN|apply Kept.drew)|exact HK.out)⟩
      ·rw [if_neg c7] at H
       have c7b0 : ((rd l0 x5_1) == a1) = false:=beq_eq_false_iff_ne.mpr c7
       have c7b1 : ((rd l0 x5_1) != a1) = true:=bne_iff_ne.mpr c7
       obtain ⟨y223,hy223⟩ : ∃ y_ : List Int,y_ = (([] : List Int)):=⟨_,rfl⟩
       replace H : (if x5_1 ≤ (l0.length : Int) then ((some (l0.take (x5_1 : Int).toNat : List Int)).bind fun y226=>(if y223.length + y226.length < 17592186044416 then ((some (y223 ++ y226 : List Int)).bind fun y230=>(if y230.length < 17592186044416 then ((some (y230 ++ [a1] : List Int)).bind fun y233=>((some (l0.drop (x5_1 : Int).toNat : List Int)).bind fun y236=>(if y233.length + y236.length < 17592186044416 then (some (y233 ++ y236)) else (none)))) else (none))) else (none))) else (none)) = some r:=by first|(rw [hy223];with_reducible exact H)|(have H2_:=(Option.bind_some _ _).symm.trans H;rw [hy223];with_reducible exact H2_)|(have H2_:=(Option.bind_some _ _).symm.trans H;with_reducible exact H2_)|with_reducible exact H|(rw [hy223];exact H)|exact H
       have Ny223:=Aside0.mk hy223
       clear hy223
       have c9b0:=eq_true (of_decide_eq_true az : 0 ≤ x5_1)
       by_cases c10 : x5_1 ≤ (l0.length : Int)
       ·rw [if_pos c10] at H
        have c10b0:=eq_true c10
        have c10b1 : decide (x5_1 ≤ (l0.length : Int)) = true:=decide_eq_true c10
        clear c10
        obtain ⟨y226,hy226⟩ : ∃ y_ : List Int,y_ = (l0.take (x5_1 : Int).toNat):=⟨_,rfl⟩
        replace H : (if y223.length + y226.length < 17592186044416 then ((some (y223 ++ y226 : List Int)).bind fun y230=>(if y230.length < 17592186044416 then ((some (y230 ++ [a1] : List Int)).bind fun y233=>((some (l0.drop (x5_1 : Int).toNat : List Int)).bind fun y236=>(if y233.length + y236.length < 17592186044416 then (some (y233 ++ y236)) else (none)))) else (none))) else (none)) = some r:=by first|(rw [hy226];with_reducible exact H)|(have H2_:=(Option.bind_some _ _).symm.trans H;rw [hy226];with_reducible exact H2_)|(have H2_:=(Option.bind_some _ _).symm.trans H;with_reducible exact H2_)|with_reducible exact H|(rw [hy226];exact H)|exact H
        have Ny226:=Aside0.mk hy226
        clear hy226
        by_cases c11 : y223.length + y226.length < 17592186044416
        ·rw [if_pos c11] at H
         have LMc11:=Aside0.mk c11
         clear c11
         obtain ⟨y230,hy230⟩ : ∃ y_ : List Int,y_ = (y223 ++ y226):=⟨_,rfl⟩
         replace H : (if y230.length < 17592186044416 then ((some (y230 ++ [a1] : List Int)).bind fun y233=>((some (l0.drop (x5_1 : Int).toNat : List Int)).bind fun y236=>(if y233.length + y236.length < 17592186044416 then (some (y233 ++ y236)) else (none)))) else (none)) = some r:=by first|(rw [hy230];with_reducible exact H)|(have H2_:=(Option.bind_some _ _).symm.trans H;rw [hy230];with_reducible exact H2_)|(have H2_:=(Option.bind_some _ _).symm.trans H;with_reducible exact H2_)|with_reducible exact H|(rw [hy230];exact H)|exact H
         have Ny230:=Aside0.mk hy230
         clear hy230
         by_cases c12 : y230.length < 17592186044416
         ·rw [if_pos c12] at H
          have LMc12:=Aside0.mk c12
          clear c12
          obtain ⟨y233,hy233⟩ : ∃ y_ : List Int,y_ = (y230 ++ [a1]):=⟨_,rfl⟩
          replace H : ((some (l0.drop (x5_1 : Int).toNat : List Int)).bind fun y236=>(if y233.length + y236.length < 17592186044416 then (some (y233 ++ y236)) else (none))) = some r:=by first|(rw [hy233];with_reducible exact H)|(have H2_:=(Option.bind_some _ _).symm.trans H;rw [hy233];with_reducible exact H2_)|(have H2_:=(Option.bind_some _ _).symm.trans H;with_reducible exact H2_)|with_reducible exact H|(rw [hy233];exact H)|exact H
          have Ny233:=Aside0.mk hy233
          clear hy233
          have c13b0:=eq_true (of_decide_eq_true az : 0 ≤ x5_1)
          have c14b0:=eq_true (of_decide_eq_true az : x5_1 ≤ (l0.length : Int))
          obtain ⟨y236,hy236⟩ : ∃ y_ : List Int,y_ = (l0.drop (x5_1 : Int).toNat):=⟨_,rfl⟩
          replace H : (if y233.length + y236.length < 17592186044416 then (some (y233 ++ y236)) else (none)) = some r:=by first|(rw [hy236];with_reducible exact H)|(have H2_:=(Option.bind_some _ _).symm.trans H;rw [hy236];with_reducible exact H2_)|(have H2_:=(Option.bind_some _ _).symm.trans H;with_reducible exact H2_)|with_reducible exact H|(rw [hy236];exact H)|exact H
          have Ny236:=Aside0.mk hy236
          clear hy236
          by_cases c15 : y233.length + y236.length < 17592186044416
          ·rw [if_pos c15] at H
           have LMc15:=Aside0.mk c15
           clear c15
           obtain ⟨y240,hy240⟩ : ∃ y_ : List Int,y_ = (y233 ++ y236):=⟨_,rfl⟩
           replace H : (some y240) = some r:=by first|(rw [hy240];with_reducible exact H)|(have H2_:=(Option.bind_some _ _).symm.trans H;rw [hy240];with_reducible exact H2_)|(have H2_:=(Option.bind_some _ _).symm.trans H;with_reducible exact H2_)|with_reducible exact H|(rw [hy240];exact H)|exact H
           have Ny240:=Aside0.mk hy240
           clear hy240
           obtain rfl:=Option.some.inj H
           obtain ⟨Ao16,co16,eo16⟩:=Kd.R_slice HO_0.out
           subst eo16
           have p221 : 0 ≤ (x5_1 : Int):=of_decide_eq_true az
           have q221 : x5_1 < (l0.length : Int):=of_decide_eq_true az
           obtain ⟨ad221,e221,hx221_0⟩:=Kd.at_int (Kd.R_reads' HO_0.out).2.2 x5_1 p221 q221
           cases e221
           replace p221:=eq_true p221
           replace q221:=eq_true q221
           have p222 : 0 ≤ (x5_1 : Int):=of_decide_eq_true az
           have q222 : x5_1 < (l0.length : Int):=of_decide_eq_true az
           obtain ⟨ad222,e222,hx222_0⟩:=Kd.at_int (Kd.R_reads' HO_0.out).2.2 x5_1 p222 q222
           obtain rfl : ad221 = ad222:=(by injection e222)
           replace p222:=eq_true p222
           replace q222:=eq_true q222
           go_wp2_with (first|((with_reducible refine gate_dst (N:=34) rfl ?_);refine Kd.R_lit (Kd.int .i64) _ 3 ?hg (N:=34) ?hd (xs:=([] : List Int)) (inner:=[]) (ok:=fun _=>True) (okp:=fun _=>True) ?hr ?hp (fun _ hk=>hk) trivial (Below.refl _ _) (Nat.le_refl _) (by simp) ?_;(case hd=>rfl);(case hg=>rfl);(case hr=>first|(go_simp;done)|(go_simp;rfl));(case hp=>exact (Reps.none _ _));intro v224 w17 ho18 hb hg_ hnew_;clear hg_ hnew_;(first|rw [← Ny223.out] at ho18|(simp only [Int.reduceToNat] at ho18;rw [← Ny223.out] at ho18));have n0_:=Aside0.mk (Kd.R_elder' (rz HO_0.out) (Kd.R_base ho18) hb);have n1_:=Aside0.mk (Kd.R_lower (Kd.R_new' (Kd.R_newM (M:=fun k_=>(P0_ k_ ∨ w.heap.size ≤ k_)) ho18 (by first|exact HK.out.1|exact (show Kept w _ (fun k_=>P0_ k_) from by repeat (first|(with_reducible first|exact HK.out|apply Kept.alloc|apply Kept.drewN|apply Kept.drew)|exact HK.out)).1) (fun k_ h_=>.inr h_)) (Kd.R_lt (rz HO_0.out))) (below_size bz));have n2_:=Aside0.mk (Kept.below (S:=(fun k_=>P0_ k_)) (by repeat (first|(with_reducible first|exact HK.out|apply Kept.alloc|apply Kept.drewN|apply Kept.drew)|exact HK.out)) hb);have n3_:=Aside0.mk (below_step bz hb);clear HO_0 HK HB;have HO_0:=n0_;have HO225:=n1_;have HK:=n2_;have HB:=n3_;clear n0_ n1_ n2_ n3_;clear hb ho18;have q19 : (x5_1 : Int) ≤ ((l0.length : Int) : Int):=of_decide_eq_true az;obtain ⟨i019,hi019,_,hsz19,_⟩:=info_parts info3;have hroom19 : l0.length ≤ co16:=(Kd.R_reads' HO_0.out).2.1;have hC19 : Kd.C (Kd.int .i64) _ (some ad221) l0.length l0:=(Kd.R_reads' HO_0.out).2.2;have hcut19:=cut_to (P:=Try.prog) 23 3 .i64 Try.underlying23 hi019 (some ad221) l0.length co16 x5_1 (of_decide_eq_true az) q19 hroom19;have hr19:=Kd.C_take (m:=(x5_1 : Int).toNat) hC19 (by omega);have hy19 : y226.length = (x5_1 : Int).toNat:=(by rw [Ny226.out,List.length_take];omega);rw [← Ny226.out] at hr19;rw [← hy19] at hcut19;have HR229:=Aside0.mk hr19;have HC229:=Aside0.mk (show y226.length ≤ co16 from by omega);clear hr19 hC19 hroom19 hi019 hsz19;have KY19:=Aside0.mk hy19;clear hy19;have KL19:=Aside0.mk (show (x5_1 : Int).toNat ≤ l0.length from by omega);replace q19:=eq_true q19)|((with_reducible refine gate_builtin (b:=.append) (xs:=#[.tmp 34,.tmp 37]) rfl ?_);at_builtin;refine Kd.R_append_rows (Kd.int .i64) (w0:=w0) w0.heap.size rfl (.tmp 34) (.tmp 37) 23 3 (.int .i64 0) 8 rfl Try.underlying23 info3 rfl (by decide) (by omega) v224 y223 y226 _ _ _ (fun k_=>(P0_ k_ ∨ w.heap.size ≤ k_) ∧ some k_ ≠ (.slice (some ad221) l0.length co16 : Value).ownBlock) (fun _=>False) rfl rfl ?aO ?aR (fun _ _ h=>h) (fun _ h=>h.elim) ?aF ?aB ?aS ?aL ?_;(case aR=>repeat (first|exact (by repeat (first|(with_reducible exact HR229.out)|(with_reducible refine Kd.C_alloc ?_ _)|(with_reducible refine Kd.C_drewN ?_ _)|(with_reducible refine Kd.C_drew ?_)|exact HR229.out))|(with_reducible refine Kd.C_alloc ?_ _)|(with_reducible refine Kd.C_drewN ?_ _)|(with_reducible refine Kd.C_drew ?_)));(case aB=>exact bz);(case aF=>exact (fun k_ hk=>⟨(.inr (Nat.le_trans (by first|exact HK.out.1|exact (show Kept w _ (fun k_=>P0_ k_) from by repeat (first|(with_reducible first|exact HK.out|apply Kept.alloc|apply Kept.drewN|apply Kept.drew)|exact HK.out)).1) hk)),Kd.fresh' (Kd.R_lt (rz HO_0.out)) k_ hk⟩));(case aO=>exact (by (with_reducible repeat (first|apply Kd.R_alloc|apply Kd.R_drewN|apply Kd.R_drew));exact Kd.R_mono HO225.out (fun _ hk=>⟨hk.1.1,hk.2⟩)));(case aS=>exact (below_size bz));(case aL=>have:=LMc11.out;omega);intro v231 w20 ho hb hg hat;rw [← Ny230.out] at ho;have n0_:=Aside0.mk (Kd.R_after (ok:=(fun k_=>(P0_ k_ ∨ w.heap.size ≤ k_))) (rz HO_0.out) hg hat);have n1_:=Aside0.mk (hb);have n2_:=Aside0.mk (Kept.of_grown (S:=(fun k_=>P0_ k_)) hg (by repeat (first|(with_reducible first|exact HK.out|apply Kept.alloc|apply Kept.drewN|apply Kept.drew)|exact HK.out)) (fun k_ e_=>(HO225.out.1 k_ e_).1.1));have n3_:=Aside0.mk ((show Kd.C (Kd.int .i64) w20 (some ad221) y226.length y226 from by rw [Ny226.out];exact Kd.C_take (m:=(x5_1 : Int).toNat) ((Kd.R_reads' (Kd.R_after (ok:=(fun k_=>(P0_ k_ ∨ w.heap.size ≤ k_))) (rz HO_0.out) hg hat)).2.2) KL19.out));have n4_:=Aside0.mk (ho);clear HO_0 HB HK HR229 HO225;have HO_0:=n0_;have HB:=n1_;have HK:=n2_;have HR229:=n3_;have HO232:=n4_;clear n0_ n1_ n2_ n3_ n4_;clear ho hb hg hat)|((with_reducible refine gate_builtin (b:=.append) (xs:=#[.tmp 39,.tmp 41]) rfl ?_);at_builtin;refine Kd.R_append (Kd.int .i64) (w0:=w0) w0.heap.size rfl (.tmp 39) (.tmp 41) 23 3 (.int .i64 0) 8 rfl Try.underlying23 info3 rfl (by decide) (by omega) v231 y230 a1 [.int .i64 a1] (fun k_=>(P0_ k_ ∨ w.heap.size ≤ k_) ∧ some k_ ≠ (.slice (some ad221) l0.length co16 : Value).ownBlock) (fun _=>False) rfl rfl ?aP (fun _ hk=>hk.elim) ?aF ?aO ?aB ?aS ?aL ?_;(case aP=>exact rfl);(case aB=>exact bz);(case aF=>exact (fun k_ hk=>⟨(.inr (Nat.le_trans (by first|exact HK.out.1|exact (show Kept w _ (fun k_=>P0_ k_) from by repeat (first|(with_reducible first|exact HK.out|apply Kept.alloc|apply Kept.drewN|apply Kept.drew)|exact HK.out)).1) hk)),Kd.fresh' (Kd.R_lt (rz HO_0.out)) k_ hk⟩));(case aO=>exact (rz HO232.out));(case aS=>exact (below_size bz));(case aL=>have:=LMc12.out;omega);intro v234 w21 ho hb hg hat;rw [← Ny233.out] at ho;have n0_:=Aside0.mk (Kd.R_after (ok:=(fun k_=>(P0_ k_ ∨ w.heap.size ≤ k_))) (rz HO_0.out) hg hat);have n1_:=Aside0.mk (hb);have n2_:=Aside0.mk (Kept.of_grown (S:=(fun k_=>P0_ k_)) hg (by repeat (first|(with_reducible first|exact HK.out|apply Kept.alloc|apply Kept.drewN|apply Kept.drew)|exact HK.out)) (fun k_ e_=>(HO232.out.1 k_ e_).1));have n3_:=Aside0.mk ((show Kd.C (Kd.int .i64) w21 (some ad221) y226.length y226 from by rw [Ny226.out];exact Kd.C_take (m:=(x5_1 : Int).toNat) ((Kd.R_reads' (Kd.R_after (ok:=(fun k_=>(P0_ k_ ∨ w.heap.size ≤ k_))) (rz HO_0.out) hg hat)).2.2) KL19.out));have n4_:=Aside0.mk (ho);clear HO_0 HB HK HR229 HO232;have HO_0:=n0_;have HB:=n1_;have HK:=n2_;have HR229:=n3_;have HO235:=n4_;clear n0_ n1_ n2_ n3_ n4_;clear ho hb hg hat;have q22 : (x5_1 : Int) ≤ ((l0.length : Int) : Int):=of_decide_eq_true az;obtain ⟨i022,hi022,_,hsz22,_⟩:=info_parts info3;have hroom22 : l0.length ≤ co16:=(Kd.R_reads' HO_0.out).2.1;have hC22 : Kd.C (Kd.int .i64) _ (some ad221) l0.length l0:=(Kd.R_reads' HO_0.out).2.2;have q022 : (0 : Int) ≤ (x5_1 : Int):=of_decide_eq_true az;have hcut22:=cut_from (P:=Try.prog) 23 3 .i64 Try.underlying23 hi022 1 hsz22 (some ad221) l0.length co16 x5_1 q022 q22;have hr22:=Kd.C_drop (m:=(x5_1 : Int).toNat) (c:=co16) hC22 (by omega) hroom22;obtain ⟨A22,hA22⟩ : ∃ A1,A1 = (if co16 = (x5_1 : Int).toNat then (some ad221) else ((some ad221) : Option Addr).map (·.add ((x5_1 : Int).toNat * 1))):=⟨_,rfl⟩;obtain ⟨c22,hc22⟩ : ∃ c1,c1 = co16 - (x5_1 : Int).toNat:=⟨_,rfl⟩;have hy22 : y236.length = l0.length - (x5_1 : Int).toNat:=(by rw [Ny236.out,List.length_drop] <;> omega);rw [show (l0).drop (x5_1 : Int).toNat = y236 from Ny236.out.symm] at hr22;replace hr22 : Kd.C (Kd.int .i64) _ A22 y236.length y236:=(by rw [hA22];exact hr22);rw [← hy22,← hA22,← hc22] at hcut22;have HR239:=Aside0.mk hr22;have HC239:=Aside0.mk (show y236.length ≤ c22 from by rw [hy22,hc22];exact Nat.sub_le_sub_right hroom22 _);clear hr22 hC22 hroom22 hi022 hsz22 hc22;have KY22:=Aside0.mk hy22;have KA22:=Aside0.mk hA22;clear hy22 hA22;have KL22:=Aside0.mk (show (x5_1 : Int).toNat ≤ l0.length from by omega);replace q22:=eq_true q22)|((with_reducible refine gate_builtin (b:=.append) (xs:=#[.tmp 43,.tmp 46]) rfl ?_);at_builtin;refine Kd.R_append_rows (Kd.int .i64) (w0:=w0) w0.heap.size rfl (.tmp 43) (.tmp 46) 23 3 (.int .i64 0) 8 rfl Try.underlying23 info3 rfl (by decide) (by omega) v234 y233 y236 _ _ _ (fun k_=>(P0_ k_ ∨ w.heap.size ≤ k_) ∧ some k_ ≠ (.slice (some ad221) l0.length co16 : Value).ownBlock) (fun _=>False) rfl rfl ?aO ?aR (fun _ _ h=>h) (fun _ h=>h.elim) ?aF ?aB ?aS ?aL ?_;(case aR=>repeat (first|exact (by repeat (first|(with_reducible exact HR239.out)|(with_reducible refine Kd.C_alloc ?_ _)|(with_reducible refine Kd.C_drewN ?_ _)|(with_reducible refine Kd.C_drew ?_)|exact HR239.out))|(with_reducible refine Kd.C_alloc ?_ _)|(with_reducible refine Kd.C_drewN ?_ _)|(with_reducible refine Kd.C_drew ?_)));(case aB=>exact bz);(case aF=>exact (fun k_ hk=>⟨(.inr (Nat.le_trans (by first|exact HK.out.1|exact (show Kept w _ (fun k_=>P0_ k_) from by repeat (first|(with_reducible first|exact HK.out|apply Kept.alloc|apply Kept.drewN|apply Kept.drew)|exact HK.out)).1) hk)),Kd.fresh' (Kd.R_lt (rz HO_0.out)) k_ hk⟩));(case aO=>exact (rz HO235.out));(case aS=>exact (below_size bz));(case aL=>have:=LMc15.out;omega);intro v241 w23 ho hb hg hat;rw [← Ny240.out] at ho;have n0_:=Aside0.mk (Kd.R_after (ok:=(fun k_=>(P0_ k_ ∨ w.heap.size ≤ k_))) (rz HO_0.out) hg hat);have n1_:=Aside0.mk (hb);have n2_:=Aside0.mk (Kept.of_grown (S:=(fun k_=>P0_ k_)) hg (by repeat (first|(with_reducible first|exact HK.out|apply Kept.alloc|apply Kept.drewN|apply Kept.drew)|exact HK.out)) (fun k_ e_=>(HO235.out.1 k_ e_).1));have n3_:=Aside0.mk ((show Kd.C (Kd.int .i64) w23 (some ad221) y226.length y226 from by rw [Ny226.out];exact Kd.C_take (m:=(x5_1 : Int).toNat) ((Kd.R_reads' (Kd.R_after (ok:=(fun k_=>(P0_ k_ ∨ w.heap.size ≤ k_))) (rz HO_0.out) hg hat)).2.2) KL19.out));have n4_:=Aside0.mk ((show Kd.C (Kd.int .i64) w23 A22 y236.length y236 from by rw [Ny236.out,KA22.out];exact Kd.C_drop (m:=(x5_1 : Int).toNat) (c:=co16) ((Kd.R_reads' (Kd.R_after (ok:=(fun k_=>(P0_ k_ ∨ w.heap.size ≤ k_))) (rz HO_0.out) hg hat)).2.2) KL22.out ((Kd.R_reads' (Kd.R_after (ok:=(fun k_=>(P0_ k_ ∨ w.heap.size ≤ k_))) (rz HO_0.out) hg hat)).2.1)));have n5_:=Aside0.mk (ho);clear HO_0 HB HK HR229 HR239 HO235;have HO_0:=n0_;have HB:=n1_;have HK:=n2_;have HR229:=n3_;have HR239:=n4_;have HO242:=n5_;clear n0_ n1_ n2_ n3_ n4_ n5_;clear ho hb hg hat))
           go_ret
           exact ⟨_,by first|rfl|(simp [errW_none,errW_some] <;> rfl)|(simp [*,errW_none,errW_some] <;> rfl),by (with_reducible repeat (first|apply Kd.R_alloc|apply Kd.R_drewN|apply Kd.R_drew));exact Kd.R_mono HO242.out (fun _ hk=>hk.1),by repeat (first|(with_reducible first|exact HB.out|apply below_alloc|apply pw_below_drewN|apply below_drew1)|exact HB.out),by repeat (first|(with_reducible first|exact HK.out|apply Kept.alloc|apply Kept.drewN|apply Kept.drew)|exact HK.out)⟩
          ·rw [if_neg c15] at H
           exact absurd H (by simp)
         ·rw [if_neg c12] at H
          exact absurd H (by simp)
        ·rw [if_neg c11] at H
         exact absurd H (by simp)
       ·rw [if_neg c10] at H
        exact absurd H (by simp)
    ·rw [if_neg c4] at H
     exact absurd H (by simp)
   ·rw [if_neg c3] at H
    have c3b0 : decide (x5_1 < (l0.length : Int)) = false:=decide_eq_false c3
    clear c3
    obtain ⟨y243,hy243⟩ : ∃ y_ : List Int,y_ = (([] : List Int)):=⟨_,rfl⟩
    replace H : (if 0 ≤ x5_1 then (if x5_1 ≤ (l0.length : Int) then ((some (l0.take (x5_1 : Int).toNat : List Int)).bind fun y246=>(if y243.length + y246.length < 17592186044416 then ((some (y243 ++ y246 : List Int)).bind fun y250=>(if y250.length < 17592186044416 then ((some (y250 ++ [a1] : List Int)).bind fun y253=>((some (l0.drop (x5_1 : Int).toNat : List Int)).bind fun y256=>(if y253.length + y256.length < 17592186044416 then (some (y253 ++ y256)) else (none)))) else (none))) else (none))) else (none)) else (none)) = some r:=by first|(rw [hy243];with_reducible exact H)|(have H2_:=(Option.bind_some _ _).symm.trans H;rw [hy243];with_reducible exact H2_)|(have H2_:=(Option.bind_some _ _).symm.trans H;with_reducible exact H2_)|with_reducible exact H|(rw [hy243];exact H)|exact H
    have Ny243:=Aside0.mk hy243
    clear hy243
    by_cases c24 : 0 ≤ x5_1
    ·rw [if_pos c24] at H
     have c24b0:=eq_true c24
     have c24b1 : decide (0 ≤ x5_1) = true:=decide_eq_true c24
     clear c24
     by_cases c25 : x5_1 ≤ (l0.length : Int)
     ·rw [if_pos c25] at H
      have c25b0:=eq_true c25
      have c25b1 : decide (x5_1 ≤ (l0.length : Int)) = true:=decide_eq_true c25
      clear c25
      obtain ⟨y246,hy246⟩ : ∃ y_ : List Int,y_ = (l0.take (x5_1 : Int).toNat):=⟨_,rfl⟩
      replace H : (if y243.length + y246.length < 17592186044416 then ((some (y243 ++ y246 : List Int)).bind fun y250=>(if y250.length < 17592186044416 then ((some (y250 ++ [a1] : List Int)).bind fun y253=>((some (l0.drop (x5_1 : Int).toNat : List Int)).bind fun y256=>(if y253.length + y256.length < 17592186044416 then (some (y253 ++ y256)) else (none)))) else (none))) else (none)) = some r:=by first|(rw [hy246];with_reducible exact H)|(have H2_:=(Option.bind_some _ _).symm.trans H;rw [hy246];with_reducible exact H2_)|(have H2_:=(Option.bind_some _ _).symm.trans H;with_reducible exact H2_)|with_reducible exact H|(rw [hy246];exact H)|exact H
      have Ny246:=Aside0.mk hy246
      clear hy246
      by_cases c26 : y243.length + y246.length < 17592186044416
      ·rw [if_pos c26] at H
       have LMc26:=Aside0.mk c26
       clear c26
       obtain ⟨y250,hy250⟩ : ∃ y_ : List Int,y_ = (y243 ++ y246):=⟨_,rfl⟩
       replace H : (if y250.length < 17592186044416 then ((some (y250 ++ [a1] : List Int)).bind fun y253=>((some (l0.drop (x5_1 : Int).toNat : List Int)).bind fun y256=>(if y253.length + y256.length < 17592186044416 then (some (y253 ++ y256)) else (none)))) else (none)) = some r:=by first|(rw [hy250];with_reducible exact H)|(have H2_:=(Option.bind_some _ _).symm.trans H;rw [hy250];with_reducible exact H2_)|(have H2_:=(Option.bind_some _ _).symm.trans H;with_reducible exact H2_)|with_reducible exact H|(rw [hy250];exact H)|exact H
       have Ny250:=Aside0.mk hy250
       clear hy250
       by_cases c27 : y250.length < 17592186044416
       ·rw [if_pos c27] at H
        have LMc27:=Aside0.mk c27
        clear c27
        obtain ⟨y253,hy253⟩ : ∃ y_ : List Int,y_ = (y250 ++ [a1]):=⟨_,rfl⟩
        replace H : ((some (l0.drop (x5_1 : Int).toNat : List Int)).bind fun y256=>(if y253.length + y256.length < 17592186044416 then (some (y253 ++ y256)) else (none))) = some r:=by first|(rw [hy253];with_reducible exact H)|(have H2_:=(Option.bind_some _ _).symm.trans H;rw [hy253];with_reducible exact H2_)|(have H2_:=(Option.bind_some _ _).symm.trans H;with_reducible exact H2_)|with_reducible exact H|(rw [hy253];exact H)|exact H
        have Ny253:=Aside0.mk hy253
        clear hy253
        have c28b0:=eq_true (of_decide_eq_true az : 0 ≤ x5_1)
        have c29b0:=eq_true (of_decide_eq_true az : x5_1 ≤ (l0.length : Int))
        obtain ⟨y256,hy256⟩ : ∃ y_ : List Int,y_ = (l0.drop (x5_1 : Int).toNat):=⟨_,rfl⟩
        replace H : (if y253.length + y256.length < 17592186044416 then (some (y253 ++ y256)) else (none)) = some r:=by first|(rw [hy256];with_reducible exact H)|(have H2_:=(Option.bind_some _ _).symm.trans H;rw [hy256];with_reducible exact H2_)|(have H2_:=(Option.bind_some _ _).symm.trans H;with_reducible exact H2_)|with_reducible exact H|(rw [hy256];exact H)|exact H
        have Ny256:=Aside0.mk hy256
        clear hy256
        by_cases c30 : y253.length + y256.length < 17592186044416
        ·rw [if_pos c30] at H
         have LMc30:=Aside0.mk c30
         clear c30
         obtain ⟨y260,hy260⟩ : ∃ y_ : List Int,y_ = (y253 ++ y256):=⟨_,rfl⟩
         replace H : (some y260) = some r:=by first|(rw [hy260];with_reducible exact H)|(have H2_:=(Option.bind_some _ _).symm.trans H;rw [hy260];with_reducible exact H2_)|(have H2_:=(Option.bind_some _ _).symm.trans H;with_reducible exact H2_)|with_reducible exact H|(rw [hy260];exact H)|exact H
         have Ny260:=Aside0.mk hy260
         clear hy260
         obtain rfl:=Option.some.inj H
         obtain ⟨Ao31,co31,eo31⟩:=Kd.R_slice HO_0.out
         subst eo31
         go_wp2_with (first|((with_reducible refine gate_dst (N:=34) rfl ?_);refine Kd.R_lit (Kd.int .i64) _ 3 ?hg (N:=34) ?hd (xs:=([] : List Int)) (inner:=[]) (ok:=fun _=>True) (okp:=fun _=>True) ?hr ?hp (fun _ hk=>hk) trivial (Below.refl _ _) (Nat.le_refl _) (by simp) ?_;(case hd=>rfl);(case hg=>rfl);(case hr=>first|(go_simp;done)|(go_simp;rfl));(case hp=>exact (Reps.none _ _));intro v244 w32 ho33 hb hg_ hnew_;clear hg_ hnew_;(first|rw [← Ny243.out] at ho33|(simp only [Int.reduceToNat] at ho33;rw [← Ny243.out] at ho33));have n0_:=Aside0.mk (Kd.R_elder' (rz HO_0.out) (Kd.R_base ho33) hb);have n1_:=Aside0.mk (Kd.R_lower (Kd.R_new' (Kd.R_newM (M:=fun k_=>(P0_ k_ ∨ w.heap.size ≤ k_)) ho33 (by first|exact HK.out.1|exact (show Kept w _ (fun k_=>P0_ k_) from by repeat (first|(with_reducible first|exact HK.out|apply Kept.alloc|apply Kept.drewN|apply Kept.drew)|exact HK.out)).1) (fun k_ h_=>.inr h_)) (Kd.R_lt (rz HO_0.out))) (below_size bz));have n2_:=Aside0.mk (Kept.below (S:=(fun k_=>P0_ k_)) (by repeat (first|(with_reducible first|exact HK.out|apply Kept.alloc|apply Kept.drewN|apply Kept.drew)|exact HK.out)) hb);have n3_:=Aside0.mk (below_step bz hb);clear HO_0 HK HB;have HO_0:=n0_;have HO245:=n1_;have HK:=n2_;have HB:=n3_;clear n0_ n1_ n2_ n3_;clear hb ho33;have q34 : (x5_1 : Int) ≤ ((l0.length : Int) : Int):=of_decide_eq_true az;obtain ⟨i034,hi034,_,hsz34,_⟩:=info_parts info3;have hroom34 : l0.length ≤ co31:=(Kd.R_reads' HO_0.out).2.1;have hC34 : Kd.C (Kd.int .i64) _ Ao31 l0.length l0:=(Kd.R_reads' HO_0.out).2.2;have hcut34:=cut_to (P:=Try.prog) 23 3 .i64 Try.underlying23 hi034 Ao31 l0.length co31 x5_1 (of_decide_eq_true az) q34 hroom34;have hr34:=Kd.C_take (m:=(x5_1 : Int).toNat) hC34 (by omega);have hy34 : y246.length = (x5_1 : Int).toNat:=(by rw [Ny246.out,List.length_take];omega);rw [← Ny246.out] at hr34;rw [← hy34] at hcut34;have HR249:=Aside0.mk hr34;have HC249:=Aside0.mk (show y246.length ≤ co31 from by omega);clear hr34 hC34 hroom34 hi034 hsz34;have KY34:=Aside0.mk hy34;clear hy34;have KL34:=Aside0.mk (show (x5_1 : Int).toNat ≤ l0.length from by omega);replace q34:=eq_true q34)|((with_reducible refine gate_builtin (b:=.append) (xs:=#[.tmp 34,.tmp 37]) rfl ?_);at_builtin;refine Kd.R_append_rows (Kd.int .i64) (w0:=w0) w0.heap.size rfl (.tmp 34) (.tmp 37) 23 3 (.int .i64 0) 8 rfl Try.underlying23 info3 rfl (by decide) (by omega) v244 y243 y246 _ _ _ (fun k_=>(P0_ k_ ∨ w.heap.size ≤ k_) ∧ some k_ ≠ (.slice Ao31 l0.length co31 : Value).ownBlock) (fun _=>False) rfl rfl ?aO ?aR (fun _ _ h=>h) (fun _ h=>h.elim) ?aF ?aB ?aS ?aL ?_;(case aR=>repeat (first|exact (by repeat (first|(with_reducible exact HR249.out)|(with_reducible refine Kd.C_alloc ?_ _)|(with_reducible refine Kd.C_drewN ?_ _)|(with_reducible refine Kd.C_drew ?_)|exact HR249.out))|(with_reducible refine Kd.C_alloc ?_ _)|(with_reducible refine Kd.C_drewN ?_ _)|(with_reducible refine Kd.C_drew ?_)));(case aB=>exact bz);(case aF=>exact (fun k_ hk=>⟨(.inr (Nat.le_trans (by first|exact HK.out.1|exact (show Kept w _ (fun k_=>P0_ k_) from by repeat (first|(with_reducible first|exact HK.out|apply Kept.alloc|apply Kept.drewN|apply Kept.drew)|exact HK.out)).1) hk)),Kd.fresh' (Kd.R_lt (rz HO_0.out)) k_ hk⟩));(case aO=>exact (by (with_reducible repeat (first|apply Kd.R_alloc|apply Kd.R_drewN|apply Kd.R_drew));exact Kd.R_mono HO245.out (fun _ hk=>⟨hk.1.1,hk.2⟩)));(case aS=>exact (below_size bz));(case aL=>have:=LMc26.out;omega);intro v251 w35 ho hb hg hat;rw [← Ny250.out] at ho;have n0_:=Aside0.mk (Kd.R_after (ok:=(fun k_=>(P0_ k_ ∨ w.heap.size ≤ k_))) (rz HO_0.out) hg hat);have n1_:=Aside0.mk (hb);have n2_:=Aside0.mk (Kept.of_grown (S:=(fun k_=>P0_ k_)) hg (by repeat (first|(with_reducible first|exact HK.out|apply Kept.alloc|apply Kept.drewN|apply Kept.drew)|exact HK.out)) (fun k_ e_=>(HO245.out.1 k_ e_).1.1));have n3_:=Aside0.mk ((show Kd.C (Kd.int .i64) w35 Ao31 y246.length y246 from by rw [Ny246.out];exact Kd.C_take (m:=(x5_1 : Int).toNat) ((Kd.R_reads' (Kd.R_after (ok:=(fun k_=>(P0_ k_ ∨ w.heap.size ≤ k_))) (rz HO_0.out) hg hat)).2.2) KL34.out));have n4_:=Aside0.mk (ho);clear HO_0 HB HK HR249 HO245;have HO_0:=n0_;have HB:=n1_;have HK:=n2_;have HR249:=n3_;have HO252:=n4_;clear n0_ n1_ n2_ n3_ n4_;clear ho hb hg hat)|((with_reducible refine gate_builtin (b:=.append) (xs:=#[.tmp 39,.tmp 41]) rfl ?_);at_builtin;refine Kd.R_append (Kd.int .i64) (w0:=w0) w0.heap.size rfl (.tmp 39) (.tmp 41) 23 3 (.int .i64 0) 8 rfl Try.underlying23 info3 rfl (by decide) (by omega) v251 y250 a1 [.int .i64 a1] (fun k_=>(P0_ k_ ∨ w.heap.size ≤ k_) ∧ some k_ ≠ (.slice Ao31 l0.length co31 : Value).ownBlock) (fun _=>False) rfl rfl ?aP (fun _ hk=>hk.elim) ?aF ?aO ?aB ?aS ?aL ?_;(case aP=>exact rfl);(case aB=>exact bz);(case aF=>exact (fun k_ hk=>⟨(.inr (Nat.le_trans (by first|exact HK.out.1|exact (show Kept w _ (fun k_=>P0_ k_) from by repeat (first|(with_reducible first|exact HK.out|apply Kept.alloc|apply Kept.drewN|apply Kept.drew)|exact HK.out)).1) hk)),Kd.fresh' (Kd.R_lt (rz HO_0.out)) k_ hk⟩));(case aO=>exact (rz HO252.out));(case aS=>exact (below_size bz));(case aL=>have:=LMc27.out;omega);intro v254 w36 ho hb hg hat;rw [← Ny253.out] at ho;have n0_:=Aside0.mk (Kd.R_after (ok:=(fun k_=>(P0_ k_ ∨ w.heap.size ≤ k_))) (rz HO_0.out) hg hat);have n1_:=Aside0.mk (hb);have n2_:=Aside0.mk (Kept.of_grown (S:=(fun k_=>P0_ k_)) hg (by repeat (first|(with_reducible first|exact HK.out|apply Kept.alloc|apply Kept.drewN|apply Kept.drew)|exact HK.out)) (fun k_ e_=>(HO252.out.1 k_ e_).1));have n3_:=Aside0.mk ((show Kd.C (Kd.int .i64) w36 Ao31 y246.length y246 from by rw [Ny246.out];exact Kd.C_take (m:=(x5_1 : Int).toNat) ((Kd.R_reads' (Kd.R_after (ok:=(fun k_=>(P0_ k_ ∨ w.heap.size ≤ k_))) (rz HO_0.out) hg hat)).2.2) KL34.out));have n4_:=Aside0.mk (ho);clear HO_0 HB HK HR249 HO252;have HO_0:=n0_;have HB:=n1_;have HK:=n2_;have HR249:=n3_;have HO255:=n4_;clear n0_ n1_ n2_ n3_ n4_;clear ho hb hg hat;have q37 : (x5_1 : Int) ≤ ((l0.length : Int) : Int):=of_decide_eq_true az;obtain ⟨i037,hi037,_,hsz37,_⟩:=info_parts info3;have hroom37 : l0.length ≤ co31:=(Kd.R_reads' HO_0.out).2.1;have hC37 : Kd.C (Kd.int .i64) _ Ao31 l0.length l0:=(Kd.R_reads' HO_0.out).2.2;have q037 : (0 : Int) ≤ (x5_1 : Int):=of_decide_eq_true az;have hcut37:=cut_from (P:=Try.prog) 23 3 .i64 Try.underlying23 hi037 1 hsz37 Ao31 l0.length co31 x5_1 q037 q37;have hr37:=Kd.C_drop (m:=(x5_1 : Int).toNat) (c:=co31) hC37 (by omega) hroom37;obtain ⟨A37,hA37⟩ : ∃ A1,A1 = (if co31 = (x5_1 : Int).toNat then Ao31 else (Ao31 : Option Addr).map (·.add ((x5_1 : Int).toNat * 1))):=⟨_,rfl⟩;obtain ⟨c37,hc37⟩ : ∃ c1,c1 = co31 - (x5_1 : Int).toNat:=⟨_,rfl⟩;have hy37 : y256.length = l0.length - (x5_1 : Int).toNat:=(by rw [Ny256.out,List.length_drop] <;> omega);rw [show (l0).drop (x5_1 : Int).toNat = y256 from Ny256.out.symm] at hr37;replace hr37 : Kd.C (Kd.int .i64) _ A37 y256.length y256:=(by rw [hA37];exact hr37);rw [← hy37,← hA37,← hc37] at hcut37;have HR259:=Aside0.mk hr37;have HC259:=Aside0.mk (show y256.length ≤ c37 from by rw [hy37,hc37];exact Nat.sub_le_sub_right hroom37 _);clear hr37 hC37 hroom37 hi037 hsz37 hc37;have KY37:=Aside0.mk hy37;have KA37:=Aside0.mk hA37;clear hy37 hA37;have KL37:=Aside0.mk (show (x5_1 : Int).toNat ≤ l0.length from by omega);replace q37:=eq_true q37)|((with_reducible refine gate_builtin (b:=.append) (xs:=#[.tmp 43,.tmp 46]) rfl ?_);at_builtin;refine Kd.R_append_rows (Kd.int .i64) (w0:=w0) w0.heap.size rfl (.tmp 43) (.tmp 46) 23 3 (.int .i64 0) 8 rfl Try.underlying23 info3 rfl (by decide) (by omega) v254 y253 y256 _ _ _ (fun k_=>(P0_ k_ ∨ w.heap.size ≤ k_) ∧ some k_ ≠ (.slice Ao31 l0.length co31 : Value).ownBlock) (fun _=>False) rfl rfl ?aO ?aR (fun _ _ h=>h) (fun _ h=>h.elim) ?aF ?aB ?aS ?aL ?_;(case aR=>repeat (first|exact (by repeat (first|(with_reducible exact HR259.out)|(with_reducible refine Kd.C_alloc ?_ _)|(with_reducible refine Kd.C_drewN ?_ _)|(with_reducible refine Kd.C_drew ?_)|exact HR259.out))|(with_reducible refine Kd.C_alloc ?_ _)|(with_reducible refine Kd.C_drewN ?_ _)|(with_reducible refine Kd.C_drew ?_)));(case aB=>exact bz);(case aF=>exact (fun k_ hk=>⟨(.inr (Nat.le_trans (by first|exact HK.out.1|exact (show Kept w _ (fun k_=>P0_ k_) from by repeat (first|(with_reducible first|exact HK.out|apply Kept.alloc|apply Kept.drewN|apply Kept.drew)|exact HK.out)).1) hk)),Kd.fresh' (Kd.R_lt (rz HO_0.out)) k_ hk⟩));(case aO=>exact (rz HO255.out));(case aS=>exact (below_size bz));(case aL=>have:=LMc30.out;omega);intro v261 w38 ho hb hg hat;rw [← Ny260.out] at ho;have n0_:=Aside0.mk (Kd.R_after (ok:=(fun k_=>(P0_ k_ ∨ w.heap.size ≤ k_))) (rz HO_0.out) hg hat);have n1_:=Aside0.mk (hb);have n2_:=Aside0.mk (Kept.of_grown (S:=(fun k_=>P0_ k_)) hg (by repeat (first|(with_reducible first|exact HK.out|apply Kept.alloc|apply Kept.drewN|apply Kept.drew)|exact HK.out)) (fun k_ e_=>(HO255.out.1 k_ e_).1));have n3_:=Aside0.mk ((show Kd.C (Kd.int .i64) w38 Ao31 y246.length y246 from by rw [Ny246.out];exact Kd.C_take (m:=(x5_1 : Int).toNat) ((Kd.R_reads' (Kd.R_after (ok:=(fun k_=>(P0_ k_ ∨ w.heap.size ≤ k_))) (rz HO_0.out) hg hat)).2.2) KL34.out));have n4_:=Aside0.mk ((show Kd.C (Kd.int .i64) w38 A37 y256.length y256 from by rw [Ny256.out,KA37.out];exact Kd.C_drop (m:=(x5_1 : Int).toNat) (c:=co31) ((Kd.R_reads' (Kd.R_after (ok:=(fun k_=>(P0_ k_ ∨ w.heap.size ≤ k_))) (rz HO_0.out) hg hat)).2.2) KL37.out ((Kd.R_reads' (Kd.R_after (ok:=(fun k_=>(P0_ k_ ∨ w.heap.size ≤ k_))) (rz HO_0.out) hg hat)).2.1)));have n5_:=Aside0.mk (ho);clear HO_0 HB HK HR249 HR259 HO255;have HO_0:=n0_;have HB:=n1_;have HK:=n2_;have HR249:=n3_;have HR259:=n4_;have HO262:=n5_;clear n0_ n1_ n2_ n3_ n4_ n5_;clear ho hb hg hat))
         go_ret
         exact ⟨_,by first|rfl|(simp [errW_none,errW_some] <;> rfl)|(simp [*,errW_none,errW_some] <;> rfl),by (with_reducible repeat (first|apply Kd.R_alloc|apply Kd.R_drewN|apply Kd.R_drew));exact Kd.R_mono HO262.out (fun _ hk=>hk.1),by repeat (first|(with_reducible first|exact HB.out|apply below_alloc|apply pw_below_drewN|apply below_drew1)|exact HB.out),by repeat (first|(with_reducible first|exact HK.out|apply Kept.alloc|apply Kept.drewN|apply Kept.drew)|exact HK.out)⟩
        ·rw [if_neg c30] at H
         exact absurd H (by simp)
       ·rw [if_neg c27] at H
        exact absurd H (by simp)
      ·rw [if_neg c26] at H
       exact absurd H (by simp)
     ·rw [if_neg c25] at H
      exact absurd H (by simp)
    ·rw [if_neg c24] at H
     exact absurd H (by simp)
/-! ### spec_plUsed: function 57 -/
def spec_plUsed.l0 : Nat → List Int → List Int → Int → Int → List (S73) → List Int → Option (List Int)
 | 0,_,_,_,_,_,_=>none
 | k + 1,x3,x4,x5,x264000,x264001,x264002=>if x5 ≥ 0 then ((spec_l1Has.f k x3 (wrap64 (x264000 + x5))).bind fun t267=>(if t267 = true then (if 0 ≤ x5 then (if x5 < (x264001.length : Int) then ((some (([(rd_T73 x264001 x5).f0,(rd_T73 x264001 x5).f1] : List Int) : List Int)).bind fun y270=>(if x3.length + y270.length < 17592186044416 then ((spec_l1Put.f k x4 x5).bind fun t276=>(spec_plUsed.l0 k (x3 ++ y270) t276 (wrap64 (x5 - 1)) x264000 x264001 x264002)) else (none))) else (none)) else (none)) else (spec_plUsed.l0 k x3 x4 (wrap64 (x5 - 1)) x264000 x264001 x264002))) else (some x4)
def spec_plUsed.f (k : Nat) (a0_0 : Int) (l0_1 : List (S73)) (l0_2 : List Int) : Option (List Int):=(spec_l1Own.f l0_2).bind fun t264=>(spec_plUsed.l0 k t264 ([] : List Int) (wrap64 ((l0_1.length : Int) - 1)) a0_0 l0_1 l0_2)
theorem spec_plUsed.mono_l : ∀ k,(∀ y0 y1 y2 y3 y4 y5,LeO (spec_plUsed.l0 k y0 y1 y2 y3 y4 y5) (spec_plUsed.l0 (k + 1) y0 y1 y2 y3 y4 y5))
 | 0=>fun _ _ _ _ _ _ r h=>by simp [spec_plUsed.l0] at h
 | k + 1=>by
  have ih0:=spec_plUsed.mono_l k
  ·intro y0 y1 y2 y3 y4 y5
   unfold spec_plUsed.l0
   repeat' first
   | (with_reducible exact ih0 _ _ _ _ _ _)
   | (with_reducible exact spec_l1Has.mono _ _ _)
   | (with_reducible exact spec_l1Put.mono _ _ _)
   | (with_reducible exact LeO.refl _)
   | (with_reducible exact LeO.none _)
   | (with_reducible refine LeO.ite ?_ ?_)
   | (with_reducible refine LeO.bind ?_ (fun _=>?_))
   | exact ih0 _ _ _ _ _ _
   | exact spec_l1Has.mono _ _ _
   | exact spec_l1Put.mono _ _ _
   | exact LeO.none _
   | refine LeO.ite ?_ ?_
   | refine LeO.bind ?_ (fun _=>?_)
theorem spec_plUsed.mono : ∀ a0 a1 a2 k,LeO (spec_plUsed.f k a0 a1 a2) (spec_plUsed.f (k + 1) a0 a1 a2):=by
 intro a0 a1 a2 k
 have ih0:=spec_plUsed.mono_l k
 unfold spec_plUsed.f
 repeat' first
   | (with_reducible exact ih0 _ _ _ _ _ _)
   | (with_reducible exact spec_l1Has.mono _ _ _)
   | (with_reducible exact spec_l1Put.mono _ _ _)
   | (with_reducible exact LeO.refl _)
   | (with_reducible exact LeO.none _)
   | (with_reducible refine LeO.ite ?_ ?_)
   | (with_reducible refine LeO.bind ?_ (fun _=>?_))
   | exact ih0 _ _ _ _ _ _
   | exact spec_l1Has.mono _ _ _
   | exact spec_l1Put.mono _ _ _
   | exact LeO.none _
   | refine LeO.ite ?_ ?_
   | refine LeO.bind ?_ (fun _=>?_)
def spec_plUsed.T7 : Bool × List (List Nat × List Nat):=(true,[([],[]),([],[]),([1],[1]),([],[]),([2,3],[2,3]),([4],[4]),([5],[5]),([],[]),([7],[7]),([],[]),([8,9],[8,9]),([10],[10]),([11],[11]),([6,12],[6,12]),([0,13],[0,13]),([14,14,0,1,2,3,4,5,6,7,8,9,10,11,12,13,14],[0,14])])
def spec_plUsed.B7 : List Nat:=[0,0,2,0,14,30,62,0,128,0,896,1920,3968,8190,16383,32767]
theorem spec_plUsed.tab7 : rtab .any (opsOf Try.f57 7) = spec_plUsed.T7:=by kernel_rfl
theorem spec_plUsed.bits7 : waitsOk spec_plUsed.T7.2 spec_plUsed.B7 = true:=by kernel_rfl
set_option maxHeartbeats 8000000 in
set_option maxRecDepth 100000 in
theorem spec_plUsed.calls (k : Nat) (a0_0 : Int) (A0_1 : Option Addr) (c0_1 : Nat) (l0_1 : List (S73)) (A0_2 : Option Addr) (c0_2 : Nat) (l0_2 : List Int) (r : List Int) (w : World) (hr0_1 : Kd.C k73 w A0_1 l0_1.length l0_1) (hc0_1 : l0_1.length ≤ c0_1) (hr0_2 : Kd.C (Kd.int .i64) w A0_2 l0_2.length l0_2) (hc0_2 : l0_2.length ≤ c0_2) (h : spec_plUsed.f k a0_0 l0_1 l0_2 = some r) :
  Calls Try.prog 57 #[.agg #[.int .i64 a0_0,.slice A0_1 l0_1.length c0_1,.slice A0_2 l0_2.length c0_2]] w fun e w'=>∃ v0_ : Value,e = .returned (v0_) ∧ Kd.R (Kd.int .i64) 3 w' w.heap.size (fun _=>True) v0_ r ∧ Below w.heap.size w w':=by
 have hu29:=Try.underlying29
 have HR0_1:=Aside0.mk hr0_1
 have HC0_1:=Aside0.mk hc0_1
 clear hr0_1 hc0_1
 have HR0_2:=Aside0.mk hr0_2
 have HC0_2:=Aside0.mk hc0_2
 clear hr0_2 hc0_2
 have HB:=Aside0.mk (Below.refl w.heap.size w)
 have H : ((spec_l1Own.f l0_2).bind fun t264=>(spec_plUsed.l0 k t264 ([] : List Int) (wrap64 ((l0_1.length : Int) - 1)) a0_0 l0_1 l0_2)) = some r:=h
 clear h
 replace H:=Option.bind_eq_some_iff.mp H
 obtain ⟨t264,A20,H⟩:=H
 replace H : (spec_plUsed.l0 k t264 ([] : List Int) (wrap64 ((l0_1.length : Int) - 1)) a0_0 l0_1 l0_2) = some r:=H
 have A2:=Aside0.mk A20
 clear A20
 have H':=Aside0.mk H
 clear H
 go_enter Try.func57,Try.ntmps57
 go_wp2_with (first|((with_reducible refine gate_dst (N:=1) rfl ?_);refine box_event ?hg (N:=1) ?hd (cs:=#[.int .i64 a0_0,.slice A0_1 l0_1.length c0_1,.slice A0_2 l0_2.length c0_2]) (t:=29) ?hr ?_;(case hd=>rfl);(case hg=>rfl);(case hr=>first|(go_simp;done)|(go_simp;rfl));intro gb263 hg w3 hbox hb;have n0_:=Aside0.mk (below_step bz hb);have n1_:=Aside0.mk (hbox);have n2_:=Aside0.mk ((by rw [hg];exact (below_size bz) : w.heap.size ≤ gb263));have n3_:=Aside0.mk ((by rw [hg];exact (below_size bz) : w.heap.size ≤ gb263));clear HB;have HB:=n0_;have BK263:=n1_;have GW263:=n2_;have GE263:=n3_;clear n0_ n1_ n2_ n3_;clear hb hbox hg;have hcz4_0 : w3.cell? ⟨gb263,0,none⟩ = some (.int .i64 a0_0):=(blk_cell BK263.out 0).trans rfl;have hcz4_1 : w3.cell? ⟨gb263,1,none⟩ = some (.slice A0_1 l0_1.length c0_1):=(blk_cell BK263.out 1).trans rfl;have hcz4_2 : w3.cell? ⟨gb263,2,none⟩ = some (.slice A0_2 l0_2.length c0_2):=(blk_cell BK263.out 2).trans rfl;have hfz4_0:=blk_frozen BK263.out 0;have hfz4_1:=blk_frozen BK263.out 1;have hfz4_2:=blk_frozen BK263.out 2)|((with_reducible refine gate_callee (f:=42) rfl ?_);refine goesL_ (some 8) rfl rfl Try.func42 (by kernel_rfl) rfl #[.slice A0_2 l0_2.length c0_2] rfl mz ?_;(with_reducible refine (spec_l1Own.calls _ _ l0_2 t264 _ ?side1 ?side2 A2.out).mono ?_);(case side1=>exact cz (Kd.C_below HR0_2.out HB.out));(case side2=>exact HC0_2.out);rintro e w5 ⟨v265,rfl,ho0,hb⟩;refine ⟨_,rfl,?_⟩;have n0_:=Aside0.mk (Kd.R_lower ho0 (below_size bs));have n1_:=Aside0.mk (blk_below (g:=gb263) (o:=.cells #[.int .i64 a0_0,.slice A0_1 l0_1.length c0_1,.slice A0_2 l0_2.length c0_2] 29 (0,0)) (kz BK263.out) hb);have n2_:=Aside0.mk (below_step bs hb);clear BK263 HB;have HO266:=n0_;have BK263:=n1_;have HB:=n2_;clear n0_ n1_ n2_;(try clear hb);(try clear ho0);have hcz6_0 : w5.cell? ⟨gb263,0,none⟩ = some (.int .i64 a0_0):=(blk_cell BK263.out 0).trans rfl;have hcz6_1 : w5.cell? ⟨gb263,1,none⟩ = some (.slice A0_1 l0_1.length c0_1):=(blk_cell BK263.out 1).trans rfl;have hcz6_2 : w5.cell? ⟨gb263,2,none⟩ = some (.slice A0_2 l0_2.length c0_2):=(blk_cell BK263.out 2).trans rfl;have hfz6_0:=blk_frozen BK263.out 0;have hfz6_1:=blk_frozen BK263.out 1;have hfz6_2:=blk_frozen BK263.out 2))
 go_loopg [3,4,5] k (fun kq v3 v4 v5 w'=>∃ (x3_1 : List Int) (x4_1 : List Int) (x5_1 : Int),v5 = .int .i64 x5_1 ∧ Aside0 (spec_plUsed.l0 kq x3_1 x4_1 x5_1 a0_0 l0_1 l0_2 = some r) ∧ Aside0 (kq ≤ k) ∧ Aside0 (Kd.R (Kd.int .i64) 3 w' w.heap.size (fun k_=>some k_ ≠ (v4 : Value).ownBlock) v3 x3_1) ∧ Aside0 (Kd.R (Kd.int .i64) 3 w' w.heap.size (fun k_=>some k_ ≠ (v3 : Value).ownBlock) v4 x4_1) ∧ Aside0 (w'.heap[gb263]? = some (.cells #[.int .i64 a0_0,(.slice A0_1 l0_1.length c0_1),(.slice A0_2 l0_2.length c0_2)] 29 (0,0))) ∧ Aside0 (Below w.heap.size w w'))
 case atStart=>exact ⟨(t264),(([] : List Int)),(wrap64 ((l0_1.length : Int) - 1)),fz,H',⟨Nat.le_refl _⟩,⟨by (with_reducible repeat (first|apply Kd.R_alloc|apply Kd.R_drewN|apply Kd.R_drew));exact Kd.R_mono HO266.out (fun _ hk=>(by simp [Value.ownBlock]))⟩,⟨by first|exact Kd.R_nil _ _ _ _ _|exact Kd.N_nil _ _ _ _ _|exact Kd.V_nil _ _ _ _ _|exact Kd.Q_nil _ _ _ _ _|exact Kd.S_nil _ _ _ _ _⟩,⟨by (with_reducible repeat (first|refine blk_drewN ?_ _|refine blk_drew ?_|refine blk_alloc ?_ _));exact BK263.out⟩,⟨by repeat (first|(with_reducible first|exact HB.out|apply below_alloc|apply pw_below_drewN|apply below_drew1|refine below_set ?_ GE263.out)|exact HB.out)⟩⟩
 case round=>
  clear H'
  try clear p2
  try clear c4
  try clear c5
  try clear p6
  try clear hcz4_0
  try clear hcz4_1
  try clear hcz4_2
  try clear hcz6_0
  try clear hcz6_1
  try clear hcz6_2
  try clear hfz4_0
  try clear hfz4_1
  try clear hfz4_2
  try clear hfz6_0
  try clear hfz6_1
  try clear hfz6_2
  obtain ⟨x3_1,x4_1,x5_1,rfl,HA,HK1,HO_3,HO_4,BK263,HB⟩:=hrel
  cases gk with
  | zero=>exact absurd HA.out (by simp [spec_plUsed.l0])
  | succ k1=>
   have H:=HA.out
   clear HA
   simp only [spec_plUsed.l0] at H
   by_cases c7 : x5_1 ≥ 0
   ·rw [if_pos c7] at H
    have c7b0 : decide (0 ≤ x5_1) = true:=decide_eq_true c7
    clear c7
    replace H:=Option.bind_eq_some_iff.mp H
    obtain ⟨t267,A80,H⟩:=H
    replace H : (if t267 = true then (if 0 ≤ x5_1 then (if x5_1 < (l0_1.length : Int) then ((some (([(rd_T73 l0_1 x5_1).f0,(rd_T73 l0_1 x5_1).f1] : List Int) : List Int)).bind fun y270=>(if x3_1.length + y270.length < 17592186044416 then ((spec_l1Put.f k1 x4_1 x5_1).bind fun t276=>(spec_plUsed.l0 k1 (x3_1 ++ y270) t276 (wrap64 (x5_1 - 1)) a0_0 l0_1 l0_2)) else (none))) else (none)) else (none)) else (spec_plUsed.l0 k1 x3_1 x4_1 (wrap64 (x5_1 - 1)) a0_0 l0_1 l0_2)) = some r:=H
    have A8:=Aside0.mk A80
    clear A80
    by_cases c9 : t267 = true
    ·subst c9
     have H1 : (if 0 ≤ x5_1 then (if x5_1 < (l0_1.length : Int) then ((some (([(rd_T73 l0_1 x5_1).f0,(rd_T73 l0_1 x5_1).f1] : List Int) : List Int)).bind fun y270=>(if x3_1.length + y270.length < 17592186044416 then ((spec_l1Put.f k1 x4_1 x5_1).bind fun t276=>(spec_plUsed.l0 k1 (x3_1 ++ y270) t276 (wrap64 (x5_1 - 1)) a0_0 l0_1 l0_2)) else (none))) else (none)) else (none)) = some r:=by rw [if_pos rfl] at H;exact H
     clear H
     have H:=H1
     clear H1
     by_cases c10 : 0 ≤ x5_1
     ·rw [if_pos c10] at H
      have c10b0 : decide (0 ≤ x5_1) = true:=decide_eq_true c10
      clear c10
      by_cases c11 : x5_1 < (l0_1.length : Int)
      ·rw [if_pos c11] at H
       have c11b0 : decide (x5_1 < (l0_1.length : Int)) = true:=decide_eq_true c11
       clear c11
       obtain ⟨y270,hy270⟩ : ∃ y_ : List Int,y_ = (([(rd_T73 l0_1 x5_1).f0,(rd_T73 l0_1 x5_1).f1] : List Int)):=⟨_,rfl⟩
       replace H : (if x3_1.length + y270.length < 17592186044416 then ((spec_l1Put.f k1 x4_1 x5_1).bind fun t276=>(spec_plUsed.l0 k1 (x3_1 ++ y270) t276 (wrap64 (x5_1 - 1)) a0_0 l0_1 l0_2)) else (none)) = some r:=by first|(rw [hy270];with_reducible exact H)|(have H2_:=(Option.bind_some _ _).symm.trans H;rw [hy270];with_reducible exact H2_)|(have H2_:=(Option.bind_some _ _).symm.trans H;with_reducible exact H2_)|with_reducible exact H|(rw [hy270];exact H)|exact H
       have Ny270:=Aside0.mk hy270
       clear hy270
       by_cases c12 : x3_1.length + y270.length < 17592186044416
       ·rw [if_pos c12] at H
        have LMc12:=Aside0.mk c12
        clear c12
        obtain ⟨y273,hy273⟩ : ∃ y_ : List Int,y_ = (x3_1 ++ y270):=⟨_,rfl⟩
        replace H : ((spec_l1Put.f k1 x4_1 x5_1).bind fun t276=>(spec_plUsed.l0 k1 y273 t276 (wrap64 (x5_1 - 1)) a0_0 l0_1 l0_2)) = some r:=by first|(rw [hy273];with_reducible exact H)|(have H2_:=(Option.bind_some _ _).symm.trans H;rw [hy273];with_reducible exact H2_)|(have H2_:=(Option.bind_some _ _).symm.trans H;with_reducible exact H2_)|with_reducible exact H|(rw [hy273];exact H)|exact H
        have Ny273:=Aside0.mk hy273
        clear hy273
        replace H:=Option.bind_eq_some_iff.mp H
        obtain ⟨t276,A130,H⟩:=H
        replace H : (spec_plUsed.l0 k1 y273 t276 (wrap64 (x5_1 - 1)) a0_0 l0_1 l0_2) = some r:=H
        have A13:=Aside0.mk A130
        clear A130
        have H':=Aside0.mk H
        clear H
        have hcz14_0 : wr.cell? ⟨gb263,0,none⟩ = some (.int .i64 a0_0):=(blk_cell BK263.out 0).trans rfl
        have hcz14_1 : wr.cell? ⟨gb263,1,none⟩ = some (.slice A0_1 l0_1.length c0_1):=(blk_cell BK263.out 1).trans rfl
        have hcz14_2 : wr.cell? ⟨gb263,2,none⟩ = some (.slice A0_2 l0_2.length c0_2):=(blk_cell BK263.out 2).trans rfl
        have hfz14_0:=blk_frozen BK263.out 0
        have hfz14_1:=blk_frozen BK263.out 1
        have hfz14_2:=blk_frozen BK263.out 2
        obtain ⟨Ao15,co15,eo15⟩:=Kd.R_slice HO_3.out
        subst eo15
        try go_wp2_with (first|((with_reducible refine gate_callee (f:=98) rfl ?_);refine goesL_ (some 22) rfl rfl Try.func98 (by kernel_rfl) rfl #[.slice Ao15 x3_1.length co15,.int .i64 (wrap64 (a0_0 + x5_1))] rfl mz ?_;(with_reducible refine (spec_l1Has.calls k1 _ _ x3_1 (wrap64 (a0_0 + x5_1)) true _ ?side1 ?side2 A8.out).mono ?_);(case side1=>exact cz (Kd.R_reads' HO_3.out).2.2);(case side2=>exact (Kd.R_reads' HO_3.out).2.1);rintro e w' ⟨rfl,⟨nd,rfl⟩⟩;refine ⟨_,rfl,?_⟩))
        (try (rw [drewN_self wr];generalize hq_ : World.drewN wr _ = wr;have n0_ : Aside0 (Kd.R (Kd.int .i64) 3 wr w.heap.size (fun k_=>some k_ ≠ (u4 : Value).ownBlock) (.slice Ao15 x3_1.length co15) x3_1):=⟨by rw [← hq_];exact (rz HO_3.out)⟩;have n1_ : Aside0 (Kd.R (Kd.int .i64) 3 wr w.heap.size (fun k_=>some k_ ≠ (.slice Ao15 x3_1.length co15 : Value).ownBlock) u4 x4_1):=⟨by rw [← hq_];exact (rz HO_4.out)⟩;have n2_ : Aside0 (wr.heap[gb263]? = some (.cells #[.int .i64 a0_0,.slice A0_1 l0_1.length c0_1,.slice A0_2 l0_2.length c0_2] 29 (0,0))):=⟨by rw [← hq_];exact (kz BK263.out)⟩;have n3_ : Aside0 (Below w.heap.size w wr):=⟨by rw [← hq_];exact bs⟩;clear HO_3 HO_4 BK263 HB hq_;have HO_3:=n0_;have HO_4:=n1_;have BK263:=n2_;have HB:=n3_;clear n0_ n1_ n2_ n3_))
        have n0_:=Aside0.mk (Kd.R_drew HO_3.out)
        have n1_:=Aside0.mk (Kd.R_drew HO_4.out)
        have n2_:=Aside0.mk (blk_drew BK263.out)
        have n3_:=Aside0.mk (below_drew1 HB.out)
        clear HO_3
        clear HO_4
        clear BK263
        clear HB
        have HO_3:=n0_
        have HO_4:=n1_
        have BK263:=n2_
        have HB:=n3_
        clear n0_ n1_ n2_ n3_
        have p268 : 0 ≤ (x5_1 : Int):=of_decide_eq_true az
        have q268 : x5_1 < (l0_1.length : Int):=of_decide_eq_true az
        obtain ⟨ad268,e268,hx268_0,hx268_1⟩:=at_T73 HR0_1.out x5_1 p268 q268
        have hw268_1:=hx268_1
        have hw268_0:=hx268_0
        cases e268
        replace hx268_0:=(HB.out.cell (World.block_lt_of_cell? w _ hx268_0)).trans hx268_0
        replace hx268_1:=(HB.out.cell (World.block_lt_of_cell? w _ hx268_1)).trans hx268_1
        replace p268:=eq_true p268
        replace q268:=eq_true q268
        have p269 : 0 ≤ (x5_1 : Int):=of_decide_eq_true az
        have q269 : x5_1 < (l0_1.length : Int):=of_decide_eq_true az
        obtain ⟨ad269,e269,hx269_0,hx269_1⟩:=at_T73 HR0_1.out x5_1 p269 q269
        have hw269_1:=hx269_1
        have hw269_0:=hx269_0
        obtain rfl : ad268 = ad269:=(by injection e269)
        replace hx269_0:=(HB.out.cell (World.block_lt_of_cell? w _ hx269_0)).trans hx269_0
        replace hx269_1:=(HB.out.cell (World.block_lt_of_cell? w _ hx269_1)).trans hx269_1
        replace p269:=eq_true p269
        replace q269:=eq_true q269
        refine start_ (n:=16) (S:=fun w'=>w'.cell? ⟨gb263,0,none⟩ = some (.int .i64 a0_0) ∧ w'.cell? ⟨gb263,1,none⟩ = some (.slice (some ad268) l0_1.length c0_1) ∧ w'.cell? ⟨gb263,2,none⟩ = some (.slice A0_2 l0_2.length c0_2) ∧ w'.cell? (ad268.add ((x5_1).toNat * 2)) = some (.int .i64 ((rd_T73 l0_1 x5_1).f0)) ∧ w'.cell? ⟨(ad268.add ((x5_1).toNat * 2)).block,(ad268.add ((x5_1).toNat * 2)).off + 1,none⟩ = some (.int .i64 ((rd_T73 l0_1 x5_1).f1)) ∧ w'.cell? (ad268.add ((x5_1).toNat * 2)) = some (.int .i64 ((rd_T73 l0_1 x5_1).f0)) ∧ w'.cell? ⟨(ad268.add ((x5_1).toNat * 2)).block,(ad268.add ((x5_1).toNat * 2)).off + 1,none⟩ = some (.int .i64 ((rd_T73 l0_1 x5_1).f1))) (ds:=[]) #[false,false,false,false,false,false,false,false,false,false,false,false,false,false,false,false] (by kernel_rfl) rfl rfl ⟨(blk_cell BK263.out 0).trans rfl,(blk_cell BK263.out 1).trans rfl,(blk_cell BK263.out 2).trans rfl,((HB.out.cell (World.block_lt_of_cell? w _ hw268_0)).trans hw268_0),((HB.out.cell (World.block_lt_of_cell? w _ hw268_1)).trans hw268_1),((HB.out.cell (World.block_lt_of_cell? w _ hw269_0)).trans hw269_0),((HB.out.cell (World.block_lt_of_cell? w _ hw269_1)).trans hw269_1)⟩ (fun hHeld=>?_);refine with_tabW spec_plUsed.tab7 spec_plUsed.bits7 (fun HT_ HW_=>?_)
        generalize wr.drew = w16 at HO_3 HO_4 BK263 HB hx268_0 hx268_1 hx269_0 hx269_1 hHeld ⊢
        refine pure_ (i:=0) (N:=some 23) (v:=?_) (a':=?_) #[true,false,false,false,false,false,false,false,false,false,false,false,false,false,false,false] rfl rfl (any_of HT_.out (by kernel_rfl)) (fun _ _ _ h=>h) (Or.inl ⟨by rfl,?_⟩) ?_ ?_
        rotate_left
        ·intro w'
         go_simp
         with_reducible rfl
        rotate_left
        ·simp only [Act.put,List.setIfInBounds_toArray,List.set_cons_zero,List.set_cons_succ,i64_w,i32_w]
         rfl
        refine pure_ (i:=1) (N:=some 24) (v:=?_) (a':=?_) #[true,true,false,false,false,false,false,false,false,false,false,false,false,false,false,false] rfl rfl (any_of HT_.out (by kernel_rfl)) (fun _ _ _ h=>h) (Or.inl ⟨by rfl,?_⟩) ?_ ?_
        rotate_left
        ·intro w'
         go_simp
         with_reducible rfl
        rotate_left
        ·simp only [Act.put,List.setIfInBounds_toArray,List.set_cons_zero,List.set_cons_succ,i64_w,i32_w]
         rfl
        refine pure_ (i:=3) (N:=some 26) (v:=?_) (a':=?_) #[true,true,false,true,false,false,false,false,false,false,false,false,false,false,false,false] rfl rfl (any_of HT_.out (by kernel_rfl)) (fun _ _ _ h=>h) (Or.inl ⟨by rfl,?_⟩) ?_ ?_
        rotate_left
        ·intro w'
         go_simp
         with_reducible rfl
        rotate_left
        ·simp only [Act.put,List.setIfInBounds_toArray,List.set_cons_zero,List.set_cons_succ,i64_w,i32_w]
         rfl
        refine pure_ (i:=7) (N:=some 30) (v:=?_) (a':=?_) #[true,true,false,true,false,false,false,true,false,false,false,false,false,false,false,false] rfl rfl (any_of HT_.out (by kernel_rfl)) (fun _ _ _ h=>h) (Or.inl ⟨by rfl,?_⟩) ?_ ?_
        rotate_left
        ·intro w'
         go_simp
         with_reducible rfl
        rotate_left
        ·simp only [Act.put,List.setIfInBounds_toArray,List.set_cons_zero,List.set_cons_succ,i64_w,i32_w]
         rfl
        refine pure_ (i:=9) (N:=some 32) (v:=?_) (a':=?_) #[true,true,false,true,false,false,false,true,false,true,false,false,false,false,false,false] rfl rfl (any_of HT_.out (by kernel_rfl)) (fun _ _ _ h=>h) (Or.inl ⟨by rfl,?_⟩) ?_ ?_
        rotate_left
        ·intro w'
         go_simp
         with_reducible rfl
        rotate_left
        ·simp only [Act.put,List.setIfInBounds_toArray,List.set_cons_zero,List.set_cons_succ,i64_w,i32_w]
         rfl
        refine take_ (i:=2) (N:=some 25) (v:=?_) (a':=?_) #[true,true,true,true,false,false,false,true,false,true,false,false,false,false,false,false] rfl rfl (take_ofW HT_.out HW_.out (by kernel_rfl)) (fun _ _ _ h=>h) (Or.inl ⟨by rfl,?_⟩) hHeld ?_ ?_
        rotate_left
        ·rintro w' ⟨s0,s1,s2,s3,s4,s5,s6⟩
         go_simp
         with_reducible rfl
        rotate_left
        ·simp only [Act.put,List.setIfInBounds_toArray,List.set_cons_zero,List.set_cons_succ,i64_w,i32_w]
         rfl
        refine pure_ (i:=4) (N:=some 27) (v:=?_) (a':=?_) #[true,true,true,true,true,false,false,true,false,true,false,false,false,false,false,false] rfl rfl (any_of HT_.out (by kernel_rfl)) (fun _ _ _ h=>h) (Or.inl ⟨by rfl,?_⟩) ?_ ?_
        rotate_left
        ·intro w'
         go_simp
         with_reducible rfl
        rotate_left
        ·simp only [Act.put,List.setIfInBounds_toArray,List.set_cons_zero,List.set_cons_succ,i64_w,i32_w]
         rfl
        refine pure_ (i:=5) (N:=some 28) (v:=?_) (a':=?_) #[true,true,true,true,true,true,false,true,false,true,false,false,false,false,false,false] rfl rfl (any_of HT_.out (by kernel_rfl)) (fun _ _ _ h=>h) (Or.inl ⟨by rfl,?_⟩) ?_ ?_
        rotate_left
        ·intro w'
         go_simp
         with_reducible rfl
        rotate_left
        ·simp only [Act.put,List.setIfInBounds_toArray,List.set_cons_zero,List.set_cons_succ,i64_w,i32_w]
         rfl
        refine take_ (i:=6) (N:=some 29) (v:=?_) (a':=?_) #[true,true,true,true,true,true,true,true,false,true,false,false,false,false,false,false] rfl rfl (take_ofW HT_.out HW_.out (by kernel_rfl)) (fun _ _ _ h=>h) (Or.inl ⟨by rfl,?_⟩) hHeld ?_ ?_
        rotate_left
        ·rintro w' ⟨s0,s1,s2,s3,s4,s5,s6⟩
         go_simp
         with_reducible rfl
        rotate_left
        ·simp only [Act.put,List.setIfInBounds_toArray,List.set_cons_zero,List.set_cons_succ,i64_w,i32_w]
         rfl
        refine take_ (i:=8) (N:=some 31) (v:=?_) (a':=?_) #[true,true,true,true,true,true,true,true,true,true,false,false,false,false,false,false] rfl rfl (take_ofW HT_.out HW_.out (by kernel_rfl)) (fun _ _ _ h=>h) (Or.inl ⟨by rfl,?_⟩) hHeld ?_ ?_
        rotate_left
        ·rintro w' ⟨s0,s1,s2,s3,s4,s5,s6⟩
         go_simp
         with_reducible rfl
        rotate_left
        ·simp only [Act.put,List.setIfInBounds_toArray,List.set_cons_zero,List.set_cons_succ,i64_w,i32_w]
         rfl
        refine pure_ (i:=10) (N:=some 33) (v:=?_) (a':=?_) #[true,true,true,true,true,true,true,true,true,true,true,false,false,false,false,false] rfl rfl (any_of HT_.out (by kernel_rfl)) (fun _ _ _ h=>h) (Or.inl ⟨by rfl,?_⟩) ?_ ?_
        rotate_left
        ·intro w'
         go_simp
         with_reducible rfl
        rotate_left
        ·simp only [Act.put,List.setIfInBounds_toArray,List.set_cons_zero,List.set_cons_succ,i64_w,i32_w]
         rfl
        refine pure_ (i:=11) (N:=some 34) (v:=?_) (a':=?_) #[true,true,true,true,true,true,true,true,true,true,true,true,false,false,false,false] rfl rfl (any_of HT_.out (by kernel_rfl)) (fun _ _ _ h=>h) (Or.inl ⟨by rfl,?_⟩) ?_ ?_
        rotate_left
        ·intro w'
         go_simp
         with_reducible rfl
        rotate_left
        ·simp only [Act.put,List.setIfInBounds_toArray,List.set_cons_zero,List.set_cons_succ,i64_w,i32_w]
         rfl
        refine take_ (i:=12) (N:=some 35) (v:=?_) (a':=?_) #[true,true,true,true,true,true,true,true,true,true,true,true,true,false,false,false] rfl rfl (take_ofW HT_.out HW_.out (by kernel_rfl)) (fun _ _ _ h=>h) (Or.inl ⟨by rfl,?_⟩) hHeld ?_ ?_
        rotate_left
        ·rintro w' ⟨s0,s1,s2,s3,s4,s5,s6⟩
         go_simp
         with_reducible rfl
        rotate_left
        ·simp only [Act.put,List.setIfInBounds_toArray,List.set_cons_zero,List.set_cons_succ,i64_w,i32_w]
         rfl
        refine one_ (i:=13) (N:=some 36) #[true,true,true,true,true,true,true,true,true,true,true,true,true,true,false,false] rfl rfl (one_of HT_.out (by kernel_rfl)) (by decide) (fun K hK=>?_)
        refine Kd.R_lit_step (Kd.int .i64) _ 3 ?hg (N:=36) ?hd (xs:=([(rd_T73 l0_1 x5_1).f0,(rd_T73 l0_1 x5_1).f1] : List Int)) (inner:=[.int .i64 ((rd_T73 l0_1 x5_1).f0),.int .i64 ((rd_T73 l0_1 x5_1).f1)]) (ok:=fun _=>True) (okp:=fun _=>True) ?hr ?hp (fun _ hk=>hk) trivial (Below.refl _ _) (Nat.le_refl _) (by simp) ?_;(case hd=>rfl);(case hg=>rfl);(case hr=>first|(go_simp;done)|(go_simp;rfl));(case hp=>exact (Reps.one (show Kd.M (Kd.int .i64) _ _ _ ((rd_T73 l0_1 x5_1).f0) [.int .i64 ((rd_T73 l0_1 x5_1).f0)] from rfl) (Reps.one (show Kd.M (Kd.int .i64) _ _ _ ((rd_T73 l0_1 x5_1).f1) [.int .i64 ((rd_T73 l0_1 x5_1).f1)] from rfl) (Reps.none _ _))))
        intro v271 w17 ho18 hb hg_ hnew_
        clear hg_ hnew_
        (first|rw [← Ny270.out] at ho18|(simp only [Int.reduceToNat] at ho18;rw [← Ny270.out] at ho18))
        have n0_:=Aside0.mk (Kd.R_elder' (rz HO_3.out) (Kd.R_base ho18) hb)
        have n1_:=Aside0.mk (Kd.R_elder' (rz HO_4.out) (Kd.R_base ho18) hb)
        have n2_:=Aside0.mk (Kd.R_lower (Kd.R_new' (Kd.R_new' ho18 (Kd.R_lt (rz HO_3.out))) (Kd.R_lt (rz HO_4.out))) (below_size bs))
        have n3_:=Aside0.mk (blk_below (g:=gb263) (o:=.cells #[.int .i64 a0_0,.slice (some ad268) l0_1.length c0_1,.slice A0_2 l0_2.length c0_2] 29 (0,0)) (kz BK263.out) hb)
        have n4_:=Aside0.mk (below_step bs hb)
        clear HO_3
        clear HO_4
        clear BK263
        clear HB
        have HO_3:=n0_
        have HO_4:=n1_
        have HO272:=n2_
        have BK263:=n3_
        have HB:=n4_
        clear n0_ n1_ n2_ n3_ n4_
        clear hb ho18
        obtain ⟨Ao20,co20,eo20⟩:=Kd.R_slice HO272.out
        (first|subst eo20|(injection eo20 with f1_ f2_ f3_;have f4_:=f1_.symm;have f5_:=f3_.symm;clear f1_ f2_ f3_;subst f4_;subst f5_))
        refine hK.out _ _ ⟨(blk_cell BK263.out 0).trans rfl,(blk_cell BK263.out 1).trans rfl,(blk_cell BK263.out 2).trans rfl,((HB.out.cell (World.block_lt_of_cell? w _ hw268_0)).trans hw268_0),((HB.out.cell (World.block_lt_of_cell? w _ hw268_1)).trans hw268_1),((HB.out.cell (World.block_lt_of_cell? w _ hw269_0)).trans hw269_0),((HB.out.cell (World.block_lt_of_cell? w _ hw269_1)).trans hw269_1)⟩ (fun hHeld=>?_)
        clear hK K
        refine norm_ (a':=?_) ?_ ?_
        rotate_left
        ·show Act.put _ (some 36) _ = _
         simp only [Act.put,List.setIfInBounds_toArray,List.set_cons_zero,List.set_cons_succ,i64_w,i32_w]
         rfl
        refine one_ (i:=14) (N:=some 37) #[true,true,true,true,true,true,true,true,true,true,true,true,true,true,true,false] rfl rfl (one_of HT_.out (by kernel_rfl)) (by decide) (fun K hK=>?_)
        refine Kd.R_append_rows_step (Kd.int .i64) (w0:=w) w.heap.size (by rfl) (.tmp 23) (.tmp 36) 23 3 (.int .i64 0) 8 rfl Try.underlying23 info3 rfl (by decide) (by omega) (.slice Ao15 x3_1.length co15) x3_1 y270 _ _ _ (fun k_=>some k_ ≠ (u4 : Value).ownBlock ∧ some k_ ≠ (.slice Ao20 y270.length co20 : Value).ownBlock) (fun _=>False) rfl rfl ?aO ?aR (fun _ _ h=>h) (fun _ h=>h.elim) ?aF ?aB ?aS ?aL ?_
        (case aR=>repeat (first|exact (Kd.R_reads' HO272.out).2.2|(with_reducible refine Kd.C_alloc ?_ _)|(with_reducible refine Kd.C_drewN ?_ _)|(with_reducible refine Kd.C_drew ?_)))
        (case aB=>exact bs)
        (case aF=>exact (fun k_ hk=>⟨Kd.fresh' (Kd.R_lt (rz HO_4.out)) k_ hk,Kd.fresh' (Kd.R_lt (rz HO272.out)) k_ hk⟩))
        (case aO=>exact (rz HO_3.out))
        (case aS=>exact (below_size bs))
        (case aL=>have:=LMc12.out;omega)
        intro v274 w19 ho hb hg hat
        rw [← Ny273.out] at ho
        have n0_:=Aside0.mk (Kd.R_after (ok:=(fun k_=>some k_ ≠ (.slice Ao20 y270.length co20 : Value).ownBlock)) (by (with_reducible repeat (first|apply Kd.R_alloc|apply Kd.R_drewN|apply Kd.R_drew));exact Kd.R_mono HO_4.out (fun _ hk=>⟨hk.2,hk.1⟩)) hg hat)
        have n1_:=Aside0.mk (blk_grown (g:=gb263) (o:=.cells #[.int .i64 a0_0,.slice (some ad268) l0_1.length c0_1,.slice A0_2 l0_2.length c0_2] 29 (0,0)) (kz BK263.out) hg (Kd.R_ne HO_3.out BK263.out (by decide)))
        have n2_:=Aside0.mk (Kd.R_after (ok:=(fun k_=>some k_ ≠ (u4 : Value).ownBlock)) (by (with_reducible repeat (first|apply Kd.R_alloc|apply Kd.R_drewN|apply Kd.R_drew));exact Kd.R_mono HO272.out (fun _ hk=>⟨hk.2,hk.1.2⟩)) hg hat)
        have n3_:=Aside0.mk (hb)
        have n4_:=Aside0.mk (ho)
        clear HO_4
        clear BK263
        clear HO272
        clear HB
        clear HO_3
        have HO_4:=n0_
        have BK263:=n1_
        have HO272:=n2_
        have HB:=n3_
        have HO275:=n4_
        clear n0_ n1_ n2_ n3_ n4_
        clear ho hb hg hat
        refine hK.out _ _ ⟨(blk_cell BK263.out 0).trans rfl,(blk_cell BK263.out 1).trans rfl,(blk_cell BK263.out 2).trans rfl,((HB.out.cell (World.block_lt_of_cell? w _ hw268_0)).trans hw268_0),((HB.out.cell (World.block_lt_of_cell? w _ hw268_1)).trans hw268_1),((HB.out.cell (World.block_lt_of_cell? w _ hw269_0)).trans hw269_0),((HB.out.cell (World.block_lt_of_cell? w _ hw269_1)).trans hw269_1)⟩ (fun hHeld=>?_)
        clear hK K
        refine norm_ (a':=?_) ?_ ?_
        rotate_left
        ·show Act.put _ (some 37) _ = _
         simp only [Act.put,List.setIfInBounds_toArray,List.set_cons_zero,List.set_cons_succ,i64_w,i32_w]
         rfl
        refine pure_ (i:=15) (N:=some 3) (v:=?_) (a':=?_) #[true,true,true,true,true,true,true,true,true,true,true,true,true,true,true,true] rfl rfl (any_of HT_.out (by kernel_rfl)) (fun _ _ _ h=>h) (Or.inl ⟨by rfl,?_⟩) ?_ ?_
        rotate_left
        ·intro w'
         go_simp
         with_reducible rfl
        rotate_left
        ·simp only [Act.put,List.setIfInBounds_toArray,List.set_cons_zero,List.set_cons_succ,i64_w,i32_w]
         rfl
        refine done_ (done_of HT_.out (by kernel_rfl)) ?_
        obtain ⟨Ao21,co21,eo21⟩:=Kd.R_slice HO_4.out
        subst eo21
        try go_wp2_with (first|((with_reducible refine gate_callee (f:=99) rfl ?_);refine goesL_ (some 40) rfl rfl Try.func99 (by kernel_rfl) rfl #[.slice Ao21 x4_1.length co21,.int .i64 x5_1] rfl mz ?_;(with_reducible refine (spec_l1Put.calls k1 (fun k_=>some k_ = (.slice Ao21 x4_1.length co21 : Value).ownBlock) (.slice Ao21 x4_1.length co21) x4_1 x5_1 t276 w _ ?side1 ?side2 A13.out).mono ?_);(case side1=>repeat (first|(with_reducible first|exact HB.out|apply below_alloc|apply pw_below_drewN|apply below_drew1|refine below_set ?_ GE263.out)|exact HB.out));(case side2=>exact Kd.R_tight rfl HO_4.out);rintro e w22 ⟨v277,rfl,ho0,hb,hkp⟩;refine ⟨_,rfl,?_⟩;have n0_:=Aside0.mk (blk_kept (kz BK263.out) hkp (fun hs_=>(fun e_=>(Kd.R_ne HO_4.out BK263.out (by decide)) e_) hs_));have n1_:=Aside0.mk (Kd.R_mono (ok':=fun k_=>some k_ ≠ (v274 : Value).ownBlock ∧ some k_ ≠ (v277 : Value).ownBlock) (Kd.R_keptB (HO272.out) hkp (fun k_ hk_ hs_=>(hk_.1) hs_)) (fun k_ hk_=>⟨hk_.1.2,fun e_=>Or.elim (ho0.1 k_ e_.symm) (fun hs_=>hk_.2.1 hs_) (fun hn_=>Nat.not_le.2 hk_.2.2 hn_)⟩));have n2_:=Aside0.mk (Kd.R_mono (ok':=fun k_=>some k_ ≠ (.slice Ao20 y270.length co20 : Value).ownBlock ∧ some k_ ≠ (v277 : Value).ownBlock) (Kd.R_keptB (HO275.out) hkp (fun k_ hk_ hs_=>(hk_.1) hs_)) (fun k_ hk_=>⟨hk_.1.2,fun e_=>Or.elim (ho0.1 k_ e_.symm) (fun hs_=>hk_.2.1 hs_) (fun hn_=>Nat.not_le.2 hk_.2.2 hn_)⟩));have n3_:=Aside0.mk (Kd.R_mono (ok':=fun k_=>some k_ ≠ (.slice Ao20 y270.length co20 : Value).ownBlock ∧ some k_ ≠ (v274 : Value).ownBlock) ho0 (fun k_ hk_=>⟨Or.elim hk_ (fun hs_=>fun e_=>(((HO272.out).1 k_ e_.symm).1) hs_) (fun hn_=>(Kd.fresh' (Kd.R_lt (rz HO272.out)) k_ hn_)),Or.elim hk_ (fun hs_=>fun e_=>(((HO275.out).1 k_ e_.symm).1) hs_) (fun hn_=>(Kd.fresh' (Kd.R_lt (rz HO275.out)) k_ hn_))⟩));have n4_:=Aside0.mk (hb);clear BK263 HO272 HO275 HB HO_4;have BK263:=n0_;have HO272:=n1_;have HO275:=n2_;have HO278:=n3_;have HB:=n4_;clear n0_ n1_ n2_ n3_ n4_;(try clear hb);(try clear hkp);(try clear ho0)))
        go_roundg k1
        case measure=>have:=HK1.out;omega
        case rel=>exact ⟨(y273),(t276),(wrap64 (x5_1 - 1)),fz,H',⟨by have:=HK1.out;omega⟩,⟨by (with_reducible repeat (first|apply Kd.R_alloc|apply Kd.R_drewN|apply Kd.R_drew));exact Kd.R_mono HO275.out (fun _ hk=>hk.2)⟩,⟨by (with_reducible repeat (first|apply Kd.R_alloc|apply Kd.R_drewN|apply Kd.R_drew));exact Kd.R_mono HO278.out (fun _ hk=>hk.2)⟩,⟨by (with_reducible repeat (first|refine blk_drewN ?_ _|refine blk_drew ?_|refine blk_alloc ?_ _));exact BK263.out⟩,⟨by repeat (first|(with_reducible first|exact HB.out|apply below_alloc|apply pw_below_drewN|apply below_drew1|refine below_set ?_ GE263.out)|exact HB.out)⟩⟩
       ·rw [if_neg c12] at H
        exact absurd H (by simp)
      ·rw [if_neg c11] at H
       exact absurd H (by simp)
     ·rw [if_neg c10] at H
      exact absurd H (by simp)
    ·replace c9:=Bool.eq_false_iff.mpr c9
     subst c9
     have H1 : (spec_plUsed.l0 k1 x3_1 x4_1 (wrap64 (x5_1 - 1)) a0_0 l0_1 l0_2) = some r:=by rw [if_neg (show ¬ (false = true) by decide)] at H;exact H
     clear H
     have H:=H1
     clear H1
     have H':=Aside0.mk H
     clear H
     have hcz23_0 : wr.cell? ⟨gb263,0,none⟩ = some (.int .i64 a0_0):=(blk_cell BK263.out 0).trans rfl
     have hcz23_1 : wr.cell? ⟨gb263,1,none⟩ = some (.slice A0_1 l0_1.length c0_1):=(blk_cell BK263.out 1).trans rfl
     have hcz23_2 : wr.cell? ⟨gb263,2,none⟩ = some (.slice A0_2 l0_2.length c0_2):=(blk_cell BK263.out 2).trans rfl
     have hfz23_0:=blk_frozen BK263.out 0
     have hfz23_1:=blk_frozen BK263.out 1
     have hfz23_2:=blk_frozen BK263.out 2
     obtain ⟨Ao24,co24,eo24⟩:=Kd.R_slice HO_3.out
     subst eo24
     go_wp2_with (first|((with_reducible refine gate_callee (f:=98) rfl ?_);refine goesL_ (some 22) rfl rfl Try.func98 (by kernel_rfl) rfl #[.slice Ao24 x3_1.length co24,.int .i64 (wrap64 (a0_0 + x5_1))] rfl mz ?_;(with_reducible refine (spec_l1Has.calls k1 _ _ x3_1 (wrap64 (a0_0 + x5_1)) false _ ?side1 ?side2 A8.out).mono ?_);(case side1=>exact cz (Kd.R_reads' HO_3.out).2.2);(case side2=>exact (Kd.R_reads' HO_3.out).2.1);rintro e w' ⟨rfl,⟨nd,rfl⟩⟩;refine ⟨_,rfl,?_⟩))
     go_roundg k1
     case measure=>have:=HK1.out;omega
     case rel=>exact ⟨(x3_1),(x4_1),(wrap64 (x5_1 - 1)),fz,H',⟨by have:=HK1.out;omega⟩,⟨by (with_reducible repeat (first|apply Kd.R_alloc|apply Kd.R_drewN|apply Kd.R_drew));exact HO_3.out⟩,⟨by (with_reducible repeat (first|apply Kd.R_alloc|apply Kd.R_drewN|apply Kd.R_drew));exact HO_4.out⟩,⟨by (with_reducible repeat (first|refine blk_drewN ?_ _|refine blk_drew ?_|refine blk_alloc ?_ _));exact BK263.out⟩,⟨by repeat (first|(with_reducible first|exact HB.out|apply below_alloc|apply pw_below_drewN|apply below_drew1|refine below_set ?_ GE263.out)|exact HB.out)⟩⟩
   ·rw [if_neg c7] at H
    have c7b0 : decide (0 ≤ x5_1) = false:=decide_eq_false c7
    clear c7
    obtain rfl:=Option.some.inj H
    go_wp2
    go_ret
    exact ⟨_,by first|rfl|(simp [errW_none,errW_some] <;> rfl)|(simp [*,errW_none,errW_some] <;> rfl),by (with_reducible repeat (first|apply Kd.R_alloc|apply Kd.R_drewN|apply Kd.R_drew));exact Kd.R_mono HO_4.out (fun _ hk=>trivial),by repeat (first|(with_reducible first|exact HB.out|apply below_alloc|apply pw_below_drewN|apply below_drew1|refine below_set ?_ GE263.out)|exact HB.out)⟩
end Go.Proofs.Ytdcdaoancmpbeaa.MFnExactSharePlan
--sq
