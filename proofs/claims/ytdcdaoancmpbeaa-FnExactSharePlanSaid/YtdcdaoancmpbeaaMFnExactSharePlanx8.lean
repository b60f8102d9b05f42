import Derived.Test.YtdcdaoancmpbeaaMFnExactSharePlanx0
import Derived.Test.YtdcdaoancmpbeaaMFnExactSharePlanx3
import Derived.Test.YtdcdaoancmpbeaaMFnExactSharePlanx4
namespace Go.Proofs.Ytdcdaoancmpbeaa.MFnExactSharePlan
open Go.RowKit Go.Proofs.YtdcdaoancmpbeaaW.PrintWords Go.Proofs.YtdcdaoancmpbeaaW.PrintLast Go.Proofs.YtdcdaoancmpbeaaW.PrintMore Go.Proofs.YtdcdaoancmpbeaaV Go.Proofs.YtdcdaoancmpbeaaZ
attribute [local go_sem] max2_int min2_int max_two min_two max_three min_three max_four min_four   -- for this text's walks alone
set_option linter.unusedVariables false
set_option linter.unusedSimpArgs false
/-! ### spec_l1Same: function 104 -/
def spec_l1Same.l0 : Nat → List Int → List Int → Int → Int → Option (Bool)
 | 0,_,_,_,_=>none
 | k + 1,x0,x1,x12,x13=>if x13 < x12 then (if 0 ≤ x13 then (if x13 < (x0.length : Int) then (if x13 < (x1.length : Int) then (if (rd x0 x13) = (rd x1 x13) then (spec_l1Same.l0 k x0 x1 x12 (wrap64 (x13 + 1))) else (some false)) else (none)) else (none)) else (none)) else (some true)
def spec_l1Same.f (k : Nat) (l0 : List Int) (l1 : List Int) : Option (Bool):=if (l0.length : Int) = (l1.length : Int) then (spec_l1Same.l0 k l0 l1 (l0.length : Int) 0) else (some false)
theorem spec_l1Same.mono_l : ∀ k,(∀ y0 y1 y2 y3,LeO (spec_l1Same.l0 k y0 y1 y2 y3) (spec_l1Same.l0 (k + 1) y0 y1 y2 y3))
 | 0=>fun _ _ _ _ r h=>by simp [spec_l1Same.l0] at h
 | k + 1=>by
  have ih0:=spec_l1Same.mono_l k
  ·intro y0 y1 y2 y3
   unfold spec_l1Same.l0
   repeat' first
   | (with_reducible exact ih0 _ _ _ _)
   | (with_reducible exact LeO.refl _)
   | (with_reducible exact LeO.none _)
   | (with_reducible refine LeO.ite ?_ ?_)
   | (with_reducible refine LeO.bind ?_ (fun _=>?_))
   | exact ih0 _ _ _ _
   | exact LeO.none _
   | refine LeO.ite ?_ ?_
   | refine LeO.bind ?_ (fun _=>?_)
theorem spec_l1Same.mono : ∀ a0 a1 k,LeO (spec_l1Same.f k a0 a1) (spec_l1Same.f (k + 1) a0 a1):=by
 intro a0 a1 k
 have ih0:=spec_l1Same.mono_l k
 unfold spec_l1Same.f
 repeat' first
   | (with_reducible exact ih0 _ _ _ _)
   | (with_reducible exact LeO.refl _)
   | (with_reducible exact LeO.none _)
   | (with_reducible refine LeO.ite ?_ ?_)
   | (with_reducible refine LeO.bind ?_ (fun _=>?_))
   | exact ih0 _ _ _ _
   | exact LeO.none _
   | refine LeO.ite ?_ ?_
   | refine LeO.bind ?_ (fun _=>?_)
set_option maxHeartbeats 8000000 in
set_option maxRecDepth 100000 in
theorem spec_l1Same.calls (k : Nat) (A0 : Option Addr) (c0 : Nat) (l0 : List Int) (A1 : Option Addr) (c1 : Nat) (l1 : List Int) (r : Bool) (w : World) (hr0 : Kd.C (Kd.int .i64) w A0 l0.length l0) (hc0 : l0.length ≤ c0) (hr1 : Kd.C (Kd.int .i64) w A1 l1.length l1) (hc1 : l1.length ≤ c1) (h : spec_l1Same.f k l0 l1 = some r) :
  Calls Try.prog 104 #[.slice A0 l0.length c0,.slice A1 l1.length c1] w fun e w'=>e = .returned (.bool r) ∧ Drawn0 w w':=by
 have HR0:=Aside0.mk hr0
 have HC0:=Aside0.mk hc0
 clear hr0 hc0
 have HR1:=Aside0.mk hr1
 have HC1:=Aside0.mk hc1
 clear hr1 hc1
 have H : (if (l0.length : Int) = (l1.length : Int) then (spec_l1Same.l0 k l0 l1 (l0.length : Int) 0) else (some false)) = some r:=h
 clear h
 by_cases c3 : (l0.length : Int) = (l1.length : Int)
 ·rw [if_pos c3] at H
  have c3b0 : ((l0.length : Int) == (l1.length : Int)) = true:=beq_iff_eq.mpr c3
  have c3b1 : ((l0.length : Int) != (l1.length : Int)) = false:=bne_eq_false_iff_eq.mpr c3
  have c3b2 : (l0.length == l1.length) = true:=by first|simpa using c3|(simp at c3 ⊢;omega)
  clear c3
  have H':=Aside0.mk H
  clear H
  go_enter Try.func104,Try.ntmps104
  go_wp2
  repeat (go_quiet (fail);try go_wp2)
  go_loopg [13] k (fun kq v13 w'=>∃ (x13_1 : Int),v13 = .int .i64 x13_1 ∧ Aside0 (spec_l1Same.l0 kq l0 l1 (l0.length : Int) x13_1 = some r) ∧ Aside0 (kq ≤ k) ∧ Drawn0 w w')
  case atStart=>exact ⟨(0),fz,H',⟨Nat.le_refl _⟩,by repeat (first|exact Drawn0.refl _|apply Drawn0.step)⟩
  case round=>
   clear H'
   try clear c1
   try clear p2
   try clear c3
   try clear c3b0
   try clear c3b1
   try clear c3b2
   obtain ⟨x13_1,rfl,HA,HK1,⟨m1,rfl⟩⟩:=hrel
   cases gk with
   | zero=>exact absurd HA.out (by simp [spec_l1Same.l0])
   | succ k1=>
    have H:=HA.out
    clear HA
    simp only [spec_l1Same.l0] at H
    by_cases c4 : x13_1 < (l0.length : Int)
    ·rw [if_pos c4] at H
     have c4b0 : decide (x13_1 < (l0.length : Int)) = true:=decide_eq_true c4
     clear c4
     by_cases c5 : 0 ≤ x13_1
     ·rw [if_pos c5] at H
      have c5b0 : decide (0 ≤ x13_1) = true:=decide_eq_true c5
      clear c5
      by_cases c6 : x13_1 < (l0.length : Int)
      ·rw [if_pos c6] at H
       have c6b0 : decide (x13_1 < (l0.length : Int)) = true:=decide_eq_true c6
       clear c6
       by_cases c7 : x13_1 < (l1.length : Int)
       ·rw [if_pos c7] at H
        have c7b0 : decide (x13_1 < (l1.length : Int)) = true:=decide_eq_true c7
        clear c7
        by_cases c8 : (rd l0 x13_1) = (rd l1 x13_1)
        ·rw [if_pos c8] at H
         have c8b0 : ((rd l0 x13_1) == (rd l1 x13_1)) = true:=beq_iff_eq.mpr c8
         have c8b1 : ((rd l0 x13_1) != (rd l1 x13_1)) = false:=bne_eq_false_iff_eq.mpr c8
         clear c8
         have H':=Aside0.mk H
         clear H
         have p279 : 0 ≤ (x13_1 : Int):=of_decide_eq_true az
         have q279 : x13_1 < (l0.length : Int):=of_decide_eq_true az
         obtain ⟨ad279,e279,hx279_0⟩:=Kd.at_int HR0.out x13_1 p279 q279
         cases e279
         replace p279:=eq_true p279
         replace q279:=eq_true q279
         have p280 : 0 ≤ (x13_1 : Int):=of_decide_eq_true az
         have q280 : x13_1 < (l1.length : Int):=of_decide_eq_true az
         obtain ⟨ad280,e280,hx280_0⟩:=Kd.at_int HR1.out x13_1 p280 q280
         cases e280
         replace p280:=eq_true p280
         replace q280:=eq_true q280
         go_wp2
         repeat (go_quiet (fail);try go_wp2)
         go_roundg k1
         case measure=>have:=HK1.out;omega
         case rel=>exact ⟨(wrap64 (x13_1 + 1)),fz,H',⟨by have:=HK1.out;omega⟩,by repeat (first|exact Drawn0.refl _|apply Drawn0.step)⟩
        ·rw [if_neg c8] at H
         have c8b0 : ((rd l0 x13_1) == (rd l1 x13_1)) = false:=beq_eq_false_iff_ne.mpr c8
         have c8b1 : ((rd l0 x13_1) != (rd l1 x13_1)) = true:=bne_iff_ne.mpr c8
         obtain rfl:=Option.some.inj H
         have p279 : 0 ≤ (x13_1 : Int):=of_decide_eq_true az
         have q279 : x13_1 < (l0.length : Int):=of_decide_eq_true az
         obtain ⟨ad279,e279,hx279_0⟩:=Kd.at_int HR0.out x13_1 p279 q279
         cases e279
         replace p279:=eq_true p279
         replace q279:=eq_true q279
         have p280 : 0 ≤ (x13_1 : Int):=of_decide_eq_true az
         have q280 : x13_1 < (l1.length : Int):=of_decide_eq_true az
         obtain ⟨ad280,e280,hx280_0⟩:=Kd.at_int HR1.out x13_1 p280 q280
         cases e280
         replace p280:=eq_true p280
         replace q280:=eq_true q280
         go_wp2
         repeat (go_quiet (fail);try go_wp2)
         go_ret
         exact ⟨by first|rfl|(simp;done)|(simp [*];done),by repeat (first|exact Drawn0.refl _|apply Drawn0.step)⟩
       ·rw [if_neg c7] at H
        exact absurd H (by simp)
      ·rw [if_neg c6] at H
       exact absurd H (by simp)
     ·rw [if_neg c5] at H
      exact absurd H (by simp)
    ·rw [if_neg c4] at H
     have c4b0 : decide (x13_1 < (l0.length : Int)) = false:=decide_eq_false c4
     clear c4
     obtain rfl:=Option.some.inj H
     go_wp2
     repeat (go_quiet (fail);try go_wp2)
     go_ret
     exact ⟨by first|rfl|(simp;done)|(simp [*];done),by repeat (first|exact Drawn0.refl _|apply Drawn0.step)⟩
 ·rw [if_neg c3] at H
  have c3b0 : ((l0.length : Int) == (l1.length : Int)) = false:=beq_eq_false_iff_ne.mpr c3
  have c3b1 : ((l0.length : Int) != (l1.length : Int)) = true:=bne_iff_ne.mpr c3
  have c3b2 : (l0.length == l1.length) = false:=by first|simpa using c3|(simp at c3 ⊢;omega)
  obtain rfl:=Option.some.inj H
  go_enter Try.func104,Try.ntmps104
  go_wp2
  repeat (go_quiet (fail);try go_wp2)
  go_ret
  exact ⟨by first|rfl|(simp;done)|(simp [*];done),by repeat (first|exact Drawn0.refl _|apply Drawn0.step)⟩
/-! ### spec_plFirst: function 62 -/
mutual
def spec_plFirst.l0 : Nat → List (List Int) → List Int → List (List Int) → Int → Int → Option (List Int)
 | 0,_,_,_,_,_=>none
 | k + 1,x3,x4,x10,x11,x12=>if x12 < x11 then (if 0 ≤ x12 then (if x12 < (x10.length : Int) then (spec_plFirst.l1 k x3 x4 x12 (rd_L3 x10 x12) 0 x10 x11 x12) else (none)) else (none)) else (some x4)
def spec_plFirst.l1 : Nat → List (List Int) → List Int → Int → List Int → Int → List (List Int) → Int → Int → Option (List Int)
 | 0,_,_,_,_,_,_,_,_=>none
 | k + 1,x3,x4,x5,x6,x7,x10,x11,x12=>if 0 ≤ x7 then (if x7 < (x3.length : Int) then ((spec_l1Same.f k (rd_L3 x3 x7) x6).bind fun t287=>(if t287 = true then ((spec_l1Least.f x7 x5).bind fun t288=>(if x4.length < 17592186044416 then (spec_plFirst.l0 k x3 (x4 ++ [t288]) x10 x11 (wrap64 (x12 + 1))) else (none))) else (spec_plFirst.l1 k x3 x4 x5 x6 (wrap64 (x7 + 1)) x10 x11 x12))) else (none)) else (none)
end
def spec_plFirst.f (k : Nat) (a0_0 : Int) (l0_1 : List (S73)) (l0_2 : List Int) : Option (List Int):=(spec_plExponents.f k a0_0 l0_1 l0_2).bind fun t282=>(spec_plFirst.l0 k t282 ([] : List Int) t282 (t282.length : Int) 0)
theorem spec_plFirst.mono_l : ∀ k,(∀ y0 y1 y2 y3 y4,LeO (spec_plFirst.l0 k y0 y1 y2 y3 y4) (spec_plFirst.l0 (k + 1) y0 y1 y2 y3 y4)) ∧ (∀ y0 y1 y2 y3 y4 y5 y6 y7,LeO (spec_plFirst.l1 k y0 y1 y2 y3 y4 y5 y6 y7) (spec_plFirst.l1 (k + 1) y0 y1 y2 y3 y4 y5 y6 y7))
 | 0=>⟨fun _ _ _ _ _ r h=>by simp [spec_plFirst.l0] at h,fun _ _ _ _ _ _ _ _ r h=>by simp [spec_plFirst.l1] at h⟩
 | k + 1=>by
  obtain ⟨ih0,ih1⟩:=spec_plFirst.mono_l k
  refine ⟨?_,?_⟩
  ·intro y0 y1 y2 y3 y4
   unfold spec_plFirst.l0
   repeat' first
   | (with_reducible exact ih0 _ _ _ _ _)
   | (with_reducible exact ih1 _ _ _ _ _ _ _ _)
   | (with_reducible exact spec_l1Same.mono _ _ _)
   | (with_reducible exact spec_plExponents.mono _ _ _ _)
   | (with_reducible exact LeO.refl _)
   | (with_reducible exact LeO.none _)
   | (with_reducible refine LeO.ite ?_ ?_)
   | (with_reducible refine LeO.bind ?_ (fun _=>?_))
   | exact ih0 _ _ _ _ _
   | exact ih1 _ _ _ _ _ _ _ _
   | exact spec_l1Same.mono _ _ _
   | exact spec_plExponents.mono _ _ _ _
   | exact LeO.none _
   | refine LeO.ite ?_ ?_
   | refine LeO.bind ?_ (fun _=>?_)
  ·intro y0 y1 y2 y3 y4 y5 y6 y7
   unfold spec_plFirst.l1
   repeat' first
   | (with_reducible exact ih0 _ _ _ _ _)
   | (with_reducible exact ih1 _ _ _ _ _ _ _ _)
   | (with_reducible exact spec_l1Same.mono _ _ _)
   | (with_reducible exact spec_plExponents.mono _ _ _ _)
   | (with_reducible exact LeO.refl _)
   | (with_reducible exact LeO.none _)
   | (with_reducible refine LeO.ite ?_ ?_)
   | (with_reducible refine LeO.bind ?_ (fun _=>?_))
   | exact ih0 _ _ _ _ _
   | exact ih1 _ _ _ _ _ _ _ _
   | exact spec_l1Same.mono _ _ _
   | exact spec_plExponents.mono _ _ _ _
   | exact LeO.none _
   | refine LeO.ite ?_ ?_
   | refine LeO.bind ?_ (fun _=>?_)
theorem spec_plFirst.mono : ∀ a0 a1 a2 k,LeO (spec_plFirst.f k a0 a1 a2) (spec_plFirst.f (k + 1) a0 a1 a2):=by
 intro a0 a1 a2 k
 obtain ⟨ih0,ih1⟩:=spec_plFirst.mono_l k
 unfold spec_plFirst.f
 repeat' first
   | (with_reducible exact ih0 _ _ _ _ _)
   | (with_reducible exact ih1 _ _ _ _ _ _ _ _)
   | (with_reducible exact spec_l1Same.mono _ _ _)
   | (with_reducible exact spec_plExponents.mono _ _ _ _)
   | (with_reducible exact LeO.refl _)
   | (with_reducible exact LeO.none _)
   | (with_reducible refine LeO.ite ?_ ?_)
   | (with_reducible refine LeO.bind ?_ (fun _=>?_))
   | exact ih0 _ _ _ _ _
   | exact ih1 _ _ _ _ _ _ _ _
   | exact spec_l1Same.mono _ _ _
   | exact spec_plExponents.mono _ _ _ _
   | exact LeO.none _
   | refine LeO.ite ?_ ?_
   | refine LeO.bind ?_ (fun _=>?_)
set_option maxHeartbeats 8000000 in
set_option maxRecDepth 100000 in
theorem spec_plFirst.calls (k : Nat) (a0_0 : Int) (A0_1 : Option Addr) (c0_1 : Nat) (l0_1 : List (S73)) (A0_2 : Option Addr) (c0_2 : Nat) (l0_2 : List Int) (r : List Int) (w : World) (hr0_1 : Kd.C k73 w A0_1 l0_1.length l0_1) (hc0_1 : l0_1.length ≤ c0_1) (hr0_2 : Kd.C (Kd.int .i64) w A0_2 l0_2.length l0_2) (hc0_2 : l0_2.length ≤ c0_2) (h : spec_plFirst.f k a0_0 l0_1 l0_2 = some r) :
  Calls Try.prog 62 #[.agg #[.int .i64 a0_0,.slice A0_1 l0_1.length c0_1,.slice A0_2 l0_2.length c0_2]] w fun e w'=>∃ v0_ : Value,e = .returned (v0_) ∧ Kd.R (Kd.int .i64) 3 w' w.heap.size (fun _=>True) v0_ r ∧ Below w.heap.size w w':=by
 have hu29:=Try.underlying29
 have HR0_1:=Aside0.mk hr0_1
 have HC0_1:=Aside0.mk hc0_1
 clear hr0_1 hc0_1
 have HR0_2:=Aside0.mk hr0_2
 have HC0_2:=Aside0.mk hc0_2
 clear hr0_2 hc0_2
 have HB:=Aside0.mk (Below.refl w.heap.size w)
 have H : ((spec_plExponents.f k a0_0 l0_1 l0_2).bind fun t282=>(spec_plFirst.l0 k t282 ([] : List Int) t282 (t282.length : Int) 0)) = some r:=h
 clear h
 replace H:=Option.bind_eq_some_iff.mp H
 obtain ⟨t282,A20,H⟩:=H
 replace H : (spec_plFirst.l0 k t282 ([] : List Int) t282 (t282.length : Int) 0) = some r:=H
 have A2:=Aside0.mk A20
 clear A20
 have H':=Aside0.mk H
 clear H
 go_enter Try.func62,Try.ntmps62
 go_wp2_with (first|((with_reducible refine gate_dst (N:=1) rfl ?_);refine box_event ?hg (N:=1) ?hd (cs:=#[.int .i64 a0_0,.slice A0_1 l0_1.length c0_1,.slice A0_2 l0_2.length c0_2]) (t:=29) ?hr ?_;(case hd=>rfl);(case hg=>rfl);(case hr=>first|(go_simp;done)|(go_simp;rfl));intro gb281 hg w3 hbox hb;have n0_:=Aside0.mk (below_step bz hb);have n1_:=Aside0.mk (hbox);have n2_:=Aside0.mk ((by rw [hg];exact (below_size bz) : w.heap.size ≤ gb281));have n3_:=Aside0.mk ((by rw [hg];exact (below_size bz) : w.heap.size ≤ gb281));clear HB;have HB:=n0_;have BK281:=n1_;have GW281:=n2_;have GE281:=n3_;clear n0_ n1_ n2_ n3_;clear hb hbox hg;have hcz4_0 : w3.cell? ⟨gb281,0,none⟩ = some (.int .i64 a0_0):=(blk_cell BK281.out 0).trans rfl;have hcz4_1 : w3.cell? ⟨gb281,1,none⟩ = some (.slice A0_1 l0_1.length c0_1):=(blk_cell BK281.out 1).trans rfl;have hcz4_2 : w3.cell? ⟨gb281,2,none⟩ = some (.slice A0_2 l0_2.length c0_2):=(blk_cell BK281.out 2).trans rfl;have hfz4_0:=blk_frozen BK281.out 0;have hfz4_1:=blk_frozen BK281.out 1;have hfz4_2:=blk_frozen BK281.out 2)|((with_reducible refine gate_callee (f:=83) rfl ?_);refine goesL_ (some 9) rfl rfl Try.func83 (by kernel_rfl) rfl #[.agg #[.int .i64 a0_0,.slice A0_1 l0_1.length c0_1,.slice A0_2 l0_2.length c0_2]] rfl mz ?_;(with_reducible refine (spec_plExponents.calls k a0_0 _ _ l0_1 _ _ l0_2 t282 _ ?side1 ?side2 ?side3 ?side4 A2.out).mono ?_);(case side1=>exact cz (Kd.C_below HR0_1.out HB.out));(case side2=>exact HC0_1.out);(case side3=>exact cz (Kd.C_below HR0_2.out HB.out));(case side4=>exact HC0_2.out);rintro e w5 ⟨v283,rfl,ho0,hb⟩;refine ⟨_,rfl,?_⟩;have n0_:=Aside0.mk (Kd.S_lower ho0 (below_size bs));have n1_:=Aside0.mk (blk_below (g:=gb281) (o:=.cells #[.int .i64 a0_0,.slice A0_1 l0_1.length c0_1,.slice A0_2 l0_2.length c0_2] 29 (0,0)) (kz BK281.out) hb);have n2_:=Aside0.mk (below_step bs hb);clear BK281 HB;have HO284:=n0_;have BK281:=n1_;have HB:=n2_;clear n0_ n1_ n2_;(try clear hb);(try clear ho0);obtain ⟨Ao6,co6,eo6⟩:=Kd.S_slice HO284.out;subst eo6))
 go_loopg [4,12] k (fun kq v4 v12 w'=>∃ (x4_1 : List Int) (x12_1 : Int),v12 = .int .i64 x12_1 ∧ Aside0 (spec_plFirst.l0 kq t282 x4_1 t282 (t282.length : Int) x12_1 = some r) ∧ Aside0 (kq ≤ k) ∧ Aside0 (Kd.S (Kd.slice 3 (Kd.int .i64)) 23 w' w.heap.size (fun k_=>some k_ ≠ (v4 : Value).ownBlock) (.slice Ao6 t282.length co6) t282) ∧ Aside0 (Kd.R (Kd.int .i64) 3 w' w.heap.size (fun _=>True) v4 x4_1) ∧ Aside0 (Kd.S (Kd.slice 3 (Kd.int .i64)) 23 w' w.heap.size (fun k_=>some k_ ≠ (v4 : Value).ownBlock) (.slice Ao6 t282.length co6) t282) ∧ Aside0 (w'.heap[gb281]? = some (.cells #[.int .i64 a0_0,(.slice A0_1 l0_1.length c0_1),(.slice A0_2 l0_2.length c0_2)] 29 (0,0))) ∧ Aside0 (Below w.heap.size w w'))
 case atStart=>exact ⟨(([] : List Int)),(0),fz,H',⟨Nat.le_refl _⟩,⟨by (with_reducible repeat (first|apply Kd.S_alloc|apply Kd.S_drewN|apply Kd.S_drew));exact Kd.S_mono HO284.out (fun _ hk=>(by simp [Value.ownBlock]))⟩,⟨by first|exact Kd.R_nil _ _ _ _ _|exact Kd.N_nil _ _ _ _ _|exact Kd.V_nil _ _ _ _ _|exact Kd.Q_nil _ _ _ _ _|exact Kd.S_nil _ _ _ _ _⟩,⟨by (with_reducible repeat (first|apply Kd.S_alloc|apply Kd.S_drewN|apply Kd.S_drew));exact Kd.S_mono HO284.out (fun _ hk=>(by simp [Value.ownBlock]))⟩,⟨by (with_reducible repeat (first|refine blk_drewN ?_ _|refine blk_drew ?_|refine blk_alloc ?_ _));exact BK281.out⟩,⟨by repeat (first|(with_reducible first|exact HB.out|apply below_alloc|apply pw_below_drewN|apply below_drew1|refine below_set ?_ GE281.out)|exact HB.out)⟩⟩
 case round=>
  clear H'
  try clear p2
  try clear c6
  try clear hcz4_0
  try clear hcz4_1
  try clear hcz4_2
  try clear hfz4_0
  try clear hfz4_1
  try clear hfz4_2
  obtain ⟨x4_1,x12_1,rfl,HA,HK1,HO_3,HO_4,HO_10,BK281,HB⟩:=hrel
  cases gk with
  | zero=>exact absurd HA.out (by simp [spec_plFirst.l0])
  | succ k1=>
   have H:=HA.out
   clear HA
   simp only [spec_plFirst.l0] at H
   by_cases c7 : x12_1 < (t282.length : Int)
   ·rw [if_pos c7] at H
    have c7b0 : decide (x12_1 < (t282.length : Int)) = true:=decide_eq_true c7
    clear c7
    by_cases c8 : 0 ≤ x12_1
    ·rw [if_pos c8] at H
     have c8b0 : decide (0 ≤ x12_1) = true:=decide_eq_true c8
     clear c8
     by_cases c9 : x12_1 < (t282.length : Int)
     ·rw [if_pos c9] at H
      have c9b0 : decide (x12_1 < (t282.length : Int)) = true:=decide_eq_true c9
      clear c9
      have H':=Aside0.mk H
      clear H
      have p285 : 0 ≤ (x12_1 : Int):=of_decide_eq_true az
      have q285 : x12_1 < (t282.length : Int):=of_decide_eq_true az
      obtain ⟨ad285,A285_0,c285_0,e285,hx285_0,hl285_0,hi285_0⟩:=at_L3 (Kd.S_reads' HO_10.out).2.2 x12_1 p285 q285
      cases e285
      obtain ⟨ce285,hce285,hMe285,hcc285⟩:=Kd.S_get HO_10.out [] x12_1 p285 (by first|exact q285|exact of_decide_eq_true az|(have e_:=(Kd.S_reads' HO_10.out).1;omega))
      obtain ⟨ve285_0,rfl,ge285_0⟩:=hMe285
      have hv285_0:=hcc285 0 _ rfl
      rw [Nat.add_zero,show ((Kd.slice 3 (Kd.int .i64))).sz = 1 from rfl,Nat.mul_one] at hv285_0
      replace hv285_0:=Option.some.inj (hv285_0.symm.trans hx285_0)
      rw [hv285_0] at ge285_0
      have HL285_0:=Aside0.mk (show Kd.R (Kd.int .i64) 3 _ _ _ _ (rd_L3 t282 x12_1) from ge285_0)
      clear hv285_0 ge285_0
      clear hcc285 hce285
      have HR285_0:=Aside0.mk hi285_0
      have HC285_0:=Aside0.mk hl285_0
      clear hi285_0 hl285_0
      replace p285:=eq_true p285
      replace q285:=eq_true q285
      go_wp2
      go_loopg [7] k1 (fun kq v7 w'=>∃ (x7_2 : Int),v7 = .int .i64 x7_2 ∧ Aside0 (spec_plFirst.l1 kq t282 x4_1 x12_1 (rd_L3 t282 x12_1) x7_2 t282 (t282.length : Int) x12_1 = some r) ∧ Aside0 (kq ≤ k1) ∧ Aside0 (Kd.S (Kd.slice 3 (Kd.int .i64)) 23 w' w.heap.size (fun k_=>some k_ ≠ (u4 : Value).ownBlock) (.slice (some ad285) t282.length co6) t282) ∧ Aside0 (Kd.R (Kd.int .i64) 3 w' w.heap.size (fun _=>True) u4 x4_1) ∧ Aside0 (Kd.S (Kd.slice 3 (Kd.int .i64)) 23 w' w.heap.size (fun k_=>some k_ ≠ (u4 : Value).ownBlock) (.slice (some ad285) t282.length co6) t282) ∧ Aside0 (w'.heap[gb281]? = some (.cells #[.int .i64 a0_0,(.slice A0_1 l0_1.length c0_1),(.slice A0_2 l0_2.length c0_2)] 29 (0,0))) ∧ Aside0 (Kd.C (Kd.int .i64) w' A285_0 (rd_L3 t282 x12_1).length (rd_L3 t282 x12_1)) ∧ Aside0 (Below w.heap.size w w'))
      case atStart=>exact ⟨(0),fz,H',⟨Nat.le_refl _⟩,⟨by (with_reducible repeat (first|apply Kd.S_alloc|apply Kd.S_drewN|apply Kd.S_drew));exact HO_3.out⟩,⟨by (with_reducible repeat (first|apply Kd.R_alloc|apply Kd.R_drewN|apply Kd.R_drew));exact HO_4.out⟩,⟨by (with_reducible repeat (first|apply Kd.S_alloc|apply Kd.S_drewN|apply Kd.S_drew));exact HO_10.out⟩,⟨by (with_reducible repeat (first|refine blk_drewN ?_ _|refine blk_drew ?_|refine blk_alloc ?_ _));exact BK281.out⟩,⟨by repeat (first|(with_reducible exact HR285_0.out)|(with_reducible refine Kd.C_alloc ?_ _)|(with_reducible refine Kd.C_drewN ?_ _)|(with_reducible refine Kd.C_drew ?_)|exact HR285_0.out)⟩,⟨by repeat (first|(with_reducible first|exact HB.out|apply below_alloc|apply pw_below_drewN|apply below_drew1|refine below_set ?_ GE281.out)|exact HB.out)⟩⟩
      case round=>
       clear H'
       try clear c2
       try clear p2
       try clear q2
       try clear hx2
       try clear c6
       try clear c7
       try clear c7b0
       try clear c8
       try clear c8b0
       try clear c9
       try clear c9b0
       try clear hcz4_0
       try clear hcz4_1
       try clear hcz4_2
       try clear hfz4_0
       try clear hfz4_1
       try clear hfz4_2
       try clear hx285_0
       try clear p2
       try clear p285
       try clear q285
       obtain ⟨x7_2,rfl,HA,HK2,HO_3,HO_4,HO_10,BK281,HR285_0,HB⟩:=hrel
       cases gk with
       | zero=>exact absurd HA.out (by simp [spec_plFirst.l1])
       | succ k2=>
        have H:=HA.out
        clear HA
        simp only [spec_plFirst.l1] at H
        by_cases c10 : 0 ≤ x7_2
        ·rw [if_pos c10] at H
         have c10b0 : decide (0 ≤ x7_2) = true:=decide_eq_true c10
         clear c10
         by_cases c11 : x7_2 < (t282.length : Int)
         ·rw [if_pos c11] at H
          have c11b0 : decide (x7_2 < (t282.length : Int)) = true:=decide_eq_true c11
          clear c11
          replace H:=Option.bind_eq_some_iff.mp H
          obtain ⟨t287,A120,H⟩:=H
          replace H : (if t287 = true then ((spec_l1Least.f x7_2 x12_1).bind fun t288=>(if x4_1.length < 17592186044416 then (spec_plFirst.l0 k2 t282 (x4_1 ++ [t288]) t282 (t282.length : Int) (wrap64 (x12_1 + 1))) else (none))) else (spec_plFirst.l1 k2 t282 x4_1 x12_1 (rd_L3 t282 x12_1) (wrap64 (x7_2 + 1)) t282 (t282.length : Int) x12_1)) = some r:=H
          have A12:=Aside0.mk A120
          clear A120
          by_cases c13 : t287 = true
          ·subst c13
           have H1 : ((spec_l1Least.f x7_2 x12_1).bind fun t288=>(if x4_1.length < 17592186044416 then (spec_plFirst.l0 k2 t282 (x4_1 ++ [t288]) t282 (t282.length : Int) (wrap64 (x12_1 + 1))) else (none))) = some r:=by rw [if_pos rfl] at H;exact H
           clear H
           have H:=H1
           clear H1
           replace H:=Option.bind_eq_some_iff.mp H
           obtain ⟨t288,A140,H⟩:=H
           replace H : (if x4_1.length < 17592186044416 then (spec_plFirst.l0 k2 t282 (x4_1 ++ [t288]) t282 (t282.length : Int) (wrap64 (x12_1 + 1))) else (none)) = some r:=H
           have A14:=Aside0.mk A140
           clear A140
           by_cases c15 : x4_1.length < 17592186044416
           ·rw [if_pos c15] at H
            have LMc15:=Aside0.mk c15
            clear c15
            obtain ⟨y289,hy289⟩ : ∃ y_ : List Int,y_ = (x4_1 ++ [t288]):=⟨_,rfl⟩
            replace H : (spec_plFirst.l0 k2 t282 y289 t282 (t282.length : Int) (wrap64 (x12_1 + 1))) = some r:=by first|(rw [hy289];with_reducible exact H)|(have H2_:=(Option.bind_some _ _).symm.trans H;rw [hy289];with_reducible exact H2_)|(have H2_:=(Option.bind_some _ _).symm.trans H;with_reducible exact H2_)|with_reducible exact H|(rw [hy289];exact H)|exact H
            have Ny289:=Aside0.mk hy289
            clear hy289
            have H':=Aside0.mk H
            clear H
            have p286 : 0 ≤ (x7_2 : Int):=of_decide_eq_true az
            have q286 : x7_2 < (t282.length : Int):=of_decide_eq_true az
            obtain ⟨ad286,A286_0,c286_0,e286,hx286_0,hl286_0,hi286_0⟩:=at_L3 (Kd.S_reads' HO_3.out).2.2 x7_2 p286 q286
            obtain rfl : ad285 = ad286:=(by injection e286)
            obtain ⟨ce286,hce286,hMe286,hcc286⟩:=Kd.S_get HO_3.out [] x7_2 p286 (by first|exact q286|exact of_decide_eq_true az|(have e_:=(Kd.S_reads' HO_3.out).1;omega))
            obtain ⟨ve286_0,rfl,ge286_0⟩:=hMe286
            have hv286_0:=hcc286 0 _ rfl
            rw [Nat.add_zero,show ((Kd.slice 3 (Kd.int .i64))).sz = 1 from rfl,Nat.mul_one] at hv286_0
            replace hv286_0:=Option.some.inj (hv286_0.symm.trans hx286_0)
            rw [hv286_0] at ge286_0
            have HL286_0:=Aside0.mk (show Kd.R (Kd.int .i64) 3 _ _ _ _ (rd_L3 t282 x7_2) from ge286_0)
            clear hv286_0 ge286_0
            clear hcc286 hce286
            have HR286_0:=Aside0.mk hi286_0
            have HC286_0:=Aside0.mk hl286_0
            clear hi286_0 hl286_0
            replace p286:=eq_true p286
            replace q286:=eq_true q286
            go_wp2_with (first|((with_reducible refine gate_callee (f:=104) rfl ?_);refine goesL_ (some 22) rfl rfl Try.func104 (by kernel_rfl) rfl #[.slice A286_0 (rd_L3 t282 x7_2).length c286_0,.slice A285_0 (rd_L3 t282 x12_1).length c285_0] rfl mz ?_;(with_reducible refine (spec_l1Same.calls k2 _ _ (rd_L3 t282 x7_2) _ _ (rd_L3 t282 x12_1) true _ ?side1 ?side2 ?side3 ?side4 A12.out).mono ?_);(case side1=>repeat (first|exact (by repeat (first|(with_reducible exact HR286_0.out)|(with_reducible refine Kd.C_alloc ?_ _)|(with_reducible refine Kd.C_drewN ?_ _)|(with_reducible refine Kd.C_drew ?_)|exact HR286_0.out))|(with_reducible refine Kd.C_alloc ?_ _)|(with_reducible refine Kd.C_drewN ?_ _)|(with_reducible refine Kd.C_drew ?_)));(case side2=>exact HC286_0.out);(case side3=>repeat (first|exact (Kd.C_below HR285_0.out HB.out)|exact HR285_0.out|(with_reducible refine Kd.C_alloc ?_ _)|(with_reducible refine Kd.C_drewN ?_ _)|(with_reducible refine Kd.C_drew ?_)));(case side4=>exact HC285_0.out);rintro e w' ⟨rfl,⟨nd,rfl⟩⟩;refine ⟨_,rfl,?_⟩)|((with_reducible refine gate_callee (f:=105) rfl ?_);refine goesL_ (some 29) rfl rfl Try.func105 (by kernel_rfl) rfl #[.int .i64 x7_2,.int .i64 x12_1] rfl mz ?_;(with_reducible refine (spec_l1Least.calls x7_2 x12_1 t288 _ A14.out).mono ?_);rintro e w' ⟨rfl,⟨nd,rfl⟩⟩;refine ⟨_,rfl,?_⟩)|((with_reducible refine gate_builtin (b:=.append) (xs:=#[.tmp 26,.tmp 30]) rfl ?_);at_builtin;refine Kd.R_append (Kd.int .i64) (w0:=w) w.heap.size rfl (.tmp 26) (.tmp 30) 23 3 (.int .i64 0) 8 rfl Try.underlying23 info3 rfl (by decide) (by omega) u4 x4_1 t288 [.int .i64 t288] (fun _=>True) (fun _=>False) rfl rfl ?aP (fun _ hk=>hk.elim) ?aF ?aO ?aB ?aS ?aL ?_;(case aP=>exact rfl);(case aB=>exact bs);(case aF=>exact (fun _ _=>trivial));(case aO=>exact (rz HO_4.out));(case aS=>exact (below_size bs));(case aL=>have:=LMc15.out;omega);intro v290 w16 ho hb hg hat;rw [← Ny289.out] at ho;have n0_:=Aside0.mk (Kd.S_after (ok:=(fun _=>True)) (by (with_reducible repeat (first|apply Kd.S_alloc|apply Kd.S_drewN|apply Kd.S_drew));exact Kd.S_mono HO_3.out (fun _ hk=>⟨trivial,hk⟩)) hg hat);have n1_:=Aside0.mk (Kd.S_after (ok:=(fun _=>True)) (by (with_reducible repeat (first|apply Kd.S_alloc|apply Kd.S_drewN|apply Kd.S_drew));exact Kd.S_mono HO_10.out (fun _ hk=>⟨trivial,hk⟩)) hg hat);have n2_:=Aside0.mk (blk_grown (g:=gb281) (o:=.cells #[.int .i64 a0_0,.slice A0_1 l0_1.length c0_1,.slice A0_2 l0_2.length c0_2] 29 (0,0)) (kz BK281.out) hg (Kd.R_ne HO_4.out BK281.out (by decide)));have n3_:=Aside0.mk (Kd.R_after (ok:=(fun k_=>some k_ ≠ (.slice (some ad285) t282.length co6 : Value).ownBlock)) (by (with_reducible repeat (first|apply Kd.R_alloc|apply Kd.R_drewN|apply Kd.R_drew));exact Kd.R_mono HL286_0.out (fun _ hk=>⟨hk.2,hk.1⟩)) hg hat);have n4_:=Aside0.mk (hb);have n5_:=Aside0.mk (ho);clear HO_3 HO_10 BK281 HL286_0 HB HO_4;have HO_3:=n0_;have HO_10:=n1_;have BK281:=n2_;have HL286_0:=n3_;have HB:=n4_;have HO291:=n5_;clear n0_ n1_ n2_ n3_ n4_ n5_;clear ho hb hg hat))
            go_roundg k2
            case measure=>have:=HK1.out;have:=HK2.out;omega
            case rel=>exact ⟨(y289),(wrap64 (x12_1 + 1)),fz,H',⟨by have:=HK1.out;have:=HK2.out;omega⟩,⟨by (with_reducible repeat (first|apply Kd.S_alloc|apply Kd.S_drewN|apply Kd.S_drew));exact Kd.S_mono HO_3.out (fun _ hk=>hk.2)⟩,⟨by (with_reducible repeat (first|apply Kd.R_alloc|apply Kd.R_drewN|apply Kd.R_drew));exact HO291.out⟩,⟨by (with_reducible repeat (first|apply Kd.S_alloc|apply Kd.S_drewN|apply Kd.S_drew));exact Kd.S_mono HO_10.out (fun _ hk=>hk.2)⟩,⟨by (with_reducible repeat (first|refine blk_drewN ?_ _|refine blk_drew ?_|refine blk_alloc ?_ _));exact BK281.out⟩,⟨by repeat (first|(with_reducible first|exact HB.out|apply below_alloc|apply pw_below_drewN|apply below_drew1|refine below_set ?_ GE281.out)|exact HB.out)⟩⟩
           ·rw [if_neg c15] at H
            exact absurd H (by simp)
          ·replace c13:=Bool.eq_false_iff.mpr c13
           subst c13
           have H1 : (spec_plFirst.l1 k2 t282 x4_1 x12_1 (rd_L3 t282 x12_1) (wrap64 (x7_2 + 1)) t282 (t282.length : Int) x12_1) = some r:=by rw [if_neg (show ¬ (false = true) by decide)] at H;exact H
           clear H
           have H:=H1
           clear H1
           have H':=Aside0.mk H
           clear H
           have p286 : 0 ≤ (x7_2 : Int):=of_decide_eq_true az
           have q286 : x7_2 < (t282.length : Int):=of_decide_eq_true az
           obtain ⟨ad286,A286_0,c286_0,e286,hx286_0,hl286_0,hi286_0⟩:=at_L3 (Kd.S_reads' HO_3.out).2.2 x7_2 p286 q286
           obtain rfl : ad285 = ad286:=(by injection e286)
           obtain ⟨ce286,hce286,hMe286,hcc286⟩:=Kd.S_get HO_3.out [] x7_2 p286 (by first|exact q286|exact of_decide_eq_true az|(have e_:=(Kd.S_reads' HO_3.out).1;omega))
           obtain ⟨ve286_0,rfl,ge286_0⟩:=hMe286
           have hv286_0:=hcc286 0 _ rfl
           rw [Nat.add_zero,show ((Kd.slice 3 (Kd.int .i64))).sz = 1 from rfl,Nat.mul_one] at hv286_0
           replace hv286_0:=Option.some.inj (hv286_0.symm.trans hx286_0)
           rw [hv286_0] at ge286_0
           have HL286_0:=Aside0.mk (show Kd.R (Kd.int .i64) 3 _ _ _ _ (rd_L3 t282 x7_2) from ge286_0)
           clear hv286_0 ge286_0
           clear hcc286 hce286
           have HR286_0:=Aside0.mk hi286_0
           have HC286_0:=Aside0.mk hl286_0
           clear hi286_0 hl286_0
           replace p286:=eq_true p286
           replace q286:=eq_true q286
           go_wp2_with (first|((with_reducible refine gate_callee (f:=104) rfl ?_);refine goesL_ (some 22) rfl rfl Try.func104 (by kernel_rfl) rfl #[.slice A286_0 (rd_L3 t282 x7_2).length c286_0,.slice A285_0 (rd_L3 t282 x12_1).length c285_0] rfl mz ?_;(with_reducible refine (spec_l1Same.calls k2 _ _ (rd_L3 t282 x7_2) _ _ (rd_L3 t282 x12_1) false _ ?side1 ?side2 ?side3 ?side4 A12.out).mono ?_);(case side1=>repeat (first|exact (by repeat (first|(with_reducible exact HR286_0.out)|(with_reducible refine Kd.C_alloc ?_ _)|(with_reducible refine Kd.C_drewN ?_ _)|(with_reducible refine Kd.C_drew ?_)|exact HR286_0.out))|(with_reducible refine Kd.C_alloc ?_ _)|(with_reducible refine Kd.C_drewN ?_ _)|(with_reducible refine Kd.C_drew ?_)));(case side2=>exact HC286_0.out);(case side3=>repeat (first|exact (Kd.C_below HR285_0.out HB.out)|exact HR285_0.out|(with_reducible refine Kd.C_alloc ?_ _)|(with_reducible refine Kd.C_drewN ?_ _)|(with_reducible refine Kd.C_drew ?_)));(case side4=>exact HC285_0.out);rintro e w' ⟨rfl,⟨nd,rfl⟩⟩;refine ⟨_,rfl,?_⟩))
           go_roundg k2
           case measure=>have:=HK1.out;have:=HK2.out;omega
           case rel=>exact ⟨(wrap64 (x7_2 + 1)),fz,H',⟨by have:=HK1.out;have:=HK2.out;omega⟩,⟨by (with_reducible repeat (first|apply Kd.S_alloc|apply Kd.S_drewN|apply Kd.S_drew));exact HO_3.out⟩,⟨by (with_reducible repeat (first|apply Kd.R_alloc|apply Kd.R_drewN|apply Kd.R_drew));exact HO_4.out⟩,⟨by (with_reducible repeat (first|apply Kd.S_alloc|apply Kd.S_drewN|apply Kd.S_drew));exact HO_10.out⟩,⟨by (with_reducible repeat (first|refine blk_drewN ?_ _|refine blk_drew ?_|refine blk_alloc ?_ _));exact BK281.out⟩,⟨by repeat (first|(with_reducible exact HR285_0.out)|(with_reducible refine Kd.C_alloc ?_ _)|(with_reducible refine Kd.C_drewN ?_ _)|(with_reducible refine Kd.C_drew ?_)|exact HR285_0.out)⟩,⟨by repeat (first|(with_reducible first|exact HB.out|apply below_alloc|apply pw_below_drewN|apply below_drew1|refine below_set ?_ GE281.out)|exact HB.out)⟩⟩
         ·rw [if_neg c11] at H
          exact absurd H (by simp)
        ·rw [if_neg c10] at H
         exact absurd H (by simp)
     ·rw [if_neg c9] at H
      exact absurd H (by simp)
    ·rw [if_neg c8] at H
     exact absurd H (by simp)
   ·rw [if_neg c7] at H
    have c7b0 : decide (x12_1 < (t282.length : Int)) = false:=decide_eq_false c7
    clear c7
    obtain rfl:=Option.some.inj H
    go_wp2
    go_ret
    exact ⟨_,by first|rfl|(simp [errW_none,errW_some] <;> rfl)|(simp [*,errW_none,errW_some] <;> rfl),by (with_reducible repeat (first|apply Kd.R_alloc|apply Kd.R_drewN|apply Kd.R_drew));exact HO_4.out,by repeat (first|(with_reducible first|exact HB.out|apply below_alloc|apply pw_below_drewN|apply below_drew1|refine below_set ?_ GE281.out)|exact HB.out)⟩
end Go.Proofs.Ytdcdaoancmpbeaa.MFnExactSharePlan
--sq
