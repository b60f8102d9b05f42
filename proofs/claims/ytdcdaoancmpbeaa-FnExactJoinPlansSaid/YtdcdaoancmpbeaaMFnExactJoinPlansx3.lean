import Derived.Test.YtdcdaoancmpbeaaMFnExactJoinPlansx0
import Derived.Test.YtdcdaoancmpbeaaMFnExactJoinPlansx1
import Derived.Test.YtdcdaoancmpbeaaMFnExactJoinPlansx2
namespace Go.Proofs.Ytdcdaoancmpbeaa.MFnExactJoinPlans
open Go.RowKit Go.Proofs.YtdcdaoancmpbeaaW.PrintWords Go.Proofs.YtdcdaoancmpbeaaW.PrintLast Go.Proofs.YtdcdaoancmpbeaaW.PrintMore Go.Proofs.YtdcdaoancmpbeaaV Go.Proofs.YtdcdaoancmpbeaaZ
attribute [local go_sem] max2_int min2_int max_two min_two max_three min_three max_four min_four   -- for this text's walks alone
set_option linter.unusedVariables false
set_option linter.unusedSimpArgs false
/-! ### spec_plGood: function 38 -/
mutual
def spec_plGood.j0 : Nat → Bool → Int → List (S73) → List Int → Option (Bool)
 | 0,_,_,_,_=>none
 | k + 1,x22,x131000,x131001,x131002=>if x22 = true then (some false) else (spec_plGood.l0 k x131001 (x131001.length : Int) 0 x131000 x131001 x131002)
def spec_plGood.l0 : Nat → List (S73) → Int → Int → Int → List (S73) → List Int → Option (Bool)
 | 0,_,_,_,_,_,_=>none
 | k + 1,x24,x25,x26,x131000,x131001,x131002=>if x26 < x25 then (if 0 ≤ x26 then (if x26 < (x24.length : Int) then ((spec_l1In.f ((rd_T73 x24 x26).f0) 0 ((rd_T73 x24 x26).f1)).bind fun t134=>(if t134 = true then (if ((rd_T73 x24 x26).f1) ≥ (wrap64 (x131000 + x26)) then (some false) else (spec_plGood.l0 k x24 x25 (wrap64 (x26 + 1)) x131000 x131001 x131002)) else (some false))) else (none)) else (none)) else ((spec_plExponents.f k x131000 x131001 x131002).bind fun t135=>(spec_plGood.l1 k t135 (t135.length : Int) 0 x131000 x131001 x131002))
def spec_plGood.l1 : Nat → List (List Int) → Int → Int → Int → List (S73) → List Int → Option (Bool)
 | 0,_,_,_,_,_,_=>none
 | k + 1,x48,x49,x50,x131000,x131001,x131002=>if x50 < x49 then (if 0 ≤ x50 then (if x50 < (x48.length : Int) then ((spec_l1All.f k (rd_L3 x48 x50) 0 1000000).bind fun t139=>(if t139 = true then (spec_plGood.l1 k x48 x49 (wrap64 (x50 + 1)) x131000 x131001 x131002) else (some false))) else (none)) else (none)) else ((spec_l1All.f k x131002 0 (wrap64 ((wrap64 (x131000 + (x131001.length : Int))) - 1))).bind fun t140=>(some t140))
end
def spec_plGood.f (k : Nat) (a0_0 : Int) (l0_1 : List (S73)) (l0_2 : List Int) : Option (Bool):=(spec_l1In.f a0_0 1 6).bind fun t131=>(if t131 = true then (if (l0_1.length : Int) > 40 then (spec_plGood.j0 k true a0_0 l0_1 l0_2) else (spec_plGood.j0 k (decide ((l0_2.length : Int) > 6)) a0_0 l0_1 l0_2)) else (spec_plGood.j0 k true a0_0 l0_1 l0_2))
theorem spec_plGood.mono_l : ∀ k,(∀ y0 y1 y2 y3,LeO (spec_plGood.j0 k y0 y1 y2 y3) (spec_plGood.j0 (k + 1) y0 y1 y2 y3)) ∧ (∀ y0 y1 y2 y3 y4 y5,LeO (spec_plGood.l0 k y0 y1 y2 y3 y4 y5) (spec_plGood.l0 (k + 1) y0 y1 y2 y3 y4 y5)) ∧ (∀ y0 y1 y2 y3 y4 y5,LeO (spec_plGood.l1 k y0 y1 y2 y3 y4 y5) (spec_plGood.l1 (k + 1) y0 y1 y2 y3 y4 y5))
 | 0=>⟨fun _ _ _ _ r h=>by simp [spec_plGood.j0] at h,fun _ _ _ _ _ _ r h=>by simp [spec_plGood.l0] at h,fun _ _ _ _ _ _ r h=>by simp [spec_plGood.l1] at h⟩
 | k + 1=>by
  obtain ⟨ih0,ih1,ih2⟩:=spec_plGood.mono_l k
  refine ⟨?_,?_,?_⟩
  ·intro y0 y1 y2 y3
   unfold spec_plGood.j0
   repeat' first
   | (with_reducible exact ih0 _ _ _ _)
   | (with_reducible exact ih1 _ _ _ _ _ _)
   | (with_reducible exact ih2 _ _ _ _ _ _)
   | (with_reducible exact spec_l1All.mono _ _ _ _)
   | (with_reducible exact spec_plExponents.mono _ _ _ _)
   | (with_reducible exact LeO.refl _)
   | (with_reducible exact LeO.none _)
   | (with_reducible refine LeO.ite ?_ ?_)
   | (with_reducible refine LeO.bind ?_ (fun _=>?_))
   | exact ih0 _ _ _ _
   | exact ih1 _ _ _ _ _ _
   | exact ih2 _ _ _ _ _ _
   | exact spec_l1All.mono _ _ _ _
   | exact spec_plExponents.mono _ _ _ _
   | exact LeO.none _
   | refine LeO.ite ?_ ?_
   | refine LeO.bind ?_ (fun _=>?_)
  ·intro y0 y1 y2 y3 y4 y5
   unfold spec_plGood.l0
   repeat' first
   | (with_reducible exact ih0 _ _ _ _)
   | (with_reducible exact ih1 _ _ _ _ _ _)
   | (with_reducible exact ih2 _ _ _ _ _ _)
   | (with_reducible exact spec_l1All.mono _ _ _ _)
   | (with_reducible exact spec_plExponents.mono _ _ _ _)
   | (with_reducible exact LeO.refl _)
   | (with_reducible exact LeO.none _)
   | (with_reducible refine LeO.ite ?_ ?_)
   | (with_reducible refine LeO.bind ?_ (fun _=>?_))
   | exact ih0 _ _ _ _
   | exact ih1 _ _ _ _ _ _
   | exact ih2 _ _ _ _ _ _
   | exact spec_l1All.mono _ _ _ _
   | exact spec_plExponents.mono _ _ _ _
   | exact LeO.none _
   | refine LeO.ite ?_ ?_
   | refine LeO.bind ?_ (fun _=>?_)
  ·intro y0 y1 y2 y3 y4 y5
   unfold spec_plGood.l1
   repeat' first
   | (with_reducible exact ih0 _ _ _ _)
   | (with_reducible exact ih1 _ _ _ _ _ _)
   | (with_reducible exact ih2 _ _ _ _ _ _)
   | (with_reducible exact spec_l1All.mono _ _ _ _)
   | (with_reducible exact spec_plExponents.mono _ _ _ _)
   | (with_reducible exact LeO.refl _)
   | (with_reducible exact LeO.none _)
   | (with_reducible refine LeO.ite ?_ ?_)
   | (with_reducible refine LeO.bind ?_ (fun _=>?_))
   | exact ih0 _ _ _ _
   | exact ih1 _ _ _ _ _ _
   | exact ih2 _ _ _ _ _ _
   | exact spec_l1All.mono _ _ _ _
   | exact spec_plExponents.mono _ _ _ _
   | exact LeO.none _
   | refine LeO.ite ?_ ?_
   | refine LeO.bind ?_ (fun _=>?_)
theorem spec_plGood.mono : ∀ a0 a1 a2 k,LeO (spec_plGood.f k a0 a1 a2) (spec_plGood.f (k + 1) a0 a1 a2):=by
 intro a0 a1 a2 k
 obtain ⟨ih0,ih1,ih2⟩:=spec_plGood.mono_l k
 unfold spec_plGood.f
 repeat' first
   | (with_reducible exact ih0 _ _ _ _)
   | (with_reducible exact ih1 _ _ _ _ _ _)
   | (with_reducible exact ih2 _ _ _ _ _ _)
   | (with_reducible exact spec_l1All.mono _ _ _ _)
   | (with_reducible exact spec_plExponents.mono _ _ _ _)
   | (with_reducible exact LeO.refl _)
   | (with_reducible exact LeO.none _)
   | (with_reducible refine LeO.ite ?_ ?_)
   | (with_reducible refine LeO.bind ?_ (fun _=>?_))
   | exact ih0 _ _ _ _
   | exact ih1 _ _ _ _ _ _
   | exact ih2 _ _ _ _ _ _
   | exact spec_l1All.mono _ _ _ _
   | exact spec_plExponents.mono _ _ _ _
   | exact LeO.none _
   | refine LeO.ite ?_ ?_
   | refine LeO.bind ?_ (fun _=>?_)
set_option maxHeartbeats 8000000 in
set_option maxRecDepth 100000 in
theorem spec_plGood.calls (k : Nat) (a0_0 : Int) (A0_1 : Option Addr) (c0_1 : Nat) (l0_1 : List (S73)) (A0_2 : Option Addr) (c0_2 : Nat) (l0_2 : List Int) (r : Bool) (w : World) (hr0_1 : Kd.C k73 w A0_1 l0_1.length l0_1) (hc0_1 : l0_1.length ≤ c0_1) (hr0_2 : Kd.C (Kd.int .i64) w A0_2 l0_2.length l0_2) (hc0_2 : l0_2.length ≤ c0_2) (h : spec_plGood.f k a0_0 l0_1 l0_2 = some r) :
  Calls Try.prog 38 #[.agg #[.int .i64 a0_0,.slice A0_1 l0_1.length c0_1,.slice A0_2 l0_2.length c0_2]] w fun e w'=>e = .returned (.bool r) ∧ Below w.heap.size w w':=by
 have hu29:=Try.underlying29
 have hu73:=Try.underlying73
 have HR0_1:=Aside0.mk hr0_1
 have HC0_1:=Aside0.mk hc0_1
 clear hr0_1 hc0_1
 have HR0_2:=Aside0.mk hr0_2
 have HC0_2:=Aside0.mk hc0_2
 clear hr0_2 hc0_2
 have HB:=Aside0.mk (Below.refl w.heap.size w)
 have H : ((spec_l1In.f a0_0 1 6).bind fun t131=>(if t131 = true then (if (l0_1.length : Int) > 40 then (spec_plGood.j0 k true a0_0 l0_1 l0_2) else (spec_plGood.j0 k (decide ((l0_2.length : Int) > 6)) a0_0 l0_1 l0_2)) else (spec_plGood.j0 k true a0_0 l0_1 l0_2))) = some r:=h
 clear h
 have HC2:=Aside0.mk H
 clear H
 go_enter Try.func38,Try.ntmps38
 go_upto_region 1 with (first|((with_reducible refine gate_dst (N:=1) rfl ?_);(try (refine gate_guard (by rfl) ?_;dsimp only));refine box_event ?hg (N:=1) ?hd (cs:=#[.int .i64 a0_0,.slice A0_1 l0_1.length c0_1,.slice A0_2 l0_2.length c0_2]) (t:=29) ?hr ?_;(case hd=>rfl);(case hg=>rfl);(case hr=>first|(go_simp;done)|(go_simp;rfl));intro gb130 hg w3 hbox hb;have n0_:=Aside0.mk (below_step bz hb);have n1_:=Aside0.mk (hbox);have n2_:=Aside0.mk ((by rw [hg];exact (below_size bz) : w.heap.size ≤ gb130));have n3_:=Aside0.mk ((by rw [hg];exact (below_size bz) : w.heap.size ≤ gb130));clear HB;have HB:=n0_;have BK130:=n1_;have GW130:=n2_;have GE130:=n3_;clear n0_ n1_ n2_ n3_;clear hb hbox hg))
 (try simp only [Act.put,xa,xb,xc])
 go_cut [22] (fun v22 wc=>∃ (kq : Nat) (x22_1 : Bool),v22 = .bool x22_1 ∧ Aside0 (spec_plGood.j0 kq x22_1 a0_0 l0_1 l0_2 = some r) ∧ Aside0 (kq ≤ k) ∧ Aside0 (wc.heap[gb130]? = some (.cells #[.int .i64 a0_0,(.slice A0_1 l0_1.length c0_1),(.slice A0_2 l0_2.length c0_2)] 29 (0,0))) ∧ Aside0 (Below w.heap.size w wc))
 case first=>
  have H:=HC2.out
  clear HC2
  obtain ⟨t131,A4,H⟩:=bd H
  by_cases c5 : t131 = true
  ·subst c5
   rw [if_pos rfl] at H
   by_cases c6 : (l0_1.length : Int) > 40
   ·rw [if_pos c6] at H
    have c6b0 : decide (40 < (l0_1.length : Int)) = true:=decide_eq_true c6
    have c6b1 : decide (40 < l0_1.length) = true:=decide_eq_true (by omega)
    clear c6
    (first|rw [c6b0]|(simp only [i64_w,i32_w];rw [c6b0])|skip)
    have H':=Aside0.mk H
    clear H
    have hcz7_0 : w3.cell? ⟨gb130,0,none⟩ = some (.int .i64 a0_0):=(blk_cell BK130.out 0).trans rfl
    have hcz7_1 : w3.cell? ⟨gb130,1,none⟩ = some (.slice A0_1 l0_1.length c0_1):=(blk_cell BK130.out 1).trans rfl
    have hcz7_2 : w3.cell? ⟨gb130,2,none⟩ = some (.slice A0_2 l0_2.length c0_2):=(blk_cell BK130.out 2).trans rfl
    have hfz7_0:=blk_frozen BK130.out 0
    have hfz7_1:=blk_frozen BK130.out 1
    have hfz7_2:=blk_frozen BK130.out 2
    go_wp2_with (first|((with_reducible refine gate_callee (f:=82) rfl ?_);refine goesL_ (some 9) rfl rfl Try.func82 (by kernel_rfl) rfl #[.int .i64 a0_0,.int .i64 1,.int .i64 6] rfl mz ?_;(with_reducible refine (spec_l1In.calls a0_0 1 6 true _ A4.out).mono ?_);rintro e w' ⟨rfl,⟨nd,rfl⟩⟩;refine ⟨_,rfl,?_⟩))
    go_meet
    case rel=>exact ⟨_,(true),fz,H',⟨by first|omega|exact Nat.le_refl _⟩,⟨by (with_reducible repeat (first|refine blk_drewN ?_ _|refine blk_drew ?_|refine blk_alloc ?_ _));exact BK130.out⟩,⟨by repeat (first|(with_reducible first|exact HB.out|apply below_alloc|apply pw_below_drewN|apply below_drew1|refine below_set ?_ GE130.out)|exact HB.out)⟩⟩
   ·rw [if_neg c6] at H
    have c6b0 : decide (40 < (l0_1.length : Int)) = false:=decide_eq_false c6
    have c6b1 : decide (40 < l0_1.length) = false:=decide_eq_false (by omega)
    clear c6
    (first|rw [c6b0]|(simp only [i64_w,i32_w];rw [c6b0])|skip)
    have H':=Aside0.mk H
    clear H
    have hcz8_0 : w3.cell? ⟨gb130,0,none⟩ = some (.int .i64 a0_0):=(blk_cell BK130.out 0).trans rfl
    have hcz8_1 : w3.cell? ⟨gb130,1,none⟩ = some (.slice A0_1 l0_1.length c0_1):=(blk_cell BK130.out 1).trans rfl
    have hcz8_2 : w3.cell? ⟨gb130,2,none⟩ = some (.slice A0_2 l0_2.length c0_2):=(blk_cell BK130.out 2).trans rfl
    have hfz8_0:=blk_frozen BK130.out 0
    have hfz8_1:=blk_frozen BK130.out 1
    have hfz8_2:=blk_frozen BK130.out 2
    go_wp2_with (first|((with_reducible refine gate_callee (f:=82) rfl ?_);refine goesL_ (some 9) rfl rfl Try.func82 (by kernel_rfl) rfl #[.int .i64 a0_0,.int .i64 1,.int .i64 6] rfl mz ?_;(with_reducible refine (spec_l1In.calls a0_0 1 6 true _ A4.out).mono ?_);rintro e w' ⟨rfl,⟨nd,rfl⟩⟩;refine ⟨_,rfl,?_⟩))
    go_meet
    case rel=>exact ⟨_,(decide ((l0_2.length : Int) > 6)),fz,H',⟨by first|omega|exact Nat.le_refl _⟩,⟨by (with_reducible repeat (first|refine blk_drewN ?_ _|refine blk_drew ?_|refine blk_alloc ?_ _));exact BK130.out⟩,⟨by repeat (first|(with_reducible first|exact HB.out|apply below_alloc|apply pw_below_drewN|apply below_drew1|refine below_set ?_ GE130.out)|exact HB.out)⟩⟩
  ·replace c5:=Bool.eq_false_iff.mpr c5
   subst c5
   rw [if_neg (show ¬ (false = true) by decide)] at H
   have H':=Aside0.mk H
   clear H
   have hcz9_0 : w3.cell? ⟨gb130,0,none⟩ = some (.int .i64 a0_0):=(blk_cell BK130.out 0).trans rfl
   have hcz9_1 : w3.cell? ⟨gb130,1,none⟩ = some (.slice A0_1 l0_1.length c0_1):=(blk_cell BK130.out 1).trans rfl
   have hcz9_2 : w3.cell? ⟨gb130,2,none⟩ = some (.slice A0_2 l0_2.length c0_2):=(blk_cell BK130.out 2).trans rfl
   have hfz9_0:=blk_frozen BK130.out 0
   have hfz9_1:=blk_frozen BK130.out 1
   have hfz9_2:=blk_frozen BK130.out 2
   go_wp2_with (first|((with_reducible refine gate_callee (f:=82) rfl ?_);refine goesL_ (some 9) rfl rfl Try.func82 (by kernel_rfl) rfl #[.int .i64 a0_0,.int .i64 1,.int .i64 6] rfl mz ?_;(with_reducible refine (spec_l1In.calls a0_0 1 6 false _ A4.out).mono ?_);rintro e w' ⟨rfl,⟨nd,rfl⟩⟩;refine ⟨_,rfl,?_⟩))
   go_meet
   case rel=>exact ⟨_,(true),fz,H',⟨by first|omega|exact Nat.le_refl _⟩,⟨by (with_reducible repeat (first|refine blk_drewN ?_ _|refine blk_drew ?_|refine blk_alloc ?_ _));exact BK130.out⟩,⟨by repeat (first|(with_reducible first|exact HB.out|apply below_alloc|apply pw_below_drewN|apply below_drew1|refine below_set ?_ GE130.out)|exact HB.out)⟩⟩
 case rest=>
  clear HC2
  try clear p2
  try clear c3
  try clear c5
  try clear c6
  try clear c6b0
  try clear c6b1
  try clear c8
  try clear hcz7_0
  try clear hcz7_1
  try clear hcz7_2
  try clear hcz8_0
  try clear hcz8_1
  try clear hcz8_2
  try clear hcz9_0
  try clear hcz9_1
  try clear hcz9_2
  try clear hfz7_0
  try clear hfz7_1
  try clear hfz7_2
  try clear hfz8_0
  try clear hfz8_1
  try clear hfz8_2
  try clear hfz9_0
  try clear hfz9_1
  try clear hfz9_2
  obtain ⟨kq,x22_1,rfl,HA,HJ1,BK130,HB⟩:=hcut
  cases kq with
  | zero=>exact absurd HA.out (by simp [spec_plGood.j0])
  | succ kj1=>
   have H:=HA.out
   clear HA
   simp only [spec_plGood.j0] at H
   by_cases c10 : x22_1 = true
   ·subst c10
    rw [if_pos rfl] at H
    obtain rfl:=Option.some.inj H
    go_wp2
    go_ret
    exact ⟨by first|rfl|(simp [errW_none,errW_some] <;> rfl)|(simp [*,errW_none,errW_some] <;> rfl),by repeat (first|(with_reducible first|exact HB.out|apply below_alloc|apply pw_below_drewN|apply below_drew1|refine below_set ?_ GE130.out)|exact HB.out)⟩
   ·replace c10:=Bool.eq_false_iff.mpr c10
    subst c10
    rw [if_neg (show ¬ (false = true) by decide)] at H
    have H':=Aside0.mk H
    clear H
    have hcz11_0 : wc.cell? ⟨gb130,0,none⟩ = some (.int .i64 a0_0):=(blk_cell BK130.out 0).trans rfl
    have hcz11_1 : wc.cell? ⟨gb130,1,none⟩ = some (.slice A0_1 l0_1.length c0_1):=(blk_cell BK130.out 1).trans rfl
    have hcz11_2 : wc.cell? ⟨gb130,2,none⟩ = some (.slice A0_2 l0_2.length c0_2):=(blk_cell BK130.out 2).trans rfl
    have hfz11_0:=blk_frozen BK130.out 0
    have hfz11_1:=blk_frozen BK130.out 1
    have hfz11_2:=blk_frozen BK130.out 2
    go_wp2
    go_loopg [26] kj1 (fun kq v26 w'=>∃ (x26_2 : Int),v26 = .int .i64 x26_2 ∧ Aside0 (spec_plGood.l0 kq l0_1 (l0_1.length : Int) x26_2 a0_0 l0_1 l0_2 = some r) ∧ Aside0 (kq ≤ kj1) ∧ Aside0 (w'.heap[gb130]? = some (.cells #[.int .i64 a0_0,(.slice A0_1 l0_1.length c0_1),(.slice A0_2 l0_2.length c0_2)] 29 (0,0))) ∧ Aside0 (Below w.heap.size w w'))
    case atStart=>exact ⟨(0),fz,H',⟨Nat.le_refl _⟩,⟨by (with_reducible repeat (first|refine blk_drewN ?_ _|refine blk_drew ?_|refine blk_alloc ?_ _));exact BK130.out⟩,⟨by repeat (first|(with_reducible first|exact HB.out|apply below_alloc|apply pw_below_drewN|apply below_drew1|refine below_set ?_ GE130.out)|exact HB.out)⟩⟩
    case round=>
     clear H'
     try clear c1
     try clear p2
     try clear c3
     try clear c5
     try clear c6
     try clear c6b0
     try clear c6b1
     try clear c8
     try clear c10
     try clear hcz11_0
     try clear hcz11_1
     try clear hcz11_2
     try clear hcz7_0
     try clear hcz7_1
     try clear hcz7_2
     try clear hcz8_0
     try clear hcz8_1
     try clear hcz8_2
     try clear hcz9_0
     try clear hcz9_1
     try clear hcz9_2
     try clear hfz11_0
     try clear hfz11_1
     try clear hfz11_2
     try clear hfz7_0
     try clear hfz7_1
     try clear hfz7_2
     try clear hfz8_0
     try clear hfz8_1
     try clear hfz8_2
     try clear hfz9_0
     try clear hfz9_1
     try clear hfz9_2
     try clear p2
     obtain ⟨x26_2,rfl,HA,HK2,BK130,HB⟩:=hrel
     cases gk with
     | zero=>exact absurd HA.out (by simp [spec_plGood.l0])
     | succ k2=>
      have H:=HA.out
      clear HA
      simp only [spec_plGood.l0] at H
      by_cases c12 : x26_2 < (l0_1.length : Int)
      ·rw [if_pos c12] at H
       have c12b0 : decide (x26_2 < (l0_1.length : Int)) = true:=decide_eq_true c12
       clear c12
       by_cases c13 : 0 ≤ x26_2
       ·rw [if_pos c13] at H
        have c13b0 : decide (0 ≤ x26_2) = true:=decide_eq_true c13
        clear c13
        by_cases c14 : x26_2 < (l0_1.length : Int)
        ·rw [if_pos c14] at H
         have c14b0 : decide (x26_2 < (l0_1.length : Int)) = true:=decide_eq_true c14
         clear c14
         obtain ⟨t134,A15,H⟩:=bd H
         by_cases c16 : t134 = true
         ·subst c16
          rw [if_pos rfl] at H
          by_cases c17 : ((rd_T73 l0_1 x26_2).f1) ≥ (wrap64 (a0_0 + x26_2))
          ·rw [if_pos c17] at H
           have c17b0 : decide ((wrap64 (a0_0 + x26_2)) ≤ ((rd_T73 l0_1 x26_2).f1)) = true:=decide_eq_true c17
           clear c17
           obtain rfl:=Option.some.inj H
           have p132 : 0 ≤ (x26_2 : Int):=of_decide_eq_true az
           have q132 : x26_2 < (l0_1.length : Int):=of_decide_eq_true az
           obtain ⟨ad132,e132,hx132_0,hx132_1⟩:=at_T73 HR0_1.out x26_2 p132 q132
           cases e132
           replace hx132_0:=(HB.out.cell (World.block_lt_of_cell? w _ hx132_0)).trans hx132_0
           replace hx132_1:=(HB.out.cell (World.block_lt_of_cell? w _ hx132_1)).trans hx132_1
           replace p132:=eq_true p132
           replace q132:=eq_true q132
           go_wp2_with (first|((with_reducible refine gate_dst (N:=4) rfl ?_);(try (refine gate_guard (by rfl) ?_;dsimp only));refine box_event ?hg (N:=4) ?hd (cs:=#[.int .i64 0,.int .i64 0]) (t:=73) ?hr ?_;(case hd=>rfl);(case hg=>rfl);(case hr=>first|(go_simp;done)|(go_simp;rfl));intro gb133 hg w18 hbox hb;have n0_:=Aside0.mk (kb BK130.out hb);have n1_:=Aside0.mk (below_step bs hb);have n2_:=Aside0.mk (hbox);have n3_:=Aside0.mk ((by rw [hg];exact (below_size bs) : w.heap.size ≤ gb133));have n4_:=Aside0.mk ((by rw [hg];exact (below_size bs) : w.heap.size ≤ gb133));have n5_:=Aside0.mk (kn hg BK130.out);have n6_:=Aside0.mk (km hg BK130.out);clear BK130 HB;have BK130:=n0_;have HB:=n1_;have BK133:=n2_;have GW133:=n3_;have GE133:=n4_;have NB130_133:=n5_;have NB133_130:=n6_;clear n0_ n1_ n2_ n3_ n4_ n5_ n6_;clear hb hbox hg;have hnb19:=NB133_130.out;have hnc19:=NB130_133.out;have hcz20_0 : w18.cell? ⟨gb133,0,none⟩ = some (.int .i64 0):=(blk_cell BK133.out 0).trans rfl;have hcz20_1 : w18.cell? ⟨gb133,1,none⟩ = some (.int .i64 0):=(blk_cell BK133.out 1).trans rfl;have hfz20_0:=blk_frozen BK133.out 0;have hfz20_1:=blk_frozen BK133.out 1)|((with_reducible refine gate_callee (f:=82) rfl ?_);refine goesL_ (some 35) rfl rfl Try.func82 (by kernel_rfl) rfl #[.int .i64 ((rd_T73 l0_1 x26_2).f0),.int .i64 0,.int .i64 ((rd_T73 l0_1 x26_2).f1)] rfl mz ?_;(with_reducible refine (spec_l1In.calls ((rd_T73 l0_1 x26_2).f0) 0 ((rd_T73 l0_1 x26_2).f1) true _ A15.out).mono ?_);rintro e w' ⟨rfl,⟨nd,rfl⟩⟩;refine ⟨_,rfl,?_⟩;have hcz21_0 : w18.cell? ⟨gb130,0,none⟩ = some (.int .i64 a0_0):=(blk_cell BK130.out 0).trans rfl;have hcz21_1 : w18.cell? ⟨gb130,1,none⟩ = some (.slice (some ad132) l0_1.length c0_1):=(blk_cell BK130.out 1).trans rfl;have hcz21_2 : w18.cell? ⟨gb130,2,none⟩ = some (.slice A0_2 l0_2.length c0_2):=(blk_cell BK130.out 2).trans rfl;have hfz21_0:=blk_frozen BK130.out 0;have hfz21_1:=blk_frozen BK130.out 1;have hfz21_2:=blk_frozen BK130.out 2))
           go_ret
           exact ⟨by first|rfl|(simp [errW_none,errW_some] <;> rfl)|(simp [*,errW_none,errW_some] <;> rfl),by repeat (first|(with_reducible first|exact HB.out|apply below_alloc|apply pw_below_drewN|apply below_drew1|refine below_set ?_ GE130.out|refine below_set ?_ GE133.out)|exact HB.out)⟩
          ·rw [if_neg c17] at H
           have c17b0 : decide ((wrap64 (a0_0 + x26_2)) ≤ ((rd_T73 l0_1 x26_2).f1)) = false:=decide_eq_false c17
           clear c17
           have H':=Aside0.mk H
           clear H
           have p132 : 0 ≤ (x26_2 : Int):=of_decide_eq_true az
           have q132 : x26_2 < (l0_1.length : Int):=of_decide_eq_true az
           obtain ⟨ad132,e132,hx132_0,hx132_1⟩:=at_T73 HR0_1.out x26_2 p132 q132
           cases e132
           replace hx132_0:=(HB.out.cell (World.block_lt_of_cell? w _ hx132_0)).trans hx132_0
           replace hx132_1:=(HB.out.cell (World.block_lt_of_cell? w _ hx132_1)).trans hx132_1
           replace p132:=eq_true p132
           replace q132:=eq_true q132
           go_wp2_with (first|((with_reducible refine gate_dst (N:=4) rfl ?_);(try (refine gate_guard (by rfl) ?_;dsimp only));refine box_event ?hg (N:=4) ?hd (cs:=#[.int .i64 0,.int .i64 0]) (t:=73) ?hr ?_;(case hd=>rfl);(case hg=>rfl);(case hr=>first|(go_simp;done)|(go_simp;rfl));intro gb133 hg w22 hbox hb;have n0_:=Aside0.mk (kb BK130.out hb);have n1_:=Aside0.mk (below_step bs hb);have n2_:=Aside0.mk (hbox);have n3_:=Aside0.mk ((by rw [hg];exact (below_size bs) : w.heap.size ≤ gb133));have n4_:=Aside0.mk ((by rw [hg];exact (below_size bs) : w.heap.size ≤ gb133));have n5_:=Aside0.mk (kn hg BK130.out);have n6_:=Aside0.mk (km hg BK130.out);clear BK130 HB;have BK130:=n0_;have HB:=n1_;have BK133:=n2_;have GW133:=n3_;have GE133:=n4_;have NB130_133:=n5_;have NB133_130:=n6_;clear n0_ n1_ n2_ n3_ n4_ n5_ n6_;clear hb hbox hg;have hnb23:=NB133_130.out;have hnc23:=NB130_133.out;have hcz24_0 : w22.cell? ⟨gb133,0,none⟩ = some (.int .i64 0):=(blk_cell BK133.out 0).trans rfl;have hcz24_1 : w22.cell? ⟨gb133,1,none⟩ = some (.int .i64 0):=(blk_cell BK133.out 1).trans rfl;have hfz24_0:=blk_frozen BK133.out 0;have hfz24_1:=blk_frozen BK133.out 1)|((with_reducible refine gate_callee (f:=82) rfl ?_);refine goesL_ (some 35) rfl rfl Try.func82 (by kernel_rfl) rfl #[.int .i64 ((rd_T73 l0_1 x26_2).f0),.int .i64 0,.int .i64 ((rd_T73 l0_1 x26_2).f1)] rfl mz ?_;(with_reducible refine (spec_l1In.calls ((rd_T73 l0_1 x26_2).f0) 0 ((rd_T73 l0_1 x26_2).f1) true _ A15.out).mono ?_);rintro e w' ⟨rfl,⟨nd,rfl⟩⟩;refine ⟨_,rfl,?_⟩;have hcz25_0 : w22.cell? ⟨gb130,0,none⟩ = some (.int .i64 a0_0):=(blk_cell BK130.out 0).trans rfl;have hcz25_1 : w22.cell? ⟨gb130,1,none⟩ = some (.slice (some ad132) l0_1.length c0_1):=(blk_cell BK130.out 1).trans rfl;have hcz25_2 : w22.cell? ⟨gb130,2,none⟩ = some (.slice A0_2 l0_2.length c0_2):=(blk_cell BK130.out 2).trans rfl;have hfz25_0:=blk_frozen BK130.out 0;have hfz25_1:=blk_frozen BK130.out 1;have hfz25_2:=blk_frozen BK130.out 2))
           go_roundg k2
           case measure=>have:=HJ1.out;have:=HK2.out;omega
           case rel=>exact ⟨(wrap64 (x26_2 + 1)),fz,H',⟨by have:=HJ1.out;have:=HK2.out;omega⟩,⟨by (with_reducible repeat (first|refine blk_drewN ?_ _|refine blk_drew ?_|refine blk_alloc ?_ _));refine blk_far ?_ NB130_133.out _;(with_reducible repeat (first|refine blk_drewN ?_ _|refine blk_drew ?_|refine blk_alloc ?_ _));refine blk_far ?_ NB130_133.out _;(with_reducible repeat (first|refine blk_drewN ?_ _|refine blk_drew ?_|refine blk_alloc ?_ _));exact BK130.out⟩,⟨by repeat (first|(with_reducible first|exact HB.out|apply below_alloc|apply pw_below_drewN|apply below_drew1|refine below_set ?_ GE130.out|refine below_set ?_ GE133.out)|exact HB.out)⟩⟩
         ·replace c16:=Bool.eq_false_iff.mpr c16
          subst c16
          rw [if_neg (show ¬ (false = true) by decide)] at H
          obtain rfl:=Option.some.inj H
          have p132 : 0 ≤ (x26_2 : Int):=of_decide_eq_true az
          have q132 : x26_2 < (l0_1.length : Int):=of_decide_eq_true az
          obtain ⟨ad132,e132,hx132_0,hx132_1⟩:=at_T73 HR0_1.out x26_2 p132 q132
          cases e132
          replace hx132_0:=(HB.out.cell (World.block_lt_of_cell? w _ hx132_0)).trans hx132_0
          replace hx132_1:=(HB.out.cell (World.block_lt_of_cell? w _ hx132_1)).trans hx132_1
          replace p132:=eq_true p132
          replace q132:=eq_true q132
          go_wp2_with (first|((with_reducible refine gate_dst (N:=4) rfl ?_);(try (refine gate_guard (by rfl) ?_;dsimp only));refine box_event ?hg (N:=4) ?hd (cs:=#[.int .i64 0,.int .i64 0]) (t:=73) ?hr ?_;(case hd=>rfl);(case hg=>rfl);(case hr=>first|(go_simp;done)|(go_simp;rfl));intro gb133 hg w26 hbox hb;have n0_:=Aside0.mk (kb BK130.out hb);have n1_:=Aside0.mk (below_step bs hb);have n2_:=Aside0.mk (hbox);have n3_:=Aside0.mk ((by rw [hg];exact (below_size bs) : w.heap.size ≤ gb133));have n4_:=Aside0.mk ((by rw [hg];exact (below_size bs) : w.heap.size ≤ gb133));have n5_:=Aside0.mk (kn hg BK130.out);have n6_:=Aside0.mk (km hg BK130.out);clear BK130 HB;have BK130:=n0_;have HB:=n1_;have BK133:=n2_;have GW133:=n3_;have GE133:=n4_;have NB130_133:=n5_;have NB133_130:=n6_;clear n0_ n1_ n2_ n3_ n4_ n5_ n6_;clear hb hbox hg;have hnb27:=NB133_130.out;have hnc27:=NB130_133.out;have hcz28_0 : w26.cell? ⟨gb133,0,none⟩ = some (.int .i64 0):=(blk_cell BK133.out 0).trans rfl;have hcz28_1 : w26.cell? ⟨gb133,1,none⟩ = some (.int .i64 0):=(blk_cell BK133.out 1).trans rfl;have hfz28_0:=blk_frozen BK133.out 0;have hfz28_1:=blk_frozen BK133.out 1)|((with_reducible refine gate_callee (f:=82) rfl ?_);refine goesL_ (some 35) rfl rfl Try.func82 (by kernel_rfl) rfl #[.int .i64 ((rd_T73 l0_1 x26_2).f0),.int .i64 0,.int .i64 ((rd_T73 l0_1 x26_2).f1)] rfl mz ?_;(with_reducible refine (spec_l1In.calls ((rd_T73 l0_1 x26_2).f0) 0 ((rd_T73 l0_1 x26_2).f1) false _ A15.out).mono ?_);rintro e w' ⟨rfl,⟨nd,rfl⟩⟩;refine ⟨_,rfl,?_⟩))
          go_ret
          exact ⟨by first|rfl|(simp [errW_none,errW_some] <;> rfl)|(simp [*,errW_none,errW_some] <;> rfl),by repeat (first|(with_reducible first|exact HB.out|apply below_alloc|apply pw_below_drewN|apply below_drew1|refine below_set ?_ GE130.out|refine below_set ?_ GE133.out)|exact HB.out)⟩
        ·rw [if_neg c14] at H
         exact absurd H (by simp)
       ·rw [if_neg c13] at H
        exact absurd H (by simp)
      ·rw [if_neg c12] at H
       have c12b0 : decide (x26_2 < (l0_1.length : Int)) = false:=decide_eq_false c12
       clear c12
       obtain ⟨t135,A29,H⟩:=bd H
       have H':=Aside0.mk H
       clear H
       have hcz30_0 : wr.cell? ⟨gb130,0,none⟩ = some (.int .i64 a0_0):=(blk_cell BK130.out 0).trans rfl
       have hcz30_1 : wr.cell? ⟨gb130,1,none⟩ = some (.slice A0_1 l0_1.length c0_1):=(blk_cell BK130.out 1).trans rfl
       have hcz30_2 : wr.cell? ⟨gb130,2,none⟩ = some (.slice A0_2 l0_2.length c0_2):=(blk_cell BK130.out 2).trans rfl
       have hfz30_0:=blk_frozen BK130.out 0
       have hfz30_1:=blk_frozen BK130.out 1
       have hfz30_2:=blk_frozen BK130.out 2
       go_wp2_with (first|((with_reducible refine gate_callee (f:=83) rfl ?_);refine goesL_ (some 48) rfl rfl Try.func83 (by kernel_rfl) rfl #[.agg #[.int .i64 a0_0,.slice A0_1 l0_1.length c0_1,.slice A0_2 l0_2.length c0_2]] rfl mz ?_;(with_reducible refine (spec_plExponents.calls k2 a0_0 _ _ l0_1 _ _ l0_2 t135 _ ?side1 ?side2 ?side3 ?side4 A29.out).mono ?_);(case side1=>exact cz (Kd.C_below HR0_1.out HB.out));(case side2=>exact HC0_1.out);(case side3=>exact cz (Kd.C_below HR0_2.out HB.out));(case side4=>exact HC0_2.out);rintro e w31 ⟨v136,rfl,ho0,hb⟩;refine ⟨_,rfl,?_⟩;have n0_:=Aside0.mk (Kd.S_lower ho0 (below_size bs));have n1_:=Aside0.mk (kb BK130.out hb);have n2_:=Aside0.mk (below_step bs hb);clear BK130 HB;have HO137:=n0_;have BK130:=n1_;have HB:=n2_;clear n0_ n1_ n2_;(try clear hb);(try clear ho0);obtain ⟨Ao32,co32,eo32⟩:=Kd.S_slice HO137.out;subst eo32))
       go_loopg [50] k2 (fun kq v50 w'=>∃ (x50_3 : Int),v50 = .int .i64 x50_3 ∧ Aside0 (spec_plGood.l1 kq t135 (t135.length : Int) x50_3 a0_0 l0_1 l0_2 = some r) ∧ Aside0 (kq ≤ k2) ∧ Aside0 (Kd.S (Kd.slice 3 (Kd.int .i64)) 23 w' w.heap.size (fun _=>True) (.slice Ao32 t135.length co32) t135) ∧ Aside0 (w'.heap[gb130]? = some (.cells #[.int .i64 a0_0,(.slice A0_1 l0_1.length c0_1),(.slice A0_2 l0_2.length c0_2)] 29 (0,0))) ∧ Aside0 (Below w.heap.size w w'))
       case atStart=>exact ⟨(0),fz,H',⟨Nat.le_refl _⟩,⟨by (with_reducible repeat (first|apply Kd.S_alloc|apply Kd.S_drewN|apply Kd.S_drew));exact HO137.out⟩,⟨by (with_reducible repeat (first|refine blk_drewN ?_ _|refine blk_drew ?_|refine blk_alloc ?_ _));exact BK130.out⟩,⟨by repeat (first|(with_reducible first|exact HB.out|apply below_alloc|apply pw_below_drewN|apply below_drew1|refine below_set ?_ GE130.out)|exact HB.out)⟩⟩
       case round=>
        clear H'
        try clear c1
        try clear p1
        try clear q1
        try clear hx1
        try clear c2
        try clear p2
        try clear c3
        try clear c5
        try clear c6
        try clear c6b0
        try clear c6b1
        try clear p6
        try clear c8
        try clear c10
        try clear c12
        try clear c12b0
        try clear c13
        try clear c13b0
        try clear p13
        try clear q13
        try clear hx13
        try clear c14
        try clear c14b0
        try clear c16
        try clear c17
        try clear c17b0
        try clear c19
        try clear c23
        try clear c27
        try clear hcz11_0
        try clear hcz11_1
        try clear hcz11_2
        try clear hcz20_0
        try clear hcz20_1
        try clear hcz21_0
        try clear hcz21_1
        try clear hcz21_2
        try clear hcz24_0
        try clear hcz24_1
        try clear hcz25_0
        try clear hcz25_1
        try clear hcz25_2
        try clear hcz28_0
        try clear hcz28_1
        try clear hcz30_0
        try clear hcz30_1
        try clear hcz30_2
        try clear hcz7_0
        try clear hcz7_1
        try clear hcz7_2
        try clear hcz8_0
        try clear hcz8_1
        try clear hcz8_2
        try clear hcz9_0
        try clear hcz9_1
        try clear hcz9_2
        try clear hfz11_0
        try clear hfz11_1
        try clear hfz11_2
        try clear hfz20_0
        try clear hfz20_1
        try clear hfz21_0
        try clear hfz21_1
        try clear hfz21_2
        try clear hfz24_0
        try clear hfz24_1
        try clear hfz25_0
        try clear hfz25_1
        try clear hfz25_2
        try clear hfz28_0
        try clear hfz28_1
        try clear hfz30_0
        try clear hfz30_1
        try clear hfz30_2
        try clear hfz7_0
        try clear hfz7_1
        try clear hfz7_2
        try clear hfz8_0
        try clear hfz8_1
        try clear hfz8_2
        try clear hfz9_0
        try clear hfz9_1
        try clear hfz9_2
        try clear hx132_0
        try clear hx132_1
        try clear p132
        try clear p2
        try clear q132
        obtain ⟨x50_3,rfl,HA,HK3,HO_48,BK130,HB⟩:=hrel
        cases gk with
        | zero=>exact absurd HA.out (by simp [spec_plGood.l1])
        | succ k3=>
         have H:=HA.out
         clear HA
         simp only [spec_plGood.l1] at H
         by_cases c33 : x50_3 < (t135.length : Int)
         ·rw [if_pos c33] at H
          have c33b0 : decide (x50_3 < (t135.length : Int)) = true:=decide_eq_true c33
          clear c33
          by_cases c34 : 0 ≤ x50_3
          ·rw [if_pos c34] at H
           have c34b0 : decide (0 ≤ x50_3) = true:=decide_eq_true c34
           clear c34
           by_cases c35 : x50_3 < (t135.length : Int)
           ·rw [if_pos c35] at H
            have c35b0 : decide (x50_3 < (t135.length : Int)) = true:=decide_eq_true c35
            clear c35
            obtain ⟨t139,A36,H⟩:=bd H
            by_cases c37 : t139 = true
            ·subst c37
             rw [if_pos rfl] at H
             have H':=Aside0.mk H
             clear H
             have p138 : 0 ≤ (x50_3 : Int):=of_decide_eq_true az
             have q138 : x50_3 < (t135.length : Int):=of_decide_eq_true az
             obtain ⟨ad138,A138_0,c138_0,e138,hx138_0,hl138_0,hi138_0⟩:=at_L3 (Kd.S_reads' HO_48.out).2.2 x50_3 p138 q138
             cases e138
             obtain ⟨ce138,hce138,hMe138,hcc138⟩:=Kd.S_get HO_48.out [] x50_3 p138 (by first|exact q138|exact of_decide_eq_true az|(have e_:=(Kd.S_reads' HO_48.out).1;omega))
             obtain ⟨ve138_0,rfl,ge138_0⟩:=hMe138
             have hv138_0:=hcc138 0 _ rfl
             rw [Nat.add_zero,show ((Kd.slice 3 (Kd.int .i64))).sz = 1 from rfl,Nat.mul_one] at hv138_0
             replace hv138_0:=Option.some.inj (hv138_0.symm.trans hx138_0)
             rw [hv138_0] at ge138_0
             have HL138_0:=Aside0.mk (show Kd.R (Kd.int .i64) 3 _ _ _ _ (rd_L3 t135 x50_3) from ge138_0)
             clear hv138_0 ge138_0
             clear hcc138 hce138
             have HR138_0:=Aside0.mk hi138_0
             have HC138_0:=Aside0.mk hl138_0
             clear hi138_0 hl138_0
             replace p138:=eq_true p138
             replace q138:=eq_true q138
             go_wp2_with (first|((with_reducible refine gate_callee (f:=84) rfl ?_);refine goesL_ (some 55) rfl rfl Try.func84 (by kernel_rfl) rfl #[.slice A138_0 (rd_L3 t135 x50_3).length c138_0,.int .i64 0,.int .i64 1000000] rfl mz ?_;(with_reducible refine (spec_l1All.calls k3 _ _ (rd_L3 t135 x50_3) 0 1000000 true _ ?side1 ?side2 A36.out).mono ?_);(case side1=>repeat (first|exact (by repeat (first|(with_reducible exact HR138_0.out)|(with_reducible refine Kd.C_alloc ?_ _)|(with_reducible refine Kd.C_drewN ?_ _)|(with_reducible refine Kd.C_drew ?_)|exact HR138_0.out))|(with_reducible refine Kd.C_alloc ?_ _)|(with_reducible refine Kd.C_drewN ?_ _)|(with_reducible refine Kd.C_drew ?_)));(case side2=>exact HC138_0.out);rintro e w' ⟨rfl,⟨nd,rfl⟩⟩;refine ⟨_,rfl,?_⟩))
             go_roundg k3
             case measure=>have:=HJ1.out;have:=HK2.out;have:=HK3.out;omega
             case rel=>exact ⟨(wrap64 (x50_3 + 1)),fz,H',⟨by have:=HJ1.out;have:=HK2.out;have:=HK3.out;omega⟩,⟨by (with_reducible repeat (first|apply Kd.S_alloc|apply Kd.S_drewN|apply Kd.S_drew));exact HO_48.out⟩,⟨by (with_reducible repeat (first|refine blk_drewN ?_ _|refine blk_drew ?_|refine blk_alloc ?_ _));exact BK130.out⟩,⟨by repeat (first|(with_reducible first|exact HB.out|apply below_alloc|apply pw_below_drewN|apply below_drew1|refine below_set ?_ GE130.out)|exact HB.out)⟩⟩
            ·replace c37:=Bool.eq_false_iff.mpr c37
             subst c37
             rw [if_neg (show ¬ (false = true) by decide)] at H
             obtain rfl:=Option.some.inj H
             have p138 : 0 ≤ (x50_3 : Int):=of_decide_eq_true az
             have q138 : x50_3 < (t135.length : Int):=of_decide_eq_true az
             obtain ⟨ad138,A138_0,c138_0,e138,hx138_0,hl138_0,hi138_0⟩:=at_L3 (Kd.S_reads' HO_48.out).2.2 x50_3 p138 q138
             cases e138
             obtain ⟨ce138,hce138,hMe138,hcc138⟩:=Kd.S_get HO_48.out [] x50_3 p138 (by first|exact q138|exact of_decide_eq_true az|(have e_:=(Kd.S_reads' HO_48.out).1;omega))
             obtain ⟨ve138_0,rfl,ge138_0⟩:=hMe138
             have hv138_0:=hcc138 0 _ rfl
             rw [Nat.add_zero,show ((Kd.slice 3 (Kd.int .i64))).sz = 1 from rfl,Nat.mul_one] at hv138_0
             replace hv138_0:=Option.some.inj (hv138_0.symm.trans hx138_0)
             rw [hv138_0] at ge138_0
             have HL138_0:=Aside0.mk (show Kd.R (Kd.int .i64) 3 _ _ _ _ (rd_L3 t135 x50_3) from ge138_0)
             clear hv138_0 ge138_0
             clear hcc138 hce138
             have HR138_0:=Aside0.mk hi138_0
             have HC138_0:=Aside0.mk hl138_0
             clear hi138_0 hl138_0
             replace p138:=eq_true p138
             replace q138:=eq_true q138
             go_wp2_with (first|((with_reducible refine gate_callee (f:=84) rfl ?_);refine goesL_ (some 55) rfl rfl Try.func84 (by kernel_rfl) rfl #[.slice A138_0 (rd_L3 t135 x50_3).length c138_0,.int .i64 0,.int .i64 1000000] rfl mz ?_;(with_reducible refine (spec_l1All.calls k3 _ _ (rd_L3 t135 x50_3) 0 1000000 false _ ?side1 ?side2 A36.out).mono ?_);(case side1=>repeat (first|exact (by repeat (first|(with_reducible exact HR138_0.out)|(with_reducible refine Kd.C_alloc ?_ _)|(with_reducible refine Kd.C_drewN ?_ _)|(with_reducible refine Kd.C_drew ?_)|exact HR138_0.out))|(with_reducible refine Kd.C_alloc ?_ _)|(with_reducible refine Kd.C_drewN ?_ _)|(with_reducible refine Kd.C_drew ?_)));(case side2=>exact HC138_0.out);rintro e w' ⟨rfl,⟨nd,rfl⟩⟩;refine ⟨_,rfl,?_⟩))
             go_ret
             exact ⟨by first|rfl|(simp [errW_none,errW_some] <;> rfl)|(simp [*,errW_none,errW_some] <;> rfl),by repeat (first|(with_reducible first|exact HB.out|apply below_alloc|apply pw_below_drewN|apply below_drew1|refine below_set ?_ GE130.out)|exact HB.out)⟩
           ·rw [if_neg c35] at H
            exact absurd H (by simp)
          ·rw [if_neg c34] at H
           exact absurd H (by simp)
         ·rw [if_neg c33] at H
          have c33b0 : decide (x50_3 < (t135.length : Int)) = false:=decide_eq_false c33
          clear c33
          obtain ⟨t140,A38,H⟩:=bd H
          obtain rfl:=Option.some.inj H
          have hcz39_0 : wr.cell? ⟨gb130,0,none⟩ = some (.int .i64 a0_0):=(blk_cell BK130.out 0).trans rfl
          have hcz39_1 : wr.cell? ⟨gb130,1,none⟩ = some (.slice A0_1 l0_1.length c0_1):=(blk_cell BK130.out 1).trans rfl
          have hcz39_2 : wr.cell? ⟨gb130,2,none⟩ = some (.slice A0_2 l0_2.length c0_2):=(blk_cell BK130.out 2).trans rfl
          have hfz39_0:=blk_frozen BK130.out 0
          have hfz39_1:=blk_frozen BK130.out 1
          have hfz39_2:=blk_frozen BK130.out 2
          go_wp2_with (first|((with_reducible refine gate_callee (f:=84) rfl ?_);refine goesL_ (some 67) rfl rfl Try.func84 (by kernel_rfl) rfl #[.slice A0_2 l0_2.length c0_2,.int .i64 0,.int .i64 (wrap64 ((wrap64 (a0_0 + (l0_1.length : Int))) - 1))] rfl mz ?_;(with_reducible refine (spec_l1All.calls k3 _ _ l0_2 0 (wrap64 ((wrap64 (a0_0 + (l0_1.length : Int))) - 1)) t140 _ ?side1 ?side2 A38.out).mono ?_);(case side1=>exact cz (Kd.C_below HR0_2.out HB.out));(case side2=>exact HC0_2.out);rintro e w' ⟨rfl,⟨nd,rfl⟩⟩;refine ⟨_,rfl,?_⟩))
          go_ret
          exact ⟨by first|rfl|(simp [errW_none,errW_some] <;> rfl)|(simp [*,errW_none,errW_some] <;> rfl),by repeat (first|(with_reducible first|exact HB.out|apply below_alloc|apply pw_below_drewN|apply below_drew1|refine below_set ?_ GE130.out)|exact HB.out)⟩
/-! ### spec_l1Own: function 42 -/
def spec_l1Own.f (l0 : List Int) : Option (List Int):=(some (([] : List Int) : List Int)).bind fun y141=>(if y141.length + l0.length < 17592186044416 then (some (y141 ++ l0)) else (none))
set_option maxHeartbeats 8000000 in
set_option maxRecDepth 100000 in
theorem spec_l1Own.calls (A0 : Option Addr) (c0 : Nat) (l0 : List Int) (r : List Int) (w : World) (hr0 : Kd.C (Kd.int .i64) w A0 l0.length l0) (hc0 : l0.length ≤ c0) (h : spec_l1Own.f l0 = some r) :
  Calls Try.prog 42 #[.slice A0 l0.length c0] w fun e w'=>∃ v0_ : Value,e = .returned (v0_) ∧ Kd.R (Kd.int .i64) 3 w' w.heap.size (fun _=>True) v0_ r ∧ Below w.heap.size w w':=by
 have HR0:=Aside0.mk hr0
 have HC0:=Aside0.mk hc0
 clear hr0 hc0
 have HB:=Aside0.mk (Below.refl w.heap.size w)
 have H : ((some (([] : List Int) : List Int)).bind fun y141=>(if y141.length + l0.length < 17592186044416 then (some (y141 ++ l0)) else (none))) = some r:=h
 clear h
 obtain ⟨y141,hy141⟩ : ∃ y_ : List Int,y_ = (([] : List Int)):=⟨_,rfl⟩
 replace H : (if y141.length + l0.length < 17592186044416 then (some (y141 ++ l0)) else (none)) = some r:=by first|(rw [hy141];with_reducible exact H)|(have H2_:=(Option.bind_some _ _).symm.trans H;rw [hy141];with_reducible exact H2_)|(have H2_:=(Option.bind_some _ _).symm.trans H;with_reducible exact H2_)|with_reducible exact H|(rw [hy141];exact H)|exact H
 have Ny141:=Aside0.mk hy141
 clear hy141
 by_cases c2 : y141.length + l0.length < 17592186044416
 ·rw [if_pos c2] at H
  have LMc2:=Aside0.mk c2
  clear c2
  obtain ⟨y144,hy144⟩ : ∃ y_ : List Int,y_ = (y141 ++ l0):=⟨_,rfl⟩
  replace H : (some y144) = some r:=by first|(rw [hy144];with_reducible exact H)|(have H2_:=(Option.bind_some _ _).symm.trans H;rw [hy144];with_reducible exact H2_)|(have H2_:=(Option.bind_some _ _).symm.trans H;with_reducible exact H2_)|with_reducible exact H|(rw [hy144];exact H)|exact H
  have Ny144:=Aside0.mk hy144
  clear hy144
  obtain rfl:=Option.some.inj H
  go_enter Try.func42,Try.ntmps42
  go_wp2_with (first|((with_reducible refine gate_dst (N:=3) rfl ?_);refine Kd.R_lit (Kd.int .i64) _ 3 ?hg (N:=3) ?hd (xs:=([] : List Int)) (inner:=[]) (ok:=fun _=>True) (okp:=fun _=>True) ?hr ?hp (fun _ hk=>hk) trivial (Below.refl _ _) (Nat.le_refl _) (by simp) ?_;(case hd=>rfl);(case hg=>rfl);(case hr=>first|(go_simp;done)|(go_simp;rfl));(case hp=>exact (Reps.none _ _));intro v142 w3 ho4 hb hg_ hnew_;clear hg_ hnew_;(first|rw [← Ny141.out] at ho4|(simp only [Int.reduceToNat] at ho4;rw [← Ny141.out] at ho4));have n0_:=Aside0.mk (Kd.R_lower ho4 (below_size bz));have n1_:=Aside0.mk (below_step bz hb);clear HB;have HO143:=n0_;have HB:=n1_;clear n0_ n1_;clear hb ho4)|((with_reducible refine gate_builtin (b:=.append) (xs:=#[.tmp 3,.tmp 4]) rfl ?_);at_builtin;refine Kd.R_append_rows (Kd.int .i64) (w0:=w) w.heap.size rfl (.tmp 3) (.tmp 4) 23 3 (.int .i64 0) 8 rfl Try.underlying23 info3 rfl (by decide) (by omega) v142 y141 l0 _ _ _ (fun _=>True) (fun _=>False) rfl rfl ?aO ?aR (fun _ _ h=>h) (fun _ h=>h.elim) ?aF ?aB ?aS ?aL ?_;(case aR=>repeat (first|exact (Kd.C_below HR0.out HB.out)|(with_reducible refine Kd.C_alloc ?_ _)|(with_reducible refine Kd.C_drewN ?_ _)|(with_reducible refine Kd.C_drew ?_)));(case aB=>exact bz);(case aF=>exact (fun _ _=>trivial));(case aO=>exact (rz HO143.out));(case aS=>exact (below_size bz));(case aL=>have:=LMc2.out;omega);intro v145 w5 ho hb hg hat;rw [← Ny144.out] at ho;have n0_:=Aside0.mk (hb);have n1_:=Aside0.mk (ho);clear HB HO143;have HB:=n0_;have HO146:=n1_;clear n0_ n1_;clear ho hb hg hat))
  go_ret
  exact ⟨_,by first|rfl|(simp [errW_none,errW_some] <;> rfl)|(simp [*,errW_none,errW_some] <;> rfl),by (with_reducible repeat (first|apply Kd.R_alloc|apply Kd.R_drewN|apply Kd.R_drew));exact HO146.out,by repeat (first|(with_reducible first|exact HB.out|apply below_alloc|apply pw_below_drewN|apply below_drew1)|exact HB.out)⟩
 ·rw [if_neg c2] at H
  exact absurd H (by simp)
/-! ### spec_l1Most: function 106 -/
def spec_l1Most.f (a0 : Int) (a1 : Int) : Option (Int):=if a0 > a1 then (some a0) else (some a1)
set_option maxHeartbeats 8000000 in
set_option maxRecDepth 100000 in
theorem spec_l1Most.calls (a0 : Int) (a1 : Int) (r : Int) (w : World) (h : spec_l1Most.f a0 a1 = some r) :
  Calls Try.prog 106 #[.int .i64 a0,.int .i64 a1] w fun e w'=>e = .returned (.int .i64 r) ∧ Drawn0 w w':=by
 have H : (if a0 > a1 then (some a0) else (some a1)) = some r:=h
 clear h
 by_cases c3 : a0 > a1
 ·rw [if_pos c3] at H
  have c3b0 : decide (a1 < a0) = true:=decide_eq_true c3
  clear c3
  obtain rfl:=Option.some.inj H
  go_enter Try.func106,Try.ntmps106
  go_wp2
  go_ret
  exact ⟨by first|rfl|(simp;done)|(simp [*];done),by repeat (first|exact Drawn0.refl _|apply Drawn0.step)⟩
 ·rw [if_neg c3] at H
  have c3b0 : decide (a1 < a0) = false:=decide_eq_false c3
  clear c3
  obtain rfl:=Option.some.inj H
  go_enter Try.func106,Try.ntmps106
  go_wp2
  go_ret
  exact ⟨by first|rfl|(simp;done)|(simp [*];done),by repeat (first|exact Drawn0.refl _|apply Drawn0.step)⟩
/-! ### spec_plStep: function 63 -/
def spec_plStep.f (a0 : Int) (a1 : Int) : Option (Int × Int):=(spec_l1Least.f a0 a1).bind fun t148=>((spec_l1Most.f a0 a1).bind fun t149=>(some (t148,t149)))
set_option maxHeartbeats 8000000 in
set_option maxRecDepth 100000 in
theorem spec_plStep.calls (a0 : Int) (a1 : Int) (r1 : Int) (r2 : Int) (w : World) (h : spec_plStep.f a0 a1 = some (r1,r2)) :
  Calls Try.prog 63 #[.int .i64 a0,.int .i64 a1] w fun e w'=>e = .returned (.agg #[.int .i64 r1,.int .i64 r2]) ∧ Below w.heap.size w w':=by
 have hu73:=Try.underlying73
 have HB:=Aside0.mk (Below.refl w.heap.size w)
 have H : ((spec_l1Least.f a0 a1).bind fun t148=>((spec_l1Most.f a0 a1).bind fun t149=>(some (t148,t149)))) = some (r1,r2):=h
 clear h
 obtain ⟨t148,A3,H⟩:=bd H
 obtain ⟨t149,A4,H⟩:=bd H
 simp only [Option.some.injEq,Prod.mk.injEq] at H
 obtain ⟨rfl,rfl⟩:=H
 go_enter Try.func63,Try.ntmps63
 go_wp2_with (first|((with_reducible refine gate_dst (N:=4) rfl ?_);refine box_event ?hg (N:=4) ?hd (cs:=#[.int .i64 0,.int .i64 0]) (t:=73) ?hr ?_;(case hd=>rfl);(case hg=>rfl);(case hr=>first|(go_simp;done)|(go_simp;rfl));intro gb147 hg w5 hbox hb;have n0_:=Aside0.mk (below_step bz hb);have n1_:=Aside0.mk (hbox);have n2_:=Aside0.mk ((by rw [hg];exact (below_size bz) : w.heap.size ≤ gb147));have n3_:=Aside0.mk ((by rw [hg];exact (below_size bz) : w.heap.size ≤ gb147));clear HB;have HB:=n0_;have BK147:=n1_;have GW147:=n2_;have GE147:=n3_;clear n0_ n1_ n2_ n3_;clear hb hbox hg)|((with_reducible refine gate_callee (f:=105) rfl ?_);refine goesL_ (some 7) rfl rfl Try.func105 (by kernel_rfl) rfl #[.int .i64 a0,.int .i64 a1] rfl mz ?_;(with_reducible refine (spec_l1Least.calls a0 a1 t148 _ A3.out).mono ?_);rintro e w' ⟨rfl,⟨nd,rfl⟩⟩;refine ⟨_,rfl,?_⟩;(try (rw [drewN_self w5];generalize hq_ : World.drewN w5 _ = w5;have n0_ : Aside0 (w5.heap[gb147]? = some (.cells #[.int .i64 0,.int .i64 0] 73 (0,0))):=⟨by rw [← hq_];exact (kz BK147.out)⟩;have n1_ : Aside0 (Below w.heap.size w w5):=⟨by rw [← hq_];exact bs⟩;clear BK147 HB hq_;have BK147:=n0_;have HB:=n1_;clear n0_ n1_)))|((with_reducible refine gate_callee (f:=106) rfl ?_);refine goesL_ (some 10) rfl rfl Try.func106 (by kernel_rfl) rfl #[.int .i64 a0,.int .i64 a1] rfl mz ?_;(with_reducible refine (spec_l1Most.calls a0 a1 t149 _ A4.out).mono ?_);rintro e w' ⟨rfl,⟨nd,rfl⟩⟩;refine ⟨_,rfl,?_⟩;(try (rw [drewN_self w5];generalize hq_ : World.drewN w5 _ = w5;have n0_ : Aside0 (w5.heap[gb147]? = some (.cells #[.int .i64 0,.int .i64 0] 73 (0,0))):=⟨by rw [← hq_];exact (kz BK147.out)⟩;have n1_ : Aside0 (Below w.heap.size w w5):=⟨by rw [← hq_];exact bs⟩;clear BK147 HB hq_;have BK147:=n0_;have HB:=n1_;clear n0_ n1_));have hcz6_0 : w5.cell? ⟨gb147,0,none⟩ = some (.int .i64 0):=(blk_cell BK147.out 0).trans rfl;have hcz6_1 : w5.cell? ⟨gb147,1,none⟩ = some (.int .i64 0):=(blk_cell BK147.out 1).trans rfl;have hfz6_0:=blk_frozen BK147.out 0;have hfz6_1:=blk_frozen BK147.out 1))
 refine bodyPost_ret (results_cell_row rfl _ _ gb147 73 #[.int .i64 t148,.int .i64 t149] (0,0) _ rfl (by (with_reducible repeat (first|refine blk_drewN ?_ _|refine blk_drew ?_|refine blk_alloc ?_ _));refine blk_put (cs:=#[.int .i64 t148,.int .i64 0]) ?_ 1 _ rfl;(with_reducible repeat (first|refine blk_drewN ?_ _|refine blk_drew ?_|refine blk_alloc ?_ _));refine blk_put (cs:=#[.int .i64 0,.int .i64 0]) ?_ 0 _ rfl;(with_reducible repeat (first|refine blk_drewN ?_ _|refine blk_drew ?_|refine blk_alloc ?_ _));exact BK147.out) Try.underlying73 rfl (by kernel_rfl)) rfl ?_
 exact ⟨by first|rfl|(simp [errW_none,errW_some] <;> rfl)|(simp [*,errW_none,errW_some] <;> rfl),by repeat (first|(with_reducible first|exact HB.out|apply below_alloc|apply pw_below_drewN|apply below_drew1|refine below_set ?_ GE147.out)|exact HB.out)⟩
end Go.Proofs.Ytdcdaoancmpbeaa.MFnExactJoinPlans
--sq
